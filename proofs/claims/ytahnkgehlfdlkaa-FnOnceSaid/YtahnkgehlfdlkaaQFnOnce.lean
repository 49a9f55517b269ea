/- The plain law of FnOnce: what is recovered is each block of each intent once, whatever progress was recorded. No condition. -/
import Derived.Test.YtahnkgehlfdlkaaOnceDraw
import Derived.Test.YtahnkgehlfdlkaaOnceSem
import Derived.Test.YtahnkgehlfdlkaaG9
import Derived.Test.YtahnkgehlfdlkaaG8
open Bool renaming false_ne_true→eI
open List renaming length_take→aN,getD_eq_getElem?_getD→aag,getElem?_eq_getElem→aaj,filter_cons_of_pos→abj,filter_cons_of_neg→abk,take_length→abs,filter_append→abO,length_filter_le→ab0
open Nat renaming zero_le→pu
namespace Go.Proofs.Ytahnkgehlfdlkaa.Q
open Go.RowKit Go.Proofs.YtahnkgehlfdlkaaW.PrintWords Go.Proofs.Ytahnkgehlfdlkaa.G
set_option linter.unusedVariables false
set_option linter.unusedSimpArgs false
theorem sameExtents_refl(l:List X_)(hl:l.length≤2000000):Ev (fun k=>jb.f k l l) true:=by
 have key:∀d i,l.length-i=d→i≤l.length→Ev (fun k=>jb.l0 k l l (l.length:Int) (i:Int)) true:=by
  intro d
  induction d with
  |zero=>
   intro i hd hi;exact Ev.step (fun k=>by rw[jb.l0]) (Ev.neg (by omega) (Ev.now _))
  |succ d ih=>
   intro i hd hi;refine Ev.step (fun k=>by rw[jb.l0]) ?_;refine Ev.pos (by omega) (Ev.pos (by omega) (Ev.pos (by omega) (Ev.pos (by omega) (Ev.neg (by simp) ?_))));rw[show wrap64 ((i:Int)+1)=((i+1:Nat):Int) by rw[dO (by omega) (by omega)];rfl];exact ih (i+1) (by omega) (by omega)
 unfold jb.f;exact Ev.pos rfl (key l.length 0 rfl (pu _))
theorem No(n:Int)(l m:List X_)(hl:l.length≤2000000)(hm:m.length≤2000000):Ev (fun k=>mM.f k n l m n l m) true:=by
 unfold mM.f;exact Ev.pos rfl (Ev.bind' _ (sameExtents_refl l hl) (Ev.pos rfl (Ev.bind' _ (sameExtents_refl m hm) (Ev.now _))))
theorem exSum_snoc(l:List X_)(x:X_):o5 (l++[x])=o5 l+x.f1:=by
 induction l with
 |nil=>simp[o5]
 |cons a t ih=>
  rw[List.cons_append,o5,o5,ih]
  omega
theorem exSum_bd(l:List X_)(h:∀e,e∈l→0≤e.f1∧e.f1≤400):0≤o5 l∧o5 l≤400*(l.length:Int):=by
 induction l with
 |nil=>simp[o5]
 |cons a t ih=>
  have h1:=h a (List.mem_cons_self ..);have h2:=ih (fun e he=>h e (List.mem_cons_of_mem _ he));rw[o5,List.length_cons]
  omega
theorem exts_mem {l:List It}{e:X_}(h:e∈gp l):∃x,x∈l∧x.f0=1∧x.f2=e:=by
 unfold gp at h;obtain⟨x,hx,rfl⟩:=List.mem_map.1 h;have:=List.mem_filter.1 hx;exact⟨x,this.1,by simpa[lF]using this.2,rfl⟩
theorem isI_t {x:It}(c:x.f0=1):lF x=true:=by unfold lF;rw[c];rfl
theorem isI_f {x:It}(c:¬x.f0=1):¬lF x=true:=by unfold lF;rw[beq_iff_eq];exact c
theorem exts_take(l:List It)(i:Nat)(h:i<l.length):gp (l.take (i+1))=if(l.getD i cr).f0=1 then gp (l.take i)++[(l.getD i cr).f2]else gp (l.take i):=by
 have e:l.take (i+1)=l.take i++[l.getD i cr]:=by
  rw[List.take_add_one,aag,aaj h]
  rfl
 unfold gp;rw[e,abO,List.map_append]
 by_cases c:(l.getD i cr).f0=1
 ·rw[if_pos c,abj (isI_t c),List.filter_nil]
  rfl
 ·rw[if_neg c,abk (isI_f c),List.filter_nil,List.map_nil,List.append_nil]
theorem filt_take(l:List It)(i:Nat)(h:i<l.length):(l.take (i+1)).filter lF=if(l.getD i cr).f0=1 then(l.take i).filter lF++[l.getD i cr]else(l.take i).filter lF:=by
 have e:l.take (i+1)=l.take i++[l.getD i cr]:=by
  rw[List.take_add_one,aag,aaj h]
  rfl
 rw[e,abO]
 by_cases c:(l.getD i cr).f0=1
 ·rw[if_pos c,abj (isI_t c),List.filter_nil]
 ·rw[if_neg c,abk (isI_f c),List.filter_nil,List.append_nil]
theorem once_loop(n:Int)(fp m:List X_)(nxt:Int)(l l1 out:List It)(r1:List X_)(r2:List X_)(hfp:fp.length≤60)(hm:m.length≤60)(hl1:l1.length≤30)(hg:GF n fp m)(gi:Ev (fun k=>mN.f k n fp m nxt l) true)(hr:gC n fp [] l1=some out)(hr2:r2.length≤60)
 (ha:km n fp m (gp l1)=(n,r1,r2,1,[],true))(H:AllBack n fp (gp l1) (n,r1,r2,1,[],true)):
 ∀d i:Nat,l1.length-i=d→i≤l1.length→Ev (fun k=>dg.l0 k (pR fp) true (pR r1) true (o5 (gp (l1.take i))) ((l1.take i).filter lF) l1 (l1.length:Int) (i:Int) n fp m nxt l n r1 r2 1 []) true:=by
 obtain⟨⟨n1,n2⟩,_,_⟩:=Jc (by omega) hg;have hr1:r1.length≤60:=H.len;have hg1:GF n r1 r2:=H.good;have hsum:pR r1=pR fp+o5 (gp l1):=H.sum;have ht:=tot_range fp;have ht1:=tot_range r1;have hex:∀e,e∈gp l1→nG n e:=H.ext
 have hsub:∀i e,e∈gp (l1.take i)→e∈gp l1:=fun i e he=>by
  obtain⟨x,hx,h1,h2⟩:=exts_mem he;unfold gp;exact List.mem_map.2 ⟨x,List.mem_filter.2 ⟨List.mem_of_mem_take hx,isI_t h1⟩,h2⟩
 have hbd:∀i,0≤o5 (gp (l1.take i))∧o5 (gp (l1.take i))≤12000:=fun i=>by
  have h1:=exSum_bd (gp (l1.take i)) (fun e he=>by
   have:=hex e (hsub i e he);unfold nG at this
   omega)
  have h2:(gp (l1.take i)).length≤30:=by
   unfold gp;rw[List.length_map];have:=ab0 lF (l1.take i);have:=List.length_take_le i l1
   have h3:(l1.take i).length≤l1.length:=by rw[aN];omega
   omega
  omega
 intro d
 induction d with
 |zero=>
  intro i hd hi
  obtain rfl:i=l1.length:=by omega
  rw[abs];obtain⟨o1,hr1'⟩:=Sp l1 [] [] out rfl hr;have hfl:=ab0 lF l1;have z1:=Sq n fp m nxt l (l1.filter lF) o1 hfp hm (by omega) hg gi hr1';rw[exts_filter,ha]at z1;have z2:=Sq n r1 r2 1 [] [] [] hr1 hr2 (pu _) hg1 (empty_good n r1 r2 hr1 hr2 hg1) rfl;have e2:km n r1 r2 (gp [])=(n,r1,r2,1,[],true):=rfl;rw[e2]at z2;have hb:=hbd l1.length;rw[abs]at hb;refine Ev.step (fun k=>by rw[dg.l0]) ?_;refine Ev.neg (by omega) (Ev.bind' _ z1 (Ev.bind' _ z2 (Ev.pos rfl (Ev.pos rfl (Ev.pos rfl (Ev.pos rfl (Ev.pos ?_ (Ev.bind' _ (No n r1 r2 (by omega) (by omega)) (Ev.pos rfl (Ev.bind' _ (No n r1 r2 (by omega) (by omega)) (Ev.pos rfl (Ev.pos rfl (Ev.now _)))))))))))));rw[dO (x:=pR fp+o5 (gp l1)) (by omega) (by omega)];exact hsum
 |succ d ih=>
  intro i hd hi
  have hi':i<l1.length:=by omega
  have nx:=ih (i+1) (by omega) (by omega);rw[exts_take l1 i hi',filt_take l1 i hi']at nx;have hw:=Y.mk (show wrap64 ((i:Int)+1)=((i+1:Nat):Int)from by rw[dO (by omega) (by omega)];rfl)
  have hfl:((l1.take i).filter lF).length≤30:=by
   have:=ab0 lF (l1.take i)
   have h3:(l1.take i).length≤l1.length:=by rw[aN];omega
   omega
  refine Ev.step (fun k=>by rw[dg.l0]) ?_;refine Ev.pos (by omega) (Ev.pos (by omega) (Ev.pos (by omega) ?_));rw[ua]
  by_cases c:(l1.getD i cr).f0=1
  ·rw[if_pos c,if_pos c]at nx
   have hmem:(l1.getD i cr).f2∈gp l1:=by
    unfold gp;exact List.mem_map.2 ⟨_,List.mem_filter.2 ⟨Cv l1 i cr hi',isI_t c⟩,rfl⟩
   have hok:=hex _ hmem;have hdis:=H.dis _ hmem;have hhas:=H.has _ hmem;have hb:=hbd i;unfold nG at hok;rw[exSum_snoc]at nx;refine Ev.pos c (Ev.pos (show((l1.take i).filter lF).length<3518437208883 by omega) ?_)
   have inner:∀d j:Nat,(l1.getD i cr).f2.f1.toNat-j=d→(j:Int)≤(l1.getD i cr).f2.f1→
    Ev (fun k=>dg.l1 k (pR fp) true (pR r1) true (o5 (gp (l1.take i))+(l1.getD i cr).f2.f1) ((l1.take i).filter lF++[l1.getD i cr]) (j:Int) l1 (l1.length:Int) (i:Int) n fp m nxt l n r1 r2 1 [] (l1.getD i cr).f0 (l1.getD i cr).f1 (l1.getD i cr).f2.f0 (l1.getD i cr).f2.f1 (l1.getD i cr).f3) true:=by
    intro d
    induction d with
    |zero=>
     intro j hd hj;refine Ev.step (fun k=>by rw[dg.l1]) ?_;rw[hw.out];exact Ev.neg (by omega) nx
    |succ d ih2=>
     intro j hd hj;have nx2:=ih2 (j+1) (by omega) (by omega)
     have hj1:(j:Int)<(l1.getD i cr).f2.f1:=by omega
     have hb0:wrap64 ((l1.getD i cr).f2.f0+(j:Int))=(l1.getD i cr).f2.f0+(j:Int):=dO (by omega) (by omega)
     have hh:fW (l1.getD i cr).f2 ((l1.getD i cr).f2.f0+(j:Int)).toNat:=by
      unfold fW
      omega
     obtain⟨f1,q1,w1⟩:=isFreeAt_ev n fp m hfp hg ((l1.getD i cr).f2.f0+(j:Int)) (by omega) (by omega);obtain⟨f2,q2,w2⟩:=isFreeAt_ev n r1 r2 hr1 hg1 ((l1.getD i cr).f2.f0+(j:Int)) (by omega) (by omega)
     have v1:f1≠true:=fun e=>hdis _ hh (w1.1 e)
     have v2:f2=true:=w2.2 (hhas _ hh);refine Ev.step (fun k=>by rw[dg.l1]) ?_;rw[hb0,show wrap64 ((j:Int)+1)=((j+1:Nat):Int) by rw[dO (by omega) (by omega)];rfl];exact Ev.pos hj1 (Ev.bind' _ q1 (Ev.bind' _ q2 (Ev.pos rfl (Ev.pos rfl (Ev.neg v1 (Ev.pos v2 nx2))))))
   rw[dO (x:=o5 (gp (l1.take i))+(l1.getD i cr).f2.f1) (by omega) (by omega)];exact inner _ 0 rfl (by omega)
  ·rw[if_neg c,if_neg c]at nx
   refine Ev.neg c ?_;rw[hw.out];exact nx
theorem FnOnce:dg.Pure:=by
 intro l0 ho;have hb:=bytes_of ho.2
 suffices h:Ev (fun k=>dg.f k l0) true by
  obtain⟨K,h⟩:=h;exact⟨K,h K (Nat.le_refl _)⟩
 unfold dg.f;refine Ev.ite (fun _=>Ev.now _) (fun _=> ?_);obtain⟨⟨n,fp,m,nxt,l,l1⟩,ed,h1,h2,h3,h4⟩:=drawRec_ok l0 hb;simp only at h1 h2 h3 h4;obtain⟨r,es,ei,rno,ryes⟩:=recover_sem n fp m nxt l l1 h1 h2 (by omega) (by omega);obtain⟨g,gs,gi⟩:=Cg n fp m nxt l (by omega) (by omega) (by omega)
 cases c:r.2.2.2.2.2 with
 |false=>
  have hr:=rno c;subst hr;refine Ev.bind' _ ed (Ev.bind' _ ei (Ev.bind' _ es (Ev.neg (by simp) (Ev.bind' _ (No 0 [] [] (pu _) (pu _)) (Ev.pos rfl (Ev.bind' _ gi (Ev.bind' _ gs ?_)))))))
  show Ev (fun k=>dg.j0 k l1 false (g !=g) n fp m nxt l 0 [] [] 0 []) true
  rw[show(g !=g)=false by simp];refine Ev.step (fun k=>by rw[dg.j0]) ?_;exact Ev.neg eI (Ev.neg eI (Ev.now _))
 |true=>
  obtain⟨hg,hgw,hl30,⟨out,hrun⟩,he⟩:=ryes c;obtain⟨⟨n1,n2⟩,_,_⟩:=Jc (by omega) hg;have hA:=allBack_sem (gp l1) n fp m h1 n2 hg (by rw[←he];exact c);rw[←he]at hA;obtain⟨a,b,d,e,f,q⟩:=r;simp only at c;subst c;have e1:a=n:=hA.eq;have e2:e=1:=hA.nxt;have e3:f=[]:=hA.its;subst e1;subst e2;subst e3
  have hd60:d.length≤60:=by
   have h5:=(Gb a b d (by have:=hA.len;show b.length≤1048576;exact Nat.le_trans this (by omega)) hA.good).2.2.2.2;have h6:b.length≤60:=hA.len;rw[←h5,wy,List.length_nil]
   omega
  have hb60:b.length≤60:=hA.len;obtain⟨M1,m1⟩:=roomIn_ev a fp m h1 hg;obtain⟨M2,m2⟩:=roomIn_ev a b d hb60 hA.good;have loop:=once_loop a fp m nxt l l1 out b d h1 h2 hl30 hg hgw hrun hd60 he.symm hA l1.length 0 rfl (pu _);refine Ev.bind' _ ed (Ev.bind' _ ei (Ev.bind' _ es (Ev.neg (by simp) (Ev.bind' _ (No a b d (by omega) (by omega)) (Ev.pos rfl (Ev.bind' _ gi (Ev.bind' _ gs ?_)))))))
  show Ev (fun k=>dg.j0 k l1 true (g !=g) a fp m nxt l a b d 1 []) true
  rw[show(g !=g)=false by simp];refine Ev.step (fun k=>by rw[dg.j0]) ?_;refine Ev.neg eI (Ev.pos rfl (Ev.bind' _ m1 (Ev.bind' _ m2 ?_)));exact loop
end Go.Proofs.Ytahnkgehlfdlkaa.Q
