/- Room given back and work recovered: what is free then. No statement. -/
import Derived.Test.YtahnkgehlfdlkaaCntI
import Derived.Test.YtahnkgehlfdlkaaIntOwn
import Derived.Test.YtahnkgehlfdlkaaIntRecover
import Derived.Test.YtahnkgehlfdlkaaG8
open Bool renaming false_ne_true→eI
open List renaming mem_cons→aal,length_nil→aar,nil_append→aaH
open Nat renaming zero_le→pu
namespace Go.Proofs.Ytahnkgehlfdlkaa.Q
open Go.RowKit Go.Proofs.YtahnkgehlfdlkaaW.PrintWords Go.Proofs.Ytahnkgehlfdlkaa.G
set_option linter.unusedVariables false
set_option linter.unusedSimpArgs false
def GF(n:Int)(l m:List X_):Prop:=Ev (fun k=>gb.f k n l m) true
theorem Vf {n:Int}{l m:List X_}(hl:l.length≤1048576)(h:GF n l m):Ev (fun k=>cH.f k n l m) true:=by
 obtain⟨r,e1,e2,_⟩:=yZ n l m hl;obtain rfl:=Ev.uniq e1 h;exact e2
structure Given(n:Int)(l:List X_)(x:X_)(r:F4):Prop where
 eq:r.1=n
 ext:nG n x
 dis:∀k:Nat,fW x k→¬fh l k
 good:GF n r.2.1 r.2.2.1
 len:r.2.1.length≤60
 mem:∀k:Nat,fh r.2.1 k↔fW x k∨fh l k
theorem give_sem(n:Int)(l m:List X_)(x:X_)(hl:l.length≤1048576)(hg:GF n l m):(gv n l m x).2.2.2=true→Given n l x (gv n l m x):=by
 suffices h:∃r:F4,Ev (fun k=>d8.f k n l m x.f0 x.f1) r∧(r.2.2.2=true→Given n l x r) by
  obtain⟨r,h1,h2⟩:=h;rw[Ev.uniq (Gd n l m x hl).1 h1];exact h2
 have e1:=hg;unfold GF at e1;obtain⟨n1,n2,sY,hcf,hso⟩:=Gb n l m hl e1;unfold d8.f
 by_cases hx:nG n x
 ·have hx':=hx
  unfold nG at hx';obtain⟨x0,x1,x2,x3⟩:=hx';obtain⟨q1,q2⟩:=IX n l (-1) x.f0 x.f1 (by omega) hcf (by omega) x1 (by omega)
  have NF:CF 400 (-1) l:=by
   have:∀ (t:List X_) (lo:Int),CF n lo t→CF 400 lo t:=fun t=>by
    induction t with
    |nil=>intro _ _;trivial
    |cons o t ih=>exact fun lo h=>⟨h.1,h.2.1,by have:=h.2.2.1;omega,ih _ h.2.2.2⟩
   exact this l (-1) hcf
  have NG:∀r:F4,Ev (fun k=>d8.l0 k [] false l (l.length:Int) ((0:Nat):Int) n l m x.f0 x.f1) r→Ev (fun k=>(gb.f k n l m).bind fun qX=>(if qX=true then((ud.f x.f0 x.f1 n).bind fun yN=>(d8.j0 k (!yN) n l m x.f0 x.f1))else(d8.j0 k true n l m x.f0 x.f1))) r:=fun r h1=>by
   refine Ev.bind' _ e1 (Ev.pos rfl (Ev.ct _ (Lg n x n1 n2) ?_));rw[decide_eq_true hx];refine Ev.step (fun k=>by rw[d8.j0]) ?_;exact Ev.neg eI h1
  by_cases hov:∃k:Nat,fW ⟨x.f0,x.f1⟩ k∧fh l k
  ·exact⟨zF,NG zF (Cw l n l m zF sY l [] 0 (-1) x.f0 x.f1 rfl (by omega) (by omega) NF (by omega) x1 (by omega) (Nat.le_refl _) (by rw[q1 hov];rfl)),fun h=>by cases h⟩
  ·obtain⟨l',el,hcl,hil⟩:=q2 hov
   have hll:=Hr l x.f0 x.f1 l' el;obtain⟨g2,f1,f2,hg2⟩:=yZ n l' (fO [] l') (by omega);refine⟨ansF n l' (fO [] l') g2,NG _ ?_, ?_⟩
   ·refine Cw l n l m _ sY l [] 0 (-1) x.f0 x.f1 rfl (by omega) (by omega) NF (by omega) x1 (by omega) (Nat.le_refl _) ?_
    rw[el]
    show Ev (fun k=>d8.j2 k ([]++l') n l m) _
    rw[aaH];refine Ev.step (fun k=>by rw[d8.j2]) ?_
    have h5:Ev (fun k=>ip.f k n l') (n,l',fO [] l'):=by
     unfold ip.f;exact Ev.ct [] rfl (Ev.pos (by rw[aar];omega) (Ev.bind' _ (xL l' (by omega)) (Ev.now' (by rw[aaH]))))
    refine Ev.bind' _ h5 (Ev.bind' _ f1 ?_)
    cases g2 with
    |true=>exact Ev.pos rfl (Ev.now _)
    |false=>exact Ev.neg eI (Ev.now _)
   ·cases g2 with
    |false=>exact fun h=>by cases h
    |true=>exact fun _=>⟨rfl,hx,fun k h1 h2=>hov ⟨k,h1,h2⟩,f1,(hg2 rfl).2.2,hil⟩
 ·refine⟨zF,Ev.bind' _ e1 (Ev.pos rfl (Ev.ct _ (Lg n x n1 n2) ?_)),fun h=>by cases h⟩
  rw[decide_eq_false hx];refine Ev.step (fun k=>by rw[d8.j0]) ?_;exact Ev.pos rfl (Ev.now _)
theorem eord_up {n N:Int}{l:List Ex}(h:sR n l)(hn:n≤N):sR N l:=⟨fun i hi=>by
 have:=h.1 i hi;unfold k7 at this⊢
 omega,h.2⟩
theorem Jc {n:Int}{l m:List X_}(hl:l.length≤1048576)(h:GF n l m):(1≤n∧n≤400)∧l.length≤60∧uC n l:=by
 obtain⟨n1,n2,sY,hcf,_⟩:=Gb n l m hl h;exact⟨⟨n1,n2⟩,sY,(hcf.canon (by omega)).1⟩
noncomputable def pR(l:List X_):Int:=kb (fun k=>fh l k) 400
theorem tot_range(l:List X_):0≤pR l∧pR l≤400:=Vx _ 400
theorem given_tot {n:Int}{l:List X_}{x:X_}{r:F4}(h:Given n l x r)(hn:n≤400):pR r.2.1=pR l+x.f1:=by
 have hx:=h.ext;unfold nG at hx;unfold pR
 have e:kb (fun k=>fh r.2.1 k) 400=kb (fun k:Nat=>fh l k∨(x.f0≤(k:Int)∧(k:Int)<x.f0+x.f1)) 400:=OP 400 fun k _=>by
  rw[h.mem k];exact Or.comm
 rw[e,Vy (P:=fun k=>fh l k) (Q:=fun k:Nat=>x.f0≤(k:Int)∧(k:Int)<x.f0+x.f1) 400 (fun k _ h1 h2=>h.dis k h2 h1),Vg _ _ (by omega) (by omega),if_neg (by omega)]
 by_cases d:((400:Nat):Int)≤x.f0+x.f1
 ·rw[if_pos d];omega
 ·rw[if_neg d]
def o5:List X_→Int
 |[]=>0
 |x::t=>x.f1+o5 t
structure AllBack(n:Int)(l:List X_)(t:List X_)(r:W6):Prop where
 eq:r.1=n
 nxt:r.2.2.2.1=1
 its:r.2.2.2.2.1=[]
 good:GF n r.2.1 r.2.2.1
 len:r.2.1.length≤60
 ext:∀e,e∈t→nG n e
 dis:∀e,e∈t→∀k:Nat,fW e k→¬fh l k
 has:∀e,e∈t→∀k:Nat,fW e k→fh r.2.1 k
 up:∀k:Nat,fh l k→fh r.2.1 k
 sum:pR r.2.1=pR l+o5 t
theorem allBack_sem:∀ (t:List X_) (n:Int) (l m:List X_),l.length≤60→n≤400→GF n l m→(km n l m t).2.2.2.2.2=true→AllBack n l t (km n l m t)
 |[],n,l,m,hl,hn,hg,_=>⟨rfl,rfl,rfl,hg,hl,fun e h=>(by cases h),fun e h=>(by cases h),fun e h=>(by cases h),fun k h=>h,by show pR l=pR l+0;omega⟩
 |x::t,n,l,m,hl,hn,hg,h=>by
  rw[km]at h⊢
  by_cases c:(gv n l m x).2.2.2=true
  ·rw[if_pos c]at h⊢
   have g:=give_sem n l m x (by omega) hg c;have gq:=g.good;rw[g.eq]at h⊢;have ih:=allBack_sem t n (gv n l m x).2.1 (gv n l m x).2.2.1 g.len hn gq h;refine⟨ih.eq,ih.nxt,ih.its,ih.good,ih.len,fun e he=> ?_,fun e he=> ?_,fun e he=> ?_,fun k hk=>ih.up k ((g.mem k).2 (.inr hk)), ?_⟩
   ·rcases aal.1 he with rfl|he
    ·exact g.ext
    ·exact ih.ext e he
   ·rcases aal.1 he with rfl|he
    ·exact g.dis
    ·exact fun k hk hin=>ih.dis e he k hk ((g.mem k).2 (.inr hin))
   ·rcases aal.1 he with rfl|he
    ·exact fun k hk=>ih.up k ((g.mem k).2 (.inl hk))
    ·exact ih.has e he
   ·rw[ih.sum,given_tot g hn,o5]
    omega
  ·rw[if_neg c]at h
   cases h
theorem allBack_no:∀ (t:List X_) (n:Int) (l m:List X_),(km n l m t).2.2.2.2.2=false→km n l m t=zW
 |[],n,l,m,h=>by cases h
 |x::t,n,l,m,h=>by
  rw[km]at h⊢
  by_cases c:(gv n l m x).2.2.2=true
  ·rw[if_pos c]at h⊢
   exact allBack_no t _ _ _ h
  ·rw[if_neg c]
theorem Sp {n:Int}{fp:List X_}:∀ (l out CJ o:List It),CJ.map (fun x=>x.f2)=out.map (fun x=>x.f2)→gC n fp out l=some o→∃o1,gC n fp CJ (l.filter lF)=some o1
 |[],out,CJ,o,_,_=>⟨CJ,rfl⟩
 |x::t,out,CJ,o,he,h=>by
  have hlen:CJ.length=out.length:=by
   have:=congrArg List.length he
   rwa [List.length_map,List.length_map]at this
  rw[gC]at h;obtain⟨q,hq,h2⟩:=Option.bind_eq_some_iff.mp h;unfold gx at hq
  by_cases c:x.f0=1
  ·rw[if_pos c]at hq
   have hf:(x::t).filter lF=x::t.filter lF:=List.filter_cons_of_pos (by simp[lF,c])
   have hany:∀y:List It,y.any (fun z=>iT x.f2 z.f2)=(y.map (fun z=>z.f2)).any (fun z=>iT x.f2 z):=fun y=>by rw[List.any_map];rfl
   by_cases c1:x.f1=(out.length:Int)+1∧x.f3=0∧nG n x.f2
   ·rw[if_pos c1]at hq
    by_cases c2:out.any (fun y=>iT x.f2 y.f2)=true
    ·rw[if_pos c2]at hq;cases hq
    ·rw[if_neg c2]at hq
     by_cases c3:fp.any (fun y=>iT x.f2 y)=true
     ·rw[if_pos c3]at hq;cases hq
     ·rw[if_neg c3]at hq
      obtain rfl:=Option.some.inj hq;obtain⟨o1,h3⟩:=Sp t (out++[x]) (CJ++[x]) o (by rw[List.map_append,List.map_append,he]) h2;refine⟨o1, ?_⟩;rw[hf,gC];unfold gx;rw[if_pos c,if_pos (by rw[hlen];exact c1),if_neg (by rw[hany,he,←hany];exact c2),if_neg c3];exact h3
   ·rw[if_neg c1]at hq;cases hq
  ·rw[if_neg c]at hq
   have hf:(x::t).filter lF=t.filter lF:=List.filter_cons_of_neg (by simp[lF,c]);rw[hf]
   split at hq
   ·obtain rfl:=Option.some.inj hq
    refine Sp t _ CJ o ?_ h2;rw[he,List.map_set];apply List.ext_getElem
    ·simp
    ·intro i h1 h2
     by_cases q:i=(x.f1-1).toNat
     ·subst q
      rw[List.getElem_set_self,List.getElem_map,vK _ _ _ (by simpa using h1)]
     ·rw[List.getElem_set_ne (fun z=>q z.symm)]
   ·cases hq
theorem exts_filter(l:List It):gp (l.filter lF)=gp l:=by
 unfold gp;rw[List.filter_filter]
 simp
theorem Nv(n:Int)(fp m:List X_)(l:List It)(hfp:fp.length≤1048576)(hl:l.length≤30)(hg:GF n fp m):Ev (fun k=>dH.f k n fp m l) (qZ (gC n fp [] l))∧Ev (fun k=>cD.f k n fp m l) (uW true (gC n fp [] l)):=by
 obtain⟨⟨n1,n2⟩,f60,_⟩:=Jc hfp hg;have e2:=Vf hfp hg
 have hi:Ev (fun k=>dH.l0 k [] l (l.length:Int) 0 n fp m) (qZ (gC n fp [] l)):=
  Vv n fp m l n1 n2 f60 hl l.length 0 [] rfl (pu _) (pu _)
 have hd:decide ((l.length:Int)>30)=false:=decide_eq_false (by omega)
 constructor
 ·unfold dH.f
  refine Ev.bind' _ e2 (Ev.pos rfl ?_);rw[hd];exact Ev.step (fun k=>by rw[dH.j0]) (Ev.neg eI hi)
 ·unfold cD.f
  have:=Vu n fp m l n1 n2 f60 (by omega) l.length 0 [] rfl (pu _) (pu _) Inv.start;rw[decide_eq_true (show(l.length:Int)≤30 by omega)]at this;exact this
theorem own_i(n:Int)(fp m:List X_)(hfp:fp.length≤60)(hm:m.length≤60):pT.f n fp m=some (n,fp,m):=by
 unfold pT.f oE.f;rw[if_pos (by omega),Option.bind_some,if_pos (by omega),Option.bind_some]
theorem Sq(n:Int)(fp m:List X_)(nxt:Int)(l l1 out:List It)(hfp:fp.length≤60)(hm:m.length≤60)(hl1:l1.length≤30)(hg:GF n fp m)(gi:Ev (fun k=>mN.f k n fp m nxt l) true)(hr:gC n fp [] l1=some out):Ev (fun k=>f8.f k n fp m nxt l l1) (km n fp m (gp l1)):=by
 have h1:=(Nv n fp m l1 (by omega) hl1 hg).1;rw[hr]at h1;have ho:=Nu l1 [] out hr;rw[aar]at ho
 have hex:out.map (fun x=>x.f2)=gp l1:=by rw[Tc l1 [] out hr];simp
 have b2:=Vw out (by omega) out 0 n fp m rfl (by omega) (by omega);rw[hex]at b2;unfold f8.f;refine Ev.bind' _ h1 (Ev.pos rfl (Ev.bind' _ gi ?_));refine Ev.step (fun k=>by rw[f8.j0]) ?_;exact Ev.neg eI (Ev.ct _ (own_i n fp m hfp hm) b2)
theorem recover_sem(n:Int)(fp m:List X_)(nxt:Int)(l l1:List It)(hfp:fp.length≤60)(hm:m.length≤60)(hl:l.length≤1000)(hl1:l1.length≤1000):
 ∃r:W6,Ev (fun k=>gz.f k n fp m nxt l l1) r∧Ev (fun k=>f8.f k n fp m nxt l l1) r∧(r.2.2.2.2.2=false→r=zW)∧
  (r.2.2.2.2.2=true→GF n fp m∧Ev (fun k=>mN.f k n fp m nxt l) true∧l1.length≤30∧(∃out,gC n fp [] l1=some out)∧r=km n fp m (gp l1)):=by
 obtain⟨g,gs,gi⟩:=Cg n fp m nxt l (by omega) (by omega) (by omega)
 have badj:∀x,Ev (fun k=>f8.j0 k x true n fp m nxt l) zW:=fun x=>Ev.step (fun k=>by rw[f8.j0]) (Ev.pos rfl (Ev.now _))
 cases g with
 |false=>
  obtain⟨o,h1,_,_⟩:=Sr n fp m l1 (by omega) (by omega);refine⟨zW, ?_, ?_,fun _=>rfl,fun h=>by cases h⟩
  ·unfold gz.f
   exact Ev.bind' _ gs (Ev.neg eI (Ev.now _))
  ·unfold f8.f
   refine Ev.bind' _ h1 ?_
   cases o with
   |none=>exact Ev.neg eI (badj _)
   |some out=>exact Ev.pos rfl (Ev.bind' _ gi (badj _))
 |true=>
  have hg:GF n fp m:=gw_good n fp m nxt l (by omega) gs;obtain⟨n1,n2,sY,_,hso⟩:=Gb n fp m (by omega) hg
  by_cases c:l1.length≤30
  ·obtain⟨_,hs⟩:=Nv n fp m l1 (by omega) c hg
   cases e:gC n fp [] l1 with
   |none=>
    obtain⟨hi,_⟩:=Nv n fp m l1 (by omega) c hg;rw[e]at hi hs;refine⟨zW, ?_, ?_,fun _=>rfl,fun h=>by cases h⟩
    ·unfold gz.f
     exact Ev.bind' _ gs (Ev.pos rfl (Ev.bind' _ hs (Ev.neg eI (Ev.now _))))
    ·unfold f8.f
     exact Ev.bind' _ hi (Ev.neg eI (badj _))
   |some out=>
    rw[e]at hs;have hv:=Sq n fp m nxt l l1 out hfp hm c hg gi e
    have h5:Ev (fun k=>ip.f k n fp) (n,fp,m):=by
     unfold ip.f;exact Ev.ct [] rfl (Ev.pos (by rw[aar];omega) (Ev.bind' _ (xL fp (by omega)) (Ev.now' (by rw[hso,aaH]))))
    have b1:=QM l1 (by omega) l1 0 n fp m rfl (by omega) (by omega);refine⟨km n fp m (gp l1), ?_,hv,allBack_no _ _ _ _,fun _=>⟨hg,gi,c,⟨out,rfl⟩,rfl⟩⟩;unfold gz.f;exact Ev.bind' _ gs (Ev.pos rfl (Ev.bind' _ hs (Ev.pos rfl (Ev.bind' _ h5 b1))))
  ·obtain⟨o,h1,h2,h3⟩:=Sr n fp m l1 (by omega) (by omega)
   obtain⟨p,hp,hp2⟩:=h2 hg
   cases o with
   |some out=>exact absurd (h3 out rfl).2.1 c
   |none=>
    have hp3:p.2=false:=hp2;refine⟨zW, ?_, ?_,fun _=>rfl,fun h=>by cases h⟩
    ·unfold gz.f
     exact Ev.bind' _ gs (Ev.pos rfl (Ev.bind' _ hp (Ev.neg (by rw[hp3];exact eI) (Ev.now _))))
    ·unfold f8.f
     exact Ev.bind' _ h1 (Ev.neg eI (badj _))
theorem empty_good(n:Int)(fp m:List X_)(hfp:fp.length≤60)(hm:m.length≤60)(hg:GF n fp m):Ev (fun k=>mN.f k n fp m 1 []) true:=by
 obtain⟨g,gs,gi⟩:=Cg n fp m 1 [] (by omega) (by omega) (pu _);have hs:=(Nv n fp m [] (by omega) (pu _) hg).2
 have h2:Ev (fun k=>f9.f k n fp m 1 []) true:=by
  unfold f9.f;exact Ev.bind' _ hg (Ev.pos rfl (Ev.bind' _ hs (Ev.pos rfl (Ev.now _))))
 obtain rfl:=Ev.uniq gs h2;exact gi
theorem roomIn_ev(n:Int)(fp m:List X_)(hfp:fp.length≤60)(hg:GF n fp m):∃M,Ev (fun k=>jc.f k n fp m) (pR fp,M,true):=by
 obtain⟨⟨n1,n2⟩,f60,hc⟩:=Jc (by omega) hg;have ho:sR ((400:Nat):Int) fp:=eord_up hc.1 (by omega)
 have loop:∀d i:Nat,fp.length-i=d→i≤fp.length→∀M:Int,∃M',Ev (fun k=>jc.l0 k (tU fp i) M fp (fp.length:Int) (i:Int)) (tU fp fp.length,M',true):=by
  intro d
  induction d with
  |zero=>
   intro i hd hi M
   obtain rfl:i=fp.length:=by omega
   exact⟨M,Ev.step (fun k=>by rw[jc.l0]) (Ev.neg (by omega) (Ev.now _))⟩
  |succ d ih=>
   intro i hd hi M;have h1:=eSum_le ho i hi;have h2:=eSum_le ho (i+1) (by omega);rw[tU]at h2;have h2':0≤tU fp i+(fp.getD i ey).f1∧tU fp i+(fp.getD i ey).f1≤((400:Nat):Int):=h2;obtain⟨M',e⟩:=ih (i+1) (by omega) (by omega) (mx M (fp.getD i ey).f1);refine⟨M',Ev.step (fun k=>by rw[jc.l0]) (Ev.pos (by omega) (Ev.pos (by omega) (Ev.pos (by omega) ?_)))⟩;rw[ou,show wrap64 ((i:Int)+1)=((i+1:Nat):Int) by rw[dO (by omega) (by omega)];rfl,dO (x:=tU fp i+(fp.getD i ey).f1) (by omega) (by omega)];exact e
 obtain⟨M,e⟩:=loop fp.length 0 rfl (pu _) 0;refine⟨M, ?_⟩;have ht:tU fp fp.length=pR fp:=eSum_all ho;rw[ht]at e;unfold jc.f;exact Ev.bind' _ (Vf (by omega) hg) (Ev.pos rfl e)
theorem isFreeAt_ev(n:Int)(fp m:List X_)(hfp:fp.length≤60)(hg:GF n fp m)(b:Int)(h0:0≤b)(h1:b<n):∃f:Bool,Ev (fun k=>mY.f k n fp m b) (f,true)∧(f=true↔fh fp b.toNat):=by
 obtain⟨⟨n1,n2⟩,f60,hc⟩:=Jc (by omega) hg;obtain⟨bs,eb,hb1,hb2⟩:=isFree_ev n fp m n1 n2 f60 hc;refine⟨bs.getD b.toNat false, ?_,hb2 b.toNat (by omega)⟩;unfold mY.f;refine Ev.bind' _ (Vf (by omega) hg) (Ev.pos rfl (Ev.ct _ (xM _ _ _) ?_));rw[dO (x:=n-1) (by omega) (by omega),decide_eq_true (show 0≤b∧b≤n-1 by omega)];refine Ev.pos rfl (Ev.bind' _ eb (Ev.pos h0 (Ev.pos (by omega) (Ev.now' ?_))))
 rfl
end Go.Proofs.Ytahnkgehlfdlkaa.Q
