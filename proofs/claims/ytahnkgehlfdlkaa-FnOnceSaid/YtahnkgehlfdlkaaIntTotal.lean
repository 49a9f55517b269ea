/- What the reference answers to steps of work, for any state: some answer; a good one stays within bounds. No statement. -/
import Derived.Test.YtahnkgehlfdlkaaIntOwn
import Derived.Test.YtahnkgehlfdlkaaIntOpenS
import Derived.Test.YtahnkgehlfdlkaaIntRecover
import Derived.Test.YtahnkgehlfdlkaaG5
import Derived.Test.YtahnkgehlfdlkaaG3
import Derived.Test.YtahnkgehlfdlkaaG4
open Bool renaming false_ne_true→eI
open List renaming length_append→oB,length_singleton→aan,length_nil→aar,nil_append→aaH
open Nat renaming zero_le→pu
namespace Go.Proofs.Ytahnkgehlfdlkaa.Q
open Go.RowKit Go.Proofs.YtahnkgehlfdlkaaW.PrintWords Go.Proofs.Ytahnkgehlfdlkaa.G
set_option linter.unusedVariables false
set_option linter.unusedSimpArgs false
abbrev St:=ga
def PW(fp m:List X_)(l:List It):Prop:=fp.length≤60∧m.length≤60∧l.length≤30
theorem gw_bd(n:Int)(fp m:List X_)(nxt:Int)(l:List It)(hfp:fp.length≤1048576)(hl:l.length≤1048576)(h:Ev (fun k=>f9.f k n fp m nxt l) true):PW fp m l:=by
 obtain⟨o,_,h2,h3⟩:=goodIntents_full n fp m nxt l hfp hl;have e:=Ev.uniq h2 h
 cases o with
 |none=>cases e
 |some out=>
  obtain⟨b1,b2,b3,n1,n2,f60,hnx⟩:=h3 out rfl;refine⟨f60, ?_,b3⟩;rw[←gw_free n fp m nxt l hfp h,wy,aar]
  omega
theorem Xg(n:Int)(fp m:List X_)(nxt:Int)(l:List It)(hfp:fp.length≤1048576)(hl:l.length≤1048576):Ev (fun k=>m4.f k n fp m nxt l) (n,fp,fO [] fp,nxt,l):=by
 unfold m4.f ip.f;refine Ev.bind' (n,fp,fO [] fp) (Ev.ct [] rfl (Ev.pos (by rw[aar];omega) (Ev.bind' _ (xL fp hfp) (Ev.now' (by rw[aaH]))))) (Ev.ct [] rfl (Ev.pos (by rw[aar];omega) (Ev.now' (by rw[aaH]))))
theorem Vd(fp:List X_):(fO [] fp).length=fp.length:=by rw[wy,List.length_nil];omega
theorem put_s {γ:Type}(n:Int)(fp m:List X_)(nxt:Int)(l:List It)(x:It)(hfp:fp.length≤1048576)(hm:m.length≤1048576)(hl:l.length≤1000000)(yes no:γ):
 ∃b:Bool,Ev (fun k=>(f9.f k n fp m nxt (l++[x])).bind fun t=>if t=true then some yes else some no) (if b=true then yes else no)∧(b=true→PW fp m (l++[x])):=by
 have hll:(l++[x]).length≤1048576:=by rw[oB,aan];omega
 obtain⟨g,gs,_⟩:=Cg n fp m nxt (l++[x]) hfp hm hll
 cases g with
 |true=>exact⟨true,Ev.bind' _ gs (Ev.pos rfl (Ev.now _)),fun _=>gw_bd n fp m nxt _ hfp hll gs⟩
 |false=>exact⟨false,Ev.bind' _ gs (Ev.neg eI (Ev.now _)),fun h=>by cases h⟩
abbrev W7:=Int×List X_×List X_×Int×List It×Int×Bool
theorem promise_s(n:Int)(fp m:List X_)(nxt:Int)(l:List It)(x0 x1:Int)(h:PW fp m l):∃r:W7,Ev (fun k=>rY.f k n fp m nxt l x0 x1) r∧(r.2.2.2.2.2.2=true→PW r.2.1 r.2.2.1 r.2.2.2.2.1):=by
 obtain⟨h1,h2,h3⟩:=h;obtain⟨g,gs,_⟩:=Cg n fp m nxt l (by omega) (by omega) (by omega);unfold rY.f
 cases g with
 |false=>exact⟨(0,[],[],0,[],0,false),Ev.bind' _ gs (Ev.neg eI (Ev.now _)),fun h=>by cases h⟩
 |true=>
  have own:=Xg n fp m nxt l (by omega) (by omega);have hs:=Vd fp;obtain⟨b,e,hb⟩:=put_s n fp (fO [] fp) (wrap64 (nxt+1)) l (⟨1,nxt,⟨x0,x1⟩,0⟩:It) (by omega) (by omega) (by omega) ((n,fp,fO [] fp,wrap64 (nxt+1),l++[(⟨1,nxt,⟨x0,x1⟩,0⟩:It)],wrap64 (wrap64 (nxt+1)-1),true):W7) (0,[],[],0,[],0,false);refine⟨_,Ev.bind' _ gs (Ev.pos rfl (Ev.bind' _ own (Ev.pos (show l.length<3518437208883 by omega) (Ev.ct _ rfl e)))), ?_⟩
  cases b with
  |true=>exact fun _=>hb rfl
  |false=>exact fun h=>by cases h
theorem work_s(n:Int)(fp m:List X_)(nxt:Int)(l:List It)(id many:Int)(h:PW fp m l):∃r:W6,Ev (fun k=>dM.f k n fp m nxt l id many) r∧(r.2.2.2.2.2=true→PW r.2.1 r.2.2.1 r.2.2.2.2.1):=by
 obtain⟨h1,h2,h3⟩:=h;obtain⟨g,gs,_⟩:=Cg n fp m nxt l (by omega) (by omega) (by omega);have hs:=Vd fp;have bad:Ev (fun k=>dM.j0 k id many true n fp m nxt l) zW:=Ev.step (fun k=>by rw[dM.j0]) (Ev.pos rfl (Ev.now _));unfold dM.f
 cases g with
 |false=>exact⟨zW,Ev.bind' _ gs (Ev.neg eI bad),fun h=>by cases h⟩
 |true=>
  by_cases cm:many<1
  ·exact⟨zW,Ev.bind' _ gs (Ev.pos rfl (by rw[decide_eq_true cm];exact bad)),fun h=>by cases h⟩
  ·have own:=Xg n fp m nxt l (by omega) (by omega)
   have hopen:Ev (fun k=>g9.f k l) (l.filterMap (kn l)):=by
    unfold g9.f;exact open_s l (by omega) l.length 0 [] rfl (pu _) (pu _)
   have hol:(l.filterMap (kn l)).length≤l.length:=List.length_filterMap_le _ _
   have j4:∀a b c d e:Int,∃r:W6,Ev (fun k=>dM.j4 k id many n fp (fO [] fp) nxt l a b c d e) r∧(r.2.2.2.2.2=true→PW r.2.1 r.2.2.1 r.2.2.2.2.1):=fun a b c d e=>by
    have one:∀x:It,∃r:W6,Ev (fun k=>(f9.f k n fp (fO [] fp) nxt (l++[x])).bind fun t=>if t=true then some ((n,fp,fO [] fp,nxt,l++[x],true):W6)else some (0,[],[],0,[],false)) r∧(r.2.2.2.2.2=true→PW r.2.1 r.2.2.1 r.2.2.2.2.1):=fun x=>by
     obtain⟨b,e,hb⟩:=put_s n fp (fO [] fp) nxt l x (by omega) (by omega) (by omega) ((n,fp,fO [] fp,nxt,l++[x],true):W6) (0,[],[],0,[],false);refine⟨_,e, ?_⟩
     cases b with
     |true=>exact fun _=>hb rfl
     |false=>exact fun h=>by cases h
    by_cases c1:many<wrap64 (d-e)
    ·obtain⟨r,e1,hr⟩:=one (⟨2,id,(⟨0,0⟩:X_),wrap64 (e+many)⟩:It)
     refine⟨r, ?_,hr⟩;refine Ev.step (fun k=>by rw[dM.j4]) ?_;exact Ev.pos c1 (Ev.pos (show l.length<3518437208883 by omega) (Ev.ct _ rfl e1))
    ·obtain⟨r,e1,hr⟩:=one (⟨2,id,(⟨0,0⟩:X_),d⟩:It)
     refine⟨r, ?_,hr⟩;refine Ev.step (fun k=>by rw[dM.j4]) ?_;exact Ev.neg c1 (Ev.pos (show l.length<3518437208883 by omega) (Ev.ct _ rfl e1))
   have look:∀d j:Nat,(l.filterMap (kn l)).length-j=d→j≤(l.filterMap (kn l)).length→∃r:W6,Ev (fun k=>dM.l0 k id many (l.filterMap (kn l)) ((l.filterMap (kn l)).length:Int) (j:Int) n fp (fO [] fp) nxt l) r∧(r.2.2.2.2.2=true→PW r.2.1 r.2.2.1 r.2.2.2.2.1):=by
    intro d
    induction d with
    |zero=>
     intro j hd hj;exact⟨zW,Ev.step (fun k=>by rw[dM.l0]) (Ev.neg (by omega) (Ev.now _)),fun h=>by cases h⟩
    |succ d ih=>
     intro j hd hj
     by_cases c:(J (l.filterMap (kn l)) (j:Int)).f1=id
     ·obtain⟨r,e,hr⟩:=j4 (J (l.filterMap (kn l)) (j:Int)).f0 (J (l.filterMap (kn l)) (j:Int)).f1 (J (l.filterMap (kn l)) (j:Int)).f2.f0 (J (l.filterMap (kn l)) (j:Int)).f2.f1 (J (l.filterMap (kn l)) (j:Int)).f3
      exact⟨r,Ev.step (fun k=>by rw[dM.l0]) (Ev.pos (by omega) (Ev.step (fun k=>by rw[dM.j3]) (Ev.pos (by omega) (Ev.pos (by omega) (Ev.pos c e))))),hr⟩
     ·obtain⟨r,e,hr⟩:=ih (j+1) (by omega) (by omega)
      refine⟨r,Ev.step (fun k=>by rw[dM.l0]) (Ev.pos (by omega) (Ev.step (fun k=>by rw[dM.j3]) (Ev.pos (by omega) (Ev.pos (by omega) (Ev.neg c ?_))))),hr⟩;rw[show wrap64 ((j:Int)+1)=((j+1:Nat):Int) by rw[dO (by omega) (by omega)];rfl];exact e
   obtain⟨r,e,hr⟩:=look _ 0 rfl (pu _);refine⟨r,Ev.bind' _ gs (Ev.pos rfl ?_),hr⟩;rw[decide_eq_false cm];refine Ev.step (fun k=>by rw[dM.j0]) (Ev.neg eI ?_);exact Ev.step (fun k=>by rw[dM.j1]) (Ev.bind' _ own (Ev.bind' _ hopen e))
abbrev WP:=Int×List X_×List X_×Int×List It×List Bool×Bool
theorem AX(L:List St)(hL:L.length≤1000):∀ (d j:Nat) (did:List Bool) (n:Int) (fp m:List X_) (nxt:Int) (l:List It),L.length-j=d→j≤L.length→did.length≤j→PW fp m l→
 ∃r:WP,Ev (fun k=>eJ.l0 k did L (L.length:Int) (j:Int) n fp m nxt l) r∧PW r.2.1 r.2.2.1 r.2.2.2.2.1
 |0,j,did,n,fp,m,nxt,l,hd,hj,hdid,h=>by
  have hs:=Vd fp;refine⟨(n,fp,fO [] fp,nxt,l,did,true),Ev.step (fun k=>by rw[eJ.l0]) (Ev.neg (by omega) (Ev.bind' _ (Xg n fp m nxt l (by have:=h.1;omega) (by have:=h.2.2;omega)) (Ev.now _))),h.1, ?_,h.2.2⟩
  show(fO [] fp).length≤60
  rw[hs];exact h.1
 |d+1,j,did,n,fp,m,nxt,l,hd,hj,hdid,h=>by
  have hw:wrap64 ((j:Int)+1)=((j+1:Nat):Int):=by rw[dO (by omega) (by omega)];rfl
  have hb:∀b:Bool,(did++[b]).length≤j+1:=fun b=>by rw[oB,aan];omega
  have hlt:did.length<140737488355328:=by omega
  by_cases c1:(cw L (j:Int)).f0=1
  ·obtain⟨q,e,hq⟩:=promise_s n fp m nxt l (cw L (j:Int)).f1.f0 (cw L (j:Int)).f1.f1 h
   by_cases c:q.2.2.2.2.2.2=true
   ·obtain⟨r,e2,hr⟩:=AX L hL d (j+1) (did++[q.2.2.2.2.2.2]) q.1 q.2.1 q.2.2.1 q.2.2.2.1 q.2.2.2.2.1 (by omega) (by omega) (hb _) (hq c)
    refine⟨r,Ev.step (fun k=>by rw[eJ.l0]) (Ev.pos (by omega) (Ev.pos (by omega) (Ev.pos (by omega) (Ev.pos c1 (Ev.bind' _ e (Ev.pos c (Ev.pos hlt ?_))))))),hr⟩;rw[hw];exact e2
   ·obtain⟨r,e2,hr⟩:=AX L hL d (j+1) (did++[q.2.2.2.2.2.2]) n fp m nxt l (by omega) (by omega) (hb _) h
    refine⟨r,Ev.step (fun k=>by rw[eJ.l0]) (Ev.pos (by omega) (Ev.pos (by omega) (Ev.pos (by omega) (Ev.pos c1 (Ev.bind' _ e (Ev.neg c (Ev.pos hlt ?_))))))),hr⟩;rw[hw];exact e2
  by_cases c2:(cw L (j:Int)).f0=2
  ·obtain⟨q,e,hq⟩:=work_s n fp m nxt l (cw L (j:Int)).f2 (cw L (j:Int)).f3 h
   by_cases c:q.2.2.2.2.2=true
   ·obtain⟨r,e2,hr⟩:=AX L hL d (j+1) (did++[q.2.2.2.2.2]) q.1 q.2.1 q.2.2.1 q.2.2.2.1 q.2.2.2.2.1 (by omega) (by omega) (hb _) (hq c)
    refine⟨r,Ev.step (fun k=>by rw[eJ.l0]) (Ev.pos (by omega) (Ev.pos (by omega) (Ev.pos (by omega) (Ev.neg c1 (Ev.pos c2 (Ev.bind' _ e (Ev.pos c (Ev.pos hlt ?_)))))))),hr⟩;rw[hw];exact e2
   ·obtain⟨r,e2,hr⟩:=AX L hL d (j+1) (did++[q.2.2.2.2.2]) n fp m nxt l (by omega) (by omega) (hb _) h
    refine⟨r,Ev.step (fun k=>by rw[eJ.l0]) (Ev.pos (by omega) (Ev.pos (by omega) (Ev.pos (by omega) (Ev.neg c1 (Ev.pos c2 (Ev.bind' _ e (Ev.neg c (Ev.pos hlt ?_)))))))),hr⟩;rw[hw];exact e2
  by_cases c3:(cw L (j:Int)).f0=3
  ·obtain⟨q,e,_,q1,q2,q3,_⟩:=recover_both n fp m nxt l l (by have:=h.1;omega) (by have:=h.2.1;omega) (by have:=h.2.2;omega) (by have:=h.2.2;omega)
   have hq:PW q.2.1 q.2.2.1 q.2.2.2.2.1:=⟨q1,q2,by rw[q3];exact pu _⟩
   by_cases c:q.2.2.2.2.2=true
   ·obtain⟨r,e2,hr⟩:=AX L hL d (j+1) (did++[q.2.2.2.2.2]) q.1 q.2.1 q.2.2.1 q.2.2.2.1 q.2.2.2.2.1 (by omega) (by omega) (hb _) hq
    refine⟨r,Ev.step (fun k=>by rw[eJ.l0]) (Ev.pos (by omega) (Ev.pos (by omega) (Ev.pos (by omega) (Ev.neg c1 (Ev.neg c2 (Ev.pos c3 (Ev.bind' _ e (Ev.pos c (Ev.pos hlt ?_))))))))),hr⟩;rw[hw];exact e2
   ·obtain⟨r,e2,hr⟩:=AX L hL d (j+1) (did++[q.2.2.2.2.2]) n fp m nxt l (by omega) (by omega) (hb _) h
    refine⟨r,Ev.step (fun k=>by rw[eJ.l0]) (Ev.pos (by omega) (Ev.pos (by omega) (Ev.pos (by omega) (Ev.neg c1 (Ev.neg c2 (Ev.pos c3 (Ev.bind' _ e (Ev.neg c (Ev.pos hlt ?_))))))))),hr⟩;rw[hw];exact e2
  ·obtain⟨r,e2,hr⟩:=AX L hL d (j+1) (did++[false]) n fp m nxt l (by omega) (by omega) (hb _) h
   refine⟨r,Ev.step (fun k=>by rw[eJ.l0]) (Ev.pos (by omega) (Ev.pos (by omega) (Ev.pos (by omega) (Ev.neg c1 (Ev.neg c2 (Ev.neg c3 (Ev.pos hlt ?_))))))),hr⟩;rw[hw];exact e2
theorem play_s(n:Int)(L:List St)(hL:L.length≤1000):∃r:WP,Ev (fun k=>eJ.f k n L) r∧PW r.2.1 r.2.2.1 r.2.2.2.2.1:=by
 have bad:∀ (a:Int) (b c:List X_) (d:Int) (e:List It),Ev (fun k=>eJ.j0 k L true a b c d e) ((0,[],[],0,[],[],false):WP):=fun a b c d e=>Ev.step (fun k=>by rw[eJ.j0]) (Ev.pos rfl (Ev.now _))
 have zb:PW ([]:List X_) [] []:=⟨pu _,pu _,pu _⟩;unfold eJ.f
 by_cases c:1≤n∧n≤400
 ·have hn:Ev (fun k=>px.f k n) ((n,[],[],1,[],true):W6):=by
   unfold px.f ip.f;refine Ev.ct _ (Gc _ _ _) (Ev.pos (decide_eq_true c) (Ev.bind' (n,[],[]) (Ev.ct [] rfl (Ev.pos (by simp) (Ev.bind' _ (xL [] (pu _)) (Ev.now _)))) (Ev.now _)))
  by_cases c2:(L.length:Int)>120
  ·exact⟨_,Ev.bind' _ hn (Ev.pos rfl (by rw[decide_eq_true c2];exact bad _ _ _ _ _)),zb⟩
  ·obtain⟨r,e,hr⟩:=AX L hL L.length 0 [] n [] [] 1 [] rfl (pu _) (pu _) zb
   refine⟨r,Ev.bind' _ hn (Ev.pos rfl ?_),hr⟩;rw[decide_eq_false c2]
   show Ev (fun k=>eJ.j0 k L false n [] [] 1 []) r
   refine Ev.step (fun k=>by rw[eJ.j0]) ?_;exact Ev.neg eI e
 ·have hn:Ev (fun k=>px.f k n) ((0,[],[],0,[],false):W6):=by
   unfold px.f;exact Ev.ct _ (Gc _ _ _) (Ev.neg (by simpa using c) (Ev.now _))
  exact⟨_,Ev.bind' _ hn (Ev.neg eI (bad _ _ _ _ _)),zb⟩
end Go.Proofs.Ytahnkgehlfdlkaa.Q
