/- Writes over writes: what is written anew covers what was. No statement. -/
import Derived.Test.YtmbjmacpigojjaaStoreSeen
open ByteArray renaming empty→JZ
open List renaming getD_eq_getElem?_getD→kU,getElem?_eq_getElem→aae,length_set→aaC,mem_cons_self→aa1,mem_cons_of_mem→aa4
namespace Go.Proofs.Ytmbjmacpigojjaa.Q
open Go.RowKit Go.Proofs.YtmbjmacpigojjaaW.PrintWords Go.Proofs.Ytmbjmacpigojjaa.G
set_option linter.unusedVariables false
set_option linter.unusedSimpArgs false
theorem ER {α:Type}(l:List α)(a i:Nat)(x z:α)(h:i<l.length):(l.set a x).getD i z=if a=i then x else l.getD i z:=by
 by_cases c:a=i
 ·subst c
  rw[if_pos rfl]
  simp[kU,h]
 ·rw[if_neg c]
  simp[kU,List.getElem?_set,c]
theorem N0 {α:Type}{a b:List α}(z:α)(hl:a.length=b.length)(h:∀i,i<a.length→a.getD i z=b.getD i z):a=b:=by
 apply List.ext_getElem hl;intro i h1 h2;have:=h i h1
 rwa [kU,kU,aae h1,aae h2]at this
theorem TR:∀ (P:List Wr) (S:List ByteArray) (i:Nat),i<S.length→(∀w,w∈P→w.f0.toNat≠i)→(dq S P).getD i JZ=S.getD i JZ
 |[],_,_,_,_=>rfl
 |w::P,S,i,hi,h=>by
  show(dq (S.set w.f0.toNat w.f1) P).getD i JZ=_
  rw[TR P _ i (by rw[aaC];exact hi) (fun v hv=>h v (aa4 _ hv)),ER _ _ _ _ _ hi,if_neg (h w (aa1 ..))]
theorem Sk:∀ (W:List Wr) (S S':List ByteArray),S.length=S'.length→(∀i,i<S.length→(∀w,w∈W→w.f0.toNat≠i)→S.getD i JZ=S'.getD i JZ)→dq S W=dq S' W
 |[],S,S',hl,h=>N0 JZ hl fun i hi=>h i hi (fun w hw=>by cases hw)
 |w::W,S,S',hl,h=>by
  show dq (S.set w.f0.toNat w.f1) W=dq (S'.set w.f0.toNat w.f1) W
  refine Sk W _ _ (by rw[aaC,aaC];exact hl) fun i hi hno=> ?_
  rw[aaC]at hi;rw[ER _ _ _ _ _ hi,ER _ _ _ _ _ (by omega)]
  by_cases c:w.f0.toNat=i
  ·rw[if_pos c,if_pos c]
  ·rw[if_neg c,if_neg c]
   refine h i hi fun v hv=> ?_
   rcases List.mem_cons.1 hv with e|e
   ·rw[e];exact c
   ·exact hno v e
theorem done_in {S:List ByteArray}{P W:List Wr}(h:∀w,w∈P→w∈W):dq (dq S P) W=dq S W:=
 Sk W _ _ (mS S P) fun i hi hno=>TR P S i (by rw[mS]at hi;exact hi) fun w hw=>hno w (h w hw)
theorem TQ:∀ (P:List Wr) (S:List ByteArray),(∀i,i<S.length→(S.getD i JZ).size=8)→(∀w,w∈P→w.f1.size=8)→∀i,i<S.length→((dq S P).getD i JZ).size=8
 |[],_,h,_,i,hi=>h i hi
 |w::P,S,h,hP,i,hi=>by
  show((dq (S.set w.f0.toNat w.f1) P).getD i JZ).size=8
  refine TQ P _ (fun j hj=> ?_) (fun v hv=>hP v (aa4 _ hv)) i (by rw[aaC];exact hi);rw[aaC]at hj;rw[ER _ _ _ _ _ hj]
  by_cases c:w.f0.toNat=j
  ·rw[if_pos c];exact hP w (aa1 ..)
  ·rw[if_neg c];exact h j hj
theorem SY {L:List ByteArray}{m n:Nat}(h:m≤n){w:Wr}(hw:w∈dw (L.take m)):w∈dw (L.take n):=by
 unfold dw at hw⊢;obtain⟨t,ht,h2⟩:=List.mem_flatMap.1 hw;refine List.mem_flatMap.2 ⟨t, ?_,h2⟩
 have e:L.take m=(L.take n).take m:=by rw[List.take_take,Nat.min_eq_left h]
 rw[e]at ht;exact List.mem_of_mem_take ht
theorem pend_in {S:List ByteArray}{P:List Wr}{L:List ByteArray}{n g:Int}(h:fd S P L n)(hg:n≤g):∀w,w∈P→w∈dw (L.take g.toNat):=fun w hw=>by
 obtain⟨i,hi,rfl⟩:=yu (z:=dl)|>.1 hw
 exact SY (by omega) (h.2.2 i hi)
end Go.Proofs.Ytmbjmacpigojjaa.Q
