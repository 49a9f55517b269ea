/- A store after a crash: good, and what recovery makes of it is what its log says. No statement. -/
import Derived.Test.YtfdpdocbpcnkaaaStoreCrash
import Derived.Test.YtfdpdocbpcnkaaaStoreRecI
open ByteArray renaming empty→bA
open List renaming length_take→bx,getD_eq_getElem?_getD→qg,getElem?_eq_getElem→aag,length_set→aaC,mem_cons_self→aaW,mem_cons_of_mem→aaZ
open Nat renaming zero_le→aaH,min_eq_left→aaL,not_lt_zero→aa3
namespace Go.Proofs.Ytfdpdocbpcnkaaa.Q
open Go.RowKit Go.Proofs.YtfdpdocbpcnkaaaW.PrintWords Go.Proofs.Ytfdpdocbpcnkaaa.G
set_option linter.unusedVariables false
set_option linter.unusedSimpArgs false
theorem IT {α:Type}(l:List α)(a i:Nat)(x z:α)(h:i<l.length):(l.set a x).getD i z=if a=i then x else l.getD i z:=by
 by_cases c:a=i
 ·subst c
  rw[if_pos rfl]
  simp[qg,h]
 ·rw[if_neg c]
  simp[qg,List.getElem?_set,c]
theorem a0Q {α:Type}{a b:List α}(z:α)(hl:a.length=b.length)(h:∀i,i<a.length→a.getD i z=b.getD i z):a=b:=by
 apply List.ext_getElem hl;intro i h1 h2;have:=h i h1
 rwa [qg,qg,aag h1,aag h2]at this
theorem SA:∀ (P:List Wr) (S:List ByteArray) (i:Nat),i<S.length→(∀w,w∈P→w.f0.toNat≠i)→(d4 S P).getD i bA=S.getD i bA
 |[],_,_,_,_=>rfl
 |w::P,S,i,hi,h=>by
  show(d4 (S.set w.f0.toNat w.f1) P).getD i bA=_
  rw[SA P _ i (by rw[aaC];exact hi) (fun v hv=>h v (aaZ _ hv)),IT _ _ _ _ _ hi,if_neg (h w (aaW ..))]
theorem Rl:∀ (W:List Wr) (S S':List ByteArray),S.length=S'.length→(∀i,i<S.length→(∀w,w∈W→w.f0.toNat≠i)→S.getD i bA=S'.getD i bA)→d4 S W=d4 S' W
 |[],S,S',hl,h=>a0Q bA hl fun i hi=>h i hi (fun w hw=>by cases hw)
 |w::W,S,S',hl,h=>by
  show d4 (S.set w.f0.toNat w.f1) W=d4 (S'.set w.f0.toNat w.f1) W
  refine Rl W _ _ (by rw[aaC,aaC];exact hl) fun i hi hno=> ?_
  rw[aaC]at hi;rw[IT _ _ _ _ _ hi,IT _ _ _ _ _ (by omega)]
  by_cases c:w.f0.toNat=i
  ·rw[if_pos c,if_pos c]
  ·rw[if_neg c,if_neg c]
   refine h i hi fun v hv=> ?_
   rcases List.mem_cons.1 hv with e|e
   ·rw[e];exact c
   ·exact hno v e
theorem UM {S:List ByteArray}{P W:List Wr}(h:∀w,w∈P→w∈W):d4 (d4 S P) W=d4 S W:=
 Rl W _ _ (ku S P) fun i hi hno=>SA P S i (by rw[ku]at hi;exact hi) fun w hw=>hno w (h w hw)
theorem IQ:∀ (P:List Wr) (S:List ByteArray),(∀i,i<S.length→(S.getD i bA).size=8)→(∀w,w∈P→w.f1.size=8)→∀i,i<S.length→((d4 S P).getD i bA).size=8
 |[],_,h,_,i,hi=>h i hi
 |w::P,S,h,hP,i,hi=>by
  show((d4 (S.set w.f0.toNat w.f1) P).getD i bA).size=8
  refine IQ P _ (fun j hj=> ?_) (fun v hv=>hP v (aaZ _ hv)) i (by rw[aaC];exact hi);rw[aaC]at hj;rw[IT _ _ _ _ _ hj]
  by_cases c:w.f0.toNat=j
  ·rw[if_pos c];exact hP w (aaW ..)
  ·rw[if_neg c];exact h j hj
theorem Z4 {L:List ByteArray}{m n:Nat}(h:m≤n){w:Wr}(hw:w∈eH (L.take m)):w∈eH (L.take n):=by
 unfold eH at hw⊢;obtain⟨t,ht,h2⟩:=List.mem_flatMap.1 hw;refine List.mem_flatMap.2 ⟨t, ?_,h2⟩
 have e:L.take m=(L.take n).take m:=by rw[List.take_take,aaL h]
 rw[e]at ht;exact List.mem_of_mem_take ht
theorem a2E {S:List ByteArray}{P:List Wr}{L:List ByteArray}{n g:Int}(h:ep S P L n)(hg:n≤g):∀w,w∈P→w∈eH (L.take g.toNat):=fun w hw=>by
 obtain⟨i,hi,rfl⟩:=Ay (z:=dB)|>.1 hw
 exact Z4 (by omega) (h.2.2 i hi)
theorem lgood_len {n m:Int}(e:n=m){t:ByteArray}(h:pe n t):pe m t:=e▸h
theorem ZF {S:List ByteArray}{P:List Wr}{L:List ByteArray}{n g:Int}{K:List Bool}(h:uW S P L n K g):ep (d4 S (jN P K P.length)) [] (L.take g.toNat) g:=by
 obtain⟨h1,h2,h3⟩:=h;have hn:=h1.1.2.2;have Hz:=h1.1.2.1
 have hlen:((L.take g.toNat).length:Int)=g:=by rw[bx];omega
 refine⟨⟨⟨⟨fun i hi=> ?_,fun i hi=>absurd hi (aa3 _)⟩, ?_,aaH _⟩, ?_,by omega,by omega⟩,fun i hi=> ?_,fun i hi=>absurd hi (aa3 _)⟩
 ·rw[ku]at hi
  refine IQ _ S h1.1.1.1.1 (fun w hw=> ?_) i hi;obtain⟨j,hj,rfl⟩:=LN hw;exact(h1.1.1.1.2 j hj).2
 ·rw[ku];exact h1.1.1.2.1
 ·rw[bx];omega
 ·rw[ku]
  exact An _ h1.2.1 i hi
theorem ZH {S:List ByteArray}{P:List Wr}{L:List ByteArray}{n:Int}(h:ep S P L n):ep (lJ S P L) [] [] 0:=by
 refine⟨⟨⟨⟨fun i hi=> ?_,fun i hi=>absurd hi (aa3 _)⟩, ?_,aaH _⟩,aaH _,Int.le_refl _,Int.le_refl _⟩,fun i hi=>absurd hi (aa3 _),fun i hi=>absurd hi (aa3 _)⟩
 ·rw[D9]at hi
  unfold lJ;refine IQ _ _ (fun j hj=> ?_) (fun w hw=>(NJ h.2.1 w hw).2) i (by rw[ku];exact hi);rw[ku]at hj;refine IQ _ S h.1.1.1.1 (fun w hw=> ?_) j hj
  obtain⟨k,hk,rfl⟩:=Ay (z:=dB)|>.1 hw
  exact(h.1.1.1.2 k hk).2
 ·rw[D9];exact h.1.1.2.1
theorem a0L {S:List ByteArray}{P:List Wr}{L:List ByteArray}{n g:Int}(h:ep S P L n)(h1:n≤g)(h2:g≤(L.length:Int)):ep S P (L.take g.toNat) n:=by
 have hn:=h.1.2.2;have Hz:=h.1.2.1
 have hlen:((L.take g.toNat).length:Int)=g:=by rw[bx];omega
 refine⟨⟨h.1.1,by omega,by omega,by omega⟩,An _ h.2.1,fun i hi=> ?_⟩;rw[List.take_take,aaL (by omega)];exact h.2.2 i hi
theorem ZG {S:List ByteArray}{P:List Wr}{L:List ByteArray}{n g:Int}{K:List Bool}(h:uW S P L n K g):lJ (d4 S (jN P K P.length)) [] (L.take g.toNat)=lJ S P (L.take g.toNat):=by
 obtain⟨h1,h2,h3⟩:=h;have hP:=a2E h1 h2.1;unfold lJ
 show d4 (d4 S (jN P K P.length)) (eH (L.take g.toNat))=_
 rw[UM (fun w hw=>hP w (by
  obtain⟨j,hj,rfl⟩:=LN hw
  exact ul P j dB hj)),UM hP]
theorem Rg(V:List ByteArray):lJ V [] []=V:=rfl
end Go.Proofs.Ytfdpdocbpcnkaaa.Q
