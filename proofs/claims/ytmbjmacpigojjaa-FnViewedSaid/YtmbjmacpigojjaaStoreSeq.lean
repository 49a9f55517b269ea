/- A store committed to, synced, written back, cut: good each time, and seen alike. No statement. -/
import Derived.Test.YtmbjmacpigojjaaStoreRound
import Derived.Test.YtmbjmacpigojjaaStoreOps
import Derived.Test.YtmbjmacpigojjaaStoreViewI
open List renaming getD_eq_getElem?_getD→kU,length_append→uS,length_singleton→aak
namespace Go.Proofs.Ytmbjmacpigojjaa.Q
open Go.RowKit Go.Proofs.YtmbjmacpigojjaaW.PrintWords Go.Proofs.Ytmbjmacpigojjaa.G
set_option linter.unusedVariables false
set_option linter.unusedSimpArgs false
theorem Ir(S:List ByteArray)(P Q:List Wr):dq S (P++Q)=dq (dq S P) Q:=by
 unfold dq;rw[List.foldl_append]
theorem Sh(S:List ByteArray)(W:List Wr):dq (dq S W) W=dq S W:=done_in fun w hw=>hw
theorem wrs_snoc(L:List ByteArray)(t:ByteArray):dw (L++[t])=dw L++(mA t).1:=by
 unfold dw;rw[List.flatMap_append]
 simp
theorem commitOf_yes {S:List ByteArray}{P:List Wr}{L:List ByteArray}{n:Int}{l:List Wr}(h:fd S P L n∧hZ (S.length:Int) l∧L.length≠40):kb S P L n l=(S,P,L++[strOfNums (eg l)],n,true):=by
 classical
 unfold kb;exact if_pos h
theorem commitOf_no {S:List ByteArray}{P:List Wr}{L:List ByteArray}{n:Int}{l:List Wr}(h:¬(fd S P L n∧hZ (S.length:Int) l∧L.length≠40)):kb S P L n l=([],[],[],0,false):=by
 classical
 unfold kb;exact if_neg h
theorem Vl {S:List ByteArray}{P:List Wr}{L:List ByteArray}{n:Int}{l:List Wr}(h:fd S P L n∧hZ (S.length:Int) l∧L.length≠40):mA (strOfNums (eg l))=(l,true):=by
 have:=(JX h.1).1;exact TH (S.length:Int) l h.2.1 (by omega) (by omega)
theorem commit_good {S:List ByteArray}{P:List Wr}{L:List ByteArray}{n:Int}{l:List Wr}(h:fd S P L n∧hZ (S.length:Int) l∧L.length≠40):fd S P (L++[strOfNums (eg l)]) n:=by
 have e:=Vl h;obtain⟨h1,h2,h3⟩:=h;have hn:=h1.1.2.2;have IF:=h1.1.2.1;refine⟨⟨h1.1.1, ?_,hn.1, ?_⟩,fun i hi=> ?_,fun i hi=> ?_⟩
 ·rw[uS,aak];omega
 ·rw[uS,aak];omega
 ·rw[uS,aak]at hi
  by_cases c:i<L.length
  ·rw[kU,List.getElem?_append_left c,←kU]
   exact h1.2.1 i c
  ·have e2:i=L.length:=by omega
   subst e2;rw[show(L++[strOfNums (eg l)]).getD L.length ByteArray.empty=strOfNums (eg l) by simp[kU]];unfold rl;rw[e];exact⟨rfl,h2⟩
 ·rw[List.take_append_of_le_length (by omega)]
  exact h1.2.2 i hi
theorem commit_view {S:List ByteArray}{P:List Wr}{L:List ByteArray}{n:Int}{l:List Wr}(h:fd S P L n∧hZ (S.length:Int) l∧L.length≠40):k6 S P (L++[strOfNums (eg l)])=dq (k6 S P L) l:=by
 unfold k6;rw[wrs_snoc,Vl h,Ir]
theorem sync_good {S:List ByteArray}{P:List Wr}{L:List ByteArray}{n:Int}(h:fd S P L n):fd S P L (L.length:Int):=by
 have hn:=h.1.2.2;refine⟨⟨h.1.1,h.1.2.1,by omega,Int.le_refl _⟩,h.2.1,fun i hi=> ?_⟩;exact SY (by omega) (h.2.2 i hi)
theorem back_good {S:List ByteArray}{P:List Wr}{L:List ByteArray}(h:fd S P L (L.length:Int))(hl:P.length+(dw L).length≤60):fd S (P++dw L) L (L.length:Int):=by
 refine⟨⟨JY h.1.1 (OO h.2.1) hl,h.1.2⟩,h.2.1,fun i hi=> ?_⟩;have hm:=yt (P++dw L) i dl hi
 have ht:L.take ((L.length:Nat):Int).toNat=L:=by rw[Int.toNat_natCast,List.take_length]
 rcases List.mem_append.1 hm with e|e
 ·obtain⟨j,hj,e2⟩:=yu (z:=dl)|>.1 e
  rw[←e2];exact h.2.2 j hj
 ·rw[ht];exact e
theorem back_view(S:List ByteArray)(P:List Wr)(L:List ByteArray):k6 S (P++dw L) L=k6 S P L:=by
 unfold k6;rw[Ir,Sh]
theorem flat_good {S:List ByteArray}{P:List Wr}{L:List ByteArray}{n:Int}(h:fd S P L n):fd (dq S P) [] [] 0:=by
 refine⟨⟨⟨⟨fun i hi=> ?_,fun i hi=>absurd hi (Nat.not_lt_zero _)⟩, ?_,Nat.zero_le _⟩,Nat.zero_le _,Int.le_refl _,Int.le_refl _⟩,fun i hi=>absurd hi (Nat.not_lt_zero _),fun i hi=>absurd hi (Nat.not_lt_zero _)⟩
 ·rw[mS]at hi
  refine TQ _ S h.1.1.1.1 (fun w hw=> ?_) i hi
  obtain⟨k,hk,rfl⟩:=yu (z:=dl)|>.1 hw
  exact(h.1.1.1.2 k hk).2
 ·rw[mS];exact h.1.1.2.1
end Go.Proofs.Ytmbjmacpigojjaa.Q
