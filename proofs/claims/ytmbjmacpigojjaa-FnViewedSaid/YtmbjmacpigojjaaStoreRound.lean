/- A transaction's text read back: the transaction. No statement. -/
import Derived.Test.YtmbjmacpigojjaaStoreAtom
open ByteArray renaming size_extract→abN
open List renaming getD_eq_getElem?_getD→kU
namespace Go.Proofs.Ytmbjmacpigojjaa.Q
open Go.RowKit Go.Proofs.YtmbjmacpigojjaaW.PrintWords Go.Proofs.Ytmbjmacpigojjaa.G
set_option linter.unusedVariables false
set_option linter.unusedSimpArgs false
theorem Mh(s:ByteArray):(jB s).length=s.size:=by
 have h:=pS (jB s);rw[Io]at h;exact h.symm
theorem body_at(n:Int)(l:List Wr)(h:hZ n l)(k j:Nat)(hk:k<l.length)(hj:j<9):(kp l l.length).getD (1+9*k+j) 0=(s9 (l.getD k dl)).getD j 0:=by
 have key:∀i,k<i→i≤l.length→(kp l i).getD (1+9*k+j) 0=(s9 (l.getD k dl)).getD j 0:=by
  intro i
  induction i with
  |zero=>intro h1 _;omega
  |succ i ih=>
   intro h1 h2;have hl:=yc n l h i (by omega);rw[Ia l i (by omega)]
   by_cases c:k<i
   ·rw[kU,List.getElem?_append_left (by omega),←kU]
    exact ih c (by omega)
   ·have e:k=i:=by omega
    subst e;rw[kU,List.getElem?_append_right (by omega),←kU,hl,show 1+9*k+j-(1+9*k)=j by omega]
 exact key l.length hk (Nat.le_refl _)
theorem Xb(n:Int)(l:List Wr)(h:hZ n l)(k j:Nat)(hk:k<l.length)(hj:j<9):bt (strOfNums (eg l)) ((1+9*k+j:Nat):Int)=(s9 (l.getD k dl)).getD j 0:=by
 have hl:=yc n l h l.length (Nat.le_refl _)
 have hb:∀i,i<1+9*l.length→bt (strOfNums (eg l)) (i:Int)=(kp l l.length).getD i 0:=fun i hi=>by
  have e:bt (strOfNums (eg l)) (i:Int)=bt (strOfNums (kp l l.length)) (i:Int):=by
   have s1:(strOfNums (eg l)).size=(eg l).length:=pS _;have s2:(strOfNums (kp l l.length)).size=(kp l l.length).length:=pS _;have s3:=wb n l h;unfold bt;rw[dif_pos (by omega),dif_pos (by omega)]
   congr 2
   unfold strOfNums eg;simp only[Int.toNat_natCast,List.map_append,ByteArray.getElem_eq_getElem_data];rw[List.getElem_toArray,List.getElem_toArray,List.getElem_append_left (by rw[List.length_map];omega)]
  rw[e,bt_str _ (Si l _)]
 rw[hb _ (by omega),body_at n l h k j hk hj]
theorem ba_ext {a b:ByteArray}(hs:a.size=b.size)(h:∀i,i<a.size→bt a (i:Int)=bt b (i:Int)):a=b:=by
 have e:jB a=jB b:=by
  refine N0 0 (by rw[Mh,Mh];exact hs) fun i hi=> ?_
  rw[Mh]at hi;have:=h i hi;rw[←Dz,←Dz,CJ,CJ]at this;exact this
 rw[←Io a,←Io b,e]
theorem bt_extract(s:ByteArray)(a b i:Nat)(h:a+i<b)(hb:b≤s.size):bt (s.extract a b) (i:Int)=bt s ((a+i:Nat):Int):=by
 have hz:(s.extract a b).size=b-a:=by rw[abN];omega
 unfold bt;rw[dif_pos (by omega),dif_pos (by omega)]
 congr 2
 simp only[Int.toNat_natCast];exact ByteArray.getElem_extract _
theorem ws_ttxt(n:Int)(l:List Wr)(h:hZ n l)(hn:n≤32)(h0:1≤n):je (strOfNums (eg l)) l.length=l:=by
 have s3:=wb n l h;have s1:(strOfNums (eg l)).size=(eg l).length:=pS _
 refine N0 dl (tR _ _) fun k hk=> ?_
 rw[tR]at hk;have hw:=(h.1 k hk).1;unfold o6 at hw;rw[eD (x:=n-1) (by omega) (by omega)]at hw
 have e:(je (strOfNums (eg l)) l.length).getD k dl=yW (strOfNums (eg l)) k:=by
  unfold je
  simp[kU,hk]
 rw[e];unfold yW;have e0:=Xb n l h k 0 hk (by omega)
 have f0:bt (strOfNums (eg l)) ((1+9*k:Nat):Int)=(l.getD k dl).f0:=by
  rw[Nat.add_zero]at e0;rw[e0];unfold s9
  show(l.getD k dl).f0%256=_
  omega
 have f1:(strOfNums (eg l)).extract (2+9*k) (10+9*k)=(l.getD k dl).f1:=by
  refine ba_ext (by rw[abN];omega) fun i hi=> ?_
  rw[abN]at hi;rw[bt_extract _ _ _ _ (by omega) (by omega),show 2+9*k+i=1+9*k+(i+1) by omega,Xb n l h k (i+1) hk (by omega)];unfold s9;rw[←Dz,CJ]
  rfl
 rw[f0,f1]
theorem tok_up {n m:Int}{l:List Wr}(h:hZ n l)(h0:1≤n)(hm:n≤m)(hb:m≤1000):hZ m l:=by
 refine⟨fun i hi=>⟨⟨⟨(h.1 i hi).1.1.1, ?_⟩,(h.1 i hi).1.2⟩,(h.1 i hi).2⟩,h.2⟩;have:=(h.1 i hi).1.1.2;rw[eD (x:=n-1) (by omega) (by omega)]at this;rw[eD (x:=m-1) (by omega) (by omega)]
 omega
theorem TH(n:Int)(l:List Wr)(h:hZ n l)(hn:n≤32)(h0:1≤n):mA (strOfNums (eg l))=(l,true):=by
 have s3:=wb n l h;have s1:(strOfNums (eg l)).size=(eg l).length:=pS _;have e1:=Vj n l h;have e2:=ws_ttxt n l h hn h0
 have hc:0<(strOfNums (eg l)).size∧(strOfNums (eg l)).size=2+9*iI (strOfNums (eg l))∧hZ 32 (je (strOfNums (eg l)) (iI (strOfNums (eg l))))∧strOfNums (eg (je (strOfNums (eg l)) (iI (strOfNums (eg l)))))=strOfNums (eg l):=by
  rw[e1,e2];exact⟨by omega,by omega,tok_up h h0 hn (by omega),rfl⟩
 rw[IZ hc,e1,e2]
end Go.Proofs.Ytmbjmacpigojjaa.Q
