import Derived.Test.YtmbjmacpigojjaaTxnBase
import Derived.Test.YtmbjmacpigojjaaG2
import Derived.Test.YtmbjmacpigojjaaG6
namespace Go.Proofs.Ytmbjmacpigojjaa.Q
open Go.RowKit Go.Proofs.YtmbjmacpigojjaaW.PrintWords Go.Proofs.Ytmbjmacpigojjaa.G
set_option linter.unusedVariables false
set_option linter.unusedSimpArgs false
def yW(s:ByteArray)(k:Nat):Wr:=⟨bt s ((1+9*k:Nat):Int),s.extract (2+9*k) (10+9*k)⟩
def je(s:ByteArray)(n:Nat):List Wr:=(List.range n).map (yW s)
theorem tR(s:ByteArray)(n:Nat):(je s n).length=n:=by simp[je]
theorem TK(s:ByteArray)(n:Nat):je s (n+1)=je s n++[yW s n]:=by simp[je,List.range_succ]
theorem C8(s:ByteArray)(i:Int):0≤bt s i∧bt s i<256:=by
 unfold bt
 split
 ·have:=(s[i.toNat]).toNat_lt
  omega
 ·omega
def iI(s:ByteArray):Nat:=(bt s 0).toNat
noncomputable def mA(s:ByteArray):List Wr×Bool:=by
 classical
 exact if 0<s.size∧s.size=2+9*iI s∧hZ 32 (je s (iI s))∧strOfNums (eg (je s (iI s)))=s then(je s (iI s),true)else([],false)
theorem IZ {s:ByteArray}(h:0<s.size∧s.size=2+9*iI s∧hZ 32 (je s (iI s))∧strOfNums (eg (je s (iI s)))=s):mA s=(je s (iI s),true):=by
 classical
 unfold mA;exact if_pos h
theorem wi {s:ByteArray}(h:¬(0<s.size∧s.size=2+9*iI s∧hZ 32 (je s (iI s))∧strOfNums (eg (je s (iI s)))=s)):mA s=([],false):=by
 classical
 unfold mA;exact if_neg h
theorem wb(n:Int)(l:List Wr)(h:hZ n l):(eg l).length=2+9*l.length:=by
 unfold eg;rw[List.length_append,yc n l h l.length (Nat.le_refl _)];simp only[List.length_singleton]
 omega
theorem bt_str(xs:List Int)(h:wW xs)(i:Nat):bt (strOfNums xs) (i:Int)=xs.getD i 0:=by
 rw[←Dz,TL _ h,CJ]
theorem CP {a b:ByteArray}(h:a.toList=b.toList):a=b:=by
 rw[ByteArray.toList_eq,ByteArray.toList_eq]at h;apply ByteArray.ext;exact Array.toList_inj.1 h
theorem Vj(n:Int)(l:List Wr)(h:hZ n l):iI (strOfNums (eg l))=l.length:=by
 have h8:=h.2;have hsz:=wb n l h;unfold iI
 have e:bt (strOfNums (eg l)) 0=(l.length:Int):=by
  have h0:(0:Int).toNat<(strOfNums (eg l)).size:=by rw[pS];simp;omega
  unfold bt;rw[dif_pos h0];unfold strOfNums eg kp;simp only[List.map_cons,List.cons_append]
  show((UInt8.ofNat ((l.length:Int) %256).toNat).toNat:Int)=_
  rw[UInt8.toNat_ofNat']
  omega
 omega
theorem Sd(s:ByteArray)(hs:s.size≤1048576):Ev (fun k=>eZ.f k s) (mA s):=by
 have hn:=C8 s 0;have hw0:wrap64 (bt s 0)=bt s 0:=eD (by omega) (by omega)
 have hnn:(iI s:Int)=bt s 0:=by unfold iI;omega
 have hno:s.size≠0→(s.size≠2+9*iI s)→Ev (fun k=>eZ.j0 k s true) (mA s):=fun h0 h=>by
  rw[wi (fun e=>h e.2.1)];refine Ev.step (fun k=>by rw[eZ.j0]) ?_;exact Ev.pos rfl (Ev.now _)
 unfold eZ.f
 by_cases h0:s.size=0
 ·refine Ev.pos (by omega) ?_
  rw[wi (fun e=>by omega)];refine Ev.step (fun k=>by rw[eZ.j0]) ?_;exact Ev.pos rfl (Ev.now _)
 ·refine Ev.neg (by omega) (Ev.pos (by omega) ?_)
  rw[hw0,eD (x:=bt s 0*9) (by omega) (by omega),eD (x:=2+bt s 0*9) (by omega) (by omega)]
  by_cases hsz:s.size=2+9*iI s
  ·have e:((s.size:Int) !=2+bt s 0*9)=false:=by
    rw[bne_eq_false_iff_eq]
    omega
   rw[e];refine Ev.step (fun k=>by rw[eZ.j0]) ?_;refine Ev.neg (by decide) ?_
   have loop:∀d k,iI s-k=d→k≤iI s→Ev (fun q=>eZ.l0 q s (je s k) (k:Int)) (mA s):=by
    intro d
    induction d with
    |zero=>
     intro k hd hk
     have:k=iI s:=by omega
     subst this;refine Ev.step (fun k=>by rw[eZ.l0]) ?_;rw[hw0];refine Ev.pos (by omega) (Ev.neg (by omega) (Ev.bind' _ (yp _ (by rw[tR];omega) 32) ?_))
     by_cases ht:hZ 32 (je s (iI s))
     ·refine Ev.pos (ki.2 ht) (Ev.bind' _ (IW 32 _ ht) ?_)
      by_cases he:strOfNums (eg (je s (iI s)))=s
      ·rw[IZ ⟨by omega,hsz,ht,he⟩]
       exact Ev.pos (by rw[he]) (Ev.now _)
      ·rw[wi (fun e=>he e.2.2.2)]
       exact Ev.neg (fun e=>he (CP e)) (Ev.now _)
     ·rw[wi (fun e=>ht e.2.2.1)]
      exact Ev.neg (fun e=>ht (ki.1 e)) (Ev.now _)
    |succ d ih=>
     intro k hd hk;have ih':=ih (k+1) (by omega) (by omega);rw[TK]at ih';refine Ev.step (fun k=>by rw[eZ.l0]) ?_;rw[hw0,eD (x:=(k:Int)*9) (by omega) (by omega),eD (x:=1+(k:Int)*9) (by omega) (by omega),eD (x:=1+(k:Int)*9+1) (by omega) (by omega),eD (x:=1+(k:Int)*9+1+8) (by omega) (by omega),eD (x:=(k:Int)+1) (by omega) (by omega)];have hb:=C8 s (1+(k:Int)*9);rw[eD (x:=bt s (1+(k:Int)*9)) (by omega) (by omega)];refine Ev.pos (by omega) (Ev.pos (by omega) (Ev.pos (by omega) (Ev.pos (by omega) (Ev.pos (by omega) (Ev.pos (by omega) (Ev.pos (by omega) (Ev.pos (by rw[tR];omega) ?_)))))))
     have e1:(⟨bt s (1+(k:Int)*9),s.extract (1+(k:Int)*9+1).toNat (1+(k:Int)*9+1+8).toNat⟩:Wr)=yW s k:=by
      unfold yW;rw[show((1+9*k:Nat):Int)=1+(k:Int)*9 by omega,show(1+(k:Int)*9+1).toNat=2+9*k by omega,show(1+(k:Int)*9+1+8).toNat=10+9*k by omega]
     rw[e1];exact ih'
   exact loop _ 0 rfl (by omega)
  ·have e:((s.size:Int) !=2+bt s 0*9)=true:=by
    rw[bne_iff_ne]
    omega
   rw[e];exact hno h0 hsz
theorem IR(s:ByteArray)(hs:s.size≤1048576):Ev (fun k=>ex.f k s) (mA s):=by
 have hn:=C8 s 0
 have hnn:(iI s:Int)=bt s 0:=by unfold iI;omega
 unfold ex.f
 by_cases hbig:(s.size:Int)>74
 ·refine Ev.pos hbig (Ev.now' ?_)
  rw[wi];rintro⟨_,h1,h2,_⟩;have:=h2.2.2;rw[tR]at this
  omega
 ·refine Ev.neg hbig ?_
  have loop:∀d k,s.size-9*k=d→(k=0∨9*(k-1)+10<s.size)→Ev (fun q=>ex.l0 q s (je s k) (((1+9*k:Nat)):Int)) (mA s):=by
   intro d
   induction d using Nat.strongRecOn with
   |_ d ih=>
    intro k hd hk
    by_cases hlt:10+9*k<s.size
    ·have ih':=ih (s.size-9*(k+1)) (by omega) (k+1) rfl (.inr (by omega))
     rw[TK]at ih';have hb:=C8 s ((1+9*k:Nat):Int);refine Ev.step (fun k=>by rw[ex.l0]) ?_;rw[eD (x:=((1+9*k:Nat):Int)+8) (by omega) (by omega),eD (x:=((1+9*k:Nat):Int)+8+1) (by omega) (by omega),eD (x:=((1+9*k:Nat):Int)+1) (by omega) (by omega),eD (x:=((1+9*k:Nat):Int)+1+8) (by omega) (by omega),eD (x:=((1+9*k:Nat):Int)+9) (by omega) (by omega),eD (x:=bt s ((1+9*k:Nat):Int)) (by omega) (by omega)];refine Ev.pos (by omega) (Ev.pos (by omega) (Ev.pos (by omega) (Ev.pos (by omega) (Ev.pos (by omega) (Ev.pos (by omega) (Ev.pos (by rw[tR];omega) ?_))))))
     have e1:(⟨bt s ((1+9*k:Nat):Int),s.extract (((1+9*k:Nat):Int)+1).toNat (((1+9*k:Nat):Int)+1+8).toNat⟩:Wr)=yW s k:=by
      unfold yW;rw[show(((1+9*k:Nat):Int)+1).toNat=2+9*k by omega,show(((1+9*k:Nat):Int)+1+8).toNat=10+9*k by omega]
     rw[e1,show((1+9*k:Nat):Int)+9=((1+9*(k+1):Nat):Int) by omega];exact ih'
    ·refine Ev.step (fun k=>by rw[ex.l0]) ?_
     rw[eD (x:=((1+9*k:Nat):Int)+8) (by omega) (by omega),eD (x:=((1+9*k:Nat):Int)+8+1) (by omega) (by omega)];refine Ev.neg (by omega) (Ev.bind' _ (yr _ (by rw[tR];omega) 32) ?_)
     by_cases ht:hZ 32 (je s k)
     ·refine Ev.pos (ki.2 ht) (Ev.bind' _ (IV 32 _ ht) ?_)
      by_cases he:strOfNums (eg (je s k))=s
      ·have h1:=Vj 32 _ ht
       have h2:=wb 32 _ ht;rw[he,tR]at h1
       have h3:s.size=2+9*k:=by rw[←he,pS,h2,tR]
       rw[IZ (by rw[h1];exact⟨by omega,h3,ht,he⟩),h1];exact Ev.pos (by rw[he]) (Ev.now _)
      ·rw[wi]
       ·exact Ev.neg (fun e=>he (CP e)) (Ev.now _)
       ·rintro⟨_,h1,h2,h3⟩
        have:iI s=k:=by omega
        rw[this]at h3;exact he h3
     ·rw[wi]
      ·exact Ev.neg (fun e=>ht (ki.1 e)) (Ev.now _)
      ·rintro⟨_,h1,h2,h3⟩
       have:iI s=k:=by omega
       rw[this]at h2;exact ht h2
  exact loop _ 0 rfl (.inl rfl)
theorem C2(s:ByteArray):(mA s).1.length≤255:=by
 have hn:=C8 s 0
 by_cases h:0<s.size∧s.size=2+9*iI s∧hZ 32 (je s (iI s))∧strOfNums (eg (je s (iI s)))=s
 ·rw[IZ h,tR]
  unfold iI
  omega
 ·rw[wi h]
  simp
end Go.Proofs.Ytmbjmacpigojjaa.Q
