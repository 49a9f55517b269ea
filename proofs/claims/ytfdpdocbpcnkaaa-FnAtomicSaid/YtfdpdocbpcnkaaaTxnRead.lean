import Derived.Test.YtfdpdocbpcnkaaaTxnBase
import Derived.Test.YtfdpdocbpcnkaaaG2
import Derived.Test.YtfdpdocbpcnkaaaG6
namespace Go.Proofs.Ytfdpdocbpcnkaaa.Q
open Go.RowKit Go.Proofs.YtfdpdocbpcnkaaaW.PrintWords Go.Proofs.Ytfdpdocbpcnkaaa.G
set_option linter.unusedVariables false
set_option linter.unusedSimpArgs false
def Cw(s:ByteArray)(k:Nat):Wr:=⟨bt s ((1+9*k:Nat):Int),s.extract (2+9*k) (10+9*k)⟩
def kp(s:ByteArray)(n:Nat):List Wr:=(List.range n).map (Cw s)
theorem um(s:ByteArray)(n:Nat):(kp s n).length=n:=by simp[kp]
theorem S7(s:ByteArray)(n:Nat):kp s (n+1)=kp s n++[Cw s n]:=by simp[kp,List.range_succ]
theorem Ax(s:ByteArray)(i:Int):0≤bt s i∧bt s i<256:=by
 unfold bt
 split
 ·have:=(s[i.toNat]).toNat_lt
  omega
 ·omega
def iE(s:ByteArray):Nat:=(bt s 0).toNat
noncomputable def mT(s:ByteArray):List Wr×Bool:=by
 classical
 exact if 0<s.size∧s.size=2+9*iE s∧lF 32 (kp s (iE s))∧strOfNums (lX (kp s (iE s)))=s then(kp s (iE s),true)else([],false)
theorem LK {s:ByteArray}(h:0<s.size∧s.size=2+9*iE s∧lF 32 (kp s (iE s))∧strOfNums (lX (kp s (iE s)))=s):mT s=(kp s (iE s),true):=by
 classical
 unfold mT;exact if_pos h
theorem uj {s:ByteArray}(h:¬(0<s.size∧s.size=2+9*iE s∧lF 32 (kp s (iE s))∧strOfNums (lX (kp s (iE s)))=s)):mT s=([],false):=by
 classical
 unfold mT;exact if_neg h
theorem LG(n:Int)(l:List Wr)(h:lF n l):(lX l).length=2+9*l.length:=by
 unfold lX;rw[List.length_append,D4 n l h l.length (Nat.le_refl _)];simp only[List.length_singleton]
 omega
theorem bt_str(xs:List Int)(h:uY xs)(i:Nat):bt (strOfNums xs) (i:Int)=xs.getD i 0:=by
 rw[←Rb,S8 _ h,NA]
theorem EK {a b:ByteArray}(h:a.toList=b.toList):a=b:=by
 rw[ByteArray.toList_eq,ByteArray.toList_eq]at h;apply ByteArray.ext;exact Array.toList_inj.1 h
theorem a0P(n:Int)(l:List Wr)(h:lF n l):iE (strOfNums (lX l))=l.length:=by
 have h8:=h.2;have hsz:=LG n l h;unfold iE
 have e:bt (strOfNums (lX l)) 0=(l.length:Int):=by
  have h0:(0:Int).toNat<(strOfNums (lX l)).size:=by rw[xD];simp;omega
  unfold bt;rw[dif_pos h0];unfold strOfNums lX mf;simp only[List.map_cons,List.cons_append]
  show((UInt8.ofNat ((l.length:Int) %256).toNat).toNat:Int)=_
  rw[UInt8.toNat_ofNat']
  omega
 omega
theorem RZ(s:ByteArray)(hs:s.size≤1048576):Ev (fun k=>dg.f k s) (mT s):=by
 have hn:=Ax s 0;have hw0:wrap64 (bt s 0)=bt s 0:=dO (by omega) (by omega)
 have hnn:(iE s:Int)=bt s 0:=by unfold iE;omega
 have hno:s.size≠0→(s.size≠2+9*iE s)→Ev (fun k=>dg.j0 k s true) (mT s):=fun h0 h=>by
  rw[uj (fun e=>h e.2.1)];refine Ev.step (fun k=>by rw[dg.j0]) ?_;exact Ev.pos rfl (Ev.now _)
 unfold dg.f
 by_cases h0:s.size=0
 ·refine Ev.pos (by omega) ?_
  rw[uj (fun e=>by omega)];refine Ev.step (fun k=>by rw[dg.j0]) ?_;exact Ev.pos rfl (Ev.now _)
 ·refine Ev.neg (by omega) (Ev.pos (by omega) ?_)
  rw[hw0,dO (x:=bt s 0*9) (by omega) (by omega),dO (x:=2+bt s 0*9) (by omega) (by omega)]
  by_cases hsz:s.size=2+9*iE s
  ·have e:((s.size:Int) !=2+bt s 0*9)=false:=by
    rw[bne_eq_false_iff_eq]
    omega
   rw[e];refine Ev.step (fun k=>by rw[dg.j0]) ?_;refine Ev.neg (by decide) ?_
   have loop:∀d k,iE s-k=d→k≤iE s→Ev (fun q=>dg.l0 q s (kp s k) (k:Int)) (mT s):=by
    intro d
    induction d with
    |zero=>
     intro k hd hk
     have:k=iE s:=by omega
     subst this;refine Ev.step (fun k=>by rw[dg.l0]) ?_;rw[hw0];refine Ev.pos (by omega) (Ev.neg (by omega) (Ev.bind' _ (IN _ (by rw[um];omega) 32) ?_))
     by_cases ht:lF 32 (kp s (iE s))
     ·refine Ev.pos (qJ.2 ht) (Ev.bind' _ (Rk 32 _ ht) ?_)
      by_cases he:strOfNums (lX (kp s (iE s)))=s
      ·rw[LK ⟨by omega,hsz,ht,he⟩]
       exact Ev.pos (by rw[he]) (Ev.now _)
      ·rw[uj (fun e=>he e.2.2.2)]
       exact Ev.neg (fun e=>he (EK e)) (Ev.now _)
     ·rw[uj (fun e=>ht e.2.2.1)]
      exact Ev.neg (fun e=>ht (qJ.1 e)) (Ev.now _)
    |succ d ih=>
     intro k hd hk;have ih':=ih (k+1) (by omega) (by omega);rw[S7]at ih';refine Ev.step (fun k=>by rw[dg.l0]) ?_;rw[hw0,dO (x:=(k:Int)*9) (by omega) (by omega),dO (x:=1+(k:Int)*9) (by omega) (by omega),dO (x:=1+(k:Int)*9+1) (by omega) (by omega),dO (x:=1+(k:Int)*9+1+8) (by omega) (by omega),dO (x:=(k:Int)+1) (by omega) (by omega)];have hb:=Ax s (1+(k:Int)*9);rw[dO (x:=bt s (1+(k:Int)*9)) (by omega) (by omega)];refine Ev.pos (by omega) (Ev.pos (by omega) (Ev.pos (by omega) (Ev.pos (by omega) (Ev.pos (by omega) (Ev.pos (by omega) (Ev.pos (by omega) (Ev.pos (by rw[um];omega) ?_)))))))
     have e1:(⟨bt s (1+(k:Int)*9),s.extract (1+(k:Int)*9+1).toNat (1+(k:Int)*9+1+8).toNat⟩:Wr)=Cw s k:=by
      unfold Cw;rw[show((1+9*k:Nat):Int)=1+(k:Int)*9 by omega,show(1+(k:Int)*9+1).toNat=2+9*k by omega,show(1+(k:Int)*9+1+8).toNat=10+9*k by omega]
     rw[e1];exact ih'
   exact loop _ 0 rfl (by omega)
  ·have e:((s.size:Int) !=2+bt s 0*9)=true:=by
    rw[bne_iff_ne]
    omega
   rw[e];exact hno h0 hsz
theorem LH(s:ByteArray)(hs:s.size≤1048576):Ev (fun k=>eP.f k s) (mT s):=by
 have hn:=Ax s 0
 have hnn:(iE s:Int)=bt s 0:=by unfold iE;omega
 unfold eP.f
 by_cases hbig:(s.size:Int)>74
 ·refine Ev.pos hbig (Ev.now' ?_)
  rw[uj];rintro⟨_,h1,h2,_⟩;have:=h2.2.2;rw[um]at this
  omega
 ·refine Ev.neg hbig ?_
  have loop:∀d k,s.size-9*k=d→(k=0∨9*(k-1)+10<s.size)→Ev (fun q=>eP.l0 q s (kp s k) (((1+9*k:Nat)):Int)) (mT s):=by
   intro d
   induction d using Nat.strongRecOn with
   |_ d ih=>
    intro k hd hk
    by_cases hlt:10+9*k<s.size
    ·have ih':=ih (s.size-9*(k+1)) (by omega) (k+1) rfl (.inr (by omega))
     rw[S7]at ih';have hb:=Ax s ((1+9*k:Nat):Int);refine Ev.step (fun k=>by rw[eP.l0]) ?_;rw[dO (x:=((1+9*k:Nat):Int)+8) (by omega) (by omega),dO (x:=((1+9*k:Nat):Int)+8+1) (by omega) (by omega),dO (x:=((1+9*k:Nat):Int)+1) (by omega) (by omega),dO (x:=((1+9*k:Nat):Int)+1+8) (by omega) (by omega),dO (x:=((1+9*k:Nat):Int)+9) (by omega) (by omega),dO (x:=bt s ((1+9*k:Nat):Int)) (by omega) (by omega)];refine Ev.pos (by omega) (Ev.pos (by omega) (Ev.pos (by omega) (Ev.pos (by omega) (Ev.pos (by omega) (Ev.pos (by omega) (Ev.pos (by rw[um];omega) ?_))))))
     have e1:(⟨bt s ((1+9*k:Nat):Int),s.extract (((1+9*k:Nat):Int)+1).toNat (((1+9*k:Nat):Int)+1+8).toNat⟩:Wr)=Cw s k:=by
      unfold Cw;rw[show(((1+9*k:Nat):Int)+1).toNat=2+9*k by omega,show(((1+9*k:Nat):Int)+1+8).toNat=10+9*k by omega]
     rw[e1,show((1+9*k:Nat):Int)+9=((1+9*(k+1):Nat):Int) by omega];exact ih'
    ·refine Ev.step (fun k=>by rw[eP.l0]) ?_
     rw[dO (x:=((1+9*k:Nat):Int)+8) (by omega) (by omega),dO (x:=((1+9*k:Nat):Int)+8+1) (by omega) (by omega)];refine Ev.neg (by omega) (Ev.bind' _ (M7 _ (by rw[um];omega) 32) ?_)
     by_cases ht:lF 32 (kp s k)
     ·refine Ev.pos (qJ.2 ht) (Ev.bind' _ (ZL 32 _ ht) ?_)
      by_cases he:strOfNums (lX (kp s k))=s
      ·have h1:=a0P 32 _ ht
       have h2:=LG 32 _ ht;rw[he,um]at h1
       have h3:s.size=2+9*k:=by rw[←he,xD,h2,um]
       rw[LK (by rw[h1];exact⟨by omega,h3,ht,he⟩),h1];exact Ev.pos (by rw[he]) (Ev.now _)
      ·rw[uj]
       ·exact Ev.neg (fun e=>he (EK e)) (Ev.now _)
       ·rintro⟨_,h1,h2,h3⟩
        have:iE s=k:=by omega
        rw[this]at h3;exact he h3
     ·rw[uj]
      ·exact Ev.neg (fun e=>ht (qJ.1 e)) (Ev.now _)
      ·rintro⟨_,h1,h2,h3⟩
       have:iE s=k:=by omega
       rw[this]at h2;exact ht h2
  exact loop _ 0 rfl (.inl rfl)
theorem Ao(s:ByteArray):(mT s).1.length≤255:=by
 have hn:=Ax s 0
 by_cases h:0<s.size∧s.size=2+9*iE s∧lF 32 (kp s (iE s))∧strOfNums (lX (kp s (iE s)))=s
 ·rw[LK h,um]
  unfold iE
  omega
 ·rw[uj h]
  simp
end Go.Proofs.Ytfdpdocbpcnkaaa.Q
