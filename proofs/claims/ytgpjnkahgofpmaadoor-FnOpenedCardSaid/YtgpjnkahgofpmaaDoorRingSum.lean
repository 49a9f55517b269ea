import Derived.Test.YtgpjnkahgofpmaaDoorKit
import Derived.Lib.ItoaNum
import Derived.Test.YtgpjnkahgofpmaaDoorG2
import Derived.Test.YtgpjnkahgofpmaaDoorG4
open ByteArray renaming size_append→aaH
open Go.Lib renaming decDigits→aay
open Option renaming bind_some→zD
namespace Go.Proofs.YtgpjnkahgofpmaaDoor.Q
open Go.RowKit Go.Proofs.YtgpjnkahgofpmaaDoorW.PrintWords Go.Proofs.YtgpjnkahgofpmaaDoor.G
set_option linter.unusedVariables false
set_option linter.unusedSimpArgs false
theorem IQ(n:Nat):(Lib.decDigits n).length≤n+1:=by
 induction n using Nat.strongRecOn with
 |_ n ih=>
  rw[aay]
  by_cases h:n<10
  ·rw[dif_pos h];simp
  ·rw[dif_neg h,List.length_append,List.length_singleton]
   have:=ih (n/10) (by omega)
   omega
theorem OA(m:Nat)(h:m<10):strOfNums [wrap64 (48+(m:Int)) %256]=⟨#[UInt8.ofNat (48+m)]⟩:=by
 rw[dc (by omega) (by omega),show(48+(m:Int)) %256=((48+m:Nat):Int) by omega]
 rfl
theorem OY(n:Nat)(h:n≤1000000000):Ev (fun k=>fk.f k (n:Int)) ⟨(Lib.decDigits n).toArray⟩:=by
 induction n using Nat.strongRecOn with
 |_ n ih=>
  refine Ev.step (fun k=>by rw[fk.f]) ?_
  by_cases h10:n<10
  ·refine Ev.pos (by omega) (Ev.now' ?_)
   rw[OA n h10,aay,dif_pos h10]
  ·refine Ev.neg (by omega) ?_
   have e1:Int.tdiv (n:Int) 10=((n/10:Nat):Int):=rfl;have e2:Int.tmod (n:Int) 10=((n%10:Nat):Int):=rfl;rw[e1,e2,dc (x:=((n/10:Nat):Int)) (by omega) (by omega)];refine Ev.bind' _ (ih (n/10) (by omega) (by omega)) (Ev.bh _ rfl ?_);have hl:=IQ (n/10);rw[OA _ (Nat.mod_lt _ (by omega))];refine Ev.pos ?_ (Ev.now' ?_)
   ·show(aay (n/10)).toArray.size+1≤9223372036854775807
    rw[List.size_toArray]
    omega
   ·rw[aay.eq_def n,dif_neg h10]
    show(⟨(aay (n/10)).toArray⟩:ByteArray)++⟨#[UInt8.ofNat (48+n%10)]⟩=_
    apply ByteArray.ext
    simp
theorem Nv {β:Type}{L:Nat→Nat→Option β}{n:Nat}{r:β}(h1:Ev (fun k=>L k n) r)(h2:∀i,i<n→Ev (fun k=>L k (i+1)) r→Ev (fun k=>L k i) r):Ev (fun k=>L k 0) r:=by
 have key:∀d i,n-i=d→i≤n→Ev (fun k=>L k i) r:=by
  intro d
  induction d with
  |zero=>intro i h hi;have:i=n:=by omega
         subst this;exact h1
  |succ d ih=>intro i h hi;exact h2 i (by omega) (ih (i+1) (by omega) (by omega))
 exact key n 0 (by omega) (Nat.zero_le _)
def tp(l:List Int):Nat→Int×Int
 |0=>(1,0)
 |i+1=>(Int.tmod (wrap64 ((tp l i).1+wrap64 (rd l (i:Int)))) 251,Int.tmod (wrap64 ((tp l i).2+Int.tmod (wrap64 ((tp l i).1+wrap64 (rd l (i:Int)))) 251)) 251)
def De(l:List Int):Int:=wrap64 (wrap64 (256*(tp l l.length).2)+(tp l l.length).1)
theorem X8(l:List Int)(hl:l.length≤1000000000):Ev (fun k=>du.l0 k 1 0 l (l.length:Int) 0) (De l):=by
 refine Nv (L:=fun k i=>du.l0 k (tp l i).1 (tp l i).2 l (l.length:Int) (i:Int)) (n:=l.length) ?_ ?_
 ·refine Ev.step (fun k=>by rw[du.l0]) ?_
  exact Ev.neg (by omega) (Ev.now _)
 ·intro i hi next
  refine Ev.step (fun k=>by rw[du.l0]) ?_;rw[dc (x:=(i:Int)+1) (by omega) (by omega)];exact Ev.pos (by omega) (Ev.pos (by omega) (Ev.pos (by omega) next))
theorem X9(t:ByteArray)(hl:t.size≤1000000000):Ev (fun k=>dd.l0 k t 1 0 0) (De (gY t)):=by
 have hb:=u6 t;refine Nv (L:=fun k i=>dd.l0 k t (tp (gY t) i).1 (tp (gY t) i).2 (i:Int)) (n:=t.size) ?_ ?_
 ·refine Ev.step (fun k=>by rw[dd.l0]) ?_
  refine Ev.neg (by omega) (Ev.now' ?_);unfold De;rw[hb]
 ·intro i hi next
  refine Ev.step (fun k=>by rw[dd.l0]) ?_;rw[dc (x:=(i:Int)+1) (by omega) (by omega),←Wu];exact Ev.pos (by omega) (Ev.pos (by omega) next)
theorem Qd(n:Nat):(Lib.itoa (n:Int))=Lib.decDigits n:=by
 unfold Lib.itoa;rw[if_neg (by omega),Int.toNat_natCast]
noncomputable def fw(a b:Int)(s:ByteArray):Int:=
 if(0≤a∧a≤1000000)∧(0≤b∧b≤10000000)∧s.size≤12 then De (gY ((((⟨(aay a.toNat).toArray⟩++⟨#[46]⟩)++⟨(aay b.toNat).toArray⟩)++⟨#[46]⟩)++s))else 0
theorem ii(x lo hi:Int):eu.f x lo hi=some (decide (lo≤x∧x≤hi)):=by
 unfold eu.f
 by_cases h:x≥lo
 ·rw[if_pos h];simp[show lo≤x from h]
 ·rw[if_neg h];simp[show¬lo≤x from h]
theorem gu(x lo hi:Int):fb.f x lo hi=some (decide (lo≤x∧x≤hi)):=by
 unfold fb.f
 by_cases h:x≥lo
 ·rw[if_pos h];simp[show lo≤x from h]
 ·rw[if_neg h];simp[show¬lo≤x from h]
def kd(a b:Int)(s:ByteArray):Prop:=(0≤a∧a≤1000000)∧(0≤b∧b≤10000000)∧s.size≤12
instance(a b:Int)(s:ByteArray):Decidable (kd a b s):=by unfold kd;infer_instance
theorem u7(a b:Int)(s:ByteArray)(c:Int):lJ.f a b s c=some (decide (kd a b s)):=by
 unfold lJ.f;rw[ii,zD,ii]
 by_cases h:0≤a∧a≤1000000
 ·rw[if_pos (by simpa using h),zD]
  by_cases h2:0≤b∧b≤10000000
  ·rw[if_pos (by simpa using h2)]
   congr 1
   rw[decide_eq_decide]
   constructor
   ·intro e;exact⟨h,h2,by omega⟩
   ·intro e;have:=e.2.2;omega
  ·rw[if_neg (by simpa using h2),decide_eq_false (p:=kd a b s) (fun e=>h2 e.2.1)]
 ·rw[if_neg (by simpa using h),decide_eq_false (p:=kd a b s) (fun e=>h e.1)]
theorem wh(a b:Int)(s:ByteArray)(c:Int):ku.f a b s c=some (decide (kd a b s)):=by
 unfold ku.f;rw[gu,zD,gu]
 by_cases h:0≤a∧a≤1000000
 ·rw[if_pos (by simpa using h),zD]
  by_cases h2:0≤b∧b≤10000000
  ·rw[if_pos (by simpa using h2)]
   congr 1
   rw[decide_eq_decide]
   constructor
   ·intro e;exact⟨h,h2,by omega⟩
   ·intro e;have:=e.2.2;omega
  ·rw[if_neg (by simpa using h2),decide_eq_false (p:=kd a b s) (fun e=>h2 e.2.1)]
 ·rw[if_neg (by simpa using h),decide_eq_false (p:=kd a b s) (fun e=>h e.1)]
theorem OZ(l:List UInt8):(⟨l.toArray⟩:ByteArray).size=l.length:=rfl
theorem rt(a b:Int)(s:ByteArray)(c:Int):Ev (fun k=>dd.f k a b s c) (fw a b s)∧Ev (fun k=>du.f k a b s c) (fw a b s):=by
 unfold dd.f du.f
 by_cases h:kd a b s
 ·have e:fw a b s=De (gY ((((⟨(aay a.toNat).toArray⟩++⟨#[46]⟩)++⟨(aay b.toNat).toArray⟩)++⟨#[46]⟩)++s)):=if_pos h
  rw[e];obtain⟨ha,hb,hs⟩:=h;obtain⟨a',rfl⟩:∃a':Nat,a=(a':Int):=⟨a.toNat,by omega⟩;obtain⟨b',rfl⟩:∃b':Nat,b=(b':Int):=⟨b.toNat,by omega⟩;simp only[Int.toNat_natCast];have l1:=IQ a';have l2:=IQ b';have z1:=OZ (aay a');have z2:=OZ (aay b');have z0:(⟨#[46]⟩:ByteArray).size=1:=rfl
  have s2:((⟨(aay a').toArray⟩:ByteArray)++⟨#[46]⟩).size=(aay a').length+1:=by rw[aaH,z1,z0]
  have s3:(((⟨(aay a').toArray⟩:ByteArray)++⟨#[46]⟩)++⟨(aay b').toArray⟩).size=(aay a').length+1+(aay b').length:=by rw[aaH,s2,z2]
  have s4:((((⟨(aay a').toArray⟩:ByteArray)++⟨#[46]⟩)++⟨(aay b').toArray⟩)++⟨#[46]⟩).size=(aay a').length+1+(aay b').length+1:=by rw[aaH,s3,z0]
  have s5:(((((⟨(aay a').toArray⟩:ByteArray)++⟨#[46]⟩)++⟨(aay b').toArray⟩)++⟨#[46]⟩)++s).size=(aay a').length+1+(aay b').length+1+s.size:=by rw[aaH,s4]
  have hok:kd (a':Int) (b':Int) s:=⟨ha,hb,hs⟩
  constructor
  ·refine Ev.bh _ (u7 _ _ _ _) (Ev.pos (by simpa using hok) (Ev.bind' _ (OY a' (by omega)) (Ev.pos (by omega) (Ev.bind' _ (OY b' (by omega)) (Ev.pos (by omega) (Ev.pos (by omega) (Ev.pos (by omega) ?_)))))))
   exact X9 _ (by omega)
  ·have i1:ma.f (a':Int)=some ⟨(aay a').toArray⟩:=by
    unfold ma.f;rw[if_pos (by omega),Qd]
   have i2:ma.f (b':Int)=some ⟨(aay b').toArray⟩:=by
    unfold ma.f;rw[if_pos (by omega),Qd]
   refine Ev.bh _ (wh _ _ _ _) (Ev.pos (by simpa using hok) (Ev.bh _ i1 (Ev.pos (by omega) (Ev.bh _ i2 (Ev.pos (by omega) (Ev.pos (by omega) (Ev.pos (by omega) (Ev.pos (by omega) (Ev.bh _ rfl ?_)))))))));exact X8 _ (by rw[u6];omega)
 ·have e:fw a b s=0:=if_neg h
  rw[e];exact⟨Ev.bh _ (u7 _ _ _ _) (Ev.neg (by simpa using h) (Ev.now _)),Ev.bh _ (wh _ _ _ _) (Ev.neg (by simpa using h) (Ev.now _))⟩
theorem slotSum_both(a b:Int)(s:ByteArray)(c:Int):∃r,Ev (fun k=>dd.f k a b s c) r∧Ev (fun k=>du.f k a b s c) r:=⟨_,rt a b s c⟩
end Go.Proofs.YtgpjnkahgofpmaaDoor.Q
