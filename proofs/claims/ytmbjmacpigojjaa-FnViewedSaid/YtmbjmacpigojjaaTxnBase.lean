import Derived.Test.YtmbjmacpigojjaaHWrite
import Derived.Test.YtmbjmacpigojjaaG2
import Derived.Test.YtmbjmacpigojjaaG5
import Derived.Test.YtmbjmacpigojjaaG6
open List renaming length_take→fu,getD_eq_getElem?_getD→kU,length_append→uS,length_singleton→aak
namespace Go.Proofs.Ytmbjmacpigojjaa.Q
open Go.RowKit Go.Proofs.YtmbjmacpigojjaaW.PrintWords Go.Proofs.Ytmbjmacpigojjaa.G
set_option linter.unusedVariables false
set_option linter.unusedSimpArgs false
abbrev Wr:=aQ
def o6(n:Int)(w:Wr):Prop:=(0≤w.f0∧w.f0≤wrap64 (n-1))∧w.f1.size=8
instance(n:Int)(w:Wr):Decidable (o6 n w):=by unfold o6;infer_instance
def GV(n:Int)(l:List Wr)(i:Nat):Prop:=o6 n (l.getD i dl)∧∀j,j<i→(l.getD j dl).f0≠(l.getD i dl).f0
def hZ(n:Int)(l:List Wr):Prop:=(∀i,i<l.length→GV n l i)∧1≤l.length∧l.length≤8
open Classical in
noncomputable def sD(n:Int)(l:List Wr):Bool:=decide (hZ n l)
theorem ki {n:Int}{l:List Wr}:sD n l=true↔hZ n l:=by
 classical
 unfold sD;exact decide_eq_true_iff
theorem Eh {n:Int}{l:List Wr}(h:¬hZ n l):sD n l=false:=by
 classical
 unfold sD;exact decide_eq_false h
theorem rd_take(l:List Wr)(i j:Nat)(h:j<i):aM (l.take i) (j:Int)=l.getD j dl:=by
 rw[kG]
 simp[kU,h]
theorem In(x lo hi:Int):kX.f x lo hi=some (decide (lo≤x∧x≤hi)):=by
 unfold kX.f
 by_cases h:x≥lo
 ·rw[if_pos h];congr 1;simp only[decide_eq_decide];omega
 ·rw[if_neg h];congr 1;symm;simp only[decide_eq_false_iff_not];omega
theorem EP(x lo hi:Int):kW.f x lo hi=some (decide (lo≤x∧x≤hi)):=by
 unfold kW.f
 by_cases h:x≥lo
 ·rw[if_pos h];congr 1;simp only[decide_eq_decide];omega
 ·rw[if_neg h];congr 1;symm;simp only[decide_eq_false_iff_not];omega
theorem Dw(n:Int)(w:Wr):oB.f w.f0 w.f1 n=some (decide (o6 n w)):=by
 unfold oB.f;rw[In,Option.bind_some]
 by_cases h:0≤w.f0∧w.f0≤wrap64 (n-1)
 ·rw[if_pos (by simpa using h)]
  refine congrArg some ?_;rw[Bool.eq_iff_iff,beq_iff_eq,decide_eq_true_iff]
  constructor
  ·intro e;exact⟨h,by omega⟩
  ·intro e
   have:=e.2
   omega
 ·rw[if_neg (by simpa using h)]
  exact congrArg some (decide_eq_false fun e=>h e.1).symm
theorem XK(n:Int)(l:List Wr)(h:∀i,i<l.length→GV n l i):decide ((1:Int)≤(l.length:Int)∧(l.length:Int)≤8)=sD n l:=by
 rw[Bool.eq_iff_iff,ki,decide_eq_true_eq];unfold hZ
 constructor
 ·intro e;exact⟨h,by omega,by omega⟩
 ·intro e;have:=e.2;omega
theorem yp(l:List Wr)(hl:l.length≤1000000000)(n:Int):Ev (fun k=>eI.f k l n) (sD n l):=by
 have inner:∀i,i<l.length→o6 n (l.getD i dl)→(GV n l i→Ev (fun k=>eI.l0 k l n l (l.length:Int) ((i:Int)+1)) (sD n l))→∀d j,i-j=d→j≤i→(∀j',j'<j→(l.getD j' dl).f0≠(l.getD i dl).f0)→
  Ev (fun k=>eI.l1 k l n l (l.length:Int) (i:Int) (l.take i) ((l.take i).length:Int) (j:Int) (l.getD i dl).f0 (l.getD i dl).f1) (sD n l):=by
  intro i hi hw next d
  have hlt:(l.take i).length=i:=by rw[fu];omega
  induction d with
  |zero=>
   intro j hd hj hne
   have:j=i:=by omega
   subst this;refine Ev.step (fun k=>by rw[eI.l1]) ?_;rw[hlt,eD (x:=(j:Int)+1) (by omega) (by omega)];exact Ev.neg (by omega) (next ⟨hw,hne⟩)
  |succ d ih=>
   intro j hd hj hne;have ih':=ih (j+1) (by omega) (by omega);refine Ev.step (fun k=>by rw[eI.l1]) ?_;rw[hlt]at ih'⊢;rw[eD (x:=(j:Int)+1) (by omega) (by omega),rd_take l i j (by omega)];refine Ev.pos (by omega) (Ev.pos (by omega) (Ev.pos (by omega) ?_))
   by_cases e:(l.getD j dl).f0=(l.getD i dl).f0
   ·refine Ev.pos e (Ev.now' ?_)
    rw[Eh];intro h;exact(h.1 i hi).2 j (by omega) e
   ·refine Ev.neg e (ih' fun j' hj'=> ?_)
    by_cases e2:j'=j
    ·subst e2;exact e
    ·exact hne j' (by omega)
 have outer:∀d i,l.length-i=d→i≤l.length→(∀i',i'<i→GV n l i')→Ev (fun k=>eI.l0 k l n l (l.length:Int) (i:Int)) (sD n l):=by
  intro d
  induction d with
  |zero=>
   intro i hd hi hg
   have:i=l.length:=by omega
   subst this;refine Ev.step (fun k=>by rw[eI.l0]) ?_;refine Ev.neg (by omega) (Ev.eB _ (In _ _ _) (Ev.now' ?_));exact XK n l hg
  |succ d ih=>
   intro i hd hi hg
   have hil:i<l.length:=by omega
   refine Ev.step (fun k=>by rw[eI.l0]) ?_;rw[kG];refine Ev.pos (by omega) (Ev.pos (by omega) (Ev.pos (by omega) (Ev.eB _ (Dw n _) ?_)))
   by_cases hw:o6 n (l.getD i dl)
   ·refine Ev.pos (by simpa using hw) (Ev.pos (by omega) (Ev.eB _ rfl ?_))
    have:=inner i hil hw (fun hg'=>ih (i+1) (by omega) (by omega) fun i' hi'=>by
     by_cases e:i'=i
     ·subst e;exact hg'
     ·exact hg i' (by omega)) i 0 rfl (by omega) (fun j' h=>by omega)
    exact this
   ·refine Ev.neg (by simpa using hw) (Ev.now' ?_)
    rw[Eh];intro h;exact hw (h.1 i hil).1
 unfold eI.f;exact outer l.length 0 rfl (by omega) (fun i h=>by omega)
theorem indexT_ev(m:List Wr)(hm:m.length≤1000000000)(a:Int)(s:ByteArray):∃t:Int,Ev (fun k=>ia.f k m a s) t∧(0≤t↔ ∃j,j<m.length∧(m.getD j dl).f0=a):=by
 have loop:∀d i,m.length-i=d→i≤m.length→(∀j,j<i→(m.getD j dl).f0≠a)→∃t:Int,Ev (fun k=>ia.l0 k m (m.length:Int) (i:Int) a s) t∧(0≤t↔ ∃j,j<m.length∧(m.getD j dl).f0=a):=by
  intro d
  induction d with
  |zero=>
   intro i hd hi hne;refine⟨-1, ?_, ?_⟩
   ·refine Ev.step (fun k=>by rw[ia.l0]) ?_
    exact Ev.neg (by omega) (Ev.now _)
   ·constructor
    ·intro h;omega
    ·rintro⟨j,hj,e⟩;exact absurd e (hne j (by omega))
  |succ d ih=>
   intro i hd hi hne
   by_cases e:(m.getD i dl).f0=a
   ·refine⟨(i:Int), ?_, ?_⟩
    ·refine Ev.step (fun k=>by rw[ia.l0]) ?_
     rw[kG];refine Ev.pos (by omega) (Ev.pos (by omega) (Ev.pos (by omega) (Ev.eB _ rfl (Ev.pos ?_ (Ev.now _)))))
     simpa using e
    ·exact⟨fun _=>⟨i,by omega,e⟩,fun _=>by omega⟩
   ·obtain⟨t,h1,h2⟩:=ih (i+1) (by omega) (by omega) (fun j hj=>by
     by_cases e2:j=i
     ·subst e2;exact e
     ·exact hne j (by omega))
    refine⟨t, ?_,h2⟩;refine Ev.step (fun k=>by rw[ia.l0]) ?_;rw[kG,eD (x:=(i:Int)+1) (by omega) (by omega)];refine Ev.pos (by omega) (Ev.pos (by omega) (Ev.pos (by omega) (Ev.eB _ rfl (Ev.neg ?_ h1))))
    simpa using e
 unfold ia.f;exact loop m.length 0 rfl (by omega) (fun j h=>by omega)
theorem yr(l:List Wr)(hl:l.length≤1000000000)(n:Int):Ev (fun k=>fZ.f k l n) (sD n l):=by
 have outer:∀d i,l.length-i=d→i≤l.length→(∀i',i'<i→GV n l i')→Ev (fun k=>fZ.l0 k l n l (l.length:Int) (i:Int)) (sD n l):=by
  intro d
  induction d with
  |zero=>
   intro i hd hi hg
   have:i=l.length:=by omega
   subst this;refine Ev.step (fun k=>by rw[fZ.l0]) ?_;refine Ev.neg (by omega) (Ev.eB _ (EP _ _ _) (Ev.now' ?_));exact XK n l hg
  |succ d ih=>
   intro i hd hi hg
   have hil:i<l.length:=by omega
   have hlt:(l.take i).length=i:=by rw[fu];omega
   refine Ev.step (fun k=>by rw[fZ.l0]) ?_;rw[kG,eD (x:=(i:Int)+1) (by omega) (by omega)];refine Ev.pos (by omega) (Ev.pos (by omega) (Ev.pos (by omega) (Ev.eB _ (EP _ _ _) ?_)))
   by_cases hw:0≤(l.getD i dl).f0∧(l.getD i dl).f0≤wrap64 (n-1)
   ·refine Ev.pos (by simpa using hw) ?_
    by_cases h8:(l.getD i dl).f1.size=8
    ·refine Ev.pos (by omega) (Ev.pos (by omega) ?_)
     obtain⟨t,h1,h2⟩:=indexT_ev (l.take i) (by omega) (l.getD i dl).f0 (l.getD i dl).f1;rw[Int.toNat_natCast];refine Ev.bind' (decide (t≥0)) ?_ ?_
     ·unfold qD.f
      exact Ev.bind' t h1 (Ev.now _)
     ·by_cases ht:t≥0
      ·refine Ev.pos (by simpa using ht) (Ev.now' ?_)
       obtain⟨j,hj,e⟩:=h2.1 ht;rw[Eh];intro h;refine(h.1 i hil).2 j (by omega) ?_;rw[←e]
       simp[kU,show j<i by omega]
      ·refine Ev.neg (by simpa using ht) (ih (i+1) (by omega) (by omega) fun i' hi'=> ?_)
       by_cases e:i'=i
       ·subst e
        refine⟨⟨hw,h8⟩,fun j hj e=>ht (h2.2 ⟨j,by omega, ?_⟩)⟩;rw[←e]
        simp[kU,hj]
       ·exact hg i' (by omega)
    ·refine Ev.neg (by omega) (Ev.now' ?_)
     rw[Eh];intro h;exact h8 (h.1 i hil).1.2
   ·refine Ev.neg (by simpa using hw) (Ev.now' ?_)
    rw[Eh];intro h;exact hw (h.1 i hil).1.1
 unfold fZ.f;exact outer l.length 0 rfl (by omega) (fun i h=>by omega)
theorem M0(xs ys:List Int):strOfNums (xs++ys)=strOfNums xs++strOfNums ys:=by
 apply ByteArray.ext
 simp[strOfNums]
theorem Io(s:ByteArray):strOfNums (jB s)=s:=by
 apply ByteArray.ext
 simp[strOfNums,jB,Function.comp_def]
def wW(xs:List Int):Prop:=∀x∈xs,0≤x∧x<256
theorem TL(xs:List Int)(h:wW xs):jB (strOfNums xs)=xs:=by
 unfold strOfNums jB;simp only[List.toList_toArray,List.map_map]
 conv=>rhs;rw[←List.map_id xs]
 refine List.map_congr_left fun x hx=> ?_
 have:=h x hx;simp only[Function.comp_apply,UInt8.toNat_ofNat',id]
 omega
theorem allB_bytes(s:ByteArray):wW (jB s):=by
 intro x hx;unfold jB at hx;obtain⟨b,_,rfl⟩:=List.mem_map.1 hx;have:=b.toNat_lt
 omega
theorem allB_append {xs ys:List Int}(h:wW xs)(k:wW ys):wW (xs++ys):=fun x hx=>by
 rcases List.mem_append.1 hx with hx|hx
 ·exact h x hx
 ·exact k x hx
theorem TM {x:Int}{xs:List Int}(h:0≤x∧x<256)(k:wW xs):wW (x::xs):=fun y hy=>by
 rcases List.mem_cons.1 hy with rfl|hy
 ·exact h
 ·exact k y hy
def s9(w:Wr):List Int:=w.f0%256::jB w.f1
def kp(l:List Wr)(i:Nat):List Int:=((l.length:Int) %256)::(l.take i).flatMap s9
def ON(x:Int)(xs:List Int):Int:=xs.foldl (fun x b=>Go.bits .xor .u8 x b) x
def eg(l:List Wr):List Int:=kp l l.length++[ON 0 (kp l l.length)]
theorem Si(l:List Wr)(i:Nat):wW (kp l i):=by
 unfold kp
 refine TM (by omega) fun x hx=> ?_
 obtain⟨w,_,hx⟩:=List.mem_flatMap.1 hx;exact TM (by omega) (allB_bytes _) x hx
theorem Ia(l:List Wr)(i:Nat)(h:i<l.length):kp l (i+1)=kp l i++s9 (l.getD i dl):=by
 unfold kp;rw[IK l i dl h]
 simp
theorem yc(n:Int)(l:List Wr)(h:hZ n l)(i:Nat)(hi:i≤l.length):(kp l i).length=1+9*i:=by
 induction i with
 |zero=>simp[kp]
 |succ i ih=>
  rw[Ia l i (by omega),uS,ih (by omega)];have:=(h.1 i (by omega)).1.2;unfold s9;rw[List.length_cons,IJ,this]
  omega
theorem specXor_ev(s:ByteArray)(hs:s.size≤1000000000):∀d i (x:Int),s.size-i=d→i≤s.size→Ev (fun k=>ey.l1 k s x (i:Int)) (s++strOfNums [ON x ((jB s).drop i)]):=by
 intro d
 induction d with
 |zero=>
  intro i x hd hi
  have:i=s.size:=by omega
  subst this;refine Ev.step (fun k=>by rw[ey.l1]) ?_;refine Ev.neg (by omega) (Ev.eB _ rfl (Ev.pos (by rw[pS];simp only[aak];omega) (Ev.now' ?_)));rw[List.drop_eq_nil_of_le (by rw[IJ];exact Nat.le_refl _)]
  rfl
 |succ d ih=>
  intro i x hd hi;have ih':=ih (i+1) (Go.bits .xor .u8 x (bt s (i:Int))) (by omega) (by omega);refine Ev.step (fun k=>by rw[ey.l1]) ?_;rw[eD (x:=(i:Int)+1) (by omega) (by omega)];refine Ev.pos (by omega) (Ev.pos (by omega) ?_)
  have e:(jB s).drop i=bt s (i:Int)::(jB s).drop (i+1):=by
   rw[TI _ i 0 (by rw[IJ];omega),←Dz,CJ]
  rw[e];exact ih'
theorem implXor_ev(xs:List Int)(hs:xs.length≤1000000000):∀d i (x:Int),xs.length-i=d→i≤xs.length→Ev (fun k=>eH.l1 k xs x xs (xs.length:Int) (i:Int)) (strOfNums (xs++[ON x (xs.drop i)])):=by
 intro d
 induction d with
 |zero=>
  intro i x hd hi
  have:i=xs.length:=by omega
  subst this;refine Ev.step (fun k=>by rw[eH.l1]) ?_;refine Ev.neg (by omega) (Ev.pos (by omega) (Ev.now' ?_));rw[List.drop_length]
  rfl
 |succ d ih=>
  intro i x hd hi;have ih':=ih (i+1) (Go.bits .xor .u8 x (rd xs (i:Int))) (by omega) (by omega);refine Ev.step (fun k=>by rw[eH.l1]) ?_;rw[eD (x:=(i:Int)+1) (by omega) (by omega)];refine Ev.pos (by omega) (Ev.pos (by omega) (Ev.pos (by omega) ?_))
  have e:xs.drop i=rd xs (i:Int)::xs.drop (i+1):=by
   rw[TI _ i 0 (by omega),CJ]
  rw[e];exact ih'
theorem IW(n:Int)(l:List Wr)(h:hZ n l):Ev (fun k=>ey.f k l) (strOfNums (eg l)):=by
 have hl:=h.2.2
 have loop:∀d i,l.length-i=d→i≤l.length→Ev (fun k=>ey.l0 k (strOfNums (kp l i)) l (l.length:Int) (i:Int)) (strOfNums (eg l)):=by
  intro d
  induction d with
  |zero=>
   intro i hd hi
   have:i=l.length:=by omega
   subst this;have hb:=yc n l h l.length (Nat.le_refl _);refine Ev.step (fun k=>by rw[ey.l0]) ?_;refine Ev.neg (by omega) ?_;have:=specXor_ev (strOfNums (kp l l.length)) (by rw[pS];omega) _ 0 0 rfl (by omega);rw[TL _ (Si _ _),List.drop_zero,←M0]at this;exact this
  |succ d ih=>
   intro i hd hi;have ih':=ih (i+1) (by omega) (by omega);have hb:=yc n l h i (by omega);have h8:=(h.1 i (by omega)).1.2;refine Ev.step (fun k=>by rw[ey.l0]) ?_;rw[kG,eD (x:=(i:Int)+1) (by omega) (by omega)];refine Ev.pos (by omega) (Ev.pos (by omega) (Ev.pos (by omega) (Ev.eB _ rfl (Ev.pos ?_ (Ev.pos ?_ ?_)))))
   ·rw[pS,h8];simp only[aak];omega
   ·rw[ByteArray.size_append,pS,pS,h8];simp only[aak];omega
   ·rw[Ia l i (by omega),M0]at ih'
    have e:strOfNums (s9 (l.getD i dl))=strOfNums [(l.getD i dl).f0%256]++(l.getD i dl).f1:=by
     unfold s9;rw[←List.singleton_append,M0,Io]
    rw[e]at ih';exact ih'
 unfold ey.f;have:=loop l.length 0 rfl (by omega);exact this
theorem IV(n:Int)(l:List Wr)(h:hZ n l):Ev (fun k=>eH.f k l) (strOfNums (eg l)):=by
 have hl:=h.2.2
 have loop:∀d i,l.length-i=d→i≤l.length→Ev (fun k=>eH.l0 k (kp l i) l (l.length:Int) (i:Int)) (strOfNums (eg l)):=by
  intro d
  induction d with
  |zero=>
   intro i hd hi
   have:i=l.length:=by omega
   subst this;have hb:=yc n l h l.length (Nat.le_refl _);refine Ev.step (fun k=>by rw[eH.l0]) ?_;refine Ev.neg (by omega) ?_;exact implXor_ev (kp l l.length) (by omega) _ 0 0 rfl (by omega)
  |succ d ih=>
   intro i hd hi;have ih':=ih (i+1) (by omega) (by omega);have hb:=yc n l h i (by omega);have h8:=(h.1 i (by omega)).1.2;refine Ev.step (fun k=>by rw[eH.l0]) ?_;rw[kG,eD (x:=(i:Int)+1) (by omega) (by omega)];refine Ev.pos (by omega) (Ev.pos (by omega) (Ev.pos (by omega) (Ev.pos (by omega) (Ev.eB _ rfl (Ev.pos ?_ ?_)))))
   ·rw[uS,h8];simp only[aak];omega
   ·rw[Ia l i (by omega)]at ih'
    have e:kp l i++s9 (l.getD i dl)=kp l i++[(l.getD i dl).f0%256]++jB (l.getD i dl).f1:=by
     unfold s9
     simp
    rw[e]at ih';exact ih'
 unfold eH.f;exact loop l.length 0 rfl (by omega)
end Go.Proofs.Ytmbjmacpigojjaa.Q
