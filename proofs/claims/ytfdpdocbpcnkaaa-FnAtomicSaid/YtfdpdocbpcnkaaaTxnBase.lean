import Derived.Test.YtfdpdocbpcnkaaaHWrite
import Derived.Test.YtfdpdocbpcnkaaaG2
import Derived.Test.YtfdpdocbpcnkaaaG6
open List renaming length_take→bx,getD_eq_getElem?_getD→qg,length_append→aac,length_singleton→aan
namespace Go.Proofs.Ytfdpdocbpcnkaaa.Q
open Go.RowKit Go.Proofs.YtfdpdocbpcnkaaaW.PrintWords Go.Proofs.Ytfdpdocbpcnkaaa.G
set_option linter.unusedVariables false
set_option linter.unusedSimpArgs false
abbrev Wr:=S64
def nw(n:Int)(w:Wr):Prop:=(0≤w.f0∧w.f0≤wrap64 (n-1))∧w.f1.size=8
instance(n:Int)(w:Wr):Decidable (nw n w):=by unfold nw;infer_instance
def G3(n:Int)(l:List Wr)(i:Nat):Prop:=nw n (l.getD i dB)∧∀j,j<i→(l.getD j dB).f0≠(l.getD i dB).f0
def lF(n:Int)(l:List Wr):Prop:=(∀i,i<l.length→G3 n l i)∧1≤l.length∧l.length≤8
open Classical in
noncomputable def sK(n:Int)(l:List Wr):Bool:=decide (lF n l)
theorem qJ {n:Int}{l:List Wr}:sK n l=true↔lF n l:=by
 classical
 unfold sK;exact decide_eq_true_iff
theorem ED {n:Int}{l:List Wr}(h:¬lF n l):sK n l=false:=by
 classical
 unfold sK;exact decide_eq_false h
theorem a2D(l:List Wr)(i j:Nat)(h:j<i):aH (l.take i) (j:Int)=l.getD j dB:=by
 rw[jV]
 simp[qg,h]
theorem Aw(x lo hi:Int):jI.f x lo hi=some (decide (lo≤x∧x≤hi)):=by
 unfold jI.f
 by_cases h:x≥lo
 ·rw[if_pos h];congr 1;simp only[decide_eq_decide];omega
 ·rw[if_neg h];congr 1;symm;simp only[decide_eq_false_iff_not];omega
theorem xC(x lo hi:Int):jH.f x lo hi=some (decide (lo≤x∧x≤hi)):=by
 unfold jH.f
 by_cases h:x≥lo
 ·rw[if_pos h];congr 1;simp only[decide_eq_decide];omega
 ·rw[if_neg h];congr 1;symm;simp only[decide_eq_false_iff_not];omega
theorem D2(n:Int)(w:Wr):n4.f w.f0 w.f1 n=some (decide (nw n w)):=by
 unfold n4.f;rw[Aw,Option.bind_some]
 by_cases h:0≤w.f0∧w.f0≤wrap64 (n-1)
 ·rw[if_pos (by simpa using h)]
  refine congrArg some ?_;rw[Bool.eq_iff_iff,beq_iff_eq,decide_eq_true_iff]
  constructor
  ·intro e;exact⟨h,by omega⟩
  ·intro e
   have:=e.2
   omega
 ·rw[if_neg (by simpa using h)]
  exact congrArg some (decide_eq_false fun e=>h e.1).symm
theorem UL(n:Int)(l:List Wr)(h:∀i,i<l.length→G3 n l i):decide ((1:Int)≤(l.length:Int)∧(l.length:Int)≤8)=sK n l:=by
 rw[Bool.eq_iff_iff,qJ,decide_eq_true_eq];unfold lF
 constructor
 ·intro e;exact⟨h,by omega,by omega⟩
 ·intro e;have:=e.2;omega
theorem IN(l:List Wr)(hl:l.length≤1000000000)(n:Int):Ev (fun k=>dh.f k l n) (sK n l):=by
 have inner:∀i,i<l.length→nw n (l.getD i dB)→(G3 n l i→Ev (fun k=>dh.l0 k l n l (l.length:Int) ((i:Int)+1)) (sK n l))→∀d j,i-j=d→j≤i→(∀j',j'<j→(l.getD j' dB).f0≠(l.getD i dB).f0)→
  Ev (fun k=>dh.l1 k l n l (l.length:Int) (i:Int) (l.take i) ((l.take i).length:Int) (j:Int) (l.getD i dB).f0 (l.getD i dB).f1) (sK n l):=by
  intro i hi hw next d
  have hlt:(l.take i).length=i:=by rw[bx];omega
  induction d with
  |zero=>
   intro j hd hj hne
   have:j=i:=by omega
   subst this;refine Ev.step (fun k=>by rw[dh.l1]) ?_;rw[hlt,dO (x:=(j:Int)+1) (by omega) (by omega)];exact Ev.neg (by omega) (next ⟨hw,hne⟩)
  |succ d ih=>
   intro j hd hj hne;have ih':=ih (j+1) (by omega) (by omega);refine Ev.step (fun k=>by rw[dh.l1]) ?_;rw[hlt]at ih'⊢;rw[dO (x:=(j:Int)+1) (by omega) (by omega),a2D l i j (by omega)];refine Ev.pos (by omega) (Ev.pos (by omega) (Ev.pos (by omega) ?_))
   by_cases e:(l.getD j dB).f0=(l.getD i dB).f0
   ·refine Ev.pos e (Ev.now' ?_)
    rw[ED];intro h;exact(h.1 i hi).2 j (by omega) e
   ·refine Ev.neg e (ih' fun j' hj'=> ?_)
    by_cases e2:j'=j
    ·subst e2;exact e
    ·exact hne j' (by omega)
 have outer:∀d i,l.length-i=d→i≤l.length→(∀i',i'<i→G3 n l i')→Ev (fun k=>dh.l0 k l n l (l.length:Int) (i:Int)) (sK n l):=by
  intro d
  induction d with
  |zero=>
   intro i hd hi hg
   have:i=l.length:=by omega
   subst this;refine Ev.step (fun k=>by rw[dh.l0]) ?_;refine Ev.neg (by omega) (Ev.cn _ (Aw _ _ _) (Ev.now' ?_));exact UL n l hg
  |succ d ih=>
   intro i hd hi hg
   have hil:i<l.length:=by omega
   refine Ev.step (fun k=>by rw[dh.l0]) ?_;rw[jV];refine Ev.pos (by omega) (Ev.pos (by omega) (Ev.pos (by omega) (Ev.cn _ (D2 n _) ?_)))
   by_cases hw:nw n (l.getD i dB)
   ·refine Ev.pos (by simpa using hw) (Ev.pos (by omega) (Ev.cn _ rfl ?_))
    have:=inner i hil hw (fun hg'=>ih (i+1) (by omega) (by omega) fun i' hi'=>by
     by_cases e:i'=i
     ·subst e;exact hg'
     ·exact hg i' (by omega)) i 0 rfl (by omega) (fun j' h=>by omega)
    exact this
   ·refine Ev.neg (by simpa using hw) (Ev.now' ?_)
    rw[ED];intro h;exact hw (h.1 i hil).1
 unfold dh.f;exact outer l.length 0 rfl (by omega) (fun i h=>by omega)
theorem Zx(m:List Wr)(hm:m.length≤1000000000)(a:Int)(s:ByteArray):∃t:Int,Ev (fun k=>hO.f k m a s) t∧(0≤t↔ ∃j,j<m.length∧(m.getD j dB).f0=a):=by
 have loop:∀d i,m.length-i=d→i≤m.length→(∀j,j<i→(m.getD j dB).f0≠a)→∃t:Int,Ev (fun k=>hO.l0 k m (m.length:Int) (i:Int) a s) t∧(0≤t↔ ∃j,j<m.length∧(m.getD j dB).f0=a):=by
  intro d
  induction d with
  |zero=>
   intro i hd hi hne;refine⟨-1, ?_, ?_⟩
   ·refine Ev.step (fun k=>by rw[hO.l0]) ?_
    exact Ev.neg (by omega) (Ev.now _)
   ·constructor
    ·intro h;omega
    ·rintro⟨j,hj,e⟩;exact absurd e (hne j (by omega))
  |succ d ih=>
   intro i hd hi hne
   by_cases e:(m.getD i dB).f0=a
   ·refine⟨(i:Int), ?_, ?_⟩
    ·refine Ev.step (fun k=>by rw[hO.l0]) ?_
     rw[jV];refine Ev.pos (by omega) (Ev.pos (by omega) (Ev.pos (by omega) (Ev.cn _ rfl (Ev.pos ?_ (Ev.now _)))))
     simpa using e
    ·exact⟨fun _=>⟨i,by omega,e⟩,fun _=>by omega⟩
   ·obtain⟨t,h1,h2⟩:=ih (i+1) (by omega) (by omega) (fun j hj=>by
     by_cases e2:j=i
     ·subst e2;exact e
     ·exact hne j (by omega))
    refine⟨t, ?_,h2⟩;refine Ev.step (fun k=>by rw[hO.l0]) ?_;rw[jV,dO (x:=(i:Int)+1) (by omega) (by omega)];refine Ev.pos (by omega) (Ev.pos (by omega) (Ev.pos (by omega) (Ev.cn _ rfl (Ev.neg ?_ h1))))
    simpa using e
 unfold hO.f;exact loop m.length 0 rfl (by omega) (fun j h=>by omega)
theorem M7(l:List Wr)(hl:l.length≤1000000000)(n:Int):Ev (fun k=>fo.f k l n) (sK n l):=by
 have outer:∀d i,l.length-i=d→i≤l.length→(∀i',i'<i→G3 n l i')→Ev (fun k=>fo.l0 k l n l (l.length:Int) (i:Int)) (sK n l):=by
  intro d
  induction d with
  |zero=>
   intro i hd hi hg
   have:i=l.length:=by omega
   subst this;refine Ev.step (fun k=>by rw[fo.l0]) ?_;refine Ev.neg (by omega) (Ev.cn _ (xC _ _ _) (Ev.now' ?_));exact UL n l hg
  |succ d ih=>
   intro i hd hi hg
   have hil:i<l.length:=by omega
   have hlt:(l.take i).length=i:=by rw[bx];omega
   refine Ev.step (fun k=>by rw[fo.l0]) ?_;rw[jV,dO (x:=(i:Int)+1) (by omega) (by omega)];refine Ev.pos (by omega) (Ev.pos (by omega) (Ev.pos (by omega) (Ev.cn _ (xC _ _ _) ?_)))
   by_cases hw:0≤(l.getD i dB).f0∧(l.getD i dB).f0≤wrap64 (n-1)
   ·refine Ev.pos (by simpa using hw) ?_
    by_cases h8:(l.getD i dB).f1.size=8
    ·refine Ev.pos (by omega) (Ev.pos (by omega) ?_)
     obtain⟨t,h1,h2⟩:=Zx (l.take i) (by omega) (l.getD i dB).f0 (l.getD i dB).f1;rw[Int.toNat_natCast];refine Ev.bind' (decide (t≥0)) ?_ ?_
     ·unfold oh.f
      exact Ev.bind' t h1 (Ev.now _)
     ·by_cases ht:t≥0
      ·refine Ev.pos (by simpa using ht) (Ev.now' ?_)
       obtain⟨j,hj,e⟩:=h2.1 ht;rw[ED];intro h;refine(h.1 i hil).2 j (by omega) ?_;rw[←e]
       simp[qg,show j<i by omega]
      ·refine Ev.neg (by simpa using ht) (ih (i+1) (by omega) (by omega) fun i' hi'=> ?_)
       by_cases e:i'=i
       ·subst e
        refine⟨⟨hw,h8⟩,fun j hj e=>ht (h2.2 ⟨j,by omega, ?_⟩)⟩;rw[←e]
        simp[qg,hj]
       ·exact hg i' (by omega)
    ·refine Ev.neg (by omega) (Ev.now' ?_)
     rw[ED];intro h;exact h8 (h.1 i hil).1.2
   ·refine Ev.neg (by simpa using hw) (Ev.now' ?_)
    rw[ED];intro h;exact hw (h.1 i hil).1.1
 unfold fo.f;exact outer l.length 0 rfl (by omega) (fun i h=>by omega)
theorem LL(xs ys:List Int):strOfNums (xs++ys)=strOfNums xs++strOfNums ys:=by
 apply ByteArray.ext
 simp[strOfNums]
theorem Zy(s:ByteArray):strOfNums (jf s)=s:=by
 apply ByteArray.ext
 simp[strOfNums,jf,Function.comp_def]
def uY(xs:List Int):Prop:=∀x∈xs,0≤x∧x<256
theorem S8(xs:List Int)(h:uY xs):jf (strOfNums xs)=xs:=by
 unfold strOfNums jf;simp only[List.toList_toArray,List.map_map]
 conv=>rhs;rw[←List.map_id xs]
 refine List.map_congr_left fun x hx=> ?_
 have:=h x hx;simp only[Function.comp_apply,UInt8.toNat_ofNat',id]
 omega
theorem ZM(s:ByteArray):uY (jf s):=by
 intro x hx;unfold jf at hx;obtain⟨b,_,rfl⟩:=List.mem_map.1 hx;have:=b.toNat_lt
 omega
theorem allB_append {xs ys:List Int}(h:uY xs)(k:uY ys):uY (xs++ys):=fun x hx=>by
 rcases List.mem_append.1 hx with hx|hx
 ·exact h x hx
 ·exact k x hx
theorem S9 {x:Int}{xs:List Int}(h:0≤x∧x<256)(k:uY xs):uY (x::xs):=fun y hy=>by
 rcases List.mem_cons.1 hy with rfl|hy
 ·exact h
 ·exact k y hy
def AS(w:Wr):List Int:=w.f0%256::jf w.f1
def mf(l:List Wr)(i:Nat):List Int:=((l.length:Int) %256)::(l.take i).flatMap AS
def NK(x:Int)(xs:List Int):Int:=xs.foldl (fun x b=>Go.bits .xor .u8 x b) x
def lX(l:List Wr):List Int:=mf l l.length++[NK 0 (mf l l.length)]
theorem ZN(l:List Wr)(i:Nat):uY (mf l i):=by
 unfold mf
 refine S9 (by omega) fun x hx=> ?_
 obtain⟨w,_,hx⟩:=List.mem_flatMap.1 hx;exact S9 (by omega) (ZM _) x hx
theorem LM(l:List Wr)(i:Nat)(h:i<l.length):mf l (i+1)=mf l i++AS (l.getD i dB):=by
 unfold mf;rw[I5 l i dB h]
 simp
theorem D4(n:Int)(l:List Wr)(h:lF n l)(i:Nat)(hi:i≤l.length):(mf l i).length=1+9*i:=by
 induction i with
 |zero=>simp[mf]
 |succ i ih=>
  rw[LM l i (by omega),aac,ih (by omega)];have:=(h.1 i (by omega)).1.2;unfold AS;rw[List.length_cons,I3,this]
  omega
theorem ZO(s:ByteArray)(hs:s.size≤1000000000):∀d i (x:Int),s.size-i=d→i≤s.size→Ev (fun k=>eI.l1 k s x (i:Int)) (s++strOfNums [NK x ((jf s).drop i)]):=by
 intro d
 induction d with
 |zero=>
  intro i x hd hi
  have:i=s.size:=by omega
  subst this;refine Ev.step (fun k=>by rw[eI.l1]) ?_;refine Ev.neg (by omega) (Ev.cn _ rfl (Ev.pos (by rw[xD];simp only[aan];omega) (Ev.now' ?_)));rw[List.drop_eq_nil_of_le (by rw[I3];exact Nat.le_refl _)]
  rfl
 |succ d ih=>
  intro i x hd hi;have ih':=ih (i+1) (Go.bits .xor .u8 x (bt s (i:Int))) (by omega) (by omega);refine Ev.step (fun k=>by rw[eI.l1]) ?_;rw[dO (x:=(i:Int)+1) (by omega) (by omega)];refine Ev.pos (by omega) (Ev.pos (by omega) ?_)
  have e:(jf s).drop i=bt s (i:Int)::(jf s).drop (i+1):=by
   rw[S3 _ i 0 (by rw[I3];omega),←Rb,NA]
  rw[e];exact ih'
theorem ZP(xs:List Int)(hs:xs.length≤1000000000):∀d i (x:Int),xs.length-i=d→i≤xs.length→Ev (fun k=>dl.l1 k xs x xs (xs.length:Int) (i:Int)) (strOfNums (xs++[NK x (xs.drop i)])):=by
 intro d
 induction d with
 |zero=>
  intro i x hd hi
  have:i=xs.length:=by omega
  subst this;refine Ev.step (fun k=>by rw[dl.l1]) ?_;refine Ev.neg (by omega) (Ev.pos (by omega) (Ev.now' ?_));rw[List.drop_length]
  rfl
 |succ d ih=>
  intro i x hd hi;have ih':=ih (i+1) (Go.bits .xor .u8 x (rd xs (i:Int))) (by omega) (by omega);refine Ev.step (fun k=>by rw[dl.l1]) ?_;rw[dO (x:=(i:Int)+1) (by omega) (by omega)];refine Ev.pos (by omega) (Ev.pos (by omega) (Ev.pos (by omega) ?_))
  have e:xs.drop i=rd xs (i:Int)::xs.drop (i+1):=by
   rw[S3 _ i 0 (by omega),NA]
  rw[e];exact ih'
theorem Rk(n:Int)(l:List Wr)(h:lF n l):Ev (fun k=>eI.f k l) (strOfNums (lX l)):=by
 have hl:=h.2.2
 have loop:∀d i,l.length-i=d→i≤l.length→Ev (fun k=>eI.l0 k (strOfNums (mf l i)) l (l.length:Int) (i:Int)) (strOfNums (lX l)):=by
  intro d
  induction d with
  |zero=>
   intro i hd hi
   have:i=l.length:=by omega
   subst this;have hb:=D4 n l h l.length (Nat.le_refl _);refine Ev.step (fun k=>by rw[eI.l0]) ?_;refine Ev.neg (by omega) ?_;have:=ZO (strOfNums (mf l l.length)) (by rw[xD];omega) _ 0 0 rfl (by omega);rw[S8 _ (ZN _ _),List.drop_zero,←LL]at this;exact this
  |succ d ih=>
   intro i hd hi;have ih':=ih (i+1) (by omega) (by omega);have hb:=D4 n l h i (by omega);have h8:=(h.1 i (by omega)).1.2;refine Ev.step (fun k=>by rw[eI.l0]) ?_;rw[jV,dO (x:=(i:Int)+1) (by omega) (by omega)];refine Ev.pos (by omega) (Ev.pos (by omega) (Ev.pos (by omega) (Ev.cn _ rfl (Ev.pos ?_ (Ev.pos ?_ ?_)))))
   ·rw[xD,h8];simp only[aan];omega
   ·rw[ByteArray.size_append,xD,xD,h8];simp only[aan];omega
   ·rw[LM l i (by omega),LL]at ih'
    have e:strOfNums (AS (l.getD i dB))=strOfNums [(l.getD i dB).f0%256]++(l.getD i dB).f1:=by
     unfold AS;rw[←List.singleton_append,LL,Zy]
    rw[e]at ih';exact ih'
 unfold eI.f;have:=loop l.length 0 rfl (by omega);exact this
theorem ZL(n:Int)(l:List Wr)(h:lF n l):Ev (fun k=>dl.f k l) (strOfNums (lX l)):=by
 have hl:=h.2.2
 have loop:∀d i,l.length-i=d→i≤l.length→Ev (fun k=>dl.l0 k (mf l i) l (l.length:Int) (i:Int)) (strOfNums (lX l)):=by
  intro d
  induction d with
  |zero=>
   intro i hd hi
   have:i=l.length:=by omega
   subst this;have hb:=D4 n l h l.length (Nat.le_refl _);refine Ev.step (fun k=>by rw[dl.l0]) ?_;refine Ev.neg (by omega) ?_;exact ZP (mf l l.length) (by omega) _ 0 0 rfl (by omega)
  |succ d ih=>
   intro i hd hi;have ih':=ih (i+1) (by omega) (by omega);have hb:=D4 n l h i (by omega);have h8:=(h.1 i (by omega)).1.2;refine Ev.step (fun k=>by rw[dl.l0]) ?_;rw[jV,dO (x:=(i:Int)+1) (by omega) (by omega)];refine Ev.pos (by omega) (Ev.pos (by omega) (Ev.pos (by omega) (Ev.pos (by omega) (Ev.cn _ rfl (Ev.pos ?_ ?_)))))
   ·rw[aac,h8];simp only[aan];omega
   ·rw[LM l i (by omega)]at ih'
    have e:mf l i++AS (l.getD i dB)=mf l i++[(l.getD i dB).f0%256]++jf (l.getD i dB).f1:=by
     unfold AS
     simp
    rw[e]at ih';exact ih'
 unfold dl.f;exact loop l.length 0 rfl (by omega)
end Go.Proofs.Ytfdpdocbpcnkaaa.Q
