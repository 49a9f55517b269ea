import Derived.Test.YthlifcbkpafofaaDoorKit
import Derived.Lib.ItoaNum
import Derived.Test.YthlifcbkpafofaaDoorG2
namespace Go.Proofs.YthlifcbkpafofaaDoor.Q
open Go.RowKit Go.Proofs.YthlifcbkpafofaaDoorW.PrintWords Go.Proofs.YthlifcbkpafofaaDoor.G
set_option linter.unusedVariables false
set_option linter.unusedSimpArgs false

theorem decDigits_len (n : Nat) : (Lib.decDigits n).length ≤ n + 1 := by
  induction n using Nat.strongRecOn with
  | _ n ih =>
    rw [Lib.decDigits]
    by_cases h : n < 10
    · rw [dif_pos h]; simp
    · rw [dif_neg h, List.length_append, List.length_singleton]
      have := ih (n / 10) (by omega)
      omega
theorem digit_str (m : Nat) (h : m < 10) : strOfNums [wrap64 (48 + (m : Int)) % 256] = ⟨#[UInt8.ofNat (48 + m)]⟩ := by
  rw [w64 (by omega) (by omega), show (48 + (m : Int)) % 256 = ((48 + m : Nat) : Int) by omega]
  rfl
/-- The reference's numeral: the decimal digits. -/
theorem l1Num_ev (n : Nat) (h : n ≤ 1000000000) : Ev (fun k => spec_l1Num.f k (n : Int)) ⟨(Lib.decDigits n).toArray⟩ := by
  induction n using Nat.strongRecOn with
  | _ n ih =>
    refine Ev.step (fun k => by rw [spec_l1Num.f]) ?_
    by_cases h10 : n < 10
    · refine Ev.pos (by omega) (Ev.now' ?_)
      rw [digit_str n h10, Lib.decDigits, dif_pos h10]
    · refine Ev.neg (by omega) ?_
      have e1 : Int.tdiv (n : Int) 10 = ((n / 10 : Nat) : Int) := rfl
      have e2 : Int.tmod (n : Int) 10 = ((n % 10 : Nat) : Int) := rfl
      rw [e1, e2, w64 (x := ((n / 10 : Nat) : Int)) (by omega) (by omega)]
      refine Ev.bind' _ (ih (n / 10) (by omega) (by omega)) (Ev.bindc _ rfl ?_)
      have hl := decDigits_len (n / 10)
      rw [digit_str _ (Nat.mod_lt _ (by omega))]
      refine Ev.pos ?_ (Ev.now' ?_)
      · show (Lib.decDigits (n / 10)).toArray.size + 1 ≤ 9223372036854775807
        rw [List.size_toArray]
        omega
      · rw [Lib.decDigits.eq_def n, dif_neg h10]
        show (⟨(Lib.decDigits (n / 10)).toArray⟩ : ByteArray) ++ ⟨#[UInt8.ofNat (48 + n % 10)]⟩ = _
        apply ByteArray.ext
        simp
/-- A loop whose rounds all pass. -/
theorem ringRounds {β : Type} {L : Nat → Nat → Option β} {n : Nat} {r : β} (h1 : Ev (fun k => L k n) r) (h2 : ∀ i, i < n → Ev (fun k => L k (i + 1)) r → Ev (fun k => L k i) r) : Ev (fun k => L k 0) r := by
  have key : ∀ d i, n - i = d → i ≤ n → Ev (fun k => L k i) r := by
    intro d
    induction d with
    | zero => intro i h hi; have : i = n := by omega
              subst this; exact h1
    | succ d ih => intro i h hi; exact h2 i (by omega) (ih (i + 1) (by omega) (by omega))
  exact key n 0 (by omega) (Nat.zero_le _)
/-- The two sums of the first i bytes. -/
def sums (l : List Int) : Nat → Int × Int
  | 0 => (1, 0)
  | i + 1 => (Int.tmod (wrap64 ((sums l i).1 + wrap64 (rd l (i : Int)))) 251, Int.tmod (wrap64 ((sums l i).2 + Int.tmod (wrap64 ((sums l i).1 + wrap64 (rd l (i : Int)))) 251)) 251)
def sumOf (l : List Int) : Int := wrap64 (wrap64 (256 * (sums l l.length).2) + (sums l l.length).1)
theorem implSum_ev (l : List Int) (hl : l.length ≤ 1000000000) : Ev (fun k => impl_SlotSum.l0 k 1 0 l (l.length : Int) 0) (sumOf l) := by
  refine ringRounds (L := fun k i => impl_SlotSum.l0 k (sums l i).1 (sums l i).2 l (l.length : Int) (i : Int)) (n := l.length) ?_ ?_
  · refine Ev.step (fun k => by rw [impl_SlotSum.l0]) ?_
    exact Ev.neg (by omega) (Ev.now _)
  · intro i hi next
    refine Ev.step (fun k => by rw [impl_SlotSum.l0]) ?_
    rw [w64 (x := (i : Int) + 1) (by omega) (by omega)]
    exact Ev.pos (by omega) (Ev.pos (by omega) (Ev.pos (by omega) next))
theorem specSum_ev (t : ByteArray) (hl : t.size ≤ 1000000000) : Ev (fun k => spec_SlotSum.l0 k t 1 0 0) (sumOf (bytesOf t)) := by
  have hb := bytesOf_length t
  refine ringRounds (L := fun k i => spec_SlotSum.l0 k t (sums (bytesOf t) i).1 (sums (bytesOf t) i).2 (i : Int)) (n := t.size) ?_ ?_
  · refine Ev.step (fun k => by rw [spec_SlotSum.l0]) ?_
    refine Ev.neg (by omega) (Ev.now' ?_)
    unfold sumOf
    rw [hb]
  · intro i hi next
    refine Ev.step (fun k => by rw [spec_SlotSum.l0]) ?_
    rw [w64 (x := (i : Int) + 1) (by omega) (by omega), ← rd_bytesOf]
    exact Ev.pos (by omega) (Ev.pos (by omega) next)
theorem itoa_ba (n : Nat) : (Lib.itoa (n : Int)) = Lib.decDigits n := by
  unfold Lib.itoa
  rw [if_neg (by omega), Int.toNat_natCast]
/-- What both answer: the sum of a slot. -/
noncomputable def slotSum (a b : Int) (s : ByteArray) : Int :=
  if (0 ≤ a ∧ a ≤ 1000000) ∧ (0 ≤ b ∧ b ≤ 10000000) ∧ s.size ≤ 12 then sumOf (bytesOf ((((⟨(Lib.decDigits a.toNat).toArray⟩ ++ ⟨#[46]⟩) ++ ⟨(Lib.decDigits b.toNat).toArray⟩) ++ ⟨#[46]⟩) ++ s)) else 0
theorem in_eq (x lo hi : Int) : spec_l1In.f x lo hi = some (decide (lo ≤ x ∧ x ≤ hi)) := by
  unfold spec_l1In.f
  by_cases h : x ≥ lo
  · rw [if_pos h]; simp [show lo ≤ x from h]
  · rw [if_neg h]; simp [show ¬ lo ≤ x from h]
theorem within_eq' (x lo hi : Int) : impl_within.f x lo hi = some (decide (lo ≤ x ∧ x ≤ hi)) := by
  unfold impl_within.f
  by_cases h : x ≥ lo
  · rw [if_pos h]; simp [show lo ≤ x from h]
  · rw [if_neg h]; simp [show ¬ lo ≤ x from h]
def SlotOk (a b : Int) (s : ByteArray) : Prop := (0 ≤ a ∧ a ≤ 1000000) ∧ (0 ≤ b ∧ b ≤ 10000000) ∧ s.size ≤ 12
instance (a b : Int) (s : ByteArray) : Decidable (SlotOk a b s) := by unfold SlotOk; infer_instance
theorem specSlot_eq (a b : Int) (s : ByteArray) (c : Int) : spec_l10Slot.f a b s c = some (decide (SlotOk a b s)) := by
  unfold spec_l10Slot.f
  rw [in_eq, Option.bind_some, in_eq]
  by_cases h : 0 ≤ a ∧ a ≤ 1000000
  · rw [if_pos (by simpa using h), Option.bind_some]
    by_cases h2 : 0 ≤ b ∧ b ≤ 10000000
    · rw [if_pos (by simpa using h2)]
      congr 1
      rw [decide_eq_decide]
      constructor
      · intro e; exact ⟨h, h2, by omega⟩
      · intro e; have := e.2.2; omega
    · rw [if_neg (by simpa using h2), decide_eq_false (p := SlotOk a b s) (fun e => h2 e.2.1)]
  · rw [if_neg (by simpa using h), decide_eq_false (p := SlotOk a b s) (fun e => h e.1)]
theorem implSlot_eq (a b : Int) (s : ByteArray) (c : Int) : impl_isInRange.f a b s c = some (decide (SlotOk a b s)) := by
  unfold impl_isInRange.f
  rw [within_eq', Option.bind_some, within_eq']
  by_cases h : 0 ≤ a ∧ a ≤ 1000000
  · rw [if_pos (by simpa using h), Option.bind_some]
    by_cases h2 : 0 ≤ b ∧ b ≤ 10000000
    · rw [if_pos (by simpa using h2)]
      congr 1
      rw [decide_eq_decide]
      constructor
      · intro e; exact ⟨h, h2, by omega⟩
      · intro e; have := e.2.2; omega
    · rw [if_neg (by simpa using h2), decide_eq_false (p := SlotOk a b s) (fun e => h2 e.2.1)]
  · rw [if_neg (by simpa using h), decide_eq_false (p := SlotOk a b s) (fun e => h e.1)]
theorem size_mk_ (l : List UInt8) : (⟨l.toArray⟩ : ByteArray).size = l.length := rfl
theorem slotSum_evs (a b : Int) (s : ByteArray) (c : Int) : Ev (fun k => spec_SlotSum.f k a b s c) (slotSum a b s) ∧ Ev (fun k => impl_SlotSum.f k a b s c) (slotSum a b s) := by
  unfold spec_SlotSum.f impl_SlotSum.f
  by_cases h : SlotOk a b s
  · have e : slotSum a b s = sumOf (bytesOf ((((⟨(Lib.decDigits a.toNat).toArray⟩ ++ ⟨#[46]⟩) ++ ⟨(Lib.decDigits b.toNat).toArray⟩) ++ ⟨#[46]⟩) ++ s)) := if_pos h
    rw [e]
    obtain ⟨ha, hb, hs⟩ := h
    obtain ⟨a', rfl⟩ : ∃ a' : Nat, a = (a' : Int) := ⟨a.toNat, by omega⟩
    obtain ⟨b', rfl⟩ : ∃ b' : Nat, b = (b' : Int) := ⟨b.toNat, by omega⟩
    simp only [Int.toNat_natCast]
    have l1 := decDigits_len a'
    have l2 := decDigits_len b'
    have z1 := size_mk_ (Lib.decDigits a')
    have z2 := size_mk_ (Lib.decDigits b')
    have z0 : (⟨#[46]⟩ : ByteArray).size = 1 := rfl
    have s2 : ((⟨(Lib.decDigits a').toArray⟩ : ByteArray) ++ ⟨#[46]⟩).size = (Lib.decDigits a').length + 1 := by rw [ByteArray.size_append, z1, z0]
    have s3 : (((⟨(Lib.decDigits a').toArray⟩ : ByteArray) ++ ⟨#[46]⟩) ++ ⟨(Lib.decDigits b').toArray⟩).size = (Lib.decDigits a').length + 1 + (Lib.decDigits b').length := by rw [ByteArray.size_append, s2, z2]
    have s4 : ((((⟨(Lib.decDigits a').toArray⟩ : ByteArray) ++ ⟨#[46]⟩) ++ ⟨(Lib.decDigits b').toArray⟩) ++ ⟨#[46]⟩).size = (Lib.decDigits a').length + 1 + (Lib.decDigits b').length + 1 := by rw [ByteArray.size_append, s3, z0]
    have s5 : (((((⟨(Lib.decDigits a').toArray⟩ : ByteArray) ++ ⟨#[46]⟩) ++ ⟨(Lib.decDigits b').toArray⟩) ++ ⟨#[46]⟩) ++ s).size = (Lib.decDigits a').length + 1 + (Lib.decDigits b').length + 1 + s.size := by rw [ByteArray.size_append, s4]
    have hok : SlotOk (a' : Int) (b' : Int) s := ⟨ha, hb, hs⟩
    constructor
    · refine Ev.bindc _ (specSlot_eq _ _ _ _) (Ev.pos (by simpa using hok) (Ev.bind' _ (l1Num_ev a' (by omega)) (Ev.pos (by omega) (Ev.bind' _ (l1Num_ev b' (by omega)) (Ev.pos (by omega) (Ev.pos (by omega) (Ev.pos (by omega) ?_)))))))
      exact specSum_ev _ (by omega)
    · have i1 : strconv_Itoa_54.f (a' : Int) = some ⟨(Lib.decDigits a').toArray⟩ := by
        unfold strconv_Itoa_54.f
        rw [if_pos (by omega), itoa_ba]
      have i2 : strconv_Itoa_54.f (b' : Int) = some ⟨(Lib.decDigits b').toArray⟩ := by
        unfold strconv_Itoa_54.f
        rw [if_pos (by omega), itoa_ba]
      refine Ev.bindc _ (implSlot_eq _ _ _ _) (Ev.pos (by simpa using hok) (Ev.bindc _ i1 (Ev.pos (by omega) (Ev.bindc _ i2 (Ev.pos (by omega) (Ev.pos (by omega) (Ev.pos (by omega) (Ev.pos (by omega) (Ev.bindc _ rfl ?_)))))))))
      exact implSum_ev _ (by rw [bytesOf_length]; omega)
  · have e : slotSum a b s = 0 := if_neg h
    rw [e]
    exact ⟨Ev.bindc _ (specSlot_eq _ _ _ _) (Ev.neg (by simpa using h) (Ev.now _)), Ev.bindc _ (implSlot_eq _ _ _ _) (Ev.neg (by simpa using h) (Ev.now _))⟩
theorem slotSum_both (a b : Int) (s : ByteArray) (c : Int) : ∃ r, Ev (fun k => spec_SlotSum.f k a b s c) r ∧ Ev (fun k => impl_SlotSum.f k a b s c) r := ⟨_, slotSum_evs a b s c⟩
end Go.Proofs.YthlifcbkpafofaaDoor.Q
