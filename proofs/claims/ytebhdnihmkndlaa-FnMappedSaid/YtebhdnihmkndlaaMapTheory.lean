import Derived.Test.YtebhdnihmkndlaaMapGood
import Derived.Test.YtebhdnihmkndlaaMapCells
namespace Go.Proofs.Ytebhdnihmkndlaa.Q
open Go.RowKit Go.Proofs.YtebhdnihmkndlaaW.PrintWords Go.Proofs.Ytebhdnihmkndlaa.G
set_option linter.unusedVariables false
set_option linter.unusedSimpArgs false

abbrev Pc := S27
/-- A piece in range: nothing of it overflows. -/
def InR (p : Pc) : Prop := 0 ≤ p.f0 ∧ 1 ≤ p.f1 ∧ p.f0 + p.f1 ≤ 200 ∧ 0 ≤ p.f2 ∧ p.f2 + p.f1 ≤ 400
/-- Pieces in range, in order. -/
def Ord (l : List Pc) : Prop := (∀ i, i < l.length → InR (l.getD i pz)) ∧ ∀ i, i + 1 < l.length → (l.getD i pz).f0 + (l.getD i pz).f1 ≤ (l.getD (i + 1) pz).f0
/-- .. of which none goes on with the one before. -/
def Canon (l : List Pc) : Prop := Ord l ∧ ∀ i, i + 1 < l.length → ¬ Goes (l.getD i pz) (l.getD (i + 1) pz)
theorem InR_iff (p : Pc) : InR p ↔ IsPiece p := Iff.rfl
theorem good_canon {l : List Pc} (h : ∀ i, i < l.length → Step l i) : Canon l := by
  refine ⟨⟨fun i hi => (h i hi).1, fun i hi => ?_⟩, fun i hi => ?_⟩
  · have := ((h (i + 1) hi).2.1 (by omega)).1
    simpa using this
  · have := ((h (i + 1) hi).2.1 (by omega)).2
    simpa using this
theorem ord_lt {l : List Pc} (h : Ord l) (i j : Nat) (hij : i < j) (hj : j < l.length) : (l.getD i pz).f0 + (l.getD i pz).f1 ≤ (l.getD j pz).f0 := by
  obtain ⟨d, rfl⟩ : ∃ d, j = i + 1 + d := ⟨j - i - 1, by omega⟩;clear hij
  induction d with
  | zero => exact h.2 i hj
  | succ d ih =>
    have h1 := ih (by omega);have h2 := h.2 (i + 1 + d) hj;have h3 := h.1 (i + 1 + d) (by omega);unfold InR at h3;rw [show i + 1 + (d + 1) = i + 1 + d + 1 by omega]
    omega
theorem ord_length {l : List Pc} (h : Ord l) : l.length ≤ 200 := by
  have key : ∀ i, i < l.length → (i : Int) ≤ (l.getD i pz).f0 := by
    intro i
    induction i with
    | zero => intro hi; have := h.1 0 hi; unfold InR at this; omega
    | succ i ih =>
      intro hi;have h1 := ih (by omega);have h2 := h.2 i hi;have h3 := h.1 i (by omega);unfold InR at h3
      omega
  by_cases h0 : l.length = 0
  · omega
  · have h1 := key (l.length - 1) (by omega)
    have h2 := h.1 (l.length - 1) (by omega);unfold InR at h2
    omega
/-- Where a piece lies. -/
def Holds (p : Pc) (n : Nat) : Prop := p.f0 ≤ (n : Int) ∧ (n : Int) < p.f0 + p.f1
instance (p : Pc) (n : Nat) : Decidable (Holds p n) := by unfold Holds; infer_instance
theorem cellAt_in {l : List Pc} (h : Ord l) (i : Nat) (hi : i < l.length) (n : Nat) (hn : Holds (l.getD i pz) n) : cellAt l n = ⟨true, (l.getD i pz).f2 + ((n : Int) - (l.getD i pz).f0), (l.getD i pz).f3⟩ := by
  unfold Holds at hn
  have e : l = l.take i ++ l.getD i pz :: l.drop (i + 1) := by rw [← drop_getD l i pz hi, List.take_append_drop]
  have hno' : ∀ x ∈ l.take i, (decide (x.f0 ≤ (n : Int)) && decide ((n : Int) < x.f0 + x.f1)) = false := by
    intro x hx;obtain ⟨j, hj, hjl, rfl⟩ := mem_take_getD pz hx;have := ord_lt h j i hj hi;simp only [Bool.and_eq_false_iff, decide_eq_false_iff_not]
    omega
  unfold cellAt
  generalize l.getD i pz = p at *
  rw [e, find_append _ _ _ hno']
  simp [List.find?_cons, hn.1, hn.2]
theorem cellAt_out {l : List Pc} (n : Nat) (hn : ∀ i, i < l.length → ¬ Holds (l.getD i pz) n) : cellAt l n = z55 := by
  have : l.find? (fun p => decide (p.f0 ≤ (n : Int)) && decide ((n : Int) < p.f0 + p.f1)) = none := by
    rw [List.find?_eq_none];intro x hx;obtain ⟨j, hj, rfl⟩ := List.mem_iff_getElem.1 hx;have := hn j hj;rw [getD_eq _ _ _ hj] at this;unfold Holds at this
    simpa using this
  unfold cellAt;rw [this]
theorem last_cast {α : Type} (l : List α) (h : 0 < l.length) (hb : l.length ≤ 4000000000000000000) : wrap64 ((l.length : Int) - 1) = ((l.length - 1 : Nat) : Int) := by
  rw [w64 (by omega) (by omega)]; omega
theorem continues_eq' (p : Pc) (a b c : Int) (d : Bool) (h : InR p) : impl_continues.f p.f0 p.f1 p.f2 p.f3 a b c d = some (decide (Goes p ⟨a, b, c, d⟩)) := continues_eq p ⟨a, b, c, d⟩ h
theorem mem_getD {α : Type} {l : List α} {x : α} (z : α) (h : x ∈ l) : ∃ i, i < l.length ∧ l.getD i z = x := by
  obtain ⟨i, hi, rfl⟩ := List.mem_iff_getElem.1 h;exact ⟨i, hi, getD_eq _ _ _ hi⟩
theorem cellAt_mem {l : List Pc} (h : Ord l) {p : Pc} (hp : p ∈ l) {n : Nat} (hn : Holds p n) : cellAt l n = ⟨true, p.f2 + ((n : Int) - p.f0), p.f3⟩ := by
  obtain ⟨i, hi, rfl⟩ := mem_getD pz hp;exact cellAt_in h i hi n hn
theorem cellAt_none {l : List Pc} {n : Nat} (h : ∀ p ∈ l, ¬ Holds p n) : cellAt l n = z55 := cellAt_out n fun i hi => h _ (getD_mem l i pz hi)
theorem ord_inr {l : List Pc} (h : Ord l) {p : Pc} (hp : p ∈ l) : InR p := by
  obtain ⟨i, hi, rfl⟩ := mem_getD pz hp;exact h.1 i hi
/-- Cells of two lists are the same where the lists hold the same. -/
theorem cellAt_cases {l : List Pc} (h : Ord l) (n : Nat) : (∃ p ∈ l, Holds p n ∧ cellAt l n = ⟨true, p.f2 + ((n : Int) - p.f0), p.f3⟩) ∨ ((∀ p ∈ l, ¬ Holds p n) ∧ cellAt l n = z55) := by
  by_cases hx : ∃ p ∈ l, Holds p n
  · obtain ⟨p, hp, hn⟩ := hx
    exact .inl ⟨p, hp, hn, cellAt_mem h hp hn⟩
  · have hx' : ∀ p ∈ l, ¬ Holds p n := fun p hp hn => hx ⟨p, hp, hn⟩
    exact .inr ⟨hx', cellAt_none hx'⟩
theorem getD_append_right {α : Type} (l m : List α) (i : Nat) (z : α) (h : l.length ≤ i) : (l ++ m).getD i z = m.getD (i - l.length) z := by
  rw [List.getD_eq_getElem?_getD, List.getD_eq_getElem?_getD, List.getElem?_append_right h]
theorem ord_snoc {l : List Pc} {p : Pc} (h : Ord l) (hp : InR p) (hl : 0 < l.length → (l.getD (l.length - 1) pz).f0 + (l.getD (l.length - 1) pz).f1 ≤ p.f0) : Ord (l ++ [p]) := by
  refine ⟨fun i hi => ?_, fun i hi => ?_⟩
  · rw [List.length_append, List.length_singleton] at hi
    by_cases e : i < l.length
    · rw [getD_append_left _ _ _ _ e]; exact h.1 i e
    · rw [getD_append_right _ _ _ _ (by omega), show i - l.length = 0 by omega]; exact hp
  · rw [List.length_append, List.length_singleton] at hi
    rw [getD_append_left _ _ _ _ (by omega)]
    by_cases e : i + 1 < l.length
    · rw [getD_append_left _ _ _ _ e]; exact h.2 i e
    · rw [getD_append_right _ _ _ _ (by omega), show i + 1 - l.length = 0 by omega]
      have := hl (by omega);rw [show l.length - 1 = i by omega] at this;exact this
theorem canon_snoc {l : List Pc} {p : Pc} (h : Canon l) (hp : InR p) (hl : 0 < l.length → (l.getD (l.length - 1) pz).f0 + (l.getD (l.length - 1) pz).f1 ≤ p.f0 ∧ ¬ Goes (l.getD (l.length - 1) pz) p) : Canon (l ++ [p]) := by
  refine ⟨ord_snoc h.1 hp fun h0 => (hl h0).1, fun i hi => ?_⟩;rw [List.length_append, List.length_singleton] at hi;rw [getD_append_left _ _ _ _ (by omega)]
  by_cases e : i + 1 < l.length
  · rw [getD_append_left _ _ _ _ e]; exact h.2 i e
  · rw [getD_append_right _ _ _ _ (by omega), show i + 1 - l.length = 0 by omega]
    have := (hl (by omega)).2;rw [show l.length - 1 = i by omega] at this;exact this
theorem ord_take {l : List Pc} (h : Ord l) (i : Nat) : Ord (l.take i) := by
  have hg : ∀ j, j < (l.take i).length → (l.take i).getD j pz = l.getD j pz := fun j hj => by
    rw [List.length_take] at hj
    simp [List.getD_eq_getElem?_getD, show j < i by omega]
  refine ⟨fun j hj => ?_, fun j hj => ?_⟩
  · rw [hg j hj]
    rw [List.length_take] at hj;exact h.1 j (by omega)
  · rw [hg j (by omega), hg (j + 1) hj]
    rw [List.length_take] at hj;exact h.2 j (by omega)
theorem canon_take {l : List Pc} (h : Canon l) (i : Nat) : Canon (l.take i) := by
  refine ⟨ord_take h.1 i, fun j hj => ?_⟩
  have hg : ∀ j, j < (l.take i).length → (l.take i).getD j pz = l.getD j pz := fun j hj => by
    rw [List.length_take] at hj
    simp [List.getD_eq_getElem?_getD, show j < i by omega]
  rw [hg j (by omega), hg (j + 1) hj];rw [List.length_take] at hj;exact h.2 j (by omega)
abbrev Ex := S43
abbrev ez : Ex := z43
def EHolds (e : Ex) (n : Nat) : Prop := e.f0 ≤ (n : Int) ∧ (n : Int) < e.f0 + e.f1
def InE (l : List Ex) (n : Nat) : Prop := ∃ e ∈ l, EHolds e n
def EIn (N : Int) (e : Ex) : Prop := 0 ≤ e.f0 ∧ 1 ≤ e.f1 ∧ e.f0 + e.f1 ≤ N
/-- Extents below N, in order; and so that none touches the next. -/
def EOrd (N : Int) (l : List Ex) : Prop := (∀ i, i < l.length → EIn N (l.getD i ez)) ∧ ∀ i, i + 1 < l.length → (l.getD i ez).f0 + (l.getD i ez).f1 ≤ (l.getD (i + 1) ez).f0
def ECanon (N : Int) (l : List Ex) : Prop := EOrd N l ∧ ∀ i, i + 1 < l.length → (l.getD i ez).f0 + (l.getD i ez).f1 ≠ (l.getD (i + 1) ez).f0
theorem rde_cast (l : List Ex) (i : Nat) : rd_T43 l (i : Int) = l.getD i ez := by simp [rd_T43]
theorem eord_lt {N : Int} {l : List Ex} (h : EOrd N l) (i j : Nat) (hij : i < j) (hj : j < l.length) : (l.getD i ez).f0 + (l.getD i ez).f1 ≤ (l.getD j ez).f0 := by
  obtain ⟨d, rfl⟩ : ∃ d, j = i + 1 + d := ⟨j - i - 1, by omega⟩;clear hij
  induction d with
  | zero => exact h.2 i hj
  | succ d ih =>
    have h1 := ih (by omega);have h2 := h.2 (i + 1 + d) hj;have h3 := h.1 (i + 1 + d) (by omega);unfold EIn at h3;rw [show i + 1 + (d + 1) = i + 1 + d + 1 by omega]
    omega
theorem ecanon_lt {N : Int} {l : List Ex} (h : ECanon N l) (i j : Nat) (hij : i < j) (hj : j < l.length) : (l.getD i ez).f0 + (l.getD i ez).f1 < (l.getD j ez).f0 := by
  have h1 := h.1.2 i (by omega);have h2 := h.2 i (by omega)
  by_cases e : j = i + 1
  · subst e; omega
  · have h3 := eord_lt h.1 (i + 1) j (by omega) hj
    have h4 := h.1.1 (i + 1) (by omega);unfold EIn at h4
    omega
theorem eord_length {N : Int} {l : List Ex} (h : EOrd N l) : (l.length : Int) ≤ N ∨ l.length = 0 := by
  have key : ∀ i, i < l.length → (i : Int) ≤ (l.getD i ez).f0 := by
    intro i
    induction i with
    | zero => intro hi; have := h.1 0 hi; unfold EIn at this; omega
    | succ i ih =>
      intro hi;have h1 := ih (by omega);have h2 := h.2 i hi;have h3 := h.1 i (by omega);unfold EIn at h3
      omega
  by_cases h0 : l.length = 0
  · exact .inr h0
  · have h1 := key (l.length - 1) (by omega)
    have h2 := h.1 (l.length - 1) (by omega);unfold EIn at h2
    omega
theorem eord_snoc {N : Int} {l : List Ex} {p : Ex} (h : EOrd N l) (hp : EIn N p) (hl : 0 < l.length → (l.getD (l.length - 1) ez).f0 + (l.getD (l.length - 1) ez).f1 ≤ p.f0) : EOrd N (l ++ [p]) := by
  refine ⟨fun i hi => ?_, fun i hi => ?_⟩
  · rw [List.length_append, List.length_singleton] at hi
    by_cases e : i < l.length
    · rw [getD_append_left _ _ _ _ e]; exact h.1 i e
    · rw [getD_append_right _ _ _ _ (by omega), show i - l.length = 0 by omega]; exact hp
  · rw [List.length_append, List.length_singleton] at hi
    rw [getD_append_left _ _ _ _ (by omega)]
    by_cases e : i + 1 < l.length
    · rw [getD_append_left _ _ _ _ e]; exact h.2 i e
    · rw [getD_append_right _ _ _ _ (by omega), show i + 1 - l.length = 0 by omega]
      have := hl (by omega);rw [show l.length - 1 = i by omega] at this;exact this
theorem ecanon_snoc {N : Int} {l : List Ex} {p : Ex} (h : ECanon N l) (hp : EIn N p) (hl : 0 < l.length → (l.getD (l.length - 1) ez).f0 + (l.getD (l.length - 1) ez).f1 < p.f0) : ECanon N (l ++ [p]) := by
  refine ⟨eord_snoc h.1 hp fun h0 => by have := hl h0; omega, fun i hi => ?_⟩;rw [List.length_append, List.length_singleton] at hi;rw [getD_append_left _ _ _ _ (by omega)]
  by_cases e : i + 1 < l.length
  · rw [getD_append_left _ _ _ _ e]; exact h.2 i e
  · rw [getD_append_right _ _ _ _ (by omega), show i + 1 - l.length = 0 by omega]
    have := hl (by omega);rw [show l.length - 1 = i by omega] at this
    show _ ≠ p.f0
    omega
theorem take_get {α : Type} (l : List α) (i j : Nat) (z : α) (h : j < i) : (l.take i).getD j z = l.getD j z := by
  simp [List.getD_eq_getElem?_getD, h]
theorem eord_take {N : Int} {l : List Ex} (h : EOrd N l) (i : Nat) : EOrd N (l.take i) := by
  refine ⟨fun j hj => ?_, fun j hj => ?_⟩
  · rw [List.length_take] at hj
    rw [take_get _ _ _ _ (by omega)];exact h.1 j (by omega)
  · rw [List.length_take] at hj
    rw [take_get _ _ _ _ (by omega), take_get _ _ _ _ (by omega)];exact h.2 j (by omega)
theorem ecanon_take {N : Int} {l : List Ex} (h : ECanon N l) (i : Nat) : ECanon N (l.take i) := by
  refine ⟨eord_take h.1 i, fun j hj => ?_⟩;rw [List.length_take] at hj;rw [take_get _ _ _ _ (by omega), take_get _ _ _ _ (by omega)];exact h.2 j (by omega)
theorem ecanon_nil (N : Int) : ECanon N [] := ⟨⟨by intro i hi; simp at hi, by intro i hi; simp at hi⟩, by intro i hi; simp at hi⟩
theorem inE_snoc (l : List Ex) (p : Ex) (n : Nat) : InE (l ++ [p]) n ↔ InE l n ∨ EHolds p n := by
  unfold InE
  constructor
  · rintro ⟨e, he, hn⟩
    rcases List.mem_append.1 he with he | he
    · exact .inl ⟨e, he, hn⟩
    · rw [List.mem_singleton.1 he] at hn; exact .inr hn
  · rintro (⟨e, he, hn⟩ | hn)
    · exact ⟨e, List.mem_append_left _ he, hn⟩
    · exact ⟨p, by simp, hn⟩
theorem ein_mem {N : Int} {l : List Ex} (h : EOrd N l) {e : Ex} (he : e ∈ l) : EIn N e := by
  obtain ⟨i, hi, rfl⟩ := mem_getD ez he;exact h.1 i hi
end Go.Proofs.Ytebhdnihmkndlaa.Q
