import Derived.Test.YtebhdnihmkndlaaKit
import Derived.Test.YtebhdnihmkndlaaG3
import Derived.Test.YtebhdnihmkndlaaG6
namespace Go.Proofs.Ytebhdnihmkndlaa.Q
open Go.RowKit Go.Proofs.YtebhdnihmkndlaaW.PrintWords Go.Proofs.Ytebhdnihmkndlaa.G
set_option linter.unusedVariables false
set_option linter.unusedSimpArgs false

/-- A piece by itself. -/
def IsPiece (p : S27) : Prop := 0 ≤ p.f0 ∧ 1 ≤ p.f1 ∧ p.f0 + p.f1 ≤ 200 ∧ 0 ≤ p.f2 ∧ p.f2 + p.f1 ≤ 400
def Goes (p q : S27) : Prop := p.f0 + p.f1 = q.f0 ∧ p.f2 + p.f1 = q.f2 ∧ p.f3 = q.f3
/-- Two pieces share no block of the device. -/
def Apart (p q : S27) : Prop := p.f2 + p.f1 ≤ q.f2 ∨ q.f2 + q.f1 ≤ p.f2
abbrev pz : S27 := z27
def Step (l : List S27) (i : Nat) : Prop :=
  IsPiece (l.getD i pz) ∧ (0 < i → (l.getD (i - 1) pz).f0 + (l.getD (i - 1) pz).f1 ≤ (l.getD i pz).f0 ∧ ¬ Goes (l.getD (i - 1) pz) (l.getD i pz)) ∧ ∀ j, j < i → Apart (l.getD j pz) (l.getD i pz)
def Good (l : List S27) : Prop := l.length ≤ 40 ∧ ∀ i, i < l.length → Step l i
noncomputable instance (l : List S27) : Decidable (Good l) := Classical.propDecidable _
noncomputable instance (p : S27) : Decidable (IsPiece p) := Classical.propDecidable _
noncomputable instance (p q : S27) : Decidable (Goes p q) := Classical.propDecidable _

theorem wrap_in (x : Int) : -9223372036854775808 ≤ wrap64 x ∧ wrap64 x ≤ 9223372036854775807 := by unfold wrap64; omega
theorem l1In_eq (n a b : Int) : spec_l1In.f n a b = some (decide (a ≤ n ∧ n ≤ b)) := by
  unfold spec_l1In.f
  by_cases h : n ≥ a
  · rw [if_pos h]; simp [show a ≤ n from h]
  · rw [if_neg h]; simp [show ¬ a ≤ n from h]
theorem within_eq (n a b : Int) : impl_within.f n a b = some (decide (a ≤ n ∧ n ≤ b)) := by
  unfold impl_within.f
  by_cases h : n ≥ a
  · rw [if_pos h]; simp [show a ≤ n from h]
  · rw [if_neg h]; simp [show ¬ a ≤ n from h]
theorem l9Piece_eq (p : S27) : spec_l9Piece.f p.f0 p.f1 p.f2 p.f3 = some (decide (IsPiece p)) := by
  unfold spec_l9Piece.f;simp only [l1In_eq, Option.bind_some, decide_eq_true_eq];unfold IsPiece
  by_cases h1 : 0 ≤ p.f0 ∧ p.f0 ≤ 200
  · rw [if_pos h1]
    by_cases h2 : 1 ≤ p.f1 ∧ p.f1 ≤ 200
    · rw [if_pos h2, w64 (by omega) (by omega), w64 (by omega) (by omega)]
      by_cases h3 : p.f0 + p.f1 ≤ 200
      · rw [if_pos h3]; congr 1; exact dec_congr (by omega)
      · rw [if_neg h3]; congr 1; exact (dec_false (by omega)).symm
    · rw [if_neg h2]; congr 1; exact (dec_false (by omega)).symm
  · rw [if_neg h1]; congr 1; exact (dec_false (by omega)).symm
theorem isPiece_eq (p : S27) : impl_isPiece.f p.f0 p.f1 p.f2 p.f3 = some (decide (IsPiece p)) := by
  unfold impl_isPiece.f;simp only [within_eq, Option.bind_some, decide_eq_true_eq];unfold IsPiece
  by_cases h1 : 0 ≤ p.f0 ∧ p.f0 ≤ 199
  · rw [if_pos h1, w64 (by omega) (by omega)]
    by_cases h2 : 1 ≤ p.f1 ∧ p.f1 ≤ 200 - p.f0
    · rw [if_pos h2, w64 (by omega) (by omega)]
      congr 1; exact dec_congr (by omega)
    · rw [if_neg h2]; congr 1; exact (dec_false (by omega)).symm
  · rw [if_neg h1]; congr 1; exact (dec_false (by omega)).symm
theorem l9Goes_eq (p q : S27) (h : IsPiece p) : spec_l9Goes.f p.f0 p.f1 p.f2 p.f3 q.f0 q.f1 q.f2 q.f3 = some (decide (Goes p q)) := by
  unfold IsPiece at h;unfold spec_l9Goes.f Goes;rw [w64 (by omega) (by omega), w64 (by omega) (by omega)]
  by_cases h1 : p.f0 + p.f1 = q.f0
  · rw [if_pos h1]
    by_cases h2 : p.f2 + p.f1 = q.f2
    · rw [if_pos h2]; congr 1; simp [h1, h2]; cases p.f3 <;> cases q.f3 <;> rfl
    · rw [if_neg h2]; simp [h2]
  · rw [if_neg h1]; simp [h1]
theorem continues_eq (p q : S27) (h : IsPiece p) : impl_continues.f p.f0 p.f1 p.f2 p.f3 q.f0 q.f1 q.f2 q.f3 = some (decide (Goes p q)) := by
  rw [← l9Goes_eq p q h]; rfl
theorem rd_cast (l : List S27) (i : Nat) : rd_T27 l (i : Int) = l.getD i pz := by simp [rd_T27]
theorem not_good {l : List S27} {i : Nat} (hi : i < l.length) (h : ¬ Step l i) : decide (Good l) = false := decide_eq_false fun g => h (g.2 i hi)

/-- The reference's GoodMap. -/
theorem spec_GoodMap_ev (l : List S27) (hl : l.length ≤ 1048576) : Ev (fun k => spec_GoodMap.f k l) (decide (Good l)) := by
  have inner : ∀ (i : Nat) (_ : i < l.length) (_ : ∀ j, j ≤ i → IsPiece (l.getD j pz)) (_ : (∀ j, j < i → Apart (l.getD j pz) (l.getD i pz)) → Ev (fun k => spec_GoodMap.l0 k l (l.length : Int) ((i + 1 : Nat) : Int) l) (decide (Good l))) (d j : Nat), i - j = d → j ≤ i → (∀ j', j' < j → Apart (l.getD j' pz) (l.getD i pz)) →
      Ev (fun k => spec_GoodMap.l1 k l (l.length : Int) (i : Int) (l.take i) ((l.take i).length : Int) (j : Int) l (l.getD i pz).f0 (l.getD i pz).f1 (l.getD i pz).f2 (l.getD i pz).f3) (decide (Good l)) := by
    intro i hi hp hnext d
    induction d with
    | zero =>
      intro j hd hj ha
      have : j = i := by omega
      subst this;refine Ev.step (fun k => by rw [spec_GoodMap.l1]) ?_;refine Ev.neg (by simp; omega) ?_;rw [w64 (by omega) (by omega)];exact hnext ha
    | succ d ih =>
      intro j hd hj ha
      have hlt : (l.take i).length = i := by rw [List.length_take]; omega
      have hr : rd_T27 (l.take i) (j : Int) = l.getD j pz := by
        rw [rd_cast]
        simp [List.getD_eq_getElem?_getD, show j < i by omega]
      refine Ev.step (fun k => by rw [spec_GoodMap.l1]) ?_;rw [hlt, hr];have hpi := hp i (Nat.le_refl _);have hpj := hp j (by omega);unfold IsPiece at hpi hpj;refine Ev.pos (by omega) (Ev.pos (by omega) (Ev.pos (by omega) ?_));rw [w64 (x := (l.getD i pz).f2 + (l.getD i pz).f1) (by omega) (by omega), w64 (x := (l.getD j pz).f2 + (l.getD j pz).f1) (by omega) (by omega), w64 (x := (j : Int) + 1) (by omega) (by omega)]
      have rest : Apart (l.getD j pz) (l.getD i pz) → Ev (fun k => spec_GoodMap.l1 k l (l.length : Int) (i : Int) (l.take i) (i : Int) ((j : Int) + 1) l (l.getD i pz).f0 (l.getD i pz).f1 (l.getD i pz).f2 (l.getD i pz).f3) (decide (Good l)) := by
        intro hap
        have := ih (j + 1) (by omega) (by omega) (fun j' hj' => by
          by_cases e : j' = j
          · subst e; exact hap
          · exact ha j' (by omega))
        rw [hlt] at this;exact this
      refine Ev.ite (fun h1 => ?_) (fun h1 => ?_)
      · refine Ev.ite (fun h2 => ?_) (fun h2 => ?_)
        · refine Ev.now' (not_good hi ?_).symm
          rintro ⟨_, _, h3⟩;have := h3 j (by omega);unfold Apart at this
          omega
        · exact rest (by unfold Apart; omega)
      · exact rest (by unfold Apart; omega)
  have loop : ∀ d i, l.length - i = d → i ≤ l.length → (∀ j, j < i → Step l j) → Ev (fun k => spec_GoodMap.l0 k l (l.length : Int) (i : Int) l) (decide (Good l)) := by
    intro d
    induction d with
    | zero =>
      intro i hd hi hs
      have : i = l.length := by omega
      subst this;refine Ev.step (fun k => by rw [spec_GoodMap.l0]) ?_;refine Ev.neg (by omega) (Ev.now' (decide_eq_decide.2 ?_));unfold Good;exact ⟨fun h => ⟨by omega, hs⟩, fun h => by have := h.1; omega⟩
    | succ d ih =>
      intro i hd hi hs;refine Ev.step (fun k => by rw [spec_GoodMap.l0]) ?_;rw [rd_cast];refine Ev.pos (by omega) (Ev.pos (by omega) (Ev.pos (by omega) (Ev.bindc _ (l9Piece_eq _) ?_)))
      by_cases hp : IsPiece (l.getD i pz)
      · refine Ev.pos (by simpa using hp) ?_
        have hall : ∀ j, j ≤ i → IsPiece (l.getD j pz) := fun j hj => by
          by_cases e : j = i
          · subst e; exact hp
          · exact (hs j (by omega)).1
        have join : ∀ b : Bool, b = decide (0 < i ∧ ((l.getD i pz).f0 < (l.getD (i - 1) pz).f0 + (l.getD (i - 1) pz).f1 ∨ Goes (l.getD (i - 1) pz) (l.getD i pz))) →
            Ev (fun k => spec_GoodMap.j1 k (i : Int) l (l.length : Int) (i : Int) b l (l.getD i pz).f0 (l.getD i pz).f1 (l.getD i pz).f2 (l.getD i pz).f3) (decide (Good l)) := by
          intro b hb;refine Ev.step (fun k => by rw [spec_GoodMap.j1]) ?_
          by_cases hbad : 0 < i ∧ ((l.getD i pz).f0 < (l.getD (i - 1) pz).f0 + (l.getD (i - 1) pz).f1 ∨ Goes (l.getD (i - 1) pz) (l.getD i pz))
          · rw [hb]
            refine Ev.pos (by simpa using hbad) (Ev.now' (not_good (l := l) (i := i) (by omega) ?_).symm);rintro ⟨_, h2, _⟩;obtain ⟨h3, h4⟩ := h2 hbad.1
            rcases hbad.2 with h5 | h5
            · omega
            · exact h4 h5
          · rw [hb]
            refine Ev.neg (by simpa using hbad) ?_;refine Ev.pos (by omega) (Ev.pos (by omega) (Ev.bindc _ rfl ?_));rw [Int.toNat_natCast];refine inner i (by omega) hall (fun ha => ?_) i 0 rfl (by omega) (by intro j hj; omega);refine ih (i + 1) (by omega) (by omega) (fun j hj => ?_)
            by_cases e : j = i
            · subst e
              refine ⟨hp, fun h0 => ?_, ha⟩
              constructor
              · exact Int.not_lt.1 fun h => hbad ⟨h0, .inl h⟩
              · exact fun h => hbad ⟨h0, .inr h⟩
            · exact hs j (by omega)
        by_cases h0 : 0 < i
        · refine Ev.pos (by omega) ?_
          have e1 : wrap64 ((i : Int) - 1) = ((i - 1 : Nat) : Int) := by rw [w64 (by omega) (by omega)]; omega
          have hpp := hall (i - 1) (by omega);rw [e1, rd_cast];have hpp' := hpp;unfold IsPiece at hpp';rw [w64 (x := (l.getD (i - 1) pz).f0 + (l.getD (i - 1) pz).f1) (by omega) (by omega)];refine Ev.pos (by omega) (Ev.pos (by omega) (Ev.ite (fun h1 => ?_) (fun h1 => ?_)))
          · refine join true ?_
            symm; exact decide_eq_true ⟨h0, .inl (by omega)⟩
          · refine Ev.bindc _ (l9Goes_eq _ _ hpp) (join _ ?_)
            apply decide_eq_decide.2;exact ⟨fun h => ⟨h0, .inr h⟩, fun h => h.2.resolve_left (by omega)⟩
        · refine Ev.neg (by omega) (join false ?_)
          symm; exact decide_eq_false (by omega)
      · refine Ev.neg (by simpa using hp) (Ev.now' (not_good (l := l) (i := i) (by omega) fun h => hp h.1).symm)
  unfold spec_GoodMap.f;exact loop l.length 0 rfl (by omega) (by intro j hj; omega)

/-- The blocks that the first pieces use. -/
def Used (l : List S27) (i : Nat) (b : Nat) : Prop := ∃ j, j < i ∧ (l.getD j pz).f2 ≤ (b : Int) ∧ (b : Int) < (l.getD j pz).f2 + (l.getD j pz).f1
/-- The program's GoodMap. -/
theorem impl_GoodMap_ev (l : List S27) (hl : l.length ≤ 1048576) : Ev (fun k => impl_GoodMap.f k l) (decide (Good l)) := by
  have inner : ∀ (i : Nat) (_ : i < l.length) (_ : ∀ j, j ≤ i → IsPiece (l.getD j pz)) (_ : ∀ u : List Bool, u.length = 400 → (∀ b, b < 400 → (u.getD b false = true ↔ Used l (i + 1) b)) → (∀ j, j < i → Apart (l.getD j pz) (l.getD i pz)) → Ev (fun k => impl_GoodMap.l0 k u l (l.length : Int) ((i + 1 : Nat) : Int) l) (decide (Good l))) (d x : Nat) (u : List Bool), (l.getD i pz).f1.toNat - x = d → (x : Int) ≤ (l.getD i pz).f1 → u.length = 400 →
      (∀ b, b < 400 → (u.getD b false = true ↔ Used l i b ∨ ((l.getD i pz).f2 ≤ (b : Int) ∧ (b : Int) < (l.getD i pz).f2 + x))) → (∀ b : Nat, (l.getD i pz).f2 ≤ (b : Int) → (b : Int) < (l.getD i pz).f2 + x → ¬ Used l i b) →
      Ev (fun k => impl_GoodMap.l1 k u l (l.length : Int) (i : Int) (l.getD i pz).f1 (x : Int) l (l.getD i pz).f0 (l.getD i pz).f1 (l.getD i pz).f2 (l.getD i pz).f3) (decide (Good l)) := by
    intro i hi hp hnext d;have hpi := hp i (Nat.le_refl _);unfold IsPiece at hpi
    induction d with
    | zero =>
      intro x u hd hx hu hub hno
      have hxe : (x : Int) = (l.getD i pz).f1 := by omega
      refine Ev.step (fun k => by rw [impl_GoodMap.l1]) ?_;refine Ev.neg (by omega) ?_;rw [w64 (by omega) (by omega)];refine hnext u hu (fun b hb => (hub b hb).trans ?_) ?_
      · unfold Used
        constructor
        · rintro (⟨j, hj, h⟩ | h)
          · exact ⟨j, by omega, h⟩
          · exact ⟨i, by omega, h.1, by omega⟩
        · rintro ⟨j, hj, h⟩
          by_cases e : j = i
          · subst e; exact .inr ⟨h.1, by omega⟩
          · exact .inl ⟨j, by omega, h⟩
      · intro j hj
        have hpj := hp j (by omega);unfold IsPiece at hpj;unfold Apart
        refine Classical.byContradiction fun hcon => ?_
        by_cases hle : (l.getD i pz).f2 ≤ (l.getD j pz).f2
        · exact hno (l.getD j pz).f2.toNat (by omega) (by omega) ⟨j, hj, by omega, by omega⟩
        · exact hno (l.getD i pz).f2.toNat (by omega) (by omega) ⟨j, hj, by omega, by omega⟩
    | succ d ih =>
      intro x u hd hx hu hub hno;refine Ev.step (fun k => by rw [impl_GoodMap.l1]) ?_;rw [w64 (x := (l.getD i pz).f2 + (x : Int)) (by omega) (by omega), w64 (x := (x : Int) + 1) (by omega) (by omega)];refine Ev.pos (by omega) (Ev.pos (by omega) (Ev.pos (by omega) ?_))
      have hb : ((l.getD i pz).f2 + (x : Int)).toNat < 400 := by omega
      have hrd : rdOf false u ((l.getD i pz).f2 + (x : Int)) = u.getD ((l.getD i pz).f2 + (x : Int)).toNat false := rfl
      by_cases hus : Used l i ((l.getD i pz).f2 + (x : Int)).toNat
      · refine Ev.pos (by rw [hrd]; exact (hub _ hb).2 (.inl hus)) (Ev.now' (not_good hi ?_).symm)
        rintro ⟨_, _, h3⟩;obtain ⟨j, hj, h4, h5⟩ := hus;have h6 := h3 j hj;have hpj := hp j (by omega);unfold IsPiece at hpj;unfold Apart at h6
        omega
      · refine Ev.neg (by rw [hrd]; intro h; rcases (hub _ hb).1 h with h | h; exact hus h; omega) ?_
        have := ih (x + 1) (u.set ((l.getD i pz).f2 + (x : Int)).toNat true) (by omega) (by omega) (by simpa using hu) (fun b hb' => ?_) (fun b h1 h2 => ?_)
        · exact this
        · by_cases e : b = ((l.getD i pz).f2 + (x : Int)).toNat
          · subst e
            have hset : (u.set ((l.getD i pz).f2 + (x : Int)).toNat true).getD ((l.getD i pz).f2 + (x : Int)).toNat false = true := getD_set_self _ _ _ _ (by omega);rw [hset];exact ⟨fun _ => .inr (by omega), fun _ => rfl⟩
          · rw [getD_set_ne _ _ _ _ _ e, hub b hb']
            constructor
            · rintro (h | h)
              · exact .inl h
              · exact .inr ⟨h.1, by omega⟩
            · rintro (h | h)
              · exact .inl h
              · exact .inr ⟨h.1, by omega⟩
        · by_cases e : b = ((l.getD i pz).f2 + (x : Int)).toNat
          · subst e; exact hus
          · exact hno b h1 (by omega)
  have loop : ∀ d i (u : List Bool), l.length ≤ 40 → l.length - i = d → i ≤ l.length → u.length = 400 → (∀ b, b < 400 → (u.getD b false = true ↔ Used l i b)) → (∀ j, j < i → Step l j) → Ev (fun k => impl_GoodMap.l0 k u l (l.length : Int) (i : Int) l) (decide (Good l)) := by
    intro d
    induction d with
    | zero =>
      intro i u h40 hd hi hu hub hs
      have : i = l.length := by omega
      subst this;refine Ev.step (fun k => by rw [impl_GoodMap.l0]) ?_;refine Ev.neg (by omega) (Ev.now' ?_)
      symm; exact decide_eq_true ⟨h40, hs⟩
    | succ d ih =>
      intro i u h40 hd hi hu hub hs;refine Ev.step (fun k => by rw [impl_GoodMap.l0]) ?_;rw [rd_cast];refine Ev.pos (by omega) (Ev.pos (by omega) (Ev.pos (by omega) (Ev.bindc _ (isPiece_eq _) ?_)))
      by_cases hp : IsPiece (l.getD i pz)
      · refine Ev.pos (by simpa using hp) ?_
        have hall : ∀ j, j ≤ i → IsPiece (l.getD j pz) := fun j hj => by
          by_cases e : j = i
          · subst e; exact hp
          · exact (hs j (by omega)).1
        have hpi := hp;unfold IsPiece at hpi
        have join : ∀ b : Bool, b = decide (0 < i ∧ ((l.getD i pz).f0 < (l.getD (i - 1) pz).f0 + (l.getD (i - 1) pz).f1 ∨ Goes (l.getD (i - 1) pz) (l.getD i pz))) →
            Ev (fun k => impl_GoodMap.j1 k u l (l.length : Int) (i : Int) b l (l.getD i pz).f0 (l.getD i pz).f1 (l.getD i pz).f2 (l.getD i pz).f3) (decide (Good l)) := by
          intro b hb;refine Ev.step (fun k => by rw [impl_GoodMap.j1]) ?_
          by_cases hbad : 0 < i ∧ ((l.getD i pz).f0 < (l.getD (i - 1) pz).f0 + (l.getD (i - 1) pz).f1 ∨ Goes (l.getD (i - 1) pz) (l.getD i pz))
          · rw [hb]
            refine Ev.pos (by simpa using hbad) (Ev.now' (not_good (l := l) (i := i) (by omega) ?_).symm);rintro ⟨_, h2, _⟩;obtain ⟨h3, h4⟩ := h2 hbad.1
            rcases hbad.2 with h5 | h5
            · omega
            · exact h4 h5
          · rw [hb]
            refine Ev.neg (by simpa using hbad) ?_;refine inner i (by omega) hall (fun u' hu' hub' ha => ?_) _ 0 u rfl (by omega) hu (fun b hb => ?_) (by intro b h1 h2; omega)
            · refine ih (i + 1) u' h40 (by omega) (by omega) hu' hub' (fun j hj => ?_)
              by_cases e : j = i
              · subst e
                refine ⟨hp, fun h0 => ?_, ha⟩
                constructor
                · exact Int.not_lt.1 fun h => hbad ⟨h0, .inl h⟩
                · exact fun h => hbad ⟨h0, .inr h⟩
              · exact hs j (by omega)
            · rw [hub b hb]
              constructor
              · exact .inl
              · rintro (h | h)
                · exact h
                · omega
        by_cases h0 : 0 < i
        · refine Ev.pos (by omega) ?_
          have e1 : wrap64 ((i : Int) - 1) = ((i - 1 : Nat) : Int) := by rw [w64 (by omega) (by omega)]; omega
          have hpp := hall (i - 1) (by omega);rw [e1, rd_cast];have hpp' := hpp;unfold IsPiece at hpp';rw [w64 (x := (l.getD (i - 1) pz).f0 + (l.getD (i - 1) pz).f1) (by omega) (by omega)];refine Ev.pos (by omega) (Ev.pos (by omega) (Ev.ite (fun h1 => ?_) (fun h1 => ?_)))
          · refine join true ?_
            symm; exact decide_eq_true ⟨h0, .inl (by omega)⟩
          · refine Ev.bindc _ (continues_eq _ _ hpp) (join _ ?_)
            apply decide_eq_decide.2;exact ⟨fun h => ⟨h0, .inr h⟩, fun h => h.2.resolve_left (by omega)⟩
        · refine Ev.neg (by omega) (join false ?_)
          symm; exact decide_eq_false (by omega)
      · refine Ev.neg (by simpa using hp) (Ev.now' (not_good (l := l) (i := i) (by omega) fun h => hp h.1).symm)
  unfold impl_GoodMap.f
  by_cases h40 : l.length ≤ 40
  · refine Ev.neg (by omega) (Ev.pos (by omega) ?_)
    refine loop l.length 0 _ h40 rfl (by omega) List.length_replicate (fun b hb => ?_) (by intro j hj; omega);rw [getD_replicate]
    constructor
    · intro h; cases h
    · rintro ⟨j, hj, _⟩; omega
  · refine Ev.pos (by omega) (Ev.now' ?_)
    symm; exact decide_eq_false fun h => h40 h.1
end Go.Proofs.Ytebhdnihmkndlaa.Q
