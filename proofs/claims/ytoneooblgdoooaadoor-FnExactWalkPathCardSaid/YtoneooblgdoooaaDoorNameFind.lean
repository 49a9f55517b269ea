/- A name looked for in a sorted row: the one by halving, the other one by one. -/
import Derived.Test.YtoneooblgdoooaaDoorNameGood
import Derived.Test.YtoneooblgdoooaaDoorG3
namespace Go.Proofs.YtoneooblgdoooaaDoor.Q
open Go.RowKit Go.Proofs.YtoneooblgdoooaaDoorW.PrintWords Go.Proofs.YtoneooblgdoooaaDoor.G
set_option linter.unusedVariables false
set_option linter.unusedSimpArgs false
theorem cmp_lt : ∀ x y : List UInt8, Lib.compareBytes x y < 0 ↔ Op.bytesLess x y = true
  | [], [] => by decide
  | [], _ :: _ => by simp [Lib.compareBytes, Op.bytesLess]
  | _ :: _, [] => by simp [Lib.compareBytes, Op.bytesLess]
  | a :: x, b :: y => by
    have ih := cmp_lt x y
    unfold Lib.compareBytes Op.bytesLess
    by_cases l : a < b
    · rw [if_pos l]; simp [l]
    · rw [if_neg l]
      by_cases m : b < a
      · rw [if_pos m]
        have : ¬ a = b := fun q => by subst q; exact l m
        simp [l, this]
      · rw [if_neg m, ih]
        have e : a = b := by
          by_cases q : a = b
          · exact q
          · rcases UInt8.lt_or_lt_of_ne q with h | h
            · exact absurd h l
            · exact absurd h m
        subst e
        simp [l]
theorem cmp_eq : ∀ x y : List UInt8, Lib.compareBytes x y = 0 ↔ x = y
  | [], [] => by decide
  | [], _ :: _ => by simp [Lib.compareBytes]
  | _ :: _, [] => by simp [Lib.compareBytes]
  | a :: x, b :: y => by
    have ih := cmp_eq x y
    unfold Lib.compareBytes
    by_cases l : a < b
    · rw [if_pos l]
      have : ¬ a = b := fun q => by subst q; exact UInt8.lt_irrefl _ l
      simp [this]
    · rw [if_neg l]
      by_cases m : b < a
      · rw [if_pos m]
        have : ¬ a = b := fun q => by subst q; exact l m
        simp [this]
      · rw [if_neg m, ih]
        have e : a = b := by
          by_cases q : a = b
          · exact q
          · rcases UInt8.lt_or_lt_of_ne q with h | h
            · exact absurd h l
            · exact absurd h m
        subst e
        simp
theorem less_trans : ∀ x y z : List UInt8, Op.bytesLess x y = true → Op.bytesLess y z = true → Op.bytesLess x z = true
  | [], [], z, h, _ => by simp [Op.bytesLess] at h
  | [], _ :: _, [], _, h => by simp [Op.bytesLess] at h
  | [], _ :: _, _ :: _, _, _ => by simp [Op.bytesLess]
  | _ :: _, [], _, h, _ => by simp [Op.bytesLess] at h
  | _ :: _, _ :: _, [], _, h => by simp [Op.bytesLess] at h
  | a :: x, b :: y, c :: z, h1, h2 => by
    have ih := less_trans x y z
    unfold Op.bytesLess at h1 h2 ⊢
    simp only [Bool.or_eq_true, decide_eq_true_iff, Bool.and_eq_true, beq_iff_eq] at h1 h2 ⊢
    rcases h1 with h1 | ⟨h1, h1'⟩
    · rcases h2 with h2 | ⟨h2, h2'⟩
      · exact Or.inl (UInt8.lt_trans h1 h2)
      · subst h2; exact Or.inl h1
    · subst h1
      rcases h2 with h2 | ⟨h2, h2'⟩
      · exact Or.inl h2
      · exact Or.inr ⟨h2, ih h1' h2'⟩
abbrev nmAt (l : List Nm) (i : Int) : Nm := rd_T42 l i
/-- A row in order. -/
def Ord (l : List Nm) : Prop := ∀ i : Nat, 0 < i → i < l.length → Op.bytesLess (nmAt l ((i : Int) - 1)).f0.toList (nmAt l (i : Int)).f0.toList = true
/-- Where a name is, or would be. -/
structure At (l : List Nm) (a : ByteArray) (p : Nat) : Prop where
  le : p ≤ l.length
  lo : ∀ i : Nat, i < p → Op.bytesLess (nmAt l (i : Int)).f0.toList a.toList = true
  hi : ∀ i : Nat, p ≤ i → i < l.length → ¬ Op.bytesLess (nmAt l (i : Int)).f0.toList a.toList = true
theorem ord_at (l : List Nm) (a : ByteArray) (ho : Ord l) : ∃ p, At l a p := by
  have key : ∀ n : Nat, n ≤ l.length → ∃ p, p ≤ n ∧ (∀ i : Nat, i < p → Op.bytesLess (nmAt l (i : Int)).f0.toList a.toList = true) ∧ ∀ i : Nat, p ≤ i → i < n → ¬ Op.bytesLess (nmAt l (i : Int)).f0.toList a.toList = true := by
    intro n
    induction n with
    | zero => exact fun _ => ⟨0, by omega, fun i h => absurd h (by omega), fun i _ h => absurd h (by omega)⟩
    | succ n ih =>
      intro hn
      obtain ⟨p, h1, h2, h3⟩ := ih (by omega)
      by_cases c : Op.bytesLess (nmAt l (n : Int)).f0.toList a.toList = true
      · by_cases e : p = n
        · subst e
          refine ⟨p + 1, by omega, fun i hi => ?_, fun i _ _ => by omega⟩
          by_cases q : i = p
          · subst q; exact c
          · exact h2 i (by omega)
        · have o := ho n (by omega) (by omega)
          have x := h3 (n - 1) (by omega) (by omega)
          rw [show ((n - 1 : Nat) : Int) = (n : Int) - 1 by omega] at x
          exact absurd (less_trans _ _ _ o c) x
      · refine ⟨p, by omega, h2, fun i h4 h5 => ?_⟩
        by_cases q : i = n
        · subst q; exact c
        · exact h3 i h4 (by omega)
  obtain ⟨p, h1, h2, h3⟩ := key l.length (Nat.le_refl _)
  exact ⟨p, h1, h2, h3⟩
/-- Whether it is there. -/
def hasAt (l : List Nm) (a : ByteArray) (p : Nat) : Bool := decide (p < l.length) && ((nmAt l (p : Int)).f0.toList == a.toList)
theorem l8At_ev (l : List Nm) (a : ByteArray) (zl : l.length ≤ 1048576) (p : Nat) (h : At l a p) : Ev (fun k => spec_l8At.f k l a) ((p : Int), hasAt l a p) := by
  have go : ∀ m i : Nat, p - i = m → i ≤ p → Ev (fun k => spec_l8At.l0 k l a (i : Int)) ((p : Int), hasAt l a p) := by
    have hle := h.le
    intro m
    induction m with
    | zero =>
      intro i hd hi
      have e : i = p := by omega
      subst e
      by_cases c : i < l.length
      · refine Ev.step (fun k => by rw [spec_l8At.l0]) (Ev.pos (by omega) (Ev.pos (by omega) (Ev.neg (h.hi i (Nat.le_refl _) c) (Ev.now' ?_))))
        unfold hasAt
        rw [decide_eq_true c, Bool.true_and]
      · refine Ev.step (fun k => by rw [spec_l8At.l0]) (Ev.neg (by omega) (Ev.now' ?_))
        unfold hasAt
        rw [decide_eq_false c, Bool.false_and]
    | succ m ih =>
      intro i hd hi
      refine Ev.step (fun k => by rw [spec_l8At.l0]) (Ev.pos (by omega) (Ev.pos (by omega) (Ev.pos (h.lo i (by omega)) ?_)))
      rw [wS (i := i) (by omega)]
      exact ih (i + 1) (by omega) (by omega)
  unfold spec_l8At.f
  exact go _ 0 rfl (by omega)
theorem find1_eq (x : Nm) (a : ByteArray) : impl_Inode_find_1.f x.f0 x.f1 a = some (Lib.compareBytes x.f0.toList a.toList) := by
  unfold impl_Inode_find_1.f strings_Compare.f
  rw [Lib.toList_data, Lib.toList_data]
  rfl
theorem bsearch_ev (l : List Nm) (a : ByteArray) (zl : l.length ≤ 1048576) (p : Nat) (h : At l a p) : Ev (fun k => slices_BinarySearchFunc_impl_Name_string_at_impl_Inode_find_1.f k l a) ((p : Int), hasAt l a p) := by
  have hle := h.le
  have go : ∀ m lo hi : Nat, hi - lo ≤ m → lo ≤ p → p ≤ hi → hi ≤ l.length → Ev (fun k => slices_BinarySearchFunc_impl_Name_string_at_impl_Inode_find_1.l0 k l a (l.length : Int) (lo : Int) (hi : Int)) ((p : Int), hasAt l a p) := by
    intro m
    induction m with
    | zero =>
      intro lo hi hm h1 h2 h3
      have e : lo = p := by omega
      subst e
      have e : hi = lo := by omega
      subst e
      refine Ev.step (fun k => by rw [slices_BinarySearchFunc_impl_Name_string_at_impl_Inode_find_1.l0]) (Ev.neg (by omega) ?_)
      by_cases c : hi < l.length
      · refine Ev.pos (by omega) (Ev.pos (by omega) (Ev.pos (by omega) (Ev.bindc _ (find1_eq _ _) (Ev.now' ?_))))
        unfold hasAt
        rw [decide_eq_true c, Bool.true_and]
        congr 1
        rw [Bool.eq_iff_iff, beq_iff_eq, beq_iff_eq, cmp_eq]
      · refine Ev.neg (by omega) (Ev.now' ?_)
        unfold hasAt
        rw [decide_eq_false c, Bool.false_and]
    | succ m ih =>
      intro lo hi hm h1 h2 h3
      by_cases c : lo < hi
      · have e : wrap64 ((IntKind.u64.wrap (wrap64 ((lo : Int) + (hi : Int)))) / 2) = (((lo + hi) / 2 : Nat) : Int) := by
          rw [w64 (x := (lo : Int) + (hi : Int)) (by omega) (by omega), IntKind.wrap_u64]
          have e : ((lo : Int) + (hi : Int)) % 18446744073709551616 = (lo : Int) + (hi : Int) := by omega
          first
            | rw [e, w64 (by omega) (by omega)]; omega
            | (rw [w64 (by omega) (by omega)]; omega)
        have m1 : lo ≤ (lo + hi) / 2 := by omega
        have m2 : (lo + hi) / 2 < hi := by omega
        generalize (lo + hi) / 2 = mid at e m1 m2
        refine Ev.step (fun k => by rw [slices_BinarySearchFunc_impl_Name_string_at_impl_Inode_find_1.l0]) (Ev.pos (by omega) ?_)
        rw [e]
        refine Ev.pos (by omega) (Ev.pos (by omega) (Ev.bindc _ (find1_eq _ _) ?_))
        by_cases t : Op.bytesLess (nmAt l (mid : Int)).f0.toList a.toList = true
        · refine Ev.pos ((cmp_lt _ _).2 t) ?_
          have hw : wrap64 ((mid : Int) + 1) = ((mid + 1 : Nat) : Int) := by rw [w64 (by omega) (by omega)]; omega
          rw [hw]
          have : mid < p := by
            by_cases q : mid < p
            · exact q
            · exact absurd t (h.hi mid (by omega) (by omega))
          exact ih (mid + 1) hi (by omega) (by omega) h2 h3
        · refine Ev.neg (fun q => t ((cmp_lt _ _).1 q)) ?_
          have : p ≤ mid := by
            by_cases q : p ≤ mid
            · exact q
            · exact absurd (h.lo mid (by omega)) t
          exact ih lo mid (by omega) h1 this (by omega)
      · exact ih lo hi (by omega) h1 h2 h3
  unfold slices_BinarySearchFunc_impl_Name_string_at_impl_Inode_find_1.f
  exact go _ 0 l.length (Nat.le_refl _) (by omega) hle (Nat.le_refl _)
end Go.Proofs.YtoneooblgdoooaaDoor.Q
