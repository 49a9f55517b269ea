/- GoodFree of the reference and of the program: the same answer. -/
import Derived.Test.YtpfimjgfojdhhaaKit
import Derived.Test.YtpfimjgfojdhhaaG3
import Derived.Test.YtpfimjgfojdhhaaG5
namespace Go.Proofs.Ytpfimjgfojdhhaa.Q
open Go.RowKit Go.Proofs.YtpfimjgfojdhhaaW.PrintWords Go.Proofs.Ytpfimjgfojdhhaa.G
set_option linter.unusedVariables false
set_option linter.unusedSimpArgs false
abbrev X_ := S40
instance decX (a b : X_) : Decidable (a = b) :=
  if h : a.f0 = b.f0 ∧ a.f1 = b.f1 then isTrue (by
    obtain ⟨a0, a1⟩ := a;obtain ⟨b0, b1⟩ := b;obtain ⟨h1, h2⟩ := h;simp only at h1 h2
    rw [h1, h2]) else isFalse (fun e => h (by rw [e]; exact ⟨rfl, rfl⟩))
theorem rdX (l : List X_) (i : Nat) : rd_T40 l (i : Int) = l.getD i z40 := by simp [rd_T40]
theorem in_eq (x lo hi : Int) : spec_l1In.f x lo hi = some (decide (lo ≤ x ∧ x ≤ hi)) := by
  unfold spec_l1In.f
  by_cases h : x ≥ lo
  · rw [if_pos h]; simp [show lo ≤ x from h]
  · rw [if_neg h]; simp [show ¬ lo ≤ x from h]
theorem within_eq (x lo hi : Int) : impl_within.f x lo hi = some (decide (lo ≤ x ∧ x ≤ hi)) := by
  unfold impl_within.f
  by_cases h : x ≥ lo
  · rw [if_pos h]; simp [show lo ≤ x from h]
  · rw [if_neg h]; simp [show ¬ lo ≤ x from h]
/-! ### the order by size -/
def ltX (y x : X_) : Bool := decide (y.f1 < x.f1 ∨ y.f1 = x.f1 ∧ y.f0 < x.f0)
theorem less_eq (y x : X_) : spec_l5Less.f y.f0 y.f1 x.f0 x.f1 = some (ltX y x) := by
  unfold spec_l5Less.f ltX
  by_cases h : y.f1 < x.f1
  · rw [if_pos h]; simp [h]
  · rw [if_neg h]
    by_cases h2 : y.f1 = x.f1
    · rw [if_pos h2]; simp [h, h2]
    · rw [if_neg h2]; simp [h, h2]
def ins (x : X_) : List X_ → List X_
  | [] => [x]
  | y :: t => if ltX y x = true then y :: ins x t else x :: y :: t
theorem ins_length (x : X_) : ∀ l, (ins x l).length = l.length + 1
  | [] => rfl
  | y :: t => by
    unfold ins
    split
    · simp [ins_length x t]
    · simp
theorem ins_perm (x : X_) : ∀ l, (ins x l).Perm (x :: l)
  | [] => List.Perm.refl _
  | y :: t => by
    unfold ins
    split
    · exact ((ins_perm x t).cons y).trans (List.Perm.swap x y t)
    · exact List.Perm.refl _
theorem ins_mem {x z : X_} {l : List X_} (h : z ∈ ins x l) : z = x ∨ z ∈ l := by
  have := (ins_perm x l).mem_iff.1 h
  simpa using this
def leX (a b : X_) : Prop := leSizes a b = true
theorem leX_iff (a b : X_) : leX a b ↔ (a.f1 < b.f1 ∨ a.f1 = b.f1 ∧ a.f0 ≤ b.f0) := by unfold leX leSizes; simp
theorem ins_sorted (x : X_) : ∀ l, List.Pairwise leX l → List.Pairwise leX (ins x l)
  | [], _ => by simp [ins]
  | y :: t, h => by
    obtain ⟨h1, h2⟩ := List.pairwise_cons.1 h;unfold ins
    by_cases c : ltX y x = true
    · rw [if_pos c]
      refine List.pairwise_cons.2 ⟨fun z hz => ?_, ins_sorted x t h2⟩
      rcases ins_mem hz with rfl | hz
      · rw [leX_iff]
        unfold ltX at c
        simp at c
        omega
      · exact h1 z hz
    · rw [if_neg c]
      refine List.pairwise_cons.2 ⟨fun z hz => ?_, h⟩
      have hxy : leX x y := by
        rw [leX_iff];unfold ltX at c
        simp at c
        omega
      rcases List.mem_cons.1 hz with rfl | hz
      · exact hxy
      · have := h1 z hz
        rw [leX_iff] at this hxy ⊢
        omega
def isort : List X_ → List X_ → List X_
  | acc, [] => acc
  | acc, x :: t => isort (ins x acc) t
theorem isort_length : ∀ (l acc : List X_), (isort acc l).length = acc.length + l.length
  | [], acc => by simp [isort]
  | x :: t, acc => by rw [isort, isort_length t, ins_length, List.length_cons]; omega
theorem isort_perm : ∀ (l acc : List X_), (isort acc l).Perm (acc ++ l)
  | [], acc => by simp [isort]
  | x :: t, acc => by
    rw [isort];exact (isort_perm t _).trans (((ins_perm x acc).append_right t).trans (by simpa using List.perm_middle.symm))
theorem isort_sorted : ∀ (l acc : List X_), List.Pairwise leX acc → List.Pairwise leX (isort acc l)
  | [], acc, h => h
  | x :: t, acc, h => isort_sorted t _ (ins_sorted x acc h)
theorem isort_eq (l : List X_) : isort [] l = l.mergeSort leSizes := by
  refine List.Perm.eq_of_pairwise (le := leX) (fun a b _ _ h1 h2 => ?_) (isort_sorted l [] List.Pairwise.nil) (List.pairwise_mergeSort (fun a b c h1 h2 => ?_) (fun a b => ?_) l) ((isort_perm l []).trans (List.mergeSort_perm l leSizes).symm)
  · rw [leX_iff] at h1 h2
    obtain ⟨a0, a1⟩ := a;obtain ⟨b0, b1⟩ := b;simp only at h1 h2;rw [show a0 = b0 by omega, show a1 = b1 by omega]
  · have h1' := (leX_iff a b).1 h1
    have h2' := (leX_iff b c).1 h2;exact (leX_iff a c).2 (by omega)
  · have e1 := leX_iff a b
    have e2 := leX_iff b a;unfold leX at e1 e2;rw [Bool.or_eq_true, e1, e2]
    omega
/-! ### the reference's sort -/
theorem bysize_inner (x3 x8 : List X_) (x9 x10 : Int) (x : X_) (r : List X_) (h3 : x3.length ≤ 2000000) :
    ∀ (d j : Nat), x3.length - j = d → j ≤ x3.length → Ev (fun k => spec_l5BySize.l0 k (x3.take j ++ ins x (x3.drop j)) x8 x9 (wrap64 (x10 + 1))) r →
    Ev (fun k => spec_l5BySize.l1 k x3 (j : Int) x8 x9 x10 x.f0 x.f1) r := by
  have stop : ∀ (j : Nat), j ≤ x3.length → Ev (fun k => spec_l5BySize.l0 k (x3.take j ++ ([x] ++ x3.drop j)) x8 x9 (wrap64 (x10 + 1))) r →
      Ev (fun k => if (j : Int) ≤ (x3.length : Int) then ((some (x3.take ((j : Int)).toNat : List (X_))).bind fun y107 => (if ([] : List (X_)).length + y107.length < 8796093022208 then ((some (([] : List (X_)) ++ y107 : List (X_))).bind fun y111 => (if y111.length < 8796093022208 then ((some (y111 ++ [(⟨x.f0, x.f1⟩ : X_)] : List (X_))).bind fun y114 => ((some (x3.drop ((j : Int)).toNat : List (X_))).bind fun y117 => (if y114.length + y117.length < 8796093022208 then (spec_l5BySize.l0 k (y114 ++ y117) x8 x9 (wrap64 (x10 + 1))) else (none)))) else (none))) else (none))) else (none)) r := by
    intro j hj h
    have hl : (x3.take j).length ≤ 2000000 := by rw [List.length_take]; omega
    have hd : (x3.drop j).length ≤ 2000000 := by rw [List.length_drop]; omega
    refine Ev.pos (by omega) ?_;simp only [Option.bind_some, Int.toNat_natCast, List.nil_append];refine Ev.pos (by simp only [List.length_nil]; omega) (Ev.pos (by omega) (Ev.pos (by simp only [List.length_append, List.length_singleton]; omega) ?_));rw [List.append_assoc];exact h
  intro d
  induction d with
  | zero =>
    intro j hd hj h;have e : x3.drop j = [] := List.drop_eq_nil_of_le (by omega);rw [e] at h;refine Ev.step (fun k => by rw [spec_l5BySize.l1]) (Ev.neg (by omega) (Ev.pos (by omega) ?_));have := stop j hj (by rw [e]; exact h);exact this
  | succ d ih =>
    intro j hd hj h
    have hlt : j < x3.length := by omega
    have ed : x3.drop j = x3.getD j z40 :: x3.drop (j + 1) := drop_getD x3 j z40 hlt;refine Ev.step (fun k => by rw [spec_l5BySize.l1]) (Ev.pos (by omega) (Ev.pos (by omega) ?_));rw [rdX];refine Ev.bindc _ (less_eq _ x) ?_
    by_cases c : ltX (x3.getD j z40) x = true
    · refine Ev.pos c ?_
      rw [show wrap64 ((j : Int) + 1) = ((j + 1 : Nat) : Int) by rw [w64 (by omega) (by omega)]; rfl];refine ih (j + 1) (by omega) (by omega) ?_;rw [take_succ_getD x3 j z40 hlt, List.append_assoc, List.singleton_append];rw [ed, ins, if_pos c] at h;exact h
    · refine Ev.neg c (stop j hj ?_)
      rw [ed] at h ⊢;rw [ins, if_neg c] at h;exact h
theorem bysize_ev (l : List X_) (hl : l.length ≤ 1048576) : Ev (fun k => spec_l5BySize.f k l) (isort [] l) := by
  have loop : ∀ (d j : Nat) (acc : List X_), l.length - j = d → j ≤ l.length → acc.length = j → Ev (fun k => spec_l5BySize.l0 k acc l (l.length : Int) (j : Int)) (isort acc (l.drop j)) := by
    intro d
    induction d with
    | zero =>
      intro j acc hd hj ha;have e : l.drop j = [] := List.drop_eq_nil_of_le (by omega);rw [e];refine Ev.step (fun k => by rw [spec_l5BySize.l0]) (Ev.neg ?_ (Ev.now' (show acc = isort acc [] from rfl)))
      omega
    | succ d ih =>
      intro j acc hd hj ha
      have hlt : j < l.length := by omega
      have ed : l.drop j = l.getD j z40 :: l.drop (j + 1) := drop_getD l j z40 hlt;have h := ih (j + 1) (ins (l.getD j z40) acc) (by omega) (by omega) (by rw [ins_length]; omega);refine Ev.step (fun k => by rw [spec_l5BySize.l0]) (Ev.pos (by omega) (Ev.pos (by omega) (Ev.pos (by omega) ?_)));rw [rdX]
      have := bysize_inner acc l (l.length : Int) (j : Int) (l.getD j z40) (isort acc (l.drop j)) (by omega) acc.length 0 rfl (Nat.zero_le _) (by
        rw [show wrap64 ((j : Int) + 1) = ((j + 1 : Nat) : Int) by rw [w64 (by omega) (by omega)]; rfl, List.take_zero, List.nil_append, List.drop_zero, ed, isort]
        exact h)
      exact this
  have := loop l.length 0 [] rfl (Nat.zero_le _) rfl;unfold spec_l5BySize.f;exact this
/-! ### two rows the same -/
theorem same_s (a b : List X_) (ha : a.length ≤ 2000000) : Ev (fun k => spec_l5Same.f k a b) (decide (a = b)) := by
  unfold spec_l5Same.f
  by_cases c : (a.length : Int) = (b.length : Int)
  · refine Ev.pos c ?_
    have loop : ∀ (d j : Nat), a.length - j = d → j ≤ a.length → Ev (fun k => spec_l5Same.l0 k a b (a.length : Int) (j : Int)) (decide (a.drop j = b.drop j)) := by
      intro d
      induction d with
      | zero =>
        intro j hd hj;rw [List.drop_eq_nil_of_le (show a.length ≤ j by omega), List.drop_eq_nil_of_le (show b.length ≤ j by omega)];exact Ev.step (fun k => by rw [spec_l5Same.l0]) (Ev.neg (by omega) (Ev.now' (by simp)))
      | succ d ih =>
        intro j hd hj;rw [drop_getD a j z40 (by omega), drop_getD b j z40 (by omega)];refine Ev.step (fun k => by rw [spec_l5Same.l0]) (Ev.pos (by omega) (Ev.pos (by omega) (Ev.pos (by omega) (Ev.pos (by omega) ?_))));rw [rdX, rdX]
        by_cases e : a.getD j z40 = b.getD j z40
        · rw [e]
          refine Ev.neg (by simp) ?_;rw [show wrap64 ((j : Int) + 1) = ((j + 1 : Nat) : Int) by rw [w64 (by omega) (by omega)]; rfl];exact Ev.eq (ih (j + 1) (by omega) (by omega)) (by simp)
        · have ne : ¬ ((a.getD j z40).f0 = (b.getD j z40).f0 ∧ (a.getD j z40).f1 = (b.getD j z40).f1) := fun h => e (by
            revert h
            generalize a.getD j z40 = p
            generalize b.getD j z40 = q
            obtain ⟨p0, p1⟩ := p;obtain ⟨q0, q1⟩ := q;rintro ⟨h1, h2⟩;simp only at h1 h2
            rw [h1, h2])
          refine Ev.pos ?_ (Ev.now' ?_)
          · simp only [Bool.or_eq_true, Bool.not_eq_true', beq_eq_false_iff_ne, ne_eq]
            by_cases h1 : (a.getD j z40).f0 = (b.getD j z40).f0
            · exact .inr (fun h2 => ne ⟨h1, h2⟩)
            · exact .inl h1
          · rw [decide_eq_false]
            intro h
            injection h with h1 h2
            exact e h1
    have := loop a.length 0 rfl (Nat.zero_le _);rw [List.drop_zero, List.drop_zero] at this;exact this
  · exact Ev.neg c (Ev.now' (by rw [decide_eq_false]; intro h; exact c (by rw [h])))
theorem same_l (a b : List X_) : ∀ k m j, impl_Extent_63.l0 k a b m j = spec_l5Same.l0 k a b m j
  | 0, m, j => by rw [impl_Extent_63.l0, spec_l5Same.l0]
  | k + 1, m, j => by rw [impl_Extent_63.l0, spec_l5Same.l0, same_l a b k]
theorem same_i (a b : List X_) (ha : a.length ≤ 2000000) : Ev (fun k => impl_Extent_63.f k a b) (decide (a = b)) := by
  have h := same_s a b ha;unfold spec_l5Same.f at h;unfold impl_Extent_63.f;exact Ev.congr (fun k => by rw [same_l]) h
/-! ### the places -/
def badAt (l : List X_) (n : Int) (j : Nat) : Prop :=
  ¬ (0 ≤ (l.getD j z40).f0 ∧ 1 ≤ (l.getD j z40).f1 ∧ (l.getD j z40).f1 ≤ n ∧ (l.getD j z40).f0 ≤ n - (l.getD j z40).f1) ∨
  0 < j ∧ wrap64 ((l.getD (j - 1) z40).f0 + (l.getD (j - 1) z40).f1) ≥ (l.getD j z40).f0
open Classical in
noncomputable def placeFrom (l : List X_) (n : Int) : Nat → Nat → Bool
  | 0, _ => true
  | d + 1, j => if badAt l n j then false else placeFrom l n d (j + 1)
theorem place_s (l : List X_) (n : Int) (hl : l.length ≤ 1048576) (hn1 : 1 ≤ n) (hn2 : n ≤ 400) : ∀ (d j : Nat), l.length - j = d → j ≤ l.length →
    Ev (fun k => spec_l5Place.l0 k l n l (l.length : Int) (j : Int)) (placeFrom l n d j && decide ((l.length : Int) ≤ 60)) := by
  intro d
  induction d with
  | zero =>
    intro j hd hj;refine Ev.step (fun k => by rw [spec_l5Place.l0]) (Ev.neg (by omega) (Ev.bindc _ (in_eq _ _ _) ?_));exact Ev.pos (by simpa using And.intro hn1 hn2) (Ev.now' (by simp [placeFrom]))
  | succ d ih =>
    intro j hd hj
    have hlt : j < l.length := by omega
    have nx : Ev (fun k => spec_l5Place.l0 k l n l (l.length : Int) (wrap64 ((j : Int) + 1))) (placeFrom l n d (j + 1) && decide ((l.length : Int) ≤ 60)) := by
      rw [show wrap64 ((j : Int) + 1) = ((j + 1 : Nat) : Int) by rw [w64 (by omega) (by omega)]; rfl];exact ih (j + 1) (by omega) (by omega)
    refine Ev.step (fun k => by rw [spec_l5Place.l0]) (Ev.pos (by omega) (Ev.pos (by omega) (Ev.pos (by omega) ?_)));rw [rdX, placeFrom];obtain ⟨x, hx⟩ : ∃ x, x = l.getD j z40 := ⟨_, rfl⟩;rw [← hx]
    by_cases b : badAt l n j
    · rw [if_pos b]
      unfold badAt at b;rw [← hx] at b
      by_cases c1 : x.f0 < 0
      · exact Ev.pos c1 (Ev.now' rfl)
      refine Ev.neg c1 ?_
      by_cases c2 : x.f1 < 1
      · exact Ev.pos c2 (Ev.now' rfl)
      refine Ev.neg c2 ?_
      by_cases c3 : x.f1 > n
      · exact Ev.pos c3 (Ev.now' rfl)
      refine Ev.neg c3 ?_;rw [w64 (show -9223372036854775808 ≤ n - x.f1 by omega) (by omega)]
      by_cases c4 : x.f0 > n - x.f1
      · exact Ev.pos c4 (Ev.now' rfl)
      refine Ev.neg c4 ?_
      rcases b with b | ⟨b0, b1⟩
      · exact absurd ⟨by omega, by omega, by omega, by omega⟩ b
      · refine Ev.pos (by omega) ?_
        rw [show wrap64 ((j : Int) - 1) = ((j - 1 : Nat) : Int) by rw [w64 (by omega) (by omega)]; omega];refine Ev.pos (by omega) (Ev.pos (by omega) ?_);rw [rdX];exact Ev.pos b1 (Ev.now' rfl)
    · rw [if_neg b]
      unfold badAt at b;rw [← hx] at b
      have b1 : 0 ≤ x.f0 ∧ 1 ≤ x.f1 ∧ x.f1 ≤ n ∧ x.f0 ≤ n - x.f1 := Classical.byContradiction fun h => b (.inl h)
      refine Ev.neg (by omega) (Ev.neg (by omega) (Ev.neg (by omega) ?_));rw [w64 (show -9223372036854775808 ≤ n - x.f1 by omega) (by omega)];refine Ev.neg (by omega) ?_
      by_cases c5 : (j : Int) > 0
      · refine Ev.pos c5 ?_
        rw [show wrap64 ((j : Int) - 1) = ((j - 1 : Nat) : Int) by rw [w64 (by omega) (by omega)]; omega];refine Ev.pos (by omega) (Ev.pos (by omega) ?_);rw [rdX];exact Ev.neg (fun h => b (.inr ⟨by omega, h⟩)) nx
      · exact Ev.neg c5 nx
theorem place_out (l : List X_) (n : Int) (hl : l.length ≤ 1048576) (hn : ¬ (1 ≤ n ∧ n ≤ 400)) : ∀ (d j : Nat), l.length - j = d → j ≤ l.length →
    Ev (fun k => spec_l5Place.l0 k l n l (l.length : Int) (j : Int)) false := by
  intro d
  induction d with
  | zero =>
    intro j hd hj;refine Ev.step (fun k => by rw [spec_l5Place.l0]) (Ev.neg (by omega) (Ev.bindc _ (in_eq _ _ _) (Ev.neg ?_ (Ev.now _))))
    simpa using hn
  | succ d ih =>
    intro j hd hj
    have nx : Ev (fun k => spec_l5Place.l0 k l n l (l.length : Int) (wrap64 ((j : Int) + 1))) false := by
      rw [show wrap64 ((j : Int) + 1) = ((j + 1 : Nat) : Int) by rw [w64 (by omega) (by omega)]; rfl];exact ih (j + 1) (by omega) (by omega)
    refine Ev.step (fun k => by rw [spec_l5Place.l0]) (Ev.pos (by omega) (Ev.pos (by omega) (Ev.pos (by omega) ?_)));refine Ev.ite (fun _ => Ev.now _) (fun _ => Ev.ite (fun _ => Ev.now _) (fun _ => Ev.ite (fun _ => Ev.now _) (fun _ => Ev.ite (fun _ => Ev.now _) (fun _ => Ev.ite (fun c => ?_) (fun _ => nx)))));rw [show wrap64 ((j : Int) - 1) = ((j - 1 : Nat) : Int) by rw [w64 (by omega) (by omega)]; omega];exact Ev.pos (by omega) (Ev.pos (by omega) (Ev.ite (fun _ => Ev.now _) (fun _ => nx)))
theorem place_i (l m : List X_) (n : Int) (hl : l.length ≤ 60) (hn1 : 1 ≤ n) (hn2 : n ≤ 400) : ∀ (d j : Nat), l.length - j = d → j ≤ l.length →
    Ev (fun k => impl_GoodFree.l0 k l (l.length : Int) (j : Int) n l m) (placeFrom l n d j && decide (isort [] l = m)) := by
  intro d
  induction d with
  | zero =>
    intro j hd hj
    have e1 : impl_freeOf.f n l = some (n, l, isort [] l) := by
      unfold impl_freeOf.f impl_Extent_57.f;rw [if_pos (by omega), Option.bind_some];unfold slices_SortFunc_impl_Extent_at_impl_compareSizes.f;rw [if_pos (by omega), Option.bind_some, isort_eq]
    refine Ev.step (fun k => by rw [impl_GoodFree.l0]) (Ev.neg (by omega) (Ev.bindc _ e1 ?_));exact Ev.bind' _ (same_i (isort [] l) m (by rw [isort_length, List.length_nil]; omega)) (Ev.now' (by simp [placeFrom]))
  | succ d ih =>
    intro j hd hj
    have hlt : j < l.length := by omega
    have nx : Ev (fun k => impl_GoodFree.l0 k l (l.length : Int) (wrap64 ((j : Int) + 1)) n l m) (placeFrom l n d (j + 1) && decide (isort [] l = m)) := by
      rw [show wrap64 ((j : Int) + 1) = ((j + 1 : Nat) : Int) by rw [w64 (by omega) (by omega)]; rfl];exact ih (j + 1) (by omega) (by omega)
    refine Ev.step (fun k => by rw [impl_GoodFree.l0]) (Ev.pos (by omega) (Ev.pos (by omega) (Ev.pos (by omega) ?_)));rw [rdX, placeFrom];obtain ⟨x, hx⟩ : ∃ x, x = l.getD j z40 := ⟨_, rfl⟩;rw [← hx]
    have e1 : impl_isExtent.f x.f0 x.f1 n = some (decide (0 ≤ x.f0 ∧ 1 ≤ x.f1 ∧ x.f1 ≤ n ∧ x.f0 ≤ n - x.f1)) := by
      unfold impl_isExtent.f;rw [within_eq, w64 (show -9223372036854775808 ≤ n - 1 by omega) (by omega), Option.bind_some]
      by_cases c : 0 ≤ x.f0 ∧ x.f0 ≤ n - 1
      · rw [if_pos (by simpa using c), within_eq, w64 (show -9223372036854775808 ≤ n - x.f0 by omega) (by omega), Option.bind_some]
        congr 1
        exact dec_congr ⟨fun h => ⟨by omega, by omega, by omega, by omega⟩, fun h => ⟨by omega, by omega⟩⟩
      · rw [if_neg (by simpa using c)]
        congr 1
        exact (dec_false (fun h => c ⟨h.1, by omega⟩)).symm
    refine Ev.bindc _ e1 ?_
    by_cases b : badAt l n j
    · rw [if_pos b]
      unfold badAt at b;rw [← hx] at b
      by_cases b2 : 0 ≤ x.f0 ∧ 1 ≤ x.f1 ∧ x.f1 ≤ n ∧ x.f0 ≤ n - x.f1
      · rcases b with b | ⟨b0, b1⟩
        · exact absurd b2 b
        refine Ev.pos (by simpa using b2) (Ev.pos (by omega) ?_);rw [show wrap64 ((j : Int) - 1) = ((j - 1 : Nat) : Int) by rw [w64 (by omega) (by omega)]; omega];refine Ev.pos (by omega) (Ev.pos (by omega) ?_);rw [rdX];exact Ev.pos b1 (Ev.now' rfl)
      · exact Ev.neg (by simpa using b2) (Ev.now' rfl)
    · rw [if_neg b]
      unfold badAt at b;rw [← hx] at b
      have b1 : 0 ≤ x.f0 ∧ 1 ≤ x.f1 ∧ x.f1 ≤ n ∧ x.f0 ≤ n - x.f1 := Classical.byContradiction fun h => b (.inl h)
      refine Ev.pos (by simpa using b1) ?_
      by_cases c5 : (j : Int) > 0
      · refine Ev.pos c5 ?_
        rw [show wrap64 ((j : Int) - 1) = ((j - 1 : Nat) : Int) by rw [w64 (by omega) (by omega)]; omega];refine Ev.pos (by omega) (Ev.pos (by omega) ?_);rw [rdX];exact Ev.neg (fun h => b (.inr ⟨by omega, h⟩)) nx
      · exact Ev.neg c5 nx
theorem goodFree_full (n : Int) (l m : List X_) (hl : l.length ≤ 1048576) : ∃ r, Ev (fun k => spec_GoodFree.f k n l m) r ∧ Ev (fun k => impl_GoodFree.f k n l m) r ∧ (r = true → 1 ≤ n ∧ n ≤ 400 ∧ l.length ≤ 60) := by
  have bad : Ev (fun k => impl_GoodFree.j0 k true n l m) false := Ev.step (fun k => by rw [impl_GoodFree.j0]) (Ev.pos rfl (Ev.now _));unfold spec_GoodFree.f impl_GoodFree.f spec_l5Place.f
  by_cases c1 : 1 ≤ n ∧ n ≤ 400
  · have e1 : Ev (fun k => spec_l5Place.l0 k l n l (l.length : Int) 0) (placeFrom l n l.length 0 && decide ((l.length : Int) ≤ 60)) := place_s l n hl c1.1 c1.2 l.length 0 rfl (Nat.zero_le _)
    by_cases c2 : (l.length : Int) ≤ 60
    · have e2 : Ev (fun k => impl_GoodFree.l0 k l (l.length : Int) 0 n l m) (placeFrom l n l.length 0 && decide (isort [] l = m)) := place_i l m n (by omega) c1.1 c1.2 l.length 0 rfl (Nat.zero_le _)
      have hd : decide ((l.length : Int) > 60) = false := decide_eq_false (by omega);rw [decide_eq_true c2, Bool.and_true] at e1;refine ⟨_, Ev.bind' _ e1 ?_, Ev.bindc _ (within_eq _ _ _) (Ev.pos (by simpa using c1) (by rw [hd]; exact Ev.step (fun k => by rw [impl_GoodFree.j0]) (Ev.neg Bool.false_ne_true e2))), fun _ => ⟨c1.1, c1.2, by omega⟩⟩
      cases hp : placeFrom l n l.length 0 with
      | false => exact Ev.neg Bool.false_ne_true (Ev.now' rfl)
      | true => exact Ev.pos rfl (Ev.bind' _ (bysize_ev l hl) (Ev.bind' _ (same_s _ m (by rw [isort_length, List.length_nil]; omega)) (Ev.now' (by rw [Bool.true_and]))))
    · have hd : decide ((l.length : Int) > 60) = true := decide_eq_true (by omega)
      rw [decide_eq_false c2, Bool.and_false] at e1;exact ⟨false, Ev.bind' _ e1 (Ev.neg Bool.false_ne_true (Ev.now _)), Ev.bindc _ (within_eq _ _ _) (Ev.pos (by simpa using c1) (by rw [hd]; exact bad)), fun h => by cases h⟩
  · exact ⟨false, Ev.bind' _ (place_out l n hl c1 l.length 0 rfl (Nat.zero_le _)) (Ev.neg Bool.false_ne_true (Ev.now _)), Ev.bindc _ (within_eq _ _ _) (Ev.neg (by simpa using c1) bad), fun h => by cases h⟩
end Go.Proofs.Ytpfimjgfojdhhaa.Q
