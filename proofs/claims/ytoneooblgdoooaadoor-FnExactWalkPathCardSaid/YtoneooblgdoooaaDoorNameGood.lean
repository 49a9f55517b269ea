/- GoodNames: the two ask the same. -/
import Derived.Test.YtoneooblgdoooaaDoorNameDeep
import Derived.Test.YtoneooblgdoooaaDoorG1
import Derived.Test.YtoneooblgdoooaaDoorG2
namespace Go.Proofs.YtoneooblgdoooaaDoor.Q
open Go.RowKit Go.Proofs.YtoneooblgdoooaaDoorW.PrintWords Go.Proofs.YtoneooblgdoooaaDoor.G
set_option linter.unusedVariables false
set_option linter.unusedSimpArgs false
/-- Name i of a directory is a name, and comes behind the one ahead. -/
structure NmO (l : List Nm) (i : Nat) : Prop where
  nm : isNm (l.getD i zN).f0 = true
  or_ : 0 < i → Op.bytesLess (l.getD (i - 1) zN).f0.toList (l.getD i zN).f0.toList = true
structure ArN (l : List Nm) : Prop where
  N : ∀ i, i < l.length → NmO l i
  n : l.length ≤ 20
structure InoOk (t : List Ino) (k : Nat) : Prop where
  a : ArN (nms t k)
  d : isd t k = true ∨ nms t k = []
structure SzN (t : List Ino) : Prop where
  n : ∀ k, k < t.length → (nms t k).length ≤ 1048576
  s : ∀ k, k < t.length → ∀ i, i < (nms t k).length → ((nms t k).getD i zN).f0.size ≤ 1048576
/-- What GoodNames asks. -/
structure GN (t : List Ino) : Prop where
  n0 : 1 ≤ t.length
  n1 : t.length ≤ 60
  d0 : isd t 0 = true
  l0 : lnk t 0 = 1
  S : ∀ k, k < t.length → InoOk t k
  R : ∀ k, k < t.length → ∀ x ∈ nms t k, inr t x
  C : C t 8 0
  G : G t (fun _ => 0) (U t 8 0)
  L : ∀ k, 1 ≤ k → k < t.length → lnk t k = ((U t 8 0).count k : Int) ∧ (isd t k = true → lnk t k = 1)
theorem areNames_ev (l : List Nm) (hl : l.length ≤ 1048576) (r : Bool) (hr : r = true ↔ ArN l) : Ev (fun q => impl_areNames.f q l) r := by
  have no : ¬ ArN l → r = false := fun h => Bool.eq_false_iff.2 (fun q => h (hr.1 q))
  have loop : ∀ d i, l.length - i = d → i ≤ l.length → (∀ j, j < i → NmO l j) → Ev (fun q => impl_areNames.l0 q l l (l.length : Int) (i : Int)) r := by
    intro d
    induction d with
    | zero =>
      intro i hd hi hist
      have e : i = l.length := by omega
      subst e
      refine Ev.step (fun q => by rw [impl_areNames.l0]) (Ev.neg (by omega) (Ev.now' ?_))
      by_cases c : l.length ≤ 20
      · rw [decide_eq_true (by omega), hr.2 ⟨hist, c⟩]
      · rw [decide_eq_false (by omega), no fun q => c q.n]
    | succ d ih =>
      intro i hd hi hist
      have hil : i < l.length := by omega
      refine Ev.step (fun q => by rw [impl_areNames.l0]) (Ev.pos (by omega) (Ev.pos (by omega) (Ev.pos (by omega) ?_)))
      rw [rdiName, wS (i := i) (by omega)]
      refine Ev.bindc _ (isNm_i _) ?_
      by_cases c : isNm (l.getD i zN).f0 = true
      rotate_left
      · rw [no fun q => c (q.N i hil).nm]
        exact Ev.neg c (Ev.now _)
      refine Ev.pos c ?_
      by_cases c0 : 0 < i
      · rw [wP (by omega) (by omega), rdiName]
        refine Ev.pos (by omega) (Ev.pos (by omega) (Ev.pos (by omega) ?_))
        by_cases c1 : Op.bytesLess (l.getD (i - 1) zN).f0.toList (l.getD i zN).f0.toList = true
        · refine Ev.pos c1 (ih (i + 1) (by omega) (by omega) (fun j hj => ?_))
          by_cases e : j = i
          · subst e; exact ⟨c, fun _ => c1⟩
          · exact hist j (by omega)
        · rw [no fun q => c1 ((q.N i hil).or_ c0)]
          exact Ev.neg c1 (Ev.now _)
      · refine Ev.neg (by omega) (ih (i + 1) (by omega) (by omega) (fun j hj => ?_))
        by_cases e : j = i
        · subst e; exact ⟨c, fun q => absurd q c0⟩
        · exact hist j (by omega)
  exact loop _ 0 rfl (by omega) (fun j hj => absurd hj (by omega))
section
variable {t : List Ino}
theorem nms_len (S : ∀ k, k < t.length → InoOk t k) (k : Nat) : (nms t k).length ≤ 20 := by
  by_cases c : k < t.length
  · exact (S k c).a.n
  · unfold nms
    rw [List.getD_eq_getElem?_getD, List.getElem?_eq_none (by omega)]
    exact Nat.zero_le _
theorem inr_all (R : ∀ k, k < t.length → ∀ x ∈ nms t k, inr t x) (k : Nat) : ∀ x ∈ nms t k, inr t x := by
  intro x hx
  by_cases c : k < t.length
  · exact R k c x hx
  · unfold nms at hx
    rw [List.getD_eq_getElem?_getD, List.getElem?_eq_none (by omega)] at hx
    cases hx
/-- The program's last test, in the place of the reference's. -/
structure GI (t : List Ino) : Prop where
  n0 : 1 ≤ t.length
  n1 : t.length ≤ 60
  d0 : isd t 0 = true
  l0 : lnk t 0 = 1
  S : ∀ k, k < t.length → InoOk t k
  C : C t 8 0
  G : G t (fun _ => 0) (U t 8 0)
  L : ∀ k, 1 ≤ k → k < t.length → lnk t k = ((U t 8 0).count k : Int) ∧ ¬ (((U t 8 0).count k : Int) = 0 ∧ isd t k = true)
theorem GI_iff : GI t ↔ GN t := by
  constructor
  · intro h
    refine ⟨h.n0, h.n1, h.d0, h.l0, h.S, fun k hk x hx => ?_, h.C, h.G, fun k h1 h2 => ⟨(h.L k h1 h2).1, fun hd => ?_⟩⟩
    · have hd : isd t k = true := by
        rcases (h.S k hk).d with d | e
        · exact d
        · rw [e] at hx; cases hx
      by_cases k0 : k = 0
      · subst k0
        exact (h.C x hx).1
      · have l := (h.L k (by omega) hk).2
        refine C_mem t 8 0 h.C k ?_ hd x hx
        refine List.count_pos_iff.1 ?_
        have : ¬ ((U t 8 0).count k : Int) = 0 := fun q => l ⟨q, hd⟩
        omega
    · have l := h.L k h1 h2
      have : ¬ ((U t 8 0).count k : Int) = 0 := fun q => l.2 ⟨q, hd⟩
      have g : (0 : Int) + _ ≤ 1 := h.G k hd (List.count_pos_iff.1 (by omega))
      omega
  · intro h
    refine ⟨h.n0, h.n1, h.d0, h.l0, h.S, h.C, h.G, fun k h1 h2 => ⟨(h.L k h1 h2).1, fun q => ?_⟩⟩
    have l := h.L k h1 h2
    have := l.2 q.2
    omega
theorem impl_ev (Z : SzN t) (zt : t.length ≤ 1048576) (r : Bool) (hr : r = true ↔ GN t) : Ev (fun q => impl_GoodNames.f q t) r := by
  rw [← GI_iff] at hr
  have no : ¬ GI t → r = false := fun h => Bool.eq_false_iff.2 (fun q => h (hr.1 q))
  have stop : r = false → Ev (fun q => impl_GoodNames.j0 q true t) r := fun h => by
    rw [h]
    exact Ev.step (fun q => by rw [impl_GoodNames.j0]) (Ev.pos rfl (Ev.now _))
  unfold impl_GoodNames.f
  refine Ev.bindc _ (within_eq' _ _ _) ?_
  by_cases c1 : 1 ≤ (t.length : Int) ∧ (t.length : Int) ≤ 60
  rotate_left
  · exact Ev.neg (by simpa using c1) (stop (no fun q => c1 ⟨by have := q.n0; omega, by have := q.n1; omega⟩))
  refine Ev.pos (by simpa using c1) (Ev.pos (by omega) ?_)
  have e0 := rdI t 0
  rw [show ((0 : Nat) : Int) = 0 from rfl] at e0
  rw [e0]
  by_cases c2 : isd t 0 = true
  rotate_left
  · exact Ev.neg c2 (stop (no fun q => c2 q.d0))
  refine Ev.pos c2 ?_
  by_cases c3 : lnk t 0 = 1
  rotate_left
  · have e : ((t.getD 0 zI).f1 != 1) = true := by
      have : ¬ (t.getD 0 zI).f1 = 1 := c3
      simpa using this
    rw [e]
    exact stop (no fun q => c3 q.l0)
  have e : ((t.getD 0 zI).f1 != 1) = false := by
    have : (t.getD 0 zI).f1 = 1 := c3
    rw [this]; rfl
  rw [e]
  refine Ev.step (fun q => by rw [impl_GoodNames.j0]) (Ev.neg (by simp) ?_)
  have last : ∀ (nm : List Int), nm.length = t.length → (∀ f, f < t.length → rd nm (f : Int) = ((U t 8 0).count f : Int)) → (∀ k, k < t.length → InoOk t k) → C t 8 0 → G t (fun _ => 0) (U t 8 0) →
      ∀ d i, t.length - 1 - i = d → i ≤ t.length - 1 → (∀ j, j < i → lnk t (j + 1) = ((U t 8 0).count (j + 1) : Int) ∧ ¬ (((U t 8 0).count (j + 1) : Int) = 0 ∧ isd t (j + 1) = true)) →
        Ev (fun q => impl_GoodNames.l1 q nm (t.drop 1) ((t.drop 1).length : Int) (i : Int)) r := by
    intro nm ln hn hS hC hG d
    have ld : (t.drop 1).length = t.length - 1 := List.length_drop ..
    induction d with
    | zero =>
      intro i hd hi hist
      refine Ev.step (fun q => by rw [impl_GoodNames.l1]) (Ev.neg (by omega) (Ev.now' (Eq.symm (hr.2 ⟨by omega, by omega, c2, c3, hS, hC, hG, fun k k1 k2 => ?_⟩))))
      have := hist (k - 1) (by omega)
      rwa [show k - 1 + 1 = k from by omega] at this
    | succ d ih =>
      intro i hd hi hist
      have er : rd_T40 (t.drop 1) (i : Int) = t.getD (i + 1) zI := by
        rw [rdI, List.getD_eq_getElem?_getD, List.getElem?_drop, List.getD_eq_getElem?_getD, Nat.add_comm 1 i]
      refine Ev.step (fun q => by rw [impl_GoodNames.l1]) ?_
      rw [wS (i := i) (by omega), er, hn (i + 1) (by omega)]
      refine Ev.pos (by omega) (Ev.pos (by omega) (Ev.pos (by omega) (Ev.pos (by omega) (Ev.pos (by omega) ?_))))
      by_cases a : lnk t (i + 1) = ((U t 8 0).count (i + 1) : Int)
      rotate_left
      · rw [no fun q => a (q.L (i + 1) (by omega) (by omega)).1]
        exact Ev.neg a (Ev.now _)
      refine Ev.pos a ?_
      have nx : ¬ (((U t 8 0).count (i + 1) : Int) = 0 ∧ isd t (i + 1) = true) → Ev (fun q => impl_GoodNames.l1 q nm (t.drop 1) ((t.drop 1).length : Int) ((i + 1 : Nat) : Int)) r := fun h => ih (i + 1) (by omega) (by omega) (fun j hj => by
        by_cases e : j = i
        · subst e; exact ⟨a, h⟩
        · exact hist j (by omega))
      by_cases b : ((U t 8 0).count (i + 1) : Int) = 0
      rotate_left
      · exact Ev.neg b (nx fun q => b q.1)
      refine Ev.pos b ?_
      by_cases c : isd t (i + 1) = true
      · rw [no fun q => (q.L (i + 1) (by omega) (by omega)).2 ⟨b, c⟩]
        exact Ev.pos c (Ev.now _)
      · exact Ev.neg c (nx fun q => c q.2)
  have loop : ∀ d i, t.length - i = d → i ≤ t.length → (∀ j, j < i → InoOk t j) → Ev (fun q => impl_GoodNames.l0 q t (t.length : Int) (i : Int) t) r := by
    intro d
    induction d with
    | zero =>
      intro i hd hi hist
      have e : i = t.length := by omega
      subst e
      refine Ev.step (fun q => by rw [impl_GoodNames.l0]) (Ev.neg (by omega) ?_)
      obtain ⟨x, ex, h1, h2⟩ := deepest_ev t (by omega) (by omega) (nms_len hist)
      refine Ev.bind' _ ex ?_
      have j2 : ∀ b : Bool, b = false → (∀ f, f < t.length → rd x.2.1 (f : Int) = ((U t 8 0).count f : Int)) → x.2.1.length = t.length → C t 8 0 → G t (fun _ => 0) (U t 8 0) → Ev (fun q => impl_GoodNames.j2 q x.2.1 b t) r := fun b hb hn hl hC hG => by
        rw [hb]
        refine Ev.step (fun q => by rw [impl_GoodNames.j2]) ?_
        refine Ev.neg (by simp) (Ev.pos (by omega) (Ev.bindc (t.drop 1) rfl ?_))
        exact last x.2.1 hl hn hist hC hG _ 0 rfl (by omega) (fun j hj => absurd hj (by omega))
      have j2n : ¬ (C t 8 0 ∧ G t (fun _ => 0) (U t 8 0)) → Ev (fun q => impl_GoodNames.j2 q x.2.1 true t) r := fun h => by
        rw [no fun q => h ⟨q.C, q.G⟩]
        refine Ev.step (fun q => by rw [impl_GoodNames.j2]) ?_
        exact Ev.pos rfl (Ev.now _)
      by_cases a : x.2.2 = true
      rotate_left
      · exact Ev.neg a (j2n fun q => a (h1.2 q).1)
      refine Ev.pos a ?_
      by_cases b : x.1 ≤ 8
      · obtain ⟨l, n⟩ := h2 a b
        obtain ⟨hC, hG⟩ := h1.1 ⟨a, b⟩
        exact j2 _ (decide_eq_false (by omega)) n l hC hG
      · rw [decide_eq_true (show x.1 > 8 by omega)]
        exact j2n fun q => b (h1.2 q).2
    | succ d ih =>
      intro i hd hi hist
      have hil : i < t.length := by omega
      have zn := Z.n i hil
      refine Ev.step (fun q => by rw [impl_GoodNames.l0]) (Ev.pos (by omega) (Ev.pos (by omega) (Ev.pos (by omega) ?_)))
      rw [rdI, wS (i := i) (by omega)]
      classical
      refine Ev.bind' _ (areNames_ev (nms t i) zn (decide (ArN (nms t i))) decide_eq_true_iff) ?_
      by_cases a : ArN (nms t i)
      rotate_left
      · rw [decide_eq_false a, no fun q => a (q.S i hil).a]
        exact Ev.neg (by simp) (Ev.now _)
      rw [decide_eq_true a]
      refine Ev.pos rfl ?_
      have nx : (isd t i = true ∨ nms t i = []) → Ev (fun q => impl_GoodNames.l0 q t (t.length : Int) ((i + 1 : Nat) : Int) t) r := fun h => ih (i + 1) (by omega) (by omega) (fun j hj => by
        by_cases e : j = i
        · subst e; exact ⟨a, h⟩
        · exact hist j (by omega))
      by_cases b : isd t i = true
      · exact Ev.pos b (nx (.inl b))
      refine Ev.neg b ?_
      by_cases c : nms t i = []
      · have lz : (nms t i).length = 0 := by rw [c]; rfl
        exact Ev.neg (show ¬ ((nms t i).length : Int) > 0 by omega) (nx (.inr c))
      · have := List.length_pos_iff.2 c
        rw [no fun q => (q.S i hil).d.elim b c]
        exact Ev.pos (show ((nms t i).length : Int) > 0 by omega) (Ev.now _)
  exact loop _ 0 rfl (by omega) (fun j hj => absurd hj (by omega))
theorem spec_ev (Z : SzN t) (zt : t.length ≤ 1048576) (r : Bool) (hr : r = true ↔ GN t) : Ev (fun q => spec_GoodNames.f q t) r := by
  have no : ¬ GN t → r = false := fun h => Bool.eq_false_iff.2 (fun q => h (hr.1 q))
  have stop : r = false → Ev (fun q => spec_GoodNames.j0 q (t.length : Int) true t) r := fun h => by
    rw [h]
    exact Ev.step (fun q => by rw [spec_GoodNames.j0]) (Ev.pos rfl (Ev.now _))
  unfold spec_GoodNames.f
  refine Ev.bindc _ (in_eq _ _ _) ?_
  by_cases c1 : 1 ≤ (t.length : Int) ∧ (t.length : Int) ≤ 60
  rotate_left
  · exact Ev.neg (by simpa using c1) (stop (no fun q => c1 ⟨by have := q.n0; omega, by have := q.n1; omega⟩))
  refine Ev.pos (by simpa using c1) (Ev.pos (by omega) ?_)
  have e0 := rdI t 0
  rw [show ((0 : Nat) : Int) = 0 from rfl] at e0
  rw [e0]
  by_cases c2 : isd t 0 = true
  rotate_left
  · exact Ev.neg c2 (stop (no fun q => c2 q.d0))
  refine Ev.pos c2 ?_
  by_cases c3 : lnk t 0 = 1
  rotate_left
  · have e : ((t.getD 0 zI).f1 != 1) = true := by
      have : ¬ (t.getD 0 zI).f1 = 1 := c3
      simpa using this
    rw [e]
    exact stop (no fun q => c3 q.l0)
  have e : ((t.getD 0 zI).f1 != 1) = false := by
    have : (t.getD 0 zI).f1 = 1 := c3
    rw [this]; rfl
  rw [e]
  refine Ev.step (fun q => by rw [spec_GoodNames.j0]) (Ev.neg (by simp) ?_)
  have last : ∀ (sn : List Int), sn.length = t.length → (∀ f, f < t.length → rd sn (f : Int) = ((U t 8 0).count f : Int)) → (∀ k, k < t.length → InoOk t k) → (∀ k, k < t.length → ∀ x ∈ nms t k, inr t x) → C t 8 0 → G t (fun _ => 0) (U t 8 0) →
      ∀ d i, t.length - i = d → i ≤ t.length → (∀ j, j < i → 1 ≤ j → lnk t j = ((U t 8 0).count j : Int) ∧ (isd t j = true → lnk t j = 1)) →
        Ev (fun q => spec_GoodNames.l2 q sn t (t.length : Int) (i : Int)) r := by
    intro sn ln hn hS hR hC hG d
    induction d with
    | zero =>
      intro i hd hi hist
      refine Ev.step (fun q => by rw [spec_GoodNames.l2]) (Ev.neg (by omega) (Ev.now' (Eq.symm (hr.2 ⟨by omega, by omega, c2, c3, hS, hR, hC, hG, fun k k1 k2 => hist k (by omega) k1⟩))))
    | succ d ih =>
      intro i hd hi hist
      refine Ev.step (fun q => by rw [spec_GoodNames.l2]) ?_
      rw [wS (i := i) (by omega), rdI, hn i (by omega)]
      refine Ev.pos (by omega) (Ev.pos (by omega) (Ev.pos (by omega) ?_))
      by_cases c0 : 0 < i
      rotate_left
      · exact Ev.neg (by omega) (ih (i + 1) (by omega) (by omega) (fun j hj j1 => absurd j1 (by omega)))
      refine Ev.pos (by omega) (Ev.pos (by omega) ?_)
      by_cases a : lnk t i = ((U t 8 0).count i : Int)
      rotate_left
      · rw [no fun q => a (q.L i (by omega) (by omega)).1]
        exact Ev.neg a (Ev.now _)
      refine Ev.pos a ?_
      have nx : (isd t i = true → lnk t i = 1) → Ev (fun q => spec_GoodNames.l2 q sn t (t.length : Int) ((i + 1 : Nat) : Int)) r := fun h => ih (i + 1) (by omega) (by omega) (fun j hj j1 => by
        by_cases e : j = i
        · subst e; exact ⟨a, h⟩
        · exact hist j (by omega) j1)
      by_cases b : isd t i = true
      rotate_left
      · exact Ev.neg b (nx fun q => absurd q b)
      refine Ev.pos b ?_
      by_cases c : lnk t i = 1
      · exact Ev.pos c (nx fun _ => c)
      · rw [no fun q => c ((q.L i (by omega) (by omega)).2 b)]
        exact Ev.neg c (Ev.now _)
  have loop : ∀ d i, t.length - i = d → i ≤ t.length → (∀ j, j < i → InoOk t j ∧ ∀ x ∈ nms t j, inr t x) → Ev (fun q => spec_GoodNames.l0 q (t.length : Int) t (t.length : Int) (i : Int) t) r := by
    intro d
    induction d with
    | zero =>
      intro i hd hi hist
      have e : i = t.length := by omega
      subst e
      have hS : ∀ k, k < t.length → InoOk t k := fun k hk => (hist k hk).1
      have hR : ∀ k, k < t.length → ∀ x ∈ nms t k, inr t x := fun k hk => (hist k hk).2
      have r0 : ∀ f : Nat, rd (List.replicate t.length 0) (f : Int) = 0 := fun f => by rw [rdw_int, getD_replicate]
      have ul := U8_len t (nms_len hS) 0
      obtain ⟨b, sl, es, h1, h2⟩ := seen_ev t (by omega) (inr_all hR) (nms_len hS) 8 (by omega) 0 (by omega) (List.replicate t.length 0) List.length_replicate (fun f hf => by
        have := List.count_le_length (a := f) (l := U t 8 0)
        rw [r0]; omega)
      rw [G_congr t _ (fun _ => 0) _ (fun f _ => r0 f)] at h1
      refine Ev.step (fun q => by rw [spec_GoodNames.l0]) (Ev.neg (by omega) (Ev.pos (by omega) ?_))
      rw [Int.toNat_natCast]
      refine Ev.pos (by omega) (Ev.bind' _ es ?_)
      cases b with
      | false =>
        rw [no fun q => absurd (h1.2 ⟨q.C, q.G⟩) (by simp)]
        exact Ev.neg (by simp) (Ev.now _)
      | true =>
        obtain ⟨hC, hG⟩ := h1.1 rfl
        obtain ⟨l, n⟩ := h2 rfl
        exact Ev.pos rfl (last sl l (fun f hf => by rw [n f hf, r0]; omega) hS hR hC hG _ 0 rfl (by omega) (fun j hj => absurd hj (by omega)))
    | succ d ih =>
      intro i hd hi hist
      have hil : i < t.length := by omega
      have zn := Z.n i hil
      have zs := Z.s i hil
      refine Ev.step (fun q => by rw [spec_GoodNames.l0]) (Ev.pos (by omega) (Ev.pos (by omega) (Ev.pos (by omega) ?_)))
      rw [rdI]
      have nol : (¬ (InoOk t i ∧ ∀ x ∈ nms t i, inr t x)) → r = false := fun h => no fun q => h ⟨q.S i hil, q.R i hil⟩
      have inner : ∀ e j, (nms t i).length - j = e → j ≤ (nms t i).length → (∀ p, p < j → NmO (nms t i) p ∧ inr t ((nms t i).getD p zN)) →
          Ev (fun q => spec_GoodNames.l1 q (t.length : Int) t (t.length : Int) (i : Int) (nms t i) ((nms t i).length : Int) (j : Int) t (isd t i) (lnk t i) (nms t i)) r := by
        intro e
        induction e with
        | zero =>
          intro j hd hj hist2
          refine Ev.step (fun q => by rw [spec_GoodNames.l1]) (Ev.neg (by omega) ?_)
          rw [wS (i := i) (by omega)]
          have nx : (nms t i).length ≤ 20 → (isd t i = true ∨ nms t i = []) → Ev (fun q => spec_GoodNames.l0 q (t.length : Int) t (t.length : Int) ((i + 1 : Nat) : Int) t) r := fun h2 h3 => ih (i + 1) (by omega) (by omega) (fun p hp => by
            by_cases e : p = i
            · subst e
              refine ⟨⟨⟨fun q hq => (hist2 q (by omega)).1, h2⟩, h3⟩, fun x hx => ?_⟩
              obtain ⟨q, hq, rfl⟩ := List.mem_iff_getElem.1 hx
              have := (hist2 q (by omega)).2
              rwa [getD_eq _ _ _ hq] at this
            · exact hist p (by omega))
          by_cases b : isd t i = true
          · refine Ev.pos b ?_
            by_cases c : (nms t i).length ≤ 20
            · exact Ev.neg (by omega) (nx c (.inl b))
            · rw [nol fun q => c q.1.a.n]
              exact Ev.pos (by omega) (Ev.now _)
          · refine Ev.neg b ?_
            by_cases c : nms t i = []
            · have lz : (nms t i).length = 0 := by rw [c]; rfl
              exact Ev.neg (by omega) (Ev.neg (by omega) (nx (by omega) (.inr c)))
            · have := List.length_pos_iff.2 c
              rw [nol fun q => q.1.d.elim b c]
              exact Ev.pos (by omega) (Ev.now _)
        | succ e ihe =>
          intro j hd hj hist2
          have hjl : j < (nms t i).length := by omega
          refine Ev.step (fun q => by rw [spec_GoodNames.l1]) (Ev.pos (by omega) (Ev.pos (by omega) (Ev.pos (by omega) ?_)))
          rw [rdiName, wS (i := j) (by omega)]
          refine Ev.bind' _ (isNm_s _ (zs j hjl)) ?_
          by_cases a : isNm ((nms t i).getD j zN).f0 = true
          rotate_left
          · rw [nol fun q => a (q.1.a.N j hjl).nm]
            exact Ev.neg a (Ev.now _)
          refine Ev.pos a (Ev.bindc _ (in_eq _ _ _) ?_)
          rw [w64 (x := (t.length : Int) - 1) (by omega) (by omega)]
          by_cases b : inr t ((nms t i).getD j zN)
          rotate_left
          · rw [nol fun q => b (q.2 _ (getD_mem _ _ _ hjl))]
            refine Ev.neg ?_ (Ev.now _)
            unfold inr at b
            simpa using b
          have b2 := b
          unfold inr at b2
          refine Ev.pos (by simpa using b2) ?_
          have nx : (0 < j → Op.bytesLess ((nms t i).getD (j - 1) zN).f0.toList ((nms t i).getD j zN).f0.toList = true) → Ev (fun q => spec_GoodNames.l1 q (t.length : Int) t (t.length : Int) (i : Int) (nms t i) ((nms t i).length : Int) ((j + 1 : Nat) : Int) t (isd t i) (lnk t i) (nms t i)) r := fun h => ihe (j + 1) (by omega) (by omega) (fun p hp => by
            by_cases e : p = j
            · subst e; exact ⟨⟨a, h⟩, b⟩
            · exact hist2 p (by omega))
          by_cases c0 : 0 < j
          rotate_left
          · exact Ev.neg (by omega) (nx fun q => absurd q c0)
          rw [wP (by omega) (by omega), rdiName]
          refine Ev.pos (by omega) (Ev.pos (by omega) (Ev.pos (by omega) ?_))
          by_cases c : Op.bytesLess ((nms t i).getD (j - 1) zN).f0.toList ((nms t i).getD j zN).f0.toList = true
          · exact Ev.pos c (nx fun _ => c)
          · rw [nol fun q => c ((q.1.a.N j hjl).or_ c0)]
            exact Ev.neg c (Ev.now _)
      exact inner _ 0 rfl (by omega) (fun p hp => absurd hp (by omega))
  exact loop _ 0 rfl (by omega) (fun j hj => absurd hj (by omega))
end
/-- GoodNames of both. -/
theorem goodNames_ev (t : List Ino) (Z : SzN t) (zt : t.length ≤ 1048576) : ∃ r : Bool, Ev (fun q => spec_GoodNames.f q t) r ∧ Ev (fun q => impl_GoodNames.f q t) r ∧ (r = true ↔ GN t) := by
  classical
  exact ⟨decide (GN t), spec_ev Z zt _ decide_eq_true_iff, impl_ev Z zt _ decide_eq_true_iff, decide_eq_true_iff⟩
end Go.Proofs.YtoneooblgdoooaaDoor.Q
