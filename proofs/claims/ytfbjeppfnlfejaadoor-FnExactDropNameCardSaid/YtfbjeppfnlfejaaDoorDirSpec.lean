/- GoodDir of the reference: what it asks, as plain facts. -/
import Derived.Test.YtfbjeppfnlfejaaDoorDirBase
import Derived.Test.YtfbjeppfnlfejaaDoorG2
namespace Go.Proofs.YtfbjeppfnlfejaaDoor.Q
open Go.RowKit Go.Proofs.YtfbjeppfnlfejaaDoorW.PrintWords Go.Proofs.YtfbjeppfnlfejaaDoor.G
set_option linter.unusedVariables false
set_option linter.unusedSimpArgs false
abbrev Bu := S46
abbrev Nm := S53
/-- Bucket k, its depth, its names. -/
abbrev buc (bs : List Bu) (k : Int) : Bu := rd_T46 bs k
abbrev dep (bs : List Bu) (k : Int) : Int := (buc bs k).f0
abbrev nmAt (l : List Nm) (i : Int) : Nm := rd_T53 l i
def pw (d : Int) : Int := ((2 ^ d.toNat : Nat) : Int)
theorem pw_pos (d : Int) : 0 < pw d := by have := pow_pos d.toNat; unfold pw; omega
theorem pw_le (d : Int) (h : d ≤ 8) : pw d ≤ 256 := by have := pow_le8 d.toNat (by omega); unfold pw; omega
/-- The buckets seen ahead of slot i. -/
def seen (sl : List Int) : Nat → Int
  | 0 => 0
  | i + 1 => if rd sl (i : Int) = seen sl i then seen sl i + 1 else seen sl i
theorem seen_rng (sl : List Int) : ∀ i : Nat, 0 ≤ seen sl i ∧ seen sl i ≤ (i : Int)
  | 0 => ⟨Int.le_refl _, Int.le_refl _⟩
  | i + 1 => by
    have h := seen_rng sl i
    rw [seen]
    split <;> omega
def PairS (sl : List Int) (bs : List Bu) (i j : Nat) : Prop :=
  (rd sl (j : Int) = rd sl (i : Int) ↔ (i : Int) % pw (dep bs (rd sl (i : Int))) = (j : Int) % pw (dep bs (rd sl (i : Int)))) ∧
  (rd sl (j : Int) = rd sl (i : Int) ↔ (i : Int) % pw (dep bs (rd sl (j : Int))) = (j : Int) % pw (dep bs (rd sl (j : Int))))
structure SlotS (D : Int) (sl : List Int) (bs : List Bu) (i : Nat) : Prop where
  k0 : 0 ≤ rd sl (i : Int)
  k1 : rd sl (i : Int) < (bs.length : Int)
  k2 : rd sl (i : Int) ≤ seen sl i
  d0 : 0 ≤ dep bs (rd sl (i : Int))
  d1 : dep bs (rd sl (i : Int)) ≤ D
  pr : ∀ j, j < i → PairS sl bs i j
/-- Name i of bucket b. -/
structure NmS (D : Int) (sl : List Int) (b : Int) (l : List Nm) (i : Nat) : Prop where
  nm : isNm (nmAt l (i : Int)).f0 = true
  f0 : 0 ≤ (nmAt l (i : Int)).f1
  f1 : (nmAt l (i : Int)).f1 ≤ 1000
  or_ : 0 < i → Op.bytesLess (nmAt l ((i : Int) - 1)).f0.toList (nmAt l (i : Int)).f0.toList = true
  hs : rd sl (hashV (nmAt l (i : Int)).f0 % pw D) = b
structure GoodS (D : Int) (sl : List Int) (bs : List Bu) : Prop where
  D0 : 0 ≤ D
  D1 : D ≤ 8
  n : (sl.length : Int) = pw D
  B : (bs.length : Int) ≤ (sl.length : Int)
  S : ∀ i, i < sl.length → SlotS D sl bs i
  N : ∀ b, b < bs.length → (∀ i, i < (buc bs (b : Int)).f1.length → NmS D sl (b : Int) (buc bs (b : Int)).f1 i) ∧ (buc bs (b : Int)).f1.length ≤ 4
  L : seen sl sl.length = (bs.length : Int)
/-- All texts are of a length that the walk may count. -/
structure SzOk (sl : List Int) (bs : List Bu) : Prop where
  s : sl.length ≤ 1048576
  b : bs.length ≤ 1048576
  n : ∀ b : Nat, b < bs.length → (buc bs (b : Int)).f1.length ≤ 1048576
  t : ∀ b : Nat, b < bs.length → ∀ i : Nat, i < (buc bs (b : Int)).f1.length → (nmAt (buc bs (b : Int)).f1 (i : Int)).f0.size ≤ 1048576
section
variable {D : Int} {sl : List Int} {bs : List Bu}
theorem l3_ev (D0 : 0 ≤ D) (D1 : D ≤ 8) (hn : (sl.length : Int) = pw D) (Z : SzOk sl bs) (r : Bool) (sn : Int) (b : Nat) (hb : b < bs.length)
    (good : (∀ i, i < (buc bs (b : Int)).f1.length → NmS D sl (b : Int) (buc bs (b : Int)).f1 i) ∧ (buc bs (b : Int)).f1.length ≤ 4 → Ev (fun k => spec_GoodDir.l2 k sn bs (bs.length : Int) ((b + 1 : Nat) : Int) D sl bs) r)
    (bad : ¬ ((∀ i, i < (buc bs (b : Int)).f1.length → NmS D sl (b : Int) (buc bs (b : Int)).f1 i) ∧ (buc bs (b : Int)).f1.length ≤ 4) → r = false) :
    ∀ m i : Nat, (buc bs (b : Int)).f1.length - i = m → i ≤ (buc bs (b : Int)).f1.length → (∀ j, j < i → NmS D sl (b : Int) (buc bs (b : Int)).f1 j) →
      Ev (fun k => spec_GoodDir.l3 k sn (b : Int) bs (bs.length : Int) (b : Int) (buc bs (b : Int)).f1 ((buc bs (b : Int)).f1.length : Int) (i : Int) D sl bs (buc bs (b : Int)).f0 (buc bs (b : Int)).f1) r := by
  have zn := Z.n b hb
  have zt := Z.t b hb
  have zb := Z.b
  generalize hB : (buc bs (b : Int)) = bu at *
  intro m
  induction m with
  | zero =>
    intro i hd hi hist
    have e : i = bu.f1.length := by omega
    subst e
    refine Ev.step (fun k => by rw [spec_GoodDir.l3]) (Ev.neg (by omega) ?_)
    by_cases c : (bu.f1.length : Int) > 4
    · rw [bad (fun q => by omega)]
      exact Ev.pos c (Ev.now _)
    · refine Ev.neg c ?_
      rw [w64 (x := (b : Int) + 1) (by omega) (by omega)]
      exact good ⟨hist, by omega⟩
  | succ m ih =>
    intro i hd hi hist
    have hil : i < bu.f1.length := by omega
    have nx : NmS D sl (b : Int) bu.f1 i → Ev (fun k => spec_GoodDir.l3 k sn (b : Int) bs (bs.length : Int) (b : Int) bu.f1 (bu.f1.length : Int) ((i + 1 : Nat) : Int) D sl bs bu.f0 bu.f1) r := fun h => ih (i + 1) (by omega) (by omega) (fun j hj => by
      by_cases q : j = i
      · subst q; exact h
      · exact hist j (by omega))
    have no : ¬ NmS D sl (b : Int) bu.f1 i → r = false := fun h => bad (fun q => h (q.1 i hil))
    have hw : wrap64 ((i : Int) + 1) = ((i + 1 : Nat) : Int) := by rw [w64 (by omega) (by omega)]; omega
    have zi := zt i hil
    refine Ev.step (fun k => by rw [spec_GoodDir.l3]) (Ev.pos (by omega) (Ev.pos (by omega) (Ev.pos (by omega) (Ev.bind' _ (isNm_s _ zi) ?_))))
    show Ev (fun k => if isNm (nmAt bu.f1 (i : Int)).f0 = true then _ else _) r
    by_cases c1 : isNm (nmAt bu.f1 (i : Int)).f0 = true
    rotate_left
    · rw [no (fun q => c1 q.nm)]
      exact Ev.neg c1 (Ev.now _)
    refine Ev.pos c1 (Ev.bindc _ (in_eq _ _ _) ?_)
    by_cases c2 : 0 ≤ (nmAt bu.f1 (i : Int)).f1 ∧ (nmAt bu.f1 (i : Int)).f1 ≤ 1000
    rotate_left
    · rw [no (fun q => c2 ⟨q.f0, q.f1⟩)]
      exact Ev.neg (by simpa using c2) (Ev.now _)
    refine Ev.pos (by simpa using c2) ?_
    obtain ⟨⟨hs1, hs2⟩, h0, h1⟩ := hash_ev (nmAt bu.f1 (i : Int)).f0 zi
    have p0 := pw_pos D
    have m0 : 0 ≤ hashV (nmAt bu.f1 (i : Int)).f0 % pw D := Int.emod_nonneg _ (by omega)
    have m1 : hashV (nmAt bu.f1 (i : Int)).f0 % pw D < (sl.length : Int) := by rw [hn]; exact Int.emod_lt_of_pos _ p0
    by_cases c3 : 0 < i
    · refine Ev.pos (by omega) ?_
      have hw2 : wrap64 ((i : Int) - 1) = (i : Int) - 1 := w64 (by omega) (by omega)
      rw [hw2]
      refine Ev.pos (by omega) (Ev.pos (by omega) ?_)
      by_cases c4 : Op.bytesLess (nmAt bu.f1 ((i : Int) - 1)).f0.toList (nmAt bu.f1 (i : Int)).f0.toList = true
      rotate_left
      · rw [no (fun q => c4 (q.or_ c3))]
        exact Ev.neg c4 (Ev.now _)
      refine Ev.pos c4 (Ev.bind' _ hs1 (Ev.bindc _ (low_eq _ D D0 D1) (Ev.pos m0 (Ev.pos m1 ?_))))
      by_cases c5 : rd sl (hashV (nmAt bu.f1 (i : Int)).f0 % pw D) = (b : Int)
      · refine Ev.pos c5 ?_
        rw [hw]
        exact nx ⟨c1, c2.1, c2.2, fun _ => c4, c5⟩
      · rw [no (fun q => c5 q.hs)]
        exact Ev.neg c5 (Ev.now _)
    · refine Ev.neg (by omega) (Ev.bind' _ hs1 (Ev.bindc _ (low_eq _ D D0 D1) (Ev.pos m0 (Ev.pos m1 ?_))))
      by_cases c5 : rd sl (hashV (nmAt bu.f1 (i : Int)).f0 % pw D) = (b : Int)
      · refine Ev.pos c5 ?_
        rw [hw]
        exact nx ⟨c1, c2.1, c2.2, fun q => absurd q c3, c5⟩
      · rw [no (fun q => c5 q.hs)]
        exact Ev.neg c5 (Ev.now _)
theorem l2_ev (D0 : 0 ≤ D) (D1 : D ≤ 8) (hn : (sl.length : Int) = pw D) (Z : SzOk sl bs) (r : Bool) (sn : Int)
    (good : (∀ b, b < bs.length → (∀ i, i < (buc bs (b : Int)).f1.length → NmS D sl (b : Int) (buc bs (b : Int)).f1 i) ∧ (buc bs (b : Int)).f1.length ≤ 4) → r = (sn == (bs.length : Int)))
    (bad : ¬ (∀ b, b < bs.length → (∀ i, i < (buc bs (b : Int)).f1.length → NmS D sl (b : Int) (buc bs (b : Int)).f1 i) ∧ (buc bs (b : Int)).f1.length ≤ 4) → r = false) :
    ∀ m b : Nat, bs.length - b = m → b ≤ bs.length → (∀ j, j < b → (∀ i, i < (buc bs (j : Int)).f1.length → NmS D sl (j : Int) (buc bs (j : Int)).f1 i) ∧ (buc bs (j : Int)).f1.length ≤ 4) →
      Ev (fun k => spec_GoodDir.l2 k sn bs (bs.length : Int) (b : Int) D sl bs) r := by
  intro m
  induction m with
  | zero =>
    intro b hd hi hist
    have e : b = bs.length := by omega
    subst e
    rw [good hist]
    exact Ev.step (fun k => by rw [spec_GoodDir.l2]) (Ev.neg (by omega) (Ev.now _))
  | succ m ih =>
    intro b hd hi hist
    refine Ev.step (fun k => by rw [spec_GoodDir.l2]) (Ev.pos (by omega) (Ev.pos (by omega) (Ev.pos (by omega) ?_)))
    exact l3_ev D0 D1 hn Z r sn b (by omega)
      (fun q => ih (b + 1) (by omega) (by omega) (fun j hj => by
        by_cases e : j = b
        · subst e; exact q
        · exact hist j (by omega)))
      (fun q => bad (fun h => q (h b (by omega)))) _ 0 rfl (by omega) (fun j hj => absurd hj (by omega))
theorem l1_ev (x : Int) (T : List Int) (D0 : 0 ≤ D) (D1 : D ≤ 8) (Z : SzOk sl bs) (r : Bool) (sn : Int) (i : Nat) (hi : i < sl.length) (hx : rd sl (i : Int) = x) (hlt : T.length = i) (hT : ∀ j : Nat, j < i → rd T (j : Int) = rd sl (j : Int)) (k0 : 0 ≤ x) (k1 : x < (bs.length : Int)) (d0 : 0 ≤ dep bs x) (d1 : dep bs x ≤ D)
    (hist : ∀ j, j < i → SlotS D sl bs j)
    (good : (∀ j, j < i → PairS sl bs i j) → Ev (fun k => spec_GoodDir.l0 k sn sl (sl.length : Int) ((i + 1 : Nat) : Int) D sl bs) r)
    (bad : ¬ (∀ j, j < i → PairS sl bs i j) → r = false) :
    ∀ m j : Nat, i - j = m → j ≤ i → (∀ q, q < j → PairS sl bs i q) →
      Ev (fun k => spec_GoodDir.l1 k sn (i : Int) x sl (sl.length : Int) (i : Int) T (i : Int) (j : Int) D sl bs) r := by
  have zs := Z.s
  intro m
  induction m with
  | zero =>
    intro j hd hj hp
    have e : j = i := by omega
    subst e
    refine Ev.step (fun k => by rw [spec_GoodDir.l1]) (Ev.neg (by omega) ?_)
    rw [w64 (x := (j : Int) + 1) (by omega) (by omega)]
    exact good hp
  | succ m ih =>
    intro j hd hj hp
    have hrd := hT j (by omega)
    have hji : j < i := by omega
    have hs := hist j hji
    have o0 := hs.k0; have o1 := hs.k1; have o2 := hs.d0; have o3 := hs.d1
    refine Ev.step (fun k => by rw [spec_GoodDir.l1]) ?_
    refine Ev.pos (by omega) (Ev.pos (by omega) (Ev.pos (by omega) (Ev.pos k0 (Ev.pos k1 ?_))))
    rw [hrd]
    refine Ev.bindc _ (low_eq (i : Int) _ d0 (by unfold dep buc at d1; omega)) (Ev.bindc _ (low_eq (j : Int) _ d0 (by unfold dep buc at d1; omega)) ?_)
    have no : ¬ PairS sl bs i j → r = false := fun h => bad (fun q => h (q j (by omega)))
    have cmp : ∀ (a b x y : Int), ((a == b) != (x == y)) = true ↔ ¬ (a = b ↔ x = y) := fun a b x y => by
      have e1 : (a == b) = decide (a = b) := rfl
      have e2 : (x == y) = decide (x = y) := rfl
      rw [e1, e2]
      by_cases h1 : a = b
      · by_cases h2 : x = y
        · simp [h1, h2]
        · simp [h1, h2]
      · by_cases h2 : x = y
        · simp [h1, h2]
        · simp [h1, h2]
    by_cases c1 : (rd sl (j : Int) = x ↔ (i : Int) % pw (dep bs x) = (j : Int) % pw (dep bs x))
    rotate_left
    · rw [no (fun q => c1 (by have := q.1; rwa [hx] at this))]
      exact Ev.pos ((cmp _ _ _ _).2 c1) (Ev.now _)
    refine Ev.neg (fun q => (cmp _ _ _ _).1 q c1) (Ev.pos o0 (Ev.pos o1 (Ev.bindc _ (low_eq (i : Int) _ o2 (by unfold dep buc at o3; omega)) (Ev.bindc _ (low_eq (j : Int) _ o2 (by unfold dep buc at o3; omega)) ?_))))
    by_cases c2 : (rd sl (j : Int) = x ↔ (i : Int) % pw (dep bs (rd sl (j : Int))) = (j : Int) % pw (dep bs (rd sl (j : Int))))
    rotate_left
    · rw [no (fun q => c2 (by have := q.2; rwa [hx] at this))]
      exact Ev.pos ((cmp _ _ _ _).2 c2) (Ev.now _)
    refine Ev.neg (fun q => (cmp _ _ _ _).1 q c2) ?_
    rw [show wrap64 ((j : Int) + 1) = ((j + 1 : Nat) : Int) from by rw [w64 (by omega) (by omega)]; omega]
    exact ih (j + 1) (by omega) (by omega) (fun q hq => by
      by_cases e : q = j
      · subst e; exact ⟨by rw [hx]; exact c1, by rw [hx]; exact c2⟩
      · exact hp q (by omega))
theorem l0_ev (D0 : 0 ≤ D) (D1 : D ≤ 8) (Z : SzOk sl bs) (r : Bool)
    (good : (∀ i, i < sl.length → SlotS D sl bs i) → Ev (fun k => spec_GoodDir.l2 k (seen sl sl.length) bs (bs.length : Int) 0 D sl bs) r)
    (bad : ¬ (∀ i, i < sl.length → SlotS D sl bs i) → r = false) :
    ∀ m i : Nat, sl.length - i = m → i ≤ sl.length → (∀ j, j < i → SlotS D sl bs j) →
      Ev (fun k => spec_GoodDir.l0 k (seen sl i) sl (sl.length : Int) (i : Int) D sl bs) r := by
  have zs := Z.s; have zb := Z.b
  intro m
  induction m with
  | zero =>
    intro i hd hi hist
    have e : i = sl.length := by omega
    subst e
    exact Ev.step (fun k => by rw [spec_GoodDir.l0]) (Ev.neg (by omega) (good hist))
  | succ m ih =>
    intro i hd hi hist
    have hil : i < sl.length := by omega
    have no : ¬ SlotS D sl bs i → r = false := fun h => bad (fun q => h (q i hil))
    have stop : ∀ x3 x4 x5 x36 x37 x38, r = false → Ev (fun k => spec_GoodDir.j2 k x3 x4 x5 x36 x37 x38 true D sl bs) r := fun x3 x4 x5 x36 x37 x38 h => by
      rw [h]
      exact Ev.step (fun k => by rw [spec_GoodDir.j2]) (Ev.pos rfl (Ev.now _))
    have sr := seen_rng sl i
    refine Ev.step (fun k => by rw [spec_GoodDir.l0]) (Ev.pos (by omega) (Ev.pos (by omega) (Ev.pos (by omega) (Ev.bindc _ (in_eq _ _ _) ?_))))
    rw [w64 (x := (bs.length : Int) - 1) (by omega) (by omega)]
    by_cases c1 : 0 ≤ rd sl (i : Int) ∧ rd sl (i : Int) ≤ (bs.length : Int) - 1
    rotate_left
    · exact Ev.neg (by simpa using c1) (stop _ _ _ _ _ _ (no fun q => c1 ⟨q.k0, by have := q.k1; omega⟩))
    refine Ev.pos (by simpa using c1) ?_
    by_cases c2 : rd sl (i : Int) > seen sl i
    · exact Ev.pos c2 (stop _ _ _ _ _ _ (no fun q => by have := q.k2; omega))
    refine Ev.neg c2 (Ev.pos c1.1 (Ev.pos (by omega) (Ev.bindc _ (in_eq _ _ _) ?_)))
    show Ev (fun k => spec_GoodDir.j2 k (seen sl i) (i : Int) (rd sl (i : Int)) sl (sl.length : Int) (i : Int) (!decide (0 ≤ dep bs (rd sl (i : Int)) ∧ dep bs (rd sl (i : Int)) ≤ D)) D sl bs) r
    by_cases c3 : 0 ≤ dep bs (rd sl (i : Int)) ∧ dep bs (rd sl (i : Int)) ≤ D
    rotate_left
    · rw [decide_eq_false c3]
      exact stop _ _ _ _ _ _ (no fun q => c3 ⟨q.d0, q.d1⟩)
    rw [decide_eq_true c3]
    have go : Ev (fun k => spec_GoodDir.j3 k (seen sl (i + 1)) (i : Int) (rd sl (i : Int)) sl (sl.length : Int) (i : Int) D sl bs) r := by
      refine Ev.step (fun k => by rw [spec_GoodDir.j3]) (Ev.pos (by omega) (Ev.pos (by omega) ?_))
      have hlt : ((sl.take ((i : Int)).toNat).length : Int) = (i : Int) := by rw [List.length_take]; omega
      rw [hlt, Int.toNat_natCast]
      exact l1_ev (rd sl (i : Int)) (sl.take i) D0 D1 Z r (seen sl (i + 1)) i hil rfl (by rw [List.length_take]; omega) (fun j hj => by unfold rd; rw [Int.toNat_natCast, List.getD_eq_getElem?_getD, List.getD_eq_getElem?_getD, List.getElem?_take_of_lt (by omega)]) c1.1 (by omega) c3.1 c3.2 hist
        (fun q => ih (i + 1) (by omega) (by omega) (fun j hj => by
          by_cases e : j = i
          · subst e; exact ⟨c1.1, by omega, by omega, c3.1, c3.2, q⟩
          · exact hist j (by omega)))
        (fun q => no fun h => q h.pr) _ 0 rfl (by omega) (fun q hq => absurd hq (by omega))
    refine Ev.step (fun k => by rw [spec_GoodDir.j2]) (Ev.neg (by simp) ?_)
    by_cases c4 : rd sl (i : Int) = seen sl i
    · refine Ev.pos c4 ?_
      rw [w64 (x := seen sl i + 1) (by omega) (by omega)]
      have e : seen sl (i + 1) = seen sl i + 1 := by rw [seen, if_pos c4]
      rw [← e]
      exact go
    · refine Ev.neg c4 ?_
      have e : seen sl (i + 1) = seen sl i := by rw [seen, if_neg c4]
      rw [← e]
      exact go
theorem spec_ev (Z : SzOk sl bs) (r : Bool) (hr : r = true ↔ GoodS D sl bs) : Ev (fun k => spec_GoodDir.f k D sl bs) r := by
  have no : ¬ GoodS D sl bs → r = false := fun h => Bool.eq_false_iff.2 (fun q => h (hr.1 q))
  have stop : r = false → Ev (fun k => spec_GoodDir.j0 k true D sl bs) r := fun h => by
    rw [h]
    exact Ev.step (fun k => by rw [spec_GoodDir.j0]) (Ev.pos rfl (Ev.now _))
  unfold spec_GoodDir.f
  refine Ev.bindc _ (in_eq _ _ _) ?_
  by_cases c1 : 0 ≤ D ∧ D ≤ 8
  rotate_left
  · exact Ev.neg (by simpa using c1) (stop (no fun q => c1 ⟨q.D0, q.D1⟩))
  refine Ev.pos (by simpa using c1) ?_
  rw [wrapu_eq D c1.1 c1.2, shl_eq D c1.1 c1.2]
  refine Ev.pos c1.1 ?_
  by_cases c2 : (sl.length : Int) = pw D
  rotate_left
  · exact Ev.neg c2 (stop (no fun q => c2 q.n))
  refine Ev.pos c2 ?_
  by_cases c3 : (bs.length : Int) > (sl.length : Int)
  · rw [decide_eq_true c3]
    exact stop (no fun q => by have := q.B; omega)
  rw [decide_eq_false c3]
  refine Ev.step (fun k => by rw [spec_GoodDir.j0]) (Ev.neg (by simp) ?_)
  refine l0_ev c1.1 c1.2 Z r (fun hS => ?_) (fun h => no fun q => h q.S) _ 0 rfl (by omega) (fun j hj => absurd hj (by omega))
  refine l2_ev c1.1 c1.2 c2 Z r _ (fun hN => ?_) (fun h => no fun q => h q.N) _ 0 rfl (by omega) (fun j hj => absurd hj (by omega))
  by_cases c4 : seen sl sl.length = (bs.length : Int)
  · rw [hr.2 ⟨c1.1, c1.2, c2, by omega, hS, hN, c4⟩]
    simpa using c4
  · rw [no fun q => c4 q.L]
    simpa using c4
end
end Go.Proofs.YtfbjeppfnlfejaaDoor.Q
