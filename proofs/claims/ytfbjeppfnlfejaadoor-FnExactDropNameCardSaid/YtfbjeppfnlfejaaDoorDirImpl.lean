/- GoodDir of the program: what it asks, as plain facts. -/
import Derived.Test.YtfbjeppfnlfejaaDoorDirSpec
import Derived.Test.YtfbjeppfnlfejaaDoorG4
namespace Go.Proofs.YtfbjeppfnlfejaaDoor.Q
open Go.RowKit Go.Proofs.YtfbjeppfnlfejaaDoorW.PrintWords Go.Proofs.YtfbjeppfnlfejaaDoor.G
set_option linter.unusedVariables false
set_option linter.unusedSimpArgs false
structure NmI (l : List Nm) (i : Nat) : Prop where
  nm : isNm (nmAt l (i : Int)).f0 = true
  f0 : 0 ≤ (nmAt l (i : Int)).f1
  f1 : (nmAt l (i : Int)).f1 ≤ 1000
  or_ : 0 < i → Op.bytesLess (nmAt l ((i : Int) - 1)).f0.toList (nmAt l (i : Int)).f0.toList = true
structure BkI (D : Int) (b : Bu) : Prop where
  d0 : 0 ≤ b.f0
  d1 : b.f0 ≤ D
  n : b.f1.length ≤ 4
  N : ∀ i, i < b.f1.length → NmI b.f1 i
def cntp (p : Nat → Bool) : Nat → Nat
  | 0 => 0
  | n + 1 => cntp p n + if p n = true then 1 else 0
structure SlotI (D : Int) (sl : List Int) (bs : List Bu) (i : Nat) : Prop where
  k0 : 0 ≤ rd sl (i : Int)
  k1 : rd sl (i : Int) < (bs.length : Int)
  k2 : rd sl (i : Int) ≤ seen sl i
  bk : BkI D (buc bs (rd sl (i : Int)))
  fi : rd sl ((i : Int) % pw (dep bs (rd sl (i : Int)))) = rd sl (i : Int)
  fm : ∀ j : Nat, (j : Int) < (i : Int) % pw (dep bs (rd sl (i : Int))) → rd sl (j : Int) ≠ rd sl (i : Int)
structure GoodI (D : Int) (sl : List Int) (bs : List Bu) : Prop where
  D0 : 0 ≤ D
  D1 : D ≤ 8
  n : (sl.length : Int) = pw D
  S : ∀ i, i < sl.length → SlotI D sl bs i
  L : seen sl sl.length = (bs.length : Int)
  C : ∀ b, b < bs.length → (cntp (fun j => rd sl (j : Int) == (b : Int)) sl.length : Int) = (sl.length : Int) / pw (dep bs (b : Int))
  N : ∀ b, b < bs.length → ∀ i, i < (buc bs (b : Int)).f1.length → rd sl (hashV (nmAt (buc bs (b : Int)).f1 (i : Int)).f0 % (sl.length : Int)) = (b : Int)
theorem cntp_le (p : Nat → Bool) : ∀ n, cntp p n ≤ n
  | 0 => Nat.le_refl _
  | n + 1 => by
    have := cntp_le p n
    rw [cntp]
    split <;> omega
theorem shr_eq (n d : Int) (h0 : 0 ≤ d) (h1 : d ≤ 8) : shr .i64 n d = n / pw d := by
  have h : IntKind.i64.bits = 64 := rfl
  unfold shr pw
  rw [h, Nat.min_eq_left (by omega), Int.natCast_pow]
  rfl
theorem mn_le (k a b : Int) : k ≤ mn a b ↔ k ≤ a ∧ k ≤ b := by
  unfold mn
  split <;> omega
theorem seen_onto (sl : List Int) (b : Int) (h0 : 0 ≤ b) : ∀ i : Nat, b < seen sl i → ∃ j, j < i ∧ rd sl (j : Int) = b
  | 0, h => by rw [seen] at h; omega
  | i + 1, h => by
    rw [seen] at h
    by_cases q : b < seen sl i
    · obtain ⟨j, hj, e⟩ := seen_onto sl b h0 i q
      exact ⟨j, by omega, e⟩
    · split at h
      · exact ⟨i, by omega, by omega⟩
      · omega
theorem first_ex (sl : List Int) (x : Int) : ∀ n : Nat, (∃ i : Nat, i < n ∧ rd sl (i : Int) = x) → ∃ f : Nat, f < n ∧ rd sl (f : Int) = x ∧ ∀ j : Nat, j < f → rd sl (j : Int) ≠ x
  | 0, ⟨i, h, _⟩ => absurd h (by omega)
  | n + 1, ⟨i, h, e⟩ => by
    by_cases c : ∃ i : Nat, i < n ∧ rd sl (i : Int) = x
    · obtain ⟨f, h1, h2, h3⟩ := first_ex sl x n c
      exact ⟨f, by omega, h2, h3⟩
    · have : i = n := by
        by_cases q : i < n
        · exact absurd ⟨i, q, e⟩ c
        · omega
      subst this
      exact ⟨i, by omega, e, fun j hj hx => c ⟨j, hj, hx⟩⟩
section
variable {D : Int} {sl : List Int} {bs : List Bu}
theorem bk_ev (b : Bu) (D : Int) (zn : b.f1.length ≤ 1048576) (r : Bool) (hr : r = true ↔ BkI D b) : Ev (fun k => impl_isGoodBucket.f k b.f0 b.f1 D) r := by
  have no : ¬ BkI D b → r = false := fun h => Bool.eq_false_iff.2 (fun q => h (hr.1 q))
  have stop : r = false → Ev (fun k => impl_isGoodBucket.j0 k true b.f0 b.f1) r := fun h => by
    rw [h]
    exact Ev.step (fun k => by rw [impl_isGoodBucket.j0]) (Ev.pos rfl (Ev.now _))
  have loop : 0 ≤ b.f0 → b.f0 ≤ D → b.f1.length ≤ 4 → ∀ m i : Nat, b.f1.length - i = m → i ≤ b.f1.length → (∀ j, j < i → NmI b.f1 j) → Ev (fun k => impl_isGoodBucket.l0 k b.f1 (b.f1.length : Int) (i : Int) b.f0 b.f1) r := by
    intro d0 d1 hn m
    induction m with
    | zero =>
      intro i hd hi hist
      have e : i = b.f1.length := by omega
      subst e
      rw [hr.2 ⟨d0, d1, hn, hist⟩]
      exact Ev.step (fun k => by rw [impl_isGoodBucket.l0]) (Ev.neg (by omega) (Ev.now _))
    | succ m ih =>
      intro i hd hi hist
      have hil : i < b.f1.length := by omega
      have nx : NmI b.f1 i → Ev (fun k => impl_isGoodBucket.l0 k b.f1 (b.f1.length : Int) ((i + 1 : Nat) : Int) b.f0 b.f1) r := fun h => ih (i + 1) (by omega) (by omega) (fun j hj => by
        by_cases q : j = i
        · subst q; exact h
        · exact hist j (by omega))
      have no' : ¬ NmI b.f1 i → r = false := fun h => no (fun q => h (q.N i hil))
      refine Ev.step (fun k => by rw [impl_isGoodBucket.l0]) (Ev.pos (by omega) (Ev.pos (by omega) (Ev.pos (by omega) (Ev.bindc _ (isNm_i _) ?_))))
      by_cases c1 : isNm (nmAt b.f1 (i : Int)).f0 = true
      rotate_left
      · rw [no' (fun q => c1 q.nm)]
        exact Ev.neg c1 (Ev.now _)
      refine Ev.pos c1 (Ev.bindc _ (within_eq' _ _ _) ?_)
      by_cases c2 : 0 ≤ (nmAt b.f1 (i : Int)).f1 ∧ (nmAt b.f1 (i : Int)).f1 ≤ 1000
      rotate_left
      · rw [no' (fun q => c2 ⟨q.f0, q.f1⟩)]
        exact Ev.neg (by simpa using c2) (Ev.now _)
      refine Ev.pos (by simpa using c2) ?_
      by_cases c3 : 0 < i
      · refine Ev.pos (by omega) ?_
        have hw2 : wrap64 ((i : Int) - 1) = (i : Int) - 1 := w64 (by omega) (by omega)
        rw [hw2]
        refine Ev.pos (by omega) (Ev.pos (by omega) ?_)
        by_cases c4 : Op.bytesLess (nmAt b.f1 ((i : Int) - 1)).f0.toList (nmAt b.f1 (i : Int)).f0.toList = true
        · refine Ev.pos c4 ?_
          rw [show wrap64 ((i : Int) + 1) = ((i + 1 : Nat) : Int) from by rw [w64 (by omega) (by omega)]; omega]
          exact nx ⟨c1, c2.1, c2.2, fun _ => c4⟩
        · rw [no' (fun q => c4 (q.or_ c3))]
          exact Ev.neg c4 (Ev.now _)
      · refine Ev.neg (by omega) ?_
        rw [show wrap64 ((i : Int) + 1) = ((i + 1 : Nat) : Int) from by rw [w64 (by omega) (by omega)]; omega]
        exact nx ⟨c1, c2.1, c2.2, fun q => absurd q c3⟩
  unfold impl_isGoodBucket.f
  refine Ev.bindc _ (within_eq' _ _ _) ?_
  by_cases c1 : 0 ≤ b.f0 ∧ b.f0 ≤ D
  rotate_left
  · exact Ev.neg (by simpa using c1) (stop (no fun q => c1 ⟨q.d0, q.d1⟩))
  refine Ev.pos (by simpa using c1) ?_
  by_cases c2 : (b.f1.length : Int) > 4
  · rw [decide_eq_true c2]
    exact stop (no fun q => by have := q.n; omega)
  rw [decide_eq_false c2]
  refine Ev.step (fun k => by rw [impl_isGoodBucket.j0]) (Ev.neg (by simp) ?_)
  exact loop c1.1 c1.2 (by omega) _ 0 rfl (by omega) (fun j hj => absurd hj (by omega))
theorem index_ev (zs : sl.length ≤ 1048576) (x : Int) (f : Nat) (hf : f < sl.length) (hx : rd sl (f : Int) = x) (hm : ∀ j : Nat, j < f → rd sl (j : Int) ≠ x) : Ev (fun k => slices_Index_int_int.f k sl x) (f : Int) := by
  have go : ∀ m i : Nat, f - i = m → i ≤ f → Ev (fun k => slices_Index_int_int.l0 k sl x (sl.length : Int) (i : Int)) (f : Int) := by
    intro m
    induction m with
    | zero =>
      intro i hd hi
      have e : i = f := by omega
      subst e
      exact Ev.step (fun k => by rw [slices_Index_int_int.l0]) (Ev.pos (by omega) (Ev.pos (by omega) (Ev.pos (by omega) (Ev.pos hx.symm (Ev.now _)))))
    | succ m ih =>
      intro i hd hi
      refine Ev.step (fun k => by rw [slices_Index_int_int.l0]) (Ev.pos (by omega) (Ev.pos (by omega) (Ev.pos (by omega) (Ev.neg (fun (q : x = rd sl (i : Int)) => hm i (by omega) q.symm) ?_))))
      rw [show wrap64 ((i : Int) + 1) = ((i + 1 : Nat) : Int) from by rw [w64 (by omega) (by omega)]; omega]
      exact ih (i + 1) (by omega) (by omega)
  unfold slices_Index_int_int.f
  exact go _ 0 rfl (by omega)
theorem slotOf_ev (s : ByteArray) (hs : s.size ≤ 1048576) (h : 0 < sl.length) : Ev (fun k => impl_Dir_slotOf.f k D sl bs s) (hashV s % (sl.length : Int)) := by
  obtain ⟨⟨_, h2⟩, h0, _⟩ := hash_ev s hs
  unfold impl_Dir_slotOf.f
  refine Ev.bind' _ h2 (Ev.neg (by omega) (Ev.now' ?_))
  exact Int.tmod_eq_emod_of_nonneg h0
theorem names_ev (Z : SzOk sl bs) (hsl : 0 < sl.length) (r : Bool)
    (good : (∀ b, b < bs.length → ∀ i, i < (buc bs (b : Int)).f1.length → rd sl (hashV (nmAt (buc bs (b : Int)).f1 (i : Int)).f0 % (sl.length : Int)) = (b : Int)) → r = true)
    (bad : ¬ (∀ b, b < bs.length → ∀ i, i < (buc bs (b : Int)).f1.length → rd sl (hashV (nmAt (buc bs (b : Int)).f1 (i : Int)).f0 % (sl.length : Int)) = (b : Int)) → r = false) :
    ∀ m b : Nat, bs.length - b = m → b ≤ bs.length → (∀ j, j < b → ∀ i, i < (buc bs (j : Int)).f1.length → rd sl (hashV (nmAt (buc bs (j : Int)).f1 (i : Int)).f0 % (sl.length : Int)) = (j : Int)) →
      Ev (fun k => impl_GoodDir.l1 k bs (bs.length : Int) (b : Int) D sl bs) r := by
  have zb := Z.b
  intro m
  induction m with
  | zero =>
    intro b hd hi hist
    have e : b = bs.length := by omega
    subst e
    rw [good hist]
    exact Ev.step (fun k => by rw [impl_GoodDir.l1]) (Ev.neg (by omega) (Ev.now _))
  | succ m ih =>
    intro b hd hi hist
    have hb : b < bs.length := by omega
    have zn := Z.n b hb
    have zt := Z.t b hb
    refine Ev.step (fun k => by rw [impl_GoodDir.l1]) (Ev.pos (by omega) (Ev.pos (by omega) (Ev.pos (by omega) ?_)))
    have inner : ∀ q i : Nat, (buc bs (b : Int)).f1.length - i = q → i ≤ (buc bs (b : Int)).f1.length → (∀ j, j < i → rd sl (hashV (nmAt (buc bs (b : Int)).f1 (j : Int)).f0 % (sl.length : Int)) = (b : Int)) →
        Ev (fun k => impl_GoodDir.l2 k (b : Int) bs (bs.length : Int) (b : Int) (buc bs (b : Int)).f1 ((buc bs (b : Int)).f1.length : Int) (i : Int) D sl bs) r := by
      intro q
      induction q with
      | zero =>
        intro i hd hi h2
        have e : i = (buc bs (b : Int)).f1.length := by omega
        subst e
        refine Ev.step (fun k => by rw [impl_GoodDir.l2]) (Ev.neg (by omega) ?_)
        rw [show wrap64 ((b : Int) + 1) = ((b + 1 : Nat) : Int) from by rw [w64 (by omega) (by omega)]; omega]
        exact ih (b + 1) (by omega) (by omega) (fun j hj => by
          by_cases e : j = b
          · subst e; exact h2
          · exact hist j (by omega))
      | succ q ih2 =>
        intro i hd hi h2
        have hil : i < (buc bs (b : Int)).f1.length := by omega
        have zi := zt i hil
        have m0 : 0 ≤ hashV (nmAt (buc bs (b : Int)).f1 (i : Int)).f0 % (sl.length : Int) := Int.emod_nonneg _ (by omega)
        have m1 : hashV (nmAt (buc bs (b : Int)).f1 (i : Int)).f0 % (sl.length : Int) < (sl.length : Int) := Int.emod_lt_of_pos _ (by omega)
        refine Ev.step (fun k => by rw [impl_GoodDir.l2]) (Ev.pos (by omega) (Ev.pos (by omega) (Ev.pos (by omega) (Ev.bind' _ (slotOf_ev _ zi hsl) (Ev.pos m0 (Ev.pos m1 ?_))))))
        by_cases c : rd sl (hashV (nmAt (buc bs (b : Int)).f1 (i : Int)).f0 % (sl.length : Int)) = (b : Int)
        · refine Ev.pos c ?_
          rw [show wrap64 ((i : Int) + 1) = ((i + 1 : Nat) : Int) from by rw [w64 (by omega) (by omega)]; omega]
          exact ih2 (i + 1) (by omega) (by omega) (fun j hj => by
            by_cases e : j = i
            · subst e; exact c
            · exact h2 j (by omega))
        · rw [bad (fun h => c (h b hb i hil))]
          exact Ev.neg c (Ev.now _)
    exact inner _ 0 rfl (by omega) (fun j hj => absurd hj (by omega))
theorem agreed_ev (Z : SzOk sl bs) (dd : ∀ b : Nat, b < bs.length → 0 ≤ dep bs (b : Int) ∧ dep bs (b : Int) ≤ 8) (r : Bool)
    (hr : r = true ↔ ∀ b, b < bs.length → (cntp (fun j => rd sl (j : Int) == (b : Int)) sl.length : Int) = (sl.length : Int) / pw (dep bs (b : Int))) :
    Ev (fun k => impl_Dir_areAgreed.f k D sl bs) r := by
  have zb := Z.b
  have zs := Z.s
  have go : ∀ m b : Nat, bs.length - b = m → b ≤ bs.length → (∀ j : Nat, j < b → (cntp (fun i => rd sl (i : Int) == (j : Int)) sl.length : Int) = (sl.length : Int) / pw (dep bs (j : Int))) →
      Ev (fun k => impl_Dir_areAgreed.l0 k bs (bs.length : Int) (b : Int) D sl bs) r := by
    intro m
    induction m with
    | zero =>
      intro b hd hi hist
      have e : b = bs.length := by omega
      subst e
      rw [hr.2 hist]
      exact Ev.step (fun k => by rw [impl_Dir_areAgreed.l0]) (Ev.neg (by omega) (Ev.now _))
    | succ m ih =>
      intro b hd hi hist
      have hb : b < bs.length := by omega
      refine Ev.step (fun k => by rw [impl_Dir_areAgreed.l0]) (Ev.pos (by omega) (Ev.pos (by omega) (Ev.pos (by omega) ?_)))
      have inner : ∀ q i : Nat, sl.length - i = q → i ≤ sl.length →
          Ev (fun k => impl_Dir_areAgreed.l1 k (b : Int) (cntp (fun j => rd sl (j : Int) == (b : Int)) i : Int) bs (bs.length : Int) (b : Int) sl (sl.length : Int) (i : Int) D sl bs (buc bs (b : Int)).f0 (buc bs (b : Int)).f1) r := by
        intro q
        induction q with
        | zero =>
          intro i hd hi
          have e : i = sl.length := by omega
          subst e
          refine Ev.step (fun k => by rw [impl_Dir_areAgreed.l1]) (Ev.neg (by omega) (Ev.pos (dd b hb).1 ?_))
          rw [shr_eq _ _ (dd b hb).1 (dd b hb).2, show wrap64 ((b : Int) + 1) = ((b + 1 : Nat) : Int) from by rw [w64 (by omega) (by omega)]; omega]
          by_cases c : (cntp (fun j => rd sl (j : Int) == (b : Int)) sl.length : Int) = (sl.length : Int) / pw (dep bs (b : Int))
          · refine Ev.pos c (ih (b + 1) (by omega) (by omega) (fun j hj => ?_))
            by_cases e : j = b
            · subst e; exact c
            · exact hist j (by omega)
          · rw [Bool.eq_false_iff.2 (fun q => c (hr.1 q b hb))]
            exact Ev.neg c (Ev.now _)
        | succ q ih2 =>
          intro i hd hi
          have cl := cntp_le (fun j => rd sl (j : Int) == (b : Int)) i
          have nx := ih2 (i + 1) (by omega) (by omega)
          rw [cntp] at nx
          refine Ev.step (fun k => by rw [impl_Dir_areAgreed.l1]) (Ev.pos (by omega) (Ev.pos (by omega) (Ev.pos (by omega) ?_)))
          by_cases c : rd sl (i : Int) = (b : Int)
          · refine Ev.pos c ?_
            rw [if_pos (by simpa using c)] at nx
            rw [show wrap64 ((i : Int) + 1) = ((i + 1 : Nat) : Int) from by rw [w64 (by omega) (by omega)]; omega, w64 (by omega) (by omega)]
            exact nx
          · refine Ev.neg c ?_
            rw [if_neg (by simpa using c), Nat.add_zero] at nx
            rw [show wrap64 ((i : Int) + 1) = ((i + 1 : Nat) : Int) from by rw [w64 (by omega) (by omega)]; omega]
            exact nx
      exact inner _ 0 rfl (by omega)
  unfold impl_Dir_areAgreed.f
  exact go _ 0 rfl (by omega) (fun j hj => absurd hj (by omega))
/-- The loop over the slots. -/
theorem slots_ev (D0 : 0 ≤ D) (D1 : D ≤ 8) (hn : (sl.length : Int) = pw D) (Z : SzOk sl bs) (r : Bool)
    (good : (∀ i, i < sl.length → SlotI D sl bs i) → Ev (fun k => if seen sl sl.length = (bs.length : Int) then ((impl_Dir_areAgreed.f k D sl bs).bind fun t => impl_GoodDir.j3 k (!t) D sl bs) else impl_GoodDir.j3 k true D sl bs) r)
    (bad : ¬ (∀ i, i < sl.length → SlotI D sl bs i) → r = false) :
    ∀ m i : Nat, sl.length - i = m → i ≤ sl.length → (∀ j, j < i → SlotI D sl bs j) →
      Ev (fun k => impl_GoodDir.l0 k (seen sl i) sl (sl.length : Int) (i : Int) D sl bs) r := by
  have zs := Z.s; have zb := Z.b
  intro m
  induction m with
  | zero =>
    intro i hd hi hist
    have e : i = sl.length := by omega
    subst e
    exact Ev.step (fun k => by rw [impl_GoodDir.l0]) (Ev.neg (by omega) (good hist))
  | succ m ih =>
    intro i hd hi hist
    have hil : i < sl.length := by omega
    have no : ¬ SlotI D sl bs i → r = false := fun h => bad (fun q => h (q i hil))
    have sr := seen_rng sl i
    refine Ev.step (fun k => by rw [impl_GoodDir.l0]) (Ev.pos (by omega) (Ev.pos (by omega) (Ev.pos (by omega) (Ev.bindc _ (within_eq' _ _ _) ?_))))
    rw [w64 (x := (bs.length : Int) - 1) (by omega) (by omega)]
    by_cases c1 : 0 ≤ rd sl (i : Int) ∧ rd sl (i : Int) ≤ mn (seen sl i) ((bs.length : Int) - 1)
    rotate_left
    · rw [no fun q => c1 ⟨q.k0, (mn_le _ _ _).2 ⟨q.k2, by have := q.k1; omega⟩⟩]
      exact Ev.neg (by simpa using c1) (Ev.now _)
    refine Ev.pos (by simpa using c1) ?_
    obtain ⟨c1a, c1b⟩ := c1
    obtain ⟨c1b, c1c⟩ := (mn_le _ _ _).1 c1b
    have go : Ev (fun k => impl_GoodDir.j2 k (seen sl (i + 1)) (i : Int) (rd sl (i : Int)) sl (sl.length : Int) (i : Int) D sl bs) r := by
      have zn : (buc bs (rd sl (i : Int))).f1.length ≤ 1048576 := by
        have := Z.n (rd sl (i : Int)).toNat (by omega)
        rwa [Int.toNat_of_nonneg c1a] at this
      refine Ev.step (fun k => by rw [impl_GoodDir.j2]) (Ev.pos c1a (Ev.pos (by omega) ?_))
      classical
      refine Ev.bind' _ (bk_ev (buc bs (rd sl (i : Int))) D zn (decide (BkI D (buc bs (rd sl (i : Int))))) decide_eq_true_iff) ?_
      by_cases c2 : BkI D (buc bs (rd sl (i : Int)))
      rotate_left
      · rw [decide_eq_false c2, no fun q => c2 q.bk]
        exact Ev.neg (by simp) (Ev.now _)
      rw [decide_eq_true c2]
      have d0 := c2.d0; have d1 := c2.d1
      have sh := shl_eq _ d0 (by omega : (buc bs (rd sl (i : Int))).f0 ≤ 8)
      have p0 := pw_pos (buc bs (rd sl (i : Int))).f0
      have sh' : shl .i64 1 (buc bs (rd sl (i : Int))).f0 = pw (buc bs (rd sl (i : Int))).f0 := sh
      refine Ev.pos rfl (Ev.pos d0 ?_)
      rw [sh']
      have ex := first_ex sl (rd sl (i : Int)) sl.length ⟨i, hil, rfl⟩
      obtain ⟨f, f1, f2, f3⟩ := ex
      refine Ev.neg (by omega) (Ev.bind' _ (index_ev zs _ f f1 f2 f3) ?_)
      rw [Int.tmod_eq_emod_of_nonneg (by omega : (0 : Int) ≤ (i : Int)), show wrap64 ((i : Int) + 1) = ((i + 1 : Nat) : Int) from by rw [w64 (by omega) (by omega)]; omega]
      have e0 : 0 ≤ (i : Int) % pw (buc bs (rd sl (i : Int))).f0 := Int.emod_nonneg _ (by omega)
      by_cases c3 : (f : Int) = (i : Int) % pw (buc bs (rd sl (i : Int))).f0
      · refine Ev.pos c3 (ih (i + 1) (by omega) (by omega) (fun j hj => ?_))
        by_cases e : j = i
        · subst e
          exact ⟨c1a, by omega, c1b, c2, by rw [← c3]; exact f2, fun q hq => f3 q (by have h : (q : Int) < (f : Int) := (by rw [c3]; exact hq); omega)⟩
        · exact hist j (by omega)
      · rw [no fun q => c3 ?_]
        · exact Ev.neg c3 (Ev.now _)
        · have q1 := q.fi
          have q2 := q.fm f
          by_cases a : (f : Int) < (i : Int) % pw (buc bs (rd sl (i : Int))).f0
          · exact absurd f2 (q2 a)
          · by_cases b : (i : Int) % pw (buc bs (rd sl (i : Int))).f0 < (f : Int)
            · have q3 := f3 ((i : Int) % pw (buc bs (rd sl (i : Int))).f0).toNat (by omega)
              rw [Int.toNat_of_nonneg e0] at q3
              exact absurd q1 q3
            · omega
    by_cases c4 : rd sl (i : Int) = seen sl i
    · refine Ev.pos c4 ?_
      rw [w64 (x := seen sl i + 1) (by omega) (by omega)]
      have e : seen sl (i + 1) = seen sl i + 1 := by rw [seen, if_pos c4]
      rw [← e]
      exact go
    · refine Ev.neg c4 ?_
      have e : seen sl (i + 1) = seen sl i := by rw [seen, if_neg c4]
      rw [← e]
      exact go
theorem impl_ev (Z : SzOk sl bs) (r : Bool) (hr : r = true ↔ GoodI D sl bs) : Ev (fun k => impl_GoodDir.f k D sl bs) r := by
  have no : ¬ GoodI D sl bs → r = false := fun h => Bool.eq_false_iff.2 (fun q => h (hr.1 q))
  have stop : r = false → Ev (fun k => impl_GoodDir.j0 k true D sl bs) r := fun h => by
    rw [h]
    exact Ev.step (fun k => by rw [impl_GoodDir.j0]) (Ev.pos rfl (Ev.now _))
  have stop3 : r = false → Ev (fun k => impl_GoodDir.j3 k true D sl bs) r := fun h => by
    rw [h]
    exact Ev.step (fun k => by rw [impl_GoodDir.j3]) (Ev.pos rfl (Ev.now _))
  unfold impl_GoodDir.f
  refine Ev.bindc _ (within_eq' _ _ _) ?_
  by_cases c1 : 0 ≤ D ∧ D ≤ 8
  rotate_left
  · exact Ev.neg (by simpa using c1) (stop (no fun q => c1 ⟨q.D0, q.D1⟩))
  refine Ev.pos (by simpa using c1) (Ev.pos c1.1 ?_)
  rw [shl_eq D c1.1 c1.2]
  have pp := pw_pos D
  by_cases c2 : (sl.length : Int) = pw D
  rotate_left
  · have e : ((sl.length : Int) != ((2 ^ D.toNat : Nat) : Int)) = true := by
      have : ¬ (sl.length : Int) = ((2 ^ D.toNat : Nat) : Int) := c2
      simpa using this
    rw [e]
    exact stop (no fun q => c2 q.n)
  have e : ((sl.length : Int) != ((2 ^ D.toNat : Nat) : Int)) = false := by
    have : (sl.length : Int) = ((2 ^ D.toNat : Nat) : Int) := c2
    simp [this]
  rw [e]
  refine Ev.step (fun k => by rw [impl_GoodDir.j0]) (Ev.neg (by simp) ?_)
  refine slots_ev c1.1 c1.2 c2 Z r (fun hS => ?_) (fun h => no fun q => h q.S) _ 0 rfl (by omega) (fun j hj => absurd hj (by omega))
  by_cases c4 : seen sl sl.length = (bs.length : Int)
  rotate_left
  · exact Ev.neg c4 (stop3 (no fun q => c4 q.L))
  have dd : ∀ b : Nat, b < bs.length → 0 ≤ dep bs (b : Int) ∧ dep bs (b : Int) ≤ 8 := fun b hb => by
    obtain ⟨j, hj, ej⟩ := seen_onto sl (b : Int) (by omega) sl.length (by omega)
    have h := (hS j hj).bk
    rw [ej] at h
    exact ⟨h.d0, by have := h.d1; have := c1.2; show (buc bs (b : Int)).f0 ≤ 8; omega⟩
  refine Ev.pos c4 ?_
  classical
  refine Ev.bind' _ (agreed_ev Z dd (decide (∀ b, b < bs.length → (cntp (fun j => rd sl (j : Int) == (b : Int)) sl.length : Int) = (sl.length : Int) / pw (dep bs (b : Int)))) decide_eq_true_iff) ?_
  by_cases c5 : ∀ b, b < bs.length → (cntp (fun j => rd sl (j : Int) == (b : Int)) sl.length : Int) = (sl.length : Int) / pw (dep bs (b : Int))
  rotate_left
  · rw [decide_eq_false c5]
    exact stop3 (no fun q => c5 q.C)
  rw [decide_eq_true c5]
  refine Ev.step (fun k => by rw [impl_GoodDir.j3]) (Ev.neg (by simp) ?_)
  exact names_ev Z (by omega) r (fun h => hr.2 ⟨c1.1, c1.2, c2, hS, c4, c5, h⟩) (fun h => no fun q => h q.N) _ 0 rfl (by omega) (fun j hj => absurd hj (by omega))
end
end Go.Proofs.YtfbjeppfnlfejaaDoor.Q
