/- Lemmas on the laws' own helpers, printed by a program of this session (gen_help.py). No statement. -/
import Derived.Test.YthlifcbkpafofaaDoorHText
import Derived.Test.YthlifcbkpafofaaDoorG5
import Derived.Test.YthlifcbkpafofaaDoorG2
import Derived.Test.YthlifcbkpafofaaDoorG4
namespace Go.Proofs.YthlifcbkpafofaaDoor.Q
open Go.RowKit Go.Proofs.YthlifcbkpafofaaDoorW.PrintWords Go.Proofs.YthlifcbkpafofaaDoor.G
set_option linter.unusedVariables false
set_option linter.unusedSimpArgs false
theorem rdiSlot (l : List S26) (i : Nat) : rd_T26 l (i : Int) = l.getD i z26 := by simp [rd_T26]
theorem szSlot_eq (x0 : Int) (x1 : Int) (x2 : ByteArray) (x3 : Int) (a : Int) : laws_szSlot.f x0 x1 x2 x3 a = some (if wrap64 (a - (x2.size : Int)) < 0 then -1 else wrap64 (a - (x2.size : Int))) := by
  unfold laws_szSlot.f
  split <;> rfl
theorem rdlSlot (l : List S23) (i : Nat) : rd_T23 l (i : Int) = l.getD i z23 := by simp [rd_T23]
theorem szSlotS_ev (l : List S23) (hl : l.length ≤ maxLen) (ho : (∀ y ∈ l, ok23 y)) (a : Int) (h0 : 0 ≤ a) (h1 : a ≤ 4611686018427387904) : ∃ r, Ev (fun k => laws_szSlotS.f k l a) r ∧ (¬ r < 0 → (0 ≤ r ∧ r ≤ a ∧ (l.length : Int) ≤ a) ∧ ∀ j, j < l.length → ((l.getD j z23).f2.size : Int) ≤ a) := by
  have loop : ∀ d i, l.length - i = d → i ≤ l.length → ∀ b : Int, 0 ≤ b → b + (l.length : Int) ≤ a → ∃ r, Ev (fun k => laws_szSlotS.l0 k l b (i : Int)) r ∧ (¬ r < 0 → (0 ≤ r ∧ r ≤ b) ∧ ∀ j, i ≤ j → j < l.length → ((l.getD j z23).f2.size : Int) ≤ b) := by
    intro d
    induction d with
    | zero =>
      intro i hd hi b hb hba
      have : i = l.length := by omega
      subst this
      exact ⟨b, Ev.step (fun k => by rw [laws_szSlotS.l0]) (Ev.neg (by omega) (Ev.now _)), fun _ => ⟨by omega, fun j h1 h2 => by omega⟩⟩
    | succ d ih =>
      intro i hd hi b hb hba
      have hs : ((l.getD i z23).f2.size : Int) ≤ 9223372036854775807 := by
        have := (ho _ (getD_mem l i z23 (by omega))).2.2.1
        unfold maxLen at this
        omega
      by_cases hn : b - ((l.getD i z23).f2.size : Int) < 0
      · refine ⟨-1, Ev.step (fun k => by rw [laws_szSlotS.l0]) ?_, fun h => absurd (by decide) h⟩
        rw [rdlSlot, w64 (x := (i : Int) + 1) (by omega) (by omega)]
        refine Ev.pos (by omega) (Ev.pos (by omega) (Ev.bindc _ (szSlot_eq _ _ _ _ _) ?_))
        rw [w64 (x := b - ((l.getD i z23).f2.size : Int)) (by omega) (by omega), if_pos hn]
        exact Ev.pos (by omega) (Ev.now _)
      · obtain ⟨r, h3, h4⟩ := ih (i + 1) (by omega) (by omega) (b - ((l.getD i z23).f2.size : Int)) (by omega) (by omega)
        refine ⟨r, Ev.step (fun k => by rw [laws_szSlotS.l0]) ?_, fun h => ⟨by have := (h4 h).1; omega, fun j j1 j2 => by
          by_cases e : j = i
          · subst e; omega
          · have := (h4 h).2 j (by omega) j2; omega⟩⟩
        rw [rdlSlot, w64 (x := (i : Int) + 1) (by omega) (by omega)]
        refine Ev.pos (by omega) (Ev.pos (by omega) (Ev.bindc _ (szSlot_eq _ _ _ _ _) ?_))
        rw [w64 (x := b - ((l.getD i z23).f2.size : Int)) (by omega) (by omega), if_neg hn]
        exact Ev.neg hn h3
  unfold maxLen at hl
  unfold laws_szSlotS.f
  rw [w64 (x := a - (l.length : Int)) (by omega) (by omega)]
  refine szd fun h => ?_
  obtain ⟨r, h3, h4⟩ := loop l.length 0 rfl (by omega) (a - (l.length : Int)) (by omega) (by omega)
  exact ⟨r, h3, fun h => ⟨by have := (h4 h).1; omega, fun j hj => by have := (h4 h).2 j (by omega) hj; omega⟩⟩
def convSlot (x : S23) : S26 := (⟨x.f0, x.f1, x.f2, x.f3⟩ : S26)
theorem toSlotS_ev (l : List S23) (h : l.length ≤ 1048576) : Ev (fun k => laws_toSlotS.f k l) (l.map convSlot) := by
  have loop : ∀ d i, l.length - i = d → i ≤ l.length → Ev (fun k => laws_toSlotS.l0 k l (((l.take i).map convSlot) ++ List.replicate (l.length - i) z26) (i : Int)) (l.map convSlot) := by
    intro d
    induction d with
    | zero =>
      intro i hd hi
      have : i = l.length := by omega
      subst this
      refine Ev.step (fun k => by rw [laws_toSlotS.l0]) ?_
      refine Ev.neg (by omega) (Ev.now' (by simp))
    | succ d ih =>
      intro i hd hi
      have next := ih (i + 1) (by omega) (by omega)
      have e : (((l.take i).map convSlot) ++ List.replicate (l.length - i) z26).set i (convSlot (l.getD i z23)) = ((l.take (i + 1)).map convSlot) ++ List.replicate (l.length - (i + 1)) z26 := by
        rw [take_succ_getD l i z23 (by omega), show l.length - i = (l.length - (i + 1)) + 1 by omega, List.replicate_succ, List.map_append, List.append_assoc, List.set_append_right _ _ (by simp; omega)]
        simp [Nat.min_eq_left hi]
      have next' : Ev (fun k => laws_toSlotS.l0 k l ((((l.take i).map convSlot) ++ List.replicate (l.length - i) z26).set i (convSlot (l.getD i z23))) ((i : Int) + 1)) (l.map convSlot) := by rw [e]; exact next
      refine Ev.step (fun k => by rw [laws_toSlotS.l0]) ?_
      rw [w64 (x := (i : Int) + 1) (by omega) (by omega)]
      exact Ev.pos (by omega) (Ev.pos (by omega) (Ev.bindc _ rfl (Ev.pos (by simp; omega) next')))
  unfold laws_toSlotS.f
  refine Ev.pos (by omega) (Ev.pos (by omega) ?_)
  have := loop l.length 0 rfl (by omega)
  simpa using this
theorem eqSlot_refl (x0 : Int) (x1 : Int) (x2 : ByteArray) (x3 : Int) : laws_eqSlot.f x0 x1 x2 x3 x0 x1 x2 x3 = some true := by
  simp [laws_eqSlot.f]
theorem eqSlotS_refl (l : List S26) (h : l.length ≤ 4611686018427387904) : Ev (fun k => laws_eqSlotS.f k l l) true := by
  have loop : ∀ d i, l.length - i = d → i ≤ l.length → Ev (fun k => laws_eqSlotS.l0 k l l (i : Int)) true := by
    intro d
    induction d with
    | zero =>
      intro i hd hi
      have : i = l.length := by omega
      subst this
      exact Ev.step (fun k => by rw [laws_eqSlotS.l0]) (Ev.neg (by omega) (Ev.now _))
    | succ d ih =>
      intro i hd hi
      refine Ev.step (fun k => by rw [laws_eqSlotS.l0]) ?_
      rw [w64 (x := (i : Int) + 1) (by omega) (by omega)]
      refine Ev.pos (by omega) (Ev.pos (by omega) (Ev.pos (by omega) (Ev.bindc _ (eqSlot_refl _ _ _ _) (Ev.pos rfl ?_))))
      exact ih (i + 1) (by omega) (by omega)
  unfold laws_eqSlotS.f
  exact Ev.pos rfl (loop l.length 0 rfl (by omega))
/-- The element that a mark leaves. -/
noncomputable def mkSlot (a : Int) : S26 := (⟨a, a + 1, markT (a + 1 + 1), a + 1 + 1 + 1⟩ : S26)
theorem markSlotS_ev (l : List S26) (a : Int) (h0 : 0 ≤ a) (h1 : a + 4 * (l.length : Int) ≤ 1152921504606846976) : ∃ (q : Int) (m : List S26), Ev (fun k => laws_markSlotS.f k l a) (q, m) ∧ Ev (fun k => laws_heldSlotS.f k m a) q ∧ a ≤ q ∧ q = a + 4 * (l.length : Int) ∧ m.length = l.length := by
  have hM : ((List.range l.length).map (fun i : Nat => mkSlot (a + 4 * (i : Int)))).length = l.length := marked_len _ _
  generalize hm : (List.range l.length).map (fun i : Nat => mkSlot (a + 4 * (i : Int))) = m at hM
  have hg : ∀ i, i < l.length → m.getD i z26 = mkSlot (a + 4 * (i : Int)) := fun i hi => by rw [← hm]; exact marked_get _ _ _ _ hi
  refine ⟨a + 4 * (l.length : Int), m, ?_, ?_, by omega, rfl, hM⟩
  · have loop : ∀ d i, l.length - i = d → i ≤ l.length → Ev (fun k => laws_markSlotS.l0 k (m.take i ++ l.drop i) (a + 4 * (i : Int)) (i : Int)) (a + 4 * (l.length : Int), m) := by
      intro d
      induction d with
      | zero =>
        intro i hd hi
        have : i = l.length := by omega
        subst this
        refine Ev.step (fun k => by rw [laws_markSlotS.l0]) ?_
        refine Ev.neg (by simp [hM]) (Ev.now' ?_)
        rw [List.drop_length, List.append_nil, List.take_of_length_le (by omega)]
      | succ d ih =>
        intro i hd hi
        have hL : (m.take i ++ l.drop i).length = l.length := by rw [List.length_append, List.length_take, List.length_drop]; omega
        have next := ih (i + 1) (by omega) (by omega)
        rw [take_succ_getD m i z26 (by omega), hg i (by omega), List.append_assoc, List.singleton_append] at next
        refine Ev.step (fun k => by rw [laws_markSlotS.l0]) ?_
        have hb0 : 0 ≤ a + 4 * (i : Int) := by omega
        have hb1 : a + 4 * (i : Int) + 4 ≤ 1152921504606846976 := by omega
        have hn : a + 4 * ((i + 1 : Nat) : Int) = a + 4 * (i : Int) + 1 + 1 + 1 + 1 := by omega
        rw [hn] at next
        generalize a + 4 * (i : Int) = b at hb0 hb1 next ⊢
        unfold mkSlot at next
        rw [w64 (x := b + 1) (by omega) (by omega), w64 (x := b + 1 + 1) (by omega) (by omega), w64 (x := b + 1 + 1 + 1) (by omega) (by omega), w64 (x := b + 1 + 1 + 1 + 1) (by omega) (by omega), w64 (x := (i : Int) + 1) (by omega) (by omega), Int.toNat_natCast]
        refine Ev.pos (by rw [hL]; omega) ?_
        refine Ev.pos (by omega) ?_
        refine Ev.bindc _ rfl ?_
        refine Ev.bindc _ rfl ?_
        refine Ev.bind' _ (markT_ev (b + 1 + 1) (by omega) (by omega)) ?_
        refine Ev.bindc _ rfl ?_
        simp only [rdiSlot, set_at m l i _ hM (by omega), set_at2 m l i _ _ hM (by omega), get_at m l i _ _ hM (by omega), get_at0 m l i _ hM (by omega)]
        exact next
    have := loop l.length 0 rfl (by omega)
    unfold laws_markSlotS.f
    simpa using this
  · have loop : ∀ d i, l.length - i = d → i ≤ l.length → Ev (fun k => laws_heldSlotS.l0 k m (a + 4 * (i : Int)) (i : Int)) (a + 4 * (l.length : Int)) := by
      intro d
      induction d with
      | zero =>
        intro i hd hi
        have : i = l.length := by omega
        subst this
        refine Ev.step (fun k => by rw [laws_heldSlotS.l0]) ?_
        exact Ev.neg (by rw [hM]; omega) (Ev.now _)
      | succ d ih =>
        intro i hd hi
        have next := ih (i + 1) (by omega) (by omega)
        refine Ev.step (fun k => by rw [laws_heldSlotS.l0]) ?_
        have hr : rd_T26 m (i : Int) = mkSlot (a + 4 * (i : Int)) := by rw [rdiSlot, hg i (by omega)]
        have hb0 : 0 ≤ a + 4 * (i : Int) := by omega
        have hb1 : a + 4 * (i : Int) + 4 ≤ 1152921504606846976 := by omega
        have hn : a + 4 * ((i + 1 : Nat) : Int) = a + 4 * (i : Int) + 1 + 1 + 1 + 1 := by omega
        rw [hn] at next
        rw [hr, hM]
        generalize a + 4 * (i : Int) = b at hb0 hb1 next ⊢
        rw [w64 (x := b + 1) (by omega) (by omega), w64 (x := b + 1 + 1) (by omega) (by omega), w64 (x := b + 1 + 1 + 1) (by omega) (by omega), w64 (x := b + 1 + 1 + 1 + 1) (by omega) (by omega), w64 (x := (i : Int) + 1) (by omega) (by omega)]
        refine Ev.pos (by omega) (Ev.pos (by omega) ?_)
        refine Ev.pos rfl ?_
        refine Ev.pos rfl ?_
        refine Ev.bind' _ (markT_ev (b + 1 + 1) (by omega) (by omega)) ?_
        refine Ev.pos rfl ?_
        refine Ev.pos rfl ?_
        exact next
    have := loop l.length 0 rfl (by omega)
    unfold laws_heldSlotS.f
    simpa using this
end Go.Proofs.YthlifcbkpafofaaDoor.Q
