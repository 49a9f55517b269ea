/- Lemmas on the laws' own helpers, printed by a program of this session (gen_help.py). No statement. -/
import Derived.Test.YtcdkgenfggdpaaaHText
import Derived.Test.YtcdkgenfggdpaaaG3
import Derived.Test.YtcdkgenfggdpaaaG2
import Derived.Test.YtcdkgenfggdpaaaG5
import Derived.Test.YtcdkgenfggdpaaaG8
namespace Go.Proofs.Ytcdkgenfggdpaaa.Q
open Go.RowKit Go.Proofs.YtcdkgenfggdpaaaW.PrintWords Go.Proofs.Ytcdkgenfggdpaaa.G
set_option linter.unusedVariables false
set_option linter.unusedSimpArgs false
theorem rdiWrite (l : List S72) (i : Nat) : rd_T72 l (i : Int) = l.getD i z72 := by simp [rd_T72]
theorem szWrite_eq (x0 : Int) (x1 : ByteArray) (a : Int) : laws_szWrite.f x0 x1 a = some (if wrap64 (a - (x1.size : Int)) < 0 then -1 else wrap64 (a - (x1.size : Int))) := by
  unfold laws_szWrite.f
  split <;> rfl
theorem rdlWrite (l : List S76) (i : Nat) : rd_T76 l (i : Int) = l.getD i z76 := by simp [rd_T76]
theorem szWriteS_ev (l : List S76) (hl : l.length ≤ maxLen) (ho : (∀ y ∈ l, ok76 y)) (a : Int) (h0 : 0 ≤ a) (h1 : a ≤ 4611686018427387904) : ∃ r, Ev (fun k => laws_szWriteS.f k l a) r ∧ (¬ r < 0 → (0 ≤ r ∧ r ≤ a ∧ (l.length : Int) ≤ a) ∧ ∀ j, j < l.length → ((l.getD j z76).f1.size : Int) ≤ a) := by
  have loop : ∀ d i, l.length - i = d → i ≤ l.length → ∀ b : Int, 0 ≤ b → b + (l.length : Int) ≤ a → ∃ r, Ev (fun k => laws_szWriteS.l0 k l b (i : Int)) r ∧ (¬ r < 0 → (0 ≤ r ∧ r ≤ b) ∧ ∀ j, i ≤ j → j < l.length → ((l.getD j z76).f1.size : Int) ≤ b) := by
    intro d
    induction d with
    | zero =>
      intro i hd hi b hb hba
      have : i = l.length := by omega
      subst this
      exact ⟨b, Ev.step (fun k => by rw [laws_szWriteS.l0]) (Ev.neg (by omega) (Ev.now _)), fun _ => ⟨by omega, fun j h1 h2 => by omega⟩⟩
    | succ d ih =>
      intro i hd hi b hb hba
      have hs : ((l.getD i z76).f1.size : Int) ≤ 9223372036854775807 := by
        have := (ho _ (getD_mem l i z76 (by omega))).2
        unfold maxLen at this
        omega
      by_cases hn : b - ((l.getD i z76).f1.size : Int) < 0
      · refine ⟨-1, Ev.step (fun k => by rw [laws_szWriteS.l0]) ?_, fun h => absurd (by decide) h⟩
        rw [rdlWrite, w64 (x := (i : Int) + 1) (by omega) (by omega)]
        refine Ev.pos (by omega) (Ev.pos (by omega) (Ev.bindc _ (szWrite_eq _ _ _) ?_))
        rw [w64 (x := b - ((l.getD i z76).f1.size : Int)) (by omega) (by omega), if_pos hn]
        exact Ev.pos (by omega) (Ev.now _)
      · obtain ⟨r, h3, h4⟩ := ih (i + 1) (by omega) (by omega) (b - ((l.getD i z76).f1.size : Int)) (by omega) (by omega)
        refine ⟨r, Ev.step (fun k => by rw [laws_szWriteS.l0]) ?_, fun h => ⟨by have := (h4 h).1; omega, fun j j1 j2 => by
          by_cases e : j = i
          · subst e; omega
          · have := (h4 h).2 j (by omega) j2; omega⟩⟩
        rw [rdlWrite, w64 (x := (i : Int) + 1) (by omega) (by omega)]
        refine Ev.pos (by omega) (Ev.pos (by omega) (Ev.bindc _ (szWrite_eq _ _ _) ?_))
        rw [w64 (x := b - ((l.getD i z76).f1.size : Int)) (by omega) (by omega), if_neg hn]
        exact Ev.neg hn h3
  unfold maxLen at hl
  unfold laws_szWriteS.f
  rw [w64 (x := a - (l.length : Int)) (by omega) (by omega)]
  refine szd fun h => ?_
  obtain ⟨r, h3, h4⟩ := loop l.length 0 rfl (by omega) (a - (l.length : Int)) (by omega) (by omega)
  exact ⟨r, h3, fun h => ⟨by have := (h4 h).1; omega, fun j hj => by have := (h4 h).2 j (by omega) hj; omega⟩⟩
def convWrite (x : S76) : S72 := (⟨x.f0, x.f1⟩ : S72)
theorem toWriteS_ev (l : List S76) (h : l.length ≤ 1048576) : Ev (fun k => laws_toWriteS.f k l) (l.map convWrite) := by
  have loop : ∀ d i, l.length - i = d → i ≤ l.length → Ev (fun k => laws_toWriteS.l0 k l (((l.take i).map convWrite) ++ List.replicate (l.length - i) z72) (i : Int)) (l.map convWrite) := by
    intro d
    induction d with
    | zero =>
      intro i hd hi
      have : i = l.length := by omega
      subst this
      refine Ev.step (fun k => by rw [laws_toWriteS.l0]) ?_
      refine Ev.neg (by omega) (Ev.now' (by simp))
    | succ d ih =>
      intro i hd hi
      have next := ih (i + 1) (by omega) (by omega)
      have e : (((l.take i).map convWrite) ++ List.replicate (l.length - i) z72).set i (convWrite (l.getD i z76)) = ((l.take (i + 1)).map convWrite) ++ List.replicate (l.length - (i + 1)) z72 := by
        rw [take_succ_getD l i z76 (by omega), show l.length - i = (l.length - (i + 1)) + 1 by omega, List.replicate_succ, List.map_append, List.append_assoc, List.set_append_right _ _ (by simp; omega)]
        simp [Nat.min_eq_left hi]
      have next' : Ev (fun k => laws_toWriteS.l0 k l ((((l.take i).map convWrite) ++ List.replicate (l.length - i) z72).set i (convWrite (l.getD i z76))) ((i : Int) + 1)) (l.map convWrite) := by rw [e]; exact next
      refine Ev.step (fun k => by rw [laws_toWriteS.l0]) ?_
      rw [w64 (x := (i : Int) + 1) (by omega) (by omega)]
      exact Ev.pos (by omega) (Ev.pos (by omega) (Ev.bindc _ rfl (Ev.pos (by simp; omega) next')))
  unfold laws_toWriteS.f
  refine Ev.pos (by omega) (Ev.pos (by omega) ?_)
  have := loop l.length 0 rfl (by omega)
  simpa using this
theorem eqWrite_refl (x0 : Int) (x1 : ByteArray) : laws_eqWrite.f x0 x1 x0 x1 = some true := by
  simp [laws_eqWrite.f]
theorem eqWriteS_refl (l : List S72) (h : l.length ≤ 4611686018427387904) : Ev (fun k => laws_eqWriteS.f k l l) true := by
  have loop : ∀ d i, l.length - i = d → i ≤ l.length → Ev (fun k => laws_eqWriteS.l0 k l l (i : Int)) true := by
    intro d
    induction d with
    | zero =>
      intro i hd hi
      have : i = l.length := by omega
      subst this
      exact Ev.step (fun k => by rw [laws_eqWriteS.l0]) (Ev.neg (by omega) (Ev.now _))
    | succ d ih =>
      intro i hd hi
      refine Ev.step (fun k => by rw [laws_eqWriteS.l0]) ?_
      rw [w64 (x := (i : Int) + 1) (by omega) (by omega)]
      refine Ev.pos (by omega) (Ev.pos (by omega) (Ev.pos (by omega) (Ev.bindc _ (eqWrite_refl _ _) (Ev.pos rfl ?_))))
      exact ih (i + 1) (by omega) (by omega)
  unfold laws_eqWriteS.f
  exact Ev.pos rfl (loop l.length 0 rfl (by omega))
/-- The element that a mark leaves. -/
noncomputable def mkWrite (a : Int) : S72 := (⟨a, markT (a + 1)⟩ : S72)
theorem markWriteS_ev (l : List S72) (a : Int) (h0 : 0 ≤ a) (h1 : a + 2 * (l.length : Int) ≤ 1152921504606846976) : ∃ (q : Int) (m : List S72), Ev (fun k => laws_markWriteS.f k l a) (q, m) ∧ Ev (fun k => laws_heldWriteS.f k m a) q ∧ a ≤ q ∧ q = a + 2 * (l.length : Int) ∧ m.length = l.length := by
  have hM : ((List.range l.length).map (fun i : Nat => mkWrite (a + 2 * (i : Int)))).length = l.length := marked_len _ _
  generalize hm : (List.range l.length).map (fun i : Nat => mkWrite (a + 2 * (i : Int))) = m at hM
  have hg : ∀ i, i < l.length → m.getD i z72 = mkWrite (a + 2 * (i : Int)) := fun i hi => by rw [← hm]; exact marked_get _ _ _ _ hi
  refine ⟨a + 2 * (l.length : Int), m, ?_, ?_, by omega, rfl, hM⟩
  · have loop : ∀ d i, l.length - i = d → i ≤ l.length → Ev (fun k => laws_markWriteS.l0 k (m.take i ++ l.drop i) (a + 2 * (i : Int)) (i : Int)) (a + 2 * (l.length : Int), m) := by
      intro d
      induction d with
      | zero =>
        intro i hd hi
        have : i = l.length := by omega
        subst this
        refine Ev.step (fun k => by rw [laws_markWriteS.l0]) ?_
        refine Ev.neg (by simp [hM]) (Ev.now' ?_)
        rw [List.drop_length, List.append_nil, List.take_of_length_le (by omega)]
      | succ d ih =>
        intro i hd hi
        have hL : (m.take i ++ l.drop i).length = l.length := by rw [List.length_append, List.length_take, List.length_drop]; omega
        have next := ih (i + 1) (by omega) (by omega)
        rw [take_succ_getD m i z72 (by omega), hg i (by omega), List.append_assoc, List.singleton_append] at next
        refine Ev.step (fun k => by rw [laws_markWriteS.l0]) ?_
        have hb0 : 0 ≤ a + 2 * (i : Int) := by omega
        have hb1 : a + 2 * (i : Int) + 2 ≤ 1152921504606846976 := by omega
        have hn : a + 2 * ((i + 1 : Nat) : Int) = a + 2 * (i : Int) + 1 + 1 := by omega
        rw [hn] at next
        generalize a + 2 * (i : Int) = b at hb0 hb1 next ⊢
        unfold mkWrite at next
        rw [w64 (x := b + 1) (by omega) (by omega), w64 (x := b + 1 + 1) (by omega) (by omega), w64 (x := (i : Int) + 1) (by omega) (by omega), Int.toNat_natCast]
        refine Ev.pos (by rw [hL]; omega) ?_
        refine Ev.pos (by omega) ?_
        refine Ev.bindc _ rfl ?_
        refine Ev.bind' _ (markT_ev (b + 1) (by omega) (by omega)) ?_
        simp only [rdiWrite, set_at m l i _ hM (by omega), set_at2 m l i _ _ hM (by omega), get_at m l i _ _ hM (by omega), get_at0 m l i _ hM (by omega)]
        exact next
    have := loop l.length 0 rfl (by omega)
    unfold laws_markWriteS.f
    simpa using this
  · have loop : ∀ d i, l.length - i = d → i ≤ l.length → Ev (fun k => laws_heldWriteS.l0 k m (a + 2 * (i : Int)) (i : Int)) (a + 2 * (l.length : Int)) := by
      intro d
      induction d with
      | zero =>
        intro i hd hi
        have : i = l.length := by omega
        subst this
        refine Ev.step (fun k => by rw [laws_heldWriteS.l0]) ?_
        exact Ev.neg (by rw [hM]; omega) (Ev.now _)
      | succ d ih =>
        intro i hd hi
        have next := ih (i + 1) (by omega) (by omega)
        refine Ev.step (fun k => by rw [laws_heldWriteS.l0]) ?_
        have hr : rd_T72 m (i : Int) = mkWrite (a + 2 * (i : Int)) := by rw [rdiWrite, hg i (by omega)]
        have hb0 : 0 ≤ a + 2 * (i : Int) := by omega
        have hb1 : a + 2 * (i : Int) + 2 ≤ 1152921504606846976 := by omega
        have hn : a + 2 * ((i + 1 : Nat) : Int) = a + 2 * (i : Int) + 1 + 1 := by omega
        rw [hn] at next
        rw [hr, hM]
        generalize a + 2 * (i : Int) = b at hb0 hb1 next ⊢
        rw [w64 (x := b + 1) (by omega) (by omega), w64 (x := b + 1 + 1) (by omega) (by omega), w64 (x := (i : Int) + 1) (by omega) (by omega)]
        refine Ev.pos (by omega) (Ev.pos (by omega) ?_)
        refine Ev.pos rfl ?_
        refine Ev.bind' _ (markT_ev (b + 1) (by omega) (by omega)) ?_
        refine Ev.pos rfl ?_
        exact next
    have := loop l.length 0 rfl (by omega)
    unfold laws_heldWriteS.f
    simpa using this
end Go.Proofs.Ytcdkgenfggdpaaa.Q
