/- Lemmas on the laws' own helpers, printed by a program of this session (gen_help.py). No statement. -/
import Derived.Test.YtoneooblgdoooaaDoorHBase
import Derived.Test.YtoneooblgdoooaaDoorG1
import Derived.Test.YtoneooblgdoooaaDoorG2
namespace Go.Proofs.YtoneooblgdoooaaDoor.Q
open Go.RowKit Go.Proofs.YtoneooblgdoooaaDoorW.PrintWords Go.Proofs.YtoneooblgdoooaaDoor.G
set_option linter.unusedVariables false
set_option linter.unusedSimpArgs false
theorem rdiName (l : List S42) (i : Nat) : rd_T42 l (i : Int) = l.getD i z42 := by simp [rd_T42]
theorem szName_eq (x0 : ByteArray) (x1 : Int) (a : Int) : laws_szName.f x0 x1 a = some (if wrap64 (a - (x0.size : Int)) < 0 then -1 else wrap64 (a - (x0.size : Int))) := by
  unfold laws_szName.f
  split <;> rfl
theorem rdlName (l : List S80) (i : Nat) : rd_T80 l (i : Int) = l.getD i z80 := by simp [rd_T80]
theorem szNameS_ev (l : List S80) (hl : l.length ≤ maxLen) (ho : (∀ y ∈ l, ok80 y)) (a : Int) (h0 : 0 ≤ a) (h1 : a ≤ 4611686018427387904) : ∃ r, Ev (fun k => laws_szNameS.f k l a) r ∧ (¬ r < 0 → (0 ≤ r ∧ r ≤ a ∧ (l.length : Int) ≤ a) ∧ ∀ j, j < l.length → ((l.getD j z80).f0.size : Int) ≤ a) := by
  have loop : ∀ d i, l.length - i = d → i ≤ l.length → ∀ b : Int, 0 ≤ b → b + (l.length : Int) ≤ a → ∃ r, Ev (fun k => laws_szNameS.l0 k l b (i : Int)) r ∧ (¬ r < 0 → (0 ≤ r ∧ r ≤ b) ∧ ∀ j, i ≤ j → j < l.length → ((l.getD j z80).f0.size : Int) ≤ b) := by
    intro d
    induction d with
    | zero =>
      intro i hd hi b hb hba
      have : i = l.length := by omega
      subst this
      exact ⟨b, Ev.step (fun k => by rw [laws_szNameS.l0]) (Ev.neg (by omega) (Ev.now _)), fun _ => ⟨by omega, fun j h1 h2 => by omega⟩⟩
    | succ d ih =>
      intro i hd hi b hb hba
      have hs : ((l.getD i z80).f0.size : Int) ≤ 9223372036854775807 := by
        have := (ho _ (getD_mem l i z80 (by omega))).1
        unfold maxLen at this
        omega
      by_cases hn : b - ((l.getD i z80).f0.size : Int) < 0
      · refine ⟨-1, Ev.step (fun k => by rw [laws_szNameS.l0]) ?_, fun h => absurd (by decide) h⟩
        rw [rdlName, w64 (x := (i : Int) + 1) (by omega) (by omega)]
        refine Ev.pos (by omega) (Ev.pos (by omega) (Ev.bindc _ (szName_eq _ _ _) ?_))
        rw [w64 (x := b - ((l.getD i z80).f0.size : Int)) (by omega) (by omega), if_pos hn]
        exact Ev.pos (by omega) (Ev.now _)
      · obtain ⟨r, h3, h4⟩ := ih (i + 1) (by omega) (by omega) (b - ((l.getD i z80).f0.size : Int)) (by omega) (by omega)
        refine ⟨r, Ev.step (fun k => by rw [laws_szNameS.l0]) ?_, fun h => ⟨by have := (h4 h).1; omega, fun j j1 j2 => by
          by_cases e : j = i
          · subst e; omega
          · have := (h4 h).2 j (by omega) j2; omega⟩⟩
        rw [rdlName, w64 (x := (i : Int) + 1) (by omega) (by omega)]
        refine Ev.pos (by omega) (Ev.pos (by omega) (Ev.bindc _ (szName_eq _ _ _) ?_))
        rw [w64 (x := b - ((l.getD i z80).f0.size : Int)) (by omega) (by omega), if_neg hn]
        exact Ev.neg hn h3
  unfold maxLen at hl
  unfold laws_szNameS.f
  rw [w64 (x := a - (l.length : Int)) (by omega) (by omega)]
  refine szd fun h => ?_
  obtain ⟨r, h3, h4⟩ := loop l.length 0 rfl (by omega) (a - (l.length : Int)) (by omega) (by omega)
  exact ⟨r, h3, fun h => ⟨by have := (h4 h).1; omega, fun j hj => by have := (h4 h).2 j (by omega) hj; omega⟩⟩
def convName (x : S80) : S42 := (⟨x.f0, x.f1⟩ : S42)
theorem toNameS_ev (l : List S80) (h : l.length ≤ 1048576) : Ev (fun k => laws_toNameS.f k l) (l.map convName) := by
  have loop : ∀ d i, l.length - i = d → i ≤ l.length → Ev (fun k => laws_toNameS.l0 k l (((l.take i).map convName) ++ List.replicate (l.length - i) z42) (i : Int)) (l.map convName) := by
    intro d
    induction d with
    | zero =>
      intro i hd hi
      have : i = l.length := by omega
      subst this
      refine Ev.step (fun k => by rw [laws_toNameS.l0]) ?_
      refine Ev.neg (by omega) (Ev.now' (by simp))
    | succ d ih =>
      intro i hd hi
      have next := ih (i + 1) (by omega) (by omega)
      have e : (((l.take i).map convName) ++ List.replicate (l.length - i) z42).set i (convName (l.getD i z80)) = ((l.take (i + 1)).map convName) ++ List.replicate (l.length - (i + 1)) z42 := by
        rw [take_succ_getD l i z80 (by omega), show l.length - i = (l.length - (i + 1)) + 1 by omega, List.replicate_succ, List.map_append, List.append_assoc, List.set_append_right _ _ (by simp; omega)]
        simp [Nat.min_eq_left hi]
      have next' : Ev (fun k => laws_toNameS.l0 k l ((((l.take i).map convName) ++ List.replicate (l.length - i) z42).set i (convName (l.getD i z80))) ((i : Int) + 1)) (l.map convName) := by rw [e]; exact next
      refine Ev.step (fun k => by rw [laws_toNameS.l0]) ?_
      rw [w64 (x := (i : Int) + 1) (by omega) (by omega)]
      exact Ev.pos (by omega) (Ev.pos (by omega) (Ev.bindc _ rfl (Ev.pos (by simp; omega) next')))
  unfold laws_toNameS.f
  refine Ev.pos (by omega) (Ev.pos (by omega) ?_)
  have := loop l.length 0 rfl (by omega)
  simpa using this
theorem eqName_refl (x0 : ByteArray) (x1 : Int) : laws_eqName.f x0 x1 x0 x1 = some true := by
  simp [laws_eqName.f]
theorem eqNameS_refl (l : List S42) (h : l.length ≤ 4611686018427387904) : Ev (fun k => laws_eqNameS.f k l l) true := by
  have loop : ∀ d i, l.length - i = d → i ≤ l.length → Ev (fun k => laws_eqNameS.l0 k l l (i : Int)) true := by
    intro d
    induction d with
    | zero =>
      intro i hd hi
      have : i = l.length := by omega
      subst this
      exact Ev.step (fun k => by rw [laws_eqNameS.l0]) (Ev.neg (by omega) (Ev.now _))
    | succ d ih =>
      intro i hd hi
      refine Ev.step (fun k => by rw [laws_eqNameS.l0]) ?_
      rw [w64 (x := (i : Int) + 1) (by omega) (by omega)]
      refine Ev.pos (by omega) (Ev.pos (by omega) (Ev.pos (by omega) (Ev.bindc _ (eqName_refl _ _) (Ev.pos rfl ?_))))
      exact ih (i + 1) (by omega) (by omega)
  unfold laws_eqNameS.f
  exact Ev.pos rfl (loop l.length 0 rfl (by omega))
end Go.Proofs.YtoneooblgdoooaaDoor.Q
