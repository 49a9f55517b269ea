/- Lemmas on the laws' own helpers, for name spaces (by hand, in gen_help's form). No statement. -/
import Derived.Test.YtoneooblgdoooaaDoorHInode
import Derived.Test.YtoneooblgdoooaaDoorG1
import Derived.Test.YtoneooblgdoooaaDoorG2
import Derived.Test.YtoneooblgdoooaaDoorG3
namespace Go.Proofs.YtoneooblgdoooaaDoor.Q
open Go.RowKit Go.Proofs.YtoneooblgdoooaaDoorW.PrintWords Go.Proofs.YtoneooblgdoooaaDoor.G
set_option linter.unusedVariables false
set_option linter.unusedSimpArgs false
theorem rdlInode (l : List S59) (i : Nat) : rd_T59 l (i : Int) = l.getD i z59 := by simp [rd_T59]
theorem rdiInode (l : List S40) (i : Nat) : rd_T40 l (i : Int) = l.getD i z40 := by simp [rd_T40]
theorem szInodeS_ev (l : List S59) (hl : l.length ≤ maxLen) (ho : ∀ y ∈ l, ok59 y) (a : Int) (h0 : 0 ≤ a) (h1 : a ≤ 4611686018427387904) : ∃ r, Ev (fun k => laws_szInodeS.f k l a) r ∧ (¬ r < 0 → (0 ≤ r ∧ r ≤ a ∧ (l.length : Int) ≤ a) ∧ ∀ j, j < l.length → ((l.getD j z59).f2.length : Int) ≤ a ∧ ∀ q, q < (l.getD j z59).f2.length → (((l.getD j z59).f2.getD q z80).f0.size : Int) ≤ a) := by
  have loop : ∀ d i, l.length - i = d → i ≤ l.length → ∀ b : Int, 0 ≤ b → b + (l.length : Int) ≤ a → ∃ r, Ev (fun k => laws_szInodeS.l0 k l b (i : Int)) r ∧ (¬ r < 0 → (0 ≤ r ∧ r ≤ b) ∧ ∀ j, i ≤ j → j < l.length → ((l.getD j z59).f2.length : Int) ≤ b ∧ ∀ q, q < (l.getD j z59).f2.length → (((l.getD j z59).f2.getD q z80).f0.size : Int) ≤ b) := by
    intro d
    induction d with
    | zero =>
      intro i hd hi b hb hba
      have : i = l.length := by omega
      subst this
      exact ⟨b, Ev.step (fun k => by rw [laws_szInodeS.l0]) (Ev.neg (by omega) (Ev.now _)), fun _ => ⟨by omega, fun j h1 h2 => by omega⟩⟩
    | succ d ih =>
      intro i hd hi b hb hba
      have hs := ho _ (getD_mem l i z59 (by omega))
      obtain ⟨t, e, n⟩ := szInode_ev (l.getD i z59).f0 (l.getD i z59).f1 (l.getD i z59).f2 hs.2.2.1 hs.2.2.2 b hb (by omega)
      by_cases hn : t < 0
      · refine ⟨-1, Ev.step (fun k => by rw [laws_szInodeS.l0]) ?_, fun h => absurd (by decide) h⟩
        rw [rdlInode]
        exact Ev.pos (by omega) (Ev.pos (by omega) (Ev.bind' _ e (Ev.pos hn (Ev.now _))))
      · obtain ⟨⟨n1, n2⟩, n3, n4⟩ := n hn
        obtain ⟨r, h3, h4⟩ := ih (i + 1) (by omega) (by omega) t n1 (by omega)
        refine ⟨r, Ev.step (fun k => by rw [laws_szInodeS.l0]) ?_, fun h => ⟨by have := (h4 h).1; omega, fun j j1 j2 => by
          by_cases e : j = i
          · subst e; exact ⟨n3, n4⟩
          · have := (h4 h).2 j (by omega) j2
            exact ⟨by omega, fun q hq => by have := this.2 q hq; omega⟩⟩⟩
        have hw : (wrap64 ((i : Int) + 1)) = ((i + 1 : Nat) : Int) := by rw [w64 (by omega) (by unfold maxLen at hl; omega)]; omega
        rw [rdlInode, hw]
        exact Ev.pos (by omega) (Ev.pos (by omega) (Ev.bind' _ e (Ev.neg hn h3)))
  unfold maxLen at hl
  unfold laws_szInodeS.f
  rw [w64 (x := a - (l.length : Int)) (by omega) (by omega)]
  refine szd fun h => ?_
  obtain ⟨r, h3, h4⟩ := loop l.length 0 rfl (by omega) (a - (l.length : Int)) (by omega) (by omega)
  exact ⟨r, h3, fun h => ⟨by have := (h4 h).1; omega, fun j hj => by
    have := (h4 h).2 j (by omega) hj
    exact ⟨by omega, fun q hq => by have := this.2 q hq; omega⟩⟩⟩
def convInode (x : S59) : S40 := (⟨x.f0, x.f1, x.f2.map convName⟩ : S40)
theorem toInodeS_ev (l : List S59) (h : l.length ≤ 1048576) (hn : ∀ j, j < l.length → (l.getD j z59).f2.length ≤ 1048576) : Ev (fun k => laws_toInodeS.f k l) (l.map convInode) := by
  have loop : ∀ d i, l.length - i = d → i ≤ l.length → Ev (fun k => laws_toInodeS.l0 k l (((l.take i).map convInode) ++ List.replicate (l.length - i) z40) (i : Int)) (l.map convInode) := by
    intro d
    induction d with
    | zero =>
      intro i hd hi
      have : i = l.length := by omega
      subst this
      refine Ev.step (fun k => by rw [laws_toInodeS.l0]) ?_
      refine Ev.neg (by omega) (Ev.now' (by simp))
    | succ d ih =>
      intro i hd hi
      have next := ih (i + 1) (by omega) (by omega)
      have e : (((l.take i).map convInode) ++ List.replicate (l.length - i) z40).set i (convInode (l.getD i z59)) = ((l.take (i + 1)).map convInode) ++ List.replicate (l.length - (i + 1)) z40 := by
        rw [take_succ_getD l i z59 (by omega), show l.length - i = (l.length - (i + 1)) + 1 by omega, List.replicate_succ, List.map_append, List.append_assoc, List.set_append_right _ _ (by simp; omega)]
        simp [Nat.min_eq_left hi]
      have next' : Ev (fun k => laws_toInodeS.l0 k l ((((l.take i).map convInode) ++ List.replicate (l.length - i) z40).set i (convInode (l.getD i z59))) ((i : Int) + 1)) (l.map convInode) := by rw [e]; exact next
      refine Ev.step (fun k => by rw [laws_toInodeS.l0]) ?_
      rw [w64 (x := (i : Int) + 1) (by omega) (by omega), rdlInode]
      exact Ev.pos (by omega) (Ev.pos (by omega) (Ev.bind' _ (toInode_ev _ _ _ (hn i (by omega))) (Ev.pos (by simp; omega) next')))
  unfold laws_toInodeS.f
  refine Ev.pos (by omega) (Ev.pos (by omega) ?_)
  have := loop l.length 0 rfl (by omega)
  simpa using this
theorem eqInodeS_refl (l : List S40) (h : l.length ≤ 1048576) (hn : ∀ j, j < l.length → (l.getD j z40).f2.length ≤ 1048576) : Ev (fun k => laws_eqInodeS.f k l l) true := by
  have loop : ∀ d i, l.length - i = d → i ≤ l.length → Ev (fun k => laws_eqInodeS.l0 k l l (i : Int)) true := by
    intro d
    induction d with
    | zero =>
      intro i hd hi
      have : i = l.length := by omega
      subst this
      exact Ev.step (fun k => by rw [laws_eqInodeS.l0]) (Ev.neg (by omega) (Ev.now _))
    | succ d ih =>
      intro i hd hi
      have hb := hn i (by omega)
      refine Ev.step (fun k => by rw [laws_eqInodeS.l0]) ?_
      rw [w64 (x := (i : Int) + 1) (by omega) (by omega), rdiInode]
      refine Ev.pos (by omega) (Ev.pos (by omega) (Ev.pos (by omega) (Ev.bind' _ (eqInode_refl _ _ _ (by omega)) (Ev.pos rfl ?_))))
      exact ih (i + 1) (by omega) (by omega)
  unfold laws_eqInodeS.f
  exact Ev.pos rfl (loop l.length 0 rfl (by omega))
theorem szNames_ev (x0 : List S59) (h0 : x0.length ≤ maxLen) (o0 : ∀ y ∈ x0, ok59 y) (a : Int) (g0 : 0 ≤ a) (g1 : a ≤ 4611686018427387904) : ∃ r, Ev (fun k => laws_szNames.f k x0 a) r ∧ (¬ r < 0 → (0 ≤ r ∧ r ≤ a) ∧ (x0.length : Int) ≤ a ∧ ∀ j, j < x0.length → ((x0.getD j z59).f2.length : Int) ≤ a ∧ ∀ q, q < (x0.getD j z59).f2.length → (((x0.getD j z59).f2.getD q z80).f0.size : Int) ≤ a) := by
  unfold laws_szNames.f
  refine szc (szInodeS_ev x0 h0 o0 a (by omega) (by omega)) fun t0 n0 p0 => ?_
  obtain ⟨⟨b0, c0, d0⟩, s0⟩ := p0
  exact ⟨_, Ev.now _, fun _ => ⟨by omega, by omega, s0⟩⟩
theorem toNames_ev (x0 : List S59) (h0 : x0.length ≤ 1048576) (hn : ∀ j, j < x0.length → (x0.getD j z59).f2.length ≤ 1048576) : Ev (fun k => laws_toNames.f k x0) (x0.map convInode) := by
  unfold laws_toNames.f
  exact Ev.bind' _ (toInodeS_ev x0 h0 hn) (Ev.now _)
theorem eqNames_refl (x0 : List S40) (h0 : x0.length ≤ 1048576) (hn : ∀ j, j < x0.length → (x0.getD j z40).f2.length ≤ 1048576) : Ev (fun k => laws_eqNames.f k x0 x0) true := by
  unfold laws_eqNames.f
  exact Ev.bind' _ (eqInodeS_refl x0 h0 hn) (Ev.pos rfl (Ev.now _))
end Go.Proofs.YtoneooblgdoooaaDoor.Q
