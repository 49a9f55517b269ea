/- Lemmas on the laws' own helpers, printed by a program of this session (gen_help.py). No statement. -/
import Derived.Test.YtfbjeppfnlfejaaDoorHBase
import Derived.Test.YtfbjeppfnlfejaaDoorG5
namespace Go.Proofs.YtfbjeppfnlfejaaDoor.Q
open Go.RowKit Go.Proofs.YtfbjeppfnlfejaaDoorW.PrintWords Go.Proofs.YtfbjeppfnlfejaaDoor.G
set_option linter.unusedVariables false
set_option linter.unusedSimpArgs false

theorem markText_l0 (n : Nat) : ∀ (x : Int) (t : ByteArray), 0 ≤ x → x.toNat ≤ n → (t.size : Int) + x ≤ 4611686018427387904 → ∃ r, Ev (fun k => laws_markText.l0 k x t) r := by
  induction n with
  | zero =>
    intro x t h0 hn hs
    have : x = 0 := by omega
    subst this
    exact ⟨_, Ev.step (fun k => by rw [laws_markText.l0]) (Ev.neg (by omega) (Ev.pos (by omega) (Ev.now _)))⟩
  | succ n ih =>
    intro x t h0 hn hs
    by_cases hx : x > 0
    · have hd : Int.tdiv x 10 = x / 10 := Int.tdiv_eq_ediv_of_nonneg h0
      obtain ⟨r, hr⟩ := ih (x / 10) (strOfNums [(wrap64 (48 + Int.tmod x 10)) % 256] ++ t) (by omega) (by omega) (by rw [ByteArray.size_append, str_size]; simp only [List.length_singleton]; omega)
      refine ⟨r, ?_⟩
      refine Ev.step (fun k => by rw [laws_markText.l0]) ?_
      rw [hd, w64 (x := x / 10) (by omega) (by omega)]
      refine Ev.pos hx (Ev.bindc _ rfl (Ev.pos ?_ hr))
      rw [str_size]
      simp only [List.length_singleton]
      omega
    · have : x = 0 := by omega
      subst this
      exact ⟨_, Ev.step (fun k => by rw [laws_markText.l0]) (Ev.neg (by omega) (Ev.pos (by omega) (Ev.now _)))⟩
theorem markText_ev (x : Int) (h0 : 0 ≤ x) (h1 : x ≤ 4611686018427387904) : ∃ r, Ev (fun k => laws_markText.f k x) r := by
  unfold laws_markText.f
  by_cases hx : x ≤ 0
  · exact ⟨_, Ev.pos hx (Ev.now _)⟩
  · obtain ⟨r, hr⟩ := markText_l0 x.toNat x ⟨#[]⟩ h0 (Nat.le_refl _) (by simp only [ByteArray.size]; simp; omega)
    exact ⟨r, Ev.neg hx hr⟩
/-- The text of a mark. -/
noncomputable def markT (x : Int) : ByteArray := by
  classical
  exact if h : ∃ r, Ev (fun k => laws_markText.f k x) r then h.choose else ⟨#[]⟩
theorem markT_ev (x : Int) (h0 : 0 ≤ x) (h1 : x ≤ 4611686018427387904) : Ev (fun k => laws_markText.f k x) (markT x) := by
  have h := markText_ev x h0 h1
  unfold markT
  rw [dif_pos h]
  exact h.choose_spec
end Go.Proofs.YtfbjeppfnlfejaaDoor.Q
