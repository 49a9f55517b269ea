/- RecordsOf of the reference and of the program: the same answer. -/
import Derived.Test.YthlifcbkpafofaaDoorRingGood
import Derived.Test.YthlifcbkpafofaaDoorG19
import Derived.Test.YthlifcbkpafofaaDoorG11
namespace Go.Proofs.YthlifcbkpafofaaDoor.Q
open Go.RowKit Go.Proofs.YthlifcbkpafofaaDoorW.PrintWords Go.Proofs.YthlifcbkpafofaaDoor.G
theorem records_loop (l : List S26) (h c t : Int) (h1 : 2 ≤ (l.length : Int)) (h2 : (l.length : Int) ≤ 24) (h3 : 0 ≤ h) (h4 : h ≤ 10000000) : ∀ (m : Nat) (x : Int) (acc : List ByteArray), 0 ≤ x → (h - x).toNat ≤ m → acc.length + m ≤ 1000000 →
    ∃ r, Ev (fun k => spec_RecordsOf.l0 k acc x l h c t) r ∧ Ev (fun k => impl_RecordsOf.l0 k acc x l h c t) r ∧ r.1.length ≤ acc.length + m := by
  intro m
  induction m with
  | zero =>
    intro x acc hx hm ha
    have hc : ¬ x < h := by omega
    exact ⟨(acc, true), Ev.step (fun k => by rw [spec_RecordsOf.l0]) (Ev.neg hc (Ev.now _)), Ev.step (fun k => by rw [impl_RecordsOf.l0]) (Ev.neg hc (Ev.now _)), Nat.le_refl _⟩
  | succ m ih =>
    intro x acc hx hm ha
    by_cases hc : x < h
    · have hw : wrap64 (x + 1) = x + 1 := w64 (by omega) (by omega)
      obtain ⟨r, a, b, hl⟩ := ih (x + 1) (acc ++ [(rd_T26 l (Int.tmod x (l.length : Int))).f2]) (by omega) (by omega) (by simp; omega)
      have t0 : 0 ≤ Int.tmod x (l.length : Int) := Int.tmod_nonneg _ hx
      have t1 : Int.tmod x (l.length : Int) < (l.length : Int) := Int.tmod_lt_of_pos _ (by omega)
      refine ⟨r, Ev.step (fun k => by rw [spec_RecordsOf.l0]) (Ev.pos hc (Ev.neg (by omega) (Ev.pos t0 (Ev.pos t1 (Ev.pos (by omega) ?_))))), Ev.step (fun k => by rw [impl_RecordsOf.l0]) (Ev.pos hc (Ev.neg (by omega) (Ev.pos t0 (Ev.pos t1 (Ev.pos (by omega) ?_))))), by simp at hl; omega⟩
      · rw [hw]; exact a
      · rw [hw]; exact b
    · exact ⟨(acc, true), Ev.step (fun k => by rw [spec_RecordsOf.l0]) (Ev.neg hc (Ev.now _)), Ev.step (fun k => by rw [impl_RecordsOf.l0]) (Ev.neg hc (Ev.now _)), by simp⟩
theorem recordsOf_both (l : List S26) (h c t : Int) (hl : l.length ≤ 1048576) : ∃ r, Ev (fun k => spec_RecordsOf.f k l h c t) r ∧ Ev (fun k => impl_RecordsOf.f k l h c t) r ∧ r.1.length ≤ 2000000 := by
  obtain ⟨b, e1, e2, hb⟩ := goodRing_full l h c t hl
  unfold spec_RecordsOf.f impl_RecordsOf.f
  cases b with
  | true =>
    obtain ⟨g1, g2, g3, g4, g5, g6, g7⟩ := hb rfl
    obtain ⟨r, a, b, hr⟩ := records_loop l h c t g1 g2 g3 g4 24 t [] g5 (by omega) (by simp)
    exact ⟨r, Ev.bind' _ e1 (Ev.pos rfl a), Ev.bind' _ e2 (Ev.pos rfl b), by simp at hr; omega⟩
  | false => exact ⟨_, Ev.bind' _ e1 (Ev.neg Bool.false_ne_true (Ev.now _)), Ev.bind' _ e2 (Ev.neg Bool.false_ne_true (Ev.now _)), by simp⟩
end Go.Proofs.YthlifcbkpafofaaDoor.Q
