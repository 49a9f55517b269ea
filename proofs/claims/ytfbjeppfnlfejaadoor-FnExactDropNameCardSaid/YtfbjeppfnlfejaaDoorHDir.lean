/- Lemmas on the laws' own helpers, for directories (by hand, in gen_help's form). No statement. -/
import Derived.Test.YtfbjeppfnlfejaaDoorHBucket
import Derived.Test.YtfbjeppfnlfejaaDoorHInt
import Derived.Test.YtfbjeppfnlfejaaDoorG1
import Derived.Test.YtfbjeppfnlfejaaDoorG3
import Derived.Test.YtfbjeppfnlfejaaDoorG5
namespace Go.Proofs.YtfbjeppfnlfejaaDoor.Q
open Go.RowKit Go.Proofs.YtfbjeppfnlfejaaDoorW.PrintWords Go.Proofs.YtfbjeppfnlfejaaDoor.G
set_option linter.unusedVariables false
set_option linter.unusedSimpArgs false
theorem rdlBucket (l : List S60) (i : Nat) : rd_T60 l (i : Int) = l.getD i z60 := by simp [rd_T60]
theorem rdiBucket (l : List S46) (i : Nat) : rd_T46 l (i : Int) = l.getD i z46 := by simp [rd_T46]
theorem szBucketS_ev (l : List S60) (hl : l.length ≤ maxLen) (ho : ∀ y ∈ l, ok60 y) (a : Int) (h0 : 0 ≤ a) (h1 : a ≤ 4611686018427387904) : ∃ r, Ev (fun k => laws_szBucketS.f k l a) r ∧ (¬ r < 0 → (0 ≤ r ∧ r ≤ a ∧ (l.length : Int) ≤ a) ∧ ∀ j, j < l.length → ((l.getD j z60).f1.length : Int) ≤ a ∧ ∀ q, q < (l.getD j z60).f1.length → (((l.getD j z60).f1.getD q z87).f0.size : Int) ≤ a) := by
  have loop : ∀ d i, l.length - i = d → i ≤ l.length → ∀ b : Int, 0 ≤ b → b + (l.length : Int) ≤ a → ∃ r, Ev (fun k => laws_szBucketS.l0 k l b (i : Int)) r ∧ (¬ r < 0 → (0 ≤ r ∧ r ≤ b) ∧ ∀ j, i ≤ j → j < l.length → ((l.getD j z60).f1.length : Int) ≤ b ∧ ∀ q, q < (l.getD j z60).f1.length → (((l.getD j z60).f1.getD q z87).f0.size : Int) ≤ b) := by
    intro d
    induction d with
    | zero =>
      intro i hd hi b hb hba
      have : i = l.length := by omega
      subst this
      exact ⟨b, Ev.step (fun k => by rw [laws_szBucketS.l0]) (Ev.neg (by omega) (Ev.now _)), fun _ => ⟨by omega, fun j h1 h2 => by omega⟩⟩
    | succ d ih =>
      intro i hd hi b hb hba
      have hs := ho _ (getD_mem l i z60 (by omega))
      obtain ⟨t, e, n⟩ := szBucket_ev (l.getD i z60).f0 (l.getD i z60).f1 hs.2.1 hs.2.2 b hb (by omega)
      by_cases hn : t < 0
      · refine ⟨-1, Ev.step (fun k => by rw [laws_szBucketS.l0]) ?_, fun h => absurd (by decide) h⟩
        rw [rdlBucket]
        exact Ev.pos (by omega) (Ev.pos (by omega) (Ev.bind' _ e (Ev.pos hn (Ev.now _))))
      · obtain ⟨⟨n1, n2⟩, n3, n4⟩ := n hn
        obtain ⟨r, h3, h4⟩ := ih (i + 1) (by omega) (by omega) t n1 (by omega)
        refine ⟨r, Ev.step (fun k => by rw [laws_szBucketS.l0]) ?_, fun h => ⟨by have := (h4 h).1; omega, fun j j1 j2 => by
          by_cases e : j = i
          · subst e; exact ⟨n3, n4⟩
          · have := (h4 h).2 j (by omega) j2
            exact ⟨by omega, fun q hq => by have := this.2 q hq; omega⟩⟩⟩
        have hw : (wrap64 ((i : Int) + 1)) = ((i + 1 : Nat) : Int) := by rw [w64 (by omega) (by unfold maxLen at hl; omega)]; omega
        rw [rdlBucket, hw]
        exact Ev.pos (by omega) (Ev.pos (by omega) (Ev.bind' _ e (Ev.neg hn h3)))
  unfold maxLen at hl
  unfold laws_szBucketS.f
  rw [w64 (x := a - (l.length : Int)) (by omega) (by omega)]
  refine szd fun h => ?_
  obtain ⟨r, h3, h4⟩ := loop l.length 0 rfl (by omega) (a - (l.length : Int)) (by omega) (by omega)
  exact ⟨r, h3, fun h => ⟨by have := (h4 h).1; omega, fun j hj => by
    have := (h4 h).2 j (by omega) hj
    exact ⟨by omega, fun q hq => by have := this.2 q hq; omega⟩⟩⟩
def convBucket (x : S60) : S46 := (⟨x.f0, x.f1.map convName⟩ : S46)
theorem toBucketS_ev (l : List S60) (h : l.length ≤ 1048576) (hn : ∀ j, j < l.length → (l.getD j z60).f1.length ≤ 1048576) : Ev (fun k => laws_toBucketS.f k l) (l.map convBucket) := by
  have loop : ∀ d i, l.length - i = d → i ≤ l.length → Ev (fun k => laws_toBucketS.l0 k l (((l.take i).map convBucket) ++ List.replicate (l.length - i) z46) (i : Int)) (l.map convBucket) := by
    intro d
    induction d with
    | zero =>
      intro i hd hi
      have : i = l.length := by omega
      subst this
      refine Ev.step (fun k => by rw [laws_toBucketS.l0]) ?_
      refine Ev.neg (by omega) (Ev.now' (by simp))
    | succ d ih =>
      intro i hd hi
      have next := ih (i + 1) (by omega) (by omega)
      have e : (((l.take i).map convBucket) ++ List.replicate (l.length - i) z46).set i (convBucket (l.getD i z60)) = ((l.take (i + 1)).map convBucket) ++ List.replicate (l.length - (i + 1)) z46 := by
        rw [take_succ_getD l i z60 (by omega), show l.length - i = (l.length - (i + 1)) + 1 by omega, List.replicate_succ, List.map_append, List.append_assoc, List.set_append_right _ _ (by simp; omega)]
        simp [Nat.min_eq_left hi]
      have next' : Ev (fun k => laws_toBucketS.l0 k l ((((l.take i).map convBucket) ++ List.replicate (l.length - i) z46).set i (convBucket (l.getD i z60))) ((i : Int) + 1)) (l.map convBucket) := by rw [e]; exact next
      refine Ev.step (fun k => by rw [laws_toBucketS.l0]) ?_
      rw [w64 (x := (i : Int) + 1) (by omega) (by omega), rdlBucket]
      exact Ev.pos (by omega) (Ev.pos (by omega) (Ev.bind' _ (toBucket_ev _ _ (hn i (by omega))) (Ev.pos (by simp; omega) next')))
  unfold laws_toBucketS.f
  refine Ev.pos (by omega) (Ev.pos (by omega) ?_)
  have := loop l.length 0 rfl (by omega)
  simpa using this
theorem eqBucketS_refl (l : List S46) (h : l.length ≤ 1048576) (hn : ∀ j, j < l.length → (l.getD j z46).f1.length ≤ 1048576) : Ev (fun k => laws_eqBucketS.f k l l) true := by
  have loop : ∀ d i, l.length - i = d → i ≤ l.length → Ev (fun k => laws_eqBucketS.l0 k l l (i : Int)) true := by
    intro d
    induction d with
    | zero =>
      intro i hd hi
      have : i = l.length := by omega
      subst this
      exact Ev.step (fun k => by rw [laws_eqBucketS.l0]) (Ev.neg (by omega) (Ev.now _))
    | succ d ih =>
      intro i hd hi
      have hb := hn i (by omega)
      refine Ev.step (fun k => by rw [laws_eqBucketS.l0]) ?_
      rw [w64 (x := (i : Int) + 1) (by omega) (by omega), rdiBucket]
      refine Ev.pos (by omega) (Ev.pos (by omega) (Ev.pos (by omega) (Ev.bind' _ (eqBucket_refl _ _ (by omega)) (Ev.pos rfl ?_))))
      exact ih (i + 1) (by omega) (by omega)
  unfold laws_eqBucketS.f
  exact Ev.pos rfl (loop l.length 0 rfl (by omega))
theorem szDir_ev (x0 : Int) (x1 : List Int) (x2 : List S60) (h1 : x1.length ≤ maxLen) (h2 : x2.length ≤ maxLen) (o2 : ∀ y ∈ x2, ok60 y) (a : Int) (g0 : 0 ≤ a) (g1 : a ≤ 4611686018427387904) : ∃ r, Ev (fun k => laws_szDir.f k x0 x1 x2 a) r ∧ (¬ r < 0 → (0 ≤ r ∧ r ≤ a) ∧ (x1.length : Int) ≤ a ∧ (x2.length : Int) ≤ a ∧ ∀ j, j < x2.length → ((x2.getD j z60).f1.length : Int) ≤ a ∧ ∀ q, q < (x2.getD j z60).f1.length → (((x2.getD j z60).f1.getD q z87).f0.size : Int) ≤ a) := by
  unfold laws_szDir.f
  refine szc (szIntS_ev x1 h1 a (by omega) (by omega)) fun t0 n0 p0 => ?_
  obtain ⟨b0, c0, d0⟩ := p0
  refine szc (szBucketS_ev x2 h2 o2 t0 (by omega) (by omega)) fun t1 n1 p1 => ?_
  obtain ⟨⟨b1, c1, d1⟩, s1⟩ := p1
  refine ⟨_, Ev.now _, fun _ => ⟨by omega, by omega, by omega, fun j hj => ?_⟩⟩
  have := s1 j hj
  exact ⟨by omega, fun q hq => by have := this.2 q hq; omega⟩
theorem toDir_ev (x0 : Int) (x1 : List Int) (x2 : List S60) (h1 : x1.length ≤ 1048576) (h2 : x2.length ≤ 1048576) (hn : ∀ j, j < x2.length → (x2.getD j z60).f1.length ≤ 1048576) : Ev (fun k => laws_toDir.f k x0 x1 x2) (x0, x1, x2.map convBucket) := by
  unfold laws_toDir.f
  exact Ev.bind' _ (toIntS_ev x1 h1) (Ev.bind' _ (toBucketS_ev x2 h2 hn) (Ev.now _))
theorem eqDir_refl (x0 : Int) (x1 : List Int) (x2 : List S46) (h1 : x1.length ≤ 1048576) (h2 : x2.length ≤ 1048576) (hn : ∀ j, j < x2.length → (x2.getD j z46).f1.length ≤ 1048576) : Ev (fun k => laws_eqDir.f k x0 x1 x2 x0 x1 x2) true := by
  unfold laws_eqDir.f
  exact Ev.pos rfl (Ev.bind' _ (eqIntS_refl x1 (by omega)) (Ev.pos rfl (Ev.bind' _ (eqBucketS_refl x2 h2 hn) (Ev.pos rfl (Ev.now _)))))
end Go.Proofs.YtfbjeppfnlfejaaDoor.Q
