import Derived.Test.YtcdkgenfggdpaaaStoreBase
import Derived.Test.YtcdkgenfggdpaaaG6
namespace Go.Proofs.Ytcdkgenfggdpaaa.Q
open Go.RowKit Go.Proofs.YtcdkgenfggdpaaaW.PrintWords Go.Proofs.Ytcdkgenfggdpaaa.G
set_option linter.unusedVariables false
set_option linter.unusedSimpArgs false

/-- A text of a log that is good for n sectors. -/
def LGood (n : Int) (t : ByteArray) : Prop := (readOf t).2 = true ∧ TOk n (readOf t).1
/-- The writes of a log's texts. -/
noncomputable def wrs (L : List ByteArray) : List Wr := L.flatMap (fun t => (readOf t).1)
theorem wrs_len (L : List ByteArray) : (wrs L).length ≤ 255 * L.length := by
  induction L with
  | nil => simp [wrs]
  | cons t L ih =>
    have := readOf_len t
    unfold wrs at ih ⊢
    rw [List.flatMap_cons, List.length_append, List.length_cons]
    omega
theorem wrs_succ (L : List ByteArray) (i : Nat) (h : i < L.length) : wrs (L.take (i + 1)) = wrs (L.take i) ++ (readOf (L.getD i ByteArray.empty)).1 := by
  unfold wrs
  rw [take_succ_getD L i ByteArray.empty h, List.flatMap_append]
  simp
/-- All texts are short enough to be read. -/
def Short (L : List ByteArray) : Prop := ∀ i, i < L.length → (L.getD i ByteArray.empty).size ≤ 1048576
theorem l11Writes_ev (L : List ByteArray) (hL : L.length ≤ 1048576) (hs : Short L) (n : Int) :
    ((∀ i, i < L.length → LGood n (L.getD i ByteArray.empty)) → Ev (fun k => spec_l11Writes.f k L n) (wrs L, true)) ∧
    ((¬ ∀ i, i < L.length → LGood n (L.getD i ByteArray.empty)) → Ev (fun k => spec_l11Writes.f k L n) ([], false)) := by
  have wl : ∀ i, i ≤ L.length → (wrs (L.take i)).length ≤ 255 * 1048576 := fun i hi => by
    have := wrs_len (L.take i)
    rw [List.length_take] at this
    omega
  have step : ∀ i, i < L.length → LGood n (L.getD i ByteArray.empty) → ∀ r, Ev (fun k => spec_l11Writes.l0 k n (wrs (L.take (i + 1))) L (L.length : Int) ((i + 1 : Nat) : Int)) r → Ev (fun k => spec_l11Writes.l0 k n (wrs (L.take i)) L (L.length : Int) (i : Int)) r := by
    intro i hi hg r next
    have h1 := wl i (by omega)
    have h2 := readOf_len (L.getD i ByteArray.empty)
    refine Ev.step (fun k => by rw [spec_l11Writes.l0]) ?_
    rw [rdw_of, w64 (x := (i : Int) + 1) (by omega) (by omega)]
    refine Ev.pos (by omega) (Ev.pos (by omega) (Ev.pos (by omega) (Ev.bind' _ (specRead_ev _ (hs i hi)) (Ev.pos hg.1 (Ev.bind' _ (l11Txn_ev _ (by omega) n) (Ev.pos (tOk_iff.2 hg.2) (Ev.pos (by omega) ?_)))))))
    rw [wrs_succ L i hi] at next
    exact next
  constructor
  · intro hg
    unfold spec_l11Writes.f
    refine scan (L := fun k i => spec_l11Writes.l0 k n (wrs (L.take i)) L (L.length : Int) (i : Int)) (n := L.length) (p := fun _ => True) ?_ ?_ ?_
    · intro _
      refine Ev.step (fun k => by rw [spec_l11Writes.l0]) ?_
      exact Ev.neg (by omega) (Ev.now' (by rw [List.take_length]))
    · intro i hi _ _ next
      exact step i hi (hg i hi) _ next
    · intro i hi _ h
      exact absurd trivial h
  · intro hg
    unfold spec_l11Writes.f
    refine scan (L := fun k i => spec_l11Writes.l0 k n (wrs (L.take i)) L (L.length : Int) (i : Int)) (n := L.length) (p := fun i => LGood n (L.getD i ByteArray.empty)) ?_ ?_ ?_
    · intro h
      exact absurd h hg
    · intro i hi _ h next
      exact step i hi h _ next
    · intro i hi _ h
      have h2 := readOf_len (L.getD i ByteArray.empty)
      refine Ev.step (fun k => by rw [spec_l11Writes.l0]) ?_
      rw [rdw_of]
      refine Ev.pos (by omega) (Ev.pos (by omega) (Ev.pos (by omega) (Ev.bind' _ (specRead_ev _ (hs i hi)) ?_)))
      by_cases h3 : (readOf (L.getD i ByteArray.empty)).2 = true
      · refine Ev.pos h3 (Ev.bind' _ (l11Txn_ev _ (by omega) n) (Ev.neg ?_ (Ev.now _)))
        intro e
        exact h ⟨h3, tOk_iff.1 e⟩
      · exact Ev.neg h3 (Ev.now _)
theorem writesOf_ev (L : List ByteArray) (hL : L.length ≤ 1048576) (hs : Short L) : Ev (fun k => impl_writesOf.f k L) (wrs L) := by
  have wl : ∀ i, i ≤ L.length → (wrs (L.take i)).length ≤ 255 * 1048576 := fun i hi => by
    have := wrs_len (L.take i)
    rw [List.length_take] at this
    omega
  unfold impl_writesOf.f
  refine scan (L := fun k i => impl_writesOf.l0 k (wrs (L.take i)) L (L.length : Int) (i : Int)) (n := L.length) (p := fun _ => True) ?_ ?_ ?_
  · intro _
    refine Ev.step (fun k => by rw [impl_writesOf.l0]) ?_
    exact Ev.neg (by omega) (Ev.now' (by rw [List.take_length]))
  · intro i hi _ _ next
    have h1 := wl i (by omega)
    have h2 := readOf_len (L.getD i ByteArray.empty)
    refine Ev.step (fun k => by rw [impl_writesOf.l0]) ?_
    rw [rdw_of, w64 (x := (i : Int) + 1) (by omega) (by omega)]
    refine Ev.pos (by omega) (Ev.pos (by omega) (Ev.pos (by omega) (Ev.bind' _ (implRead_ev _ (hs i hi)) (Ev.pos (by omega) ?_))))
    rw [wrs_succ L i hi] at next
    exact next
  · intro i hi _ h
    exact absurd trivial h
theorem short_take {L : List ByteArray} (h : Short L) (n : Nat) : Short (L.take n) := by
  intro i hi
  rw [List.length_take] at hi
  have e : (L.take n).getD i ByteArray.empty = L.getD i ByteArray.empty := by simp [List.getD_eq_getElem?_getD, show i < n by omega]
  rw [e]
  exact h i (by omega)
end Go.Proofs.Ytcdkgenfggdpaaa.Q
