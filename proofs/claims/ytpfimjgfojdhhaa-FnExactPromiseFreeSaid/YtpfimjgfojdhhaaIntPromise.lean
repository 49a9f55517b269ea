/- PromiseFree of both: the same answer. -/
import Derived.Test.YtpfimjgfojdhhaaIntGood
import Derived.Test.YtpfimjgfojdhhaaG3
import Derived.Test.YtpfimjgfojdhhaaG5
namespace Go.Proofs.Ytpfimjgfojdhhaa.Q
open Go.RowKit Go.Proofs.YtpfimjgfojdhhaaW.PrintWords Go.Proofs.Ytpfimjgfojdhhaa.G
set_option linter.unusedVariables false
set_option linter.unusedSimpArgs false
theorem gf_sorted (n : Int) (l m : List X_) (hl : l.length ≤ 1048576) (h : Ev (fun k => spec_GoodFree.f k n l m) true) : isort [] l = m := by
  obtain ⟨K1, h1⟩ := h
  obtain ⟨K2, h2⟩ := bysize_ev l hl
  obtain ⟨K3, h3⟩ := same_s (isort [] l) m (by rw [isort_length, List.length_nil]; omega)
  have e : spec_GoodFree.f (K1 + K2 + K3) n l m = some true := h1 _ (by omega)
  have e2 : spec_l5BySize.f (K1 + K2 + K3) l = some (isort [] l) := h2 _ (by omega)
  have e3 : spec_l5Same.f (K1 + K2 + K3) (isort [] l) m = some (decide (isort [] l = m)) := h3 _ (by omega)
  unfold spec_GoodFree.f at e
  cases hp : spec_l5Place.f (K1 + K2 + K3) l n with
  | none => rw [hp] at e; cases e
  | some t =>
    rw [hp, Option.bind_some] at e
    cases t with
    | false => rw [if_neg Bool.false_ne_true] at e; cases e
    | true =>
      rw [if_pos rfl, e2, Option.bind_some, e3, Option.bind_some] at e
      simpa using e
theorem gw_free (n : Int) (fp m : List X_) (nxt : Int) (l : List It) (hfp : fp.length ≤ 1048576) (h : Ev (fun k => spec_GoodWork.f k n fp m nxt l) true) : isort [] fp = m := by
  obtain ⟨g, e1, _, _⟩ := goodFree_full n fp m hfp
  cases g with
  | true => exact gf_sorted n fp m hfp e1
  | false =>
    obtain ⟨K1, h1⟩ := h
    obtain ⟨K2, h2⟩ := e1
    have e : spec_GoodWork.f (K1 + K2) n fp m nxt l = some true := h1 _ (by omega)
    have e2 : spec_GoodFree.f (K1 + K2) n fp m = some false := h2 _ (by omega)
    unfold spec_GoodWork.f at e
    rw [e2, Option.bind_some, if_neg Bool.false_ne_true] at e
    cases e
theorem own_s (n : Int) (fp m : List X_) (nxt : Int) (l : List It) (hfp : fp.length ≤ 1048576) (hl : l.length ≤ 1048576) (h : isort [] fp = m) : Ev (fun k => spec_l12Own.f k n fp m nxt l) (n, fp, m, nxt, l) := by
  unfold spec_l12Own.f spec_l5Of.f
  refine Ev.bind' (n, fp, m) (Ev.bindc [] rfl (Ev.pos (by rw [List.length_nil]; omega) (Ev.bind' _ (bysize_ev fp hfp) (Ev.now' (by rw [h, List.nil_append]))))) (Ev.bindc [] rfl (Ev.pos (by rw [List.length_nil]; omega) (Ev.now' (by rw [List.nil_append]))))
/-- A state and whether it is one: what both hand back. -/
def ansW (n : Int) (fp m : List X_) (nxt : Int) (l : List It) : Bool → Int × List X_ × List X_ × Int × List It × Bool
  | true => (n, fp, m, nxt, l, true)
  | false => (0, [], [], 0, [], false)
theorem with_i (n : Int) (fp m : List X_) (nxt : Int) (l : List It) (x : It) (nx : Int) (hfp : fp.length ≤ 1048576) (hm : m.length ≤ 1048576) (hl : l.length ≤ 1048576) (h : Ev (fun k => impl_GoodWork.f k n fp m nxt l) true) (b : Bool) (hb : Ev (fun k => impl_GoodWork.f k n fp m nx (l ++ [x])) b) :
    Ev (fun k => impl_withItem.f k n fp m nxt l x.f0 x.f1 x.f2.f0 x.f2.f1 x.f3 nx) (ansW n fp m nx (l ++ [x]) b) := by
  have e1 : impl_ownFree.f n fp m = some (n, fp, m) := by
    unfold impl_ownFree.f impl_Extent_57.f
    rw [if_pos (by omega), Option.bind_some, if_pos (by omega), Option.bind_some]
  have e2 : impl_Item_40.f l = some l := by
    unfold impl_Item_40.f
    rw [if_pos (by omega)]
  unfold impl_withItem.f
  refine Ev.bindc _ e1 (Ev.bindc _ e2 (Ev.bindc [x] rfl (Ev.pos (by rw [List.length_singleton]; omega) (Ev.bindc (l ++ [x]) rfl (Ev.bind' true h (Ev.pos rfl (Ev.bind' b hb ?_)))))))
  cases b with
  | true => exact Ev.pos rfl (Ev.now _)
  | false => exact Ev.neg Bool.false_ne_true (Ev.now _)
theorem with_i0 (n : Int) (fp m : List X_) (nxt : Int) (l : List It) (x : It) (nx : Int) (hfp : fp.length ≤ 1048576) (hm : m.length ≤ 1048576) (hl : l.length ≤ 1048576) (h : Ev (fun k => impl_GoodWork.f k n fp m nxt l) false) :
    Ev (fun k => impl_withItem.f k n fp m nxt l x.f0 x.f1 x.f2.f0 x.f2.f1 x.f3 nx) (0, [], [], 0, [], false) := by
  have e1 : impl_ownFree.f n fp m = some (n, fp, m) := by
    unfold impl_ownFree.f impl_Extent_57.f
    rw [if_pos (by omega), Option.bind_some, if_pos (by omega), Option.bind_some]
  have e2 : impl_Item_40.f l = some l := by
    unfold impl_Item_40.f
    rw [if_pos (by omega)]
  unfold impl_withItem.f
  exact Ev.bindc _ e1 (Ev.bindc _ e2 (Ev.bindc [x] rfl (Ev.pos (by rw [List.length_singleton]; omega) (Ev.bindc (l ++ [x]) rfl (Ev.bind' false h (Ev.neg Bool.false_ne_true (Ev.now _)))))))
abbrev z0_ : Int × List X_ × List X_ × Int × List It × Int × Bool := (0, [], [], 0, [], 0, false)
theorem promise_both (n : Int) (fp m : List X_) (nxt : Int) (l : List It) (x0 x1 : Int) (hfp : fp.length ≤ 1048576) (hm : m.length ≤ 1048576) (hl : l.length ≤ 1048576) :
    ∃ r : Int × List X_ × List X_ × Int × List It × Int × Bool, Ev (fun k => spec_PromiseFree.f k n fp m nxt l x0 x1) r ∧ Ev (fun k => impl_PromiseFree.f k n fp m nxt l x0 x1) r ∧ r.2.1.length ≤ 2000000 ∧ r.2.2.1.length ≤ 2000000 ∧ r.2.2.2.2.1.length ≤ 2000000 := by
  obtain ⟨o, h1, h2, h3⟩ := goodIntents_full n fp m nxt l hfp (by omega)
  unfold spec_PromiseFree.f impl_PromiseFree.f
  cases o with
  | none =>
    have gi : Ev (fun k => impl_GoodWork.f k n fp m nxt l) false := by
      unfold impl_GoodWork.f
      exact Ev.bind' _ h1 (Ev.now _)
    have hw := with_i0 n fp m nxt l (⟨1, nxt, ⟨x0, x1⟩, 0⟩ : It) (wrap64 (nxt + 1)) hfp hm hl gi
    exact ⟨z0_, Ev.bind' _ h2 (Ev.neg Bool.false_ne_true (Ev.now _)), Ev.bind' _ hw (Ev.neg Bool.false_ne_true (Ev.now _)), Nat.zero_le _, Nat.zero_le _, Nat.zero_le _⟩
  | some out =>
    obtain ⟨b1, b2, b3, n1, n2, f60, hnx⟩ := h3 out rfl
    have hso := gw_free n fp m nxt l hfp h2
    have gi : Ev (fun k => impl_GoodWork.f k n fp m nxt l) true := by
      unfold impl_GoodWork.f
      exact Ev.bind' _ h1 (Ev.now _)
    have hown := own_s n fp m nxt l hfp (by omega) hso
    have e1 : wrap64 (nxt + 1) = nxt + 1 := w64 (by omega) (by omega)
    have e2 : wrap64 (nxt + 1 - 1) = nxt := by rw [w64 (by omega) (by omega)]; omega
    have hll : (l ++ [(⟨1, nxt, ⟨x0, x1⟩, 0⟩ : It)]).length ≤ 2000000 := by rw [List.length_append, List.length_singleton]; omega
    obtain ⟨g, gs, gi2⟩ := goodWork_both n fp m (nxt + 1) (l ++ [(⟨1, nxt, ⟨x0, x1⟩, 0⟩ : It)]) hfp hm (by rw [List.length_append, List.length_singleton]; omega)
    have hw := with_i n fp m nxt l (⟨1, nxt, ⟨x0, x1⟩, 0⟩ : It) (nxt + 1) hfp hm (by omega) gi g gi2
    rw [e1]
    cases g with
    | true =>
      refine ⟨(n, fp, m, nxt + 1, l ++ [(⟨1, nxt, ⟨x0, x1⟩, 0⟩ : It)], nxt, true), Ev.bind' _ h2 (Ev.pos rfl (Ev.bind' _ hown (Ev.pos (by show l.length < _; omega) (Ev.bindc _ rfl ?_)))), Ev.bind' _ hw (Ev.pos rfl (Ev.now _)), by show fp.length ≤ _; omega, by show m.length ≤ _; omega, hll⟩
      show Ev (fun k => (spec_GoodWork.f k n fp m (wrap64 (nxt + 1)) _).bind _) _
      rw [e1]
      refine Ev.bind' _ gs (Ev.pos rfl (Ev.now' ?_))
      show (n, fp, m, nxt + 1, _, wrap64 (nxt + 1 - 1), true) = _
      rw [e2]
    | false =>
      refine ⟨z0_, Ev.bind' _ h2 (Ev.pos rfl (Ev.bind' _ hown (Ev.pos (by show l.length < _; omega) (Ev.bindc _ rfl ?_)))), Ev.bind' _ hw (Ev.neg Bool.false_ne_true (Ev.now _)), Nat.zero_le _, Nat.zero_le _, Nat.zero_le _⟩
      show Ev (fun k => (spec_GoodWork.f k n fp m (wrap64 (nxt + 1)) _).bind _) _
      rw [e1]
      exact Ev.bind' _ gs (Ev.neg Bool.false_ne_true (Ev.now _))
end Go.Proofs.Ytpfimjgfojdhhaa.Q
