/- WorkOn of both: the same answer. -/
import Derived.Test.YtakgjdckolllaaaIntOpenS
import Derived.Test.YtakgjdckolllaaaG5
import Derived.Test.YtakgjdckolllaaaG6
namespace Go.Proofs.Ytakgjdckolllaaa.Q
open Go.RowKit Go.Proofs.YtakgjdckolllaaaW.PrintWords Go.Proofs.Ytakgjdckolllaaa.G
set_option linter.unusedVariables false
set_option linter.unusedSimpArgs false
theorem gf_sorted (n : Int) (l m : List X_) (hl : l.length ≤ 1048576) (h : Ev (fun k => spec_GoodFree.f k n l m) true) : isort [] l = m := by
  obtain ⟨K1, h1⟩ := h
  obtain ⟨K2, h2⟩ := bysize_ev l hl
  obtain ⟨K3, h3⟩ := same_s (isort [] l) m (by rw [isort_length, List.length_nil]; omega)
  have e : spec_GoodFree.f (K1 + K2 + K3) n l m = some true := h1 _ (by omega)
  have e2 : spec_l5BySize.f (K1 + K2 + K3) l = some (isort [] l) := h2 _ (by omega)
  have e3 : spec_l5Same.f (K1 + K2 + K3) (isort [] l) m = some (decide (isort [] l = m)) := h3 _ (by omega)
  unfold spec_GoodFree.f at e
  cases hp : spec_l5Place.f (K1 + K2 + K3) l n with
  | none => rw [hp] at e; cases e
  | some t =>
    rw [hp, Option.bind_some] at e
    cases t with
    | false => rw [if_neg Bool.false_ne_true] at e; cases e
    | true =>
      rw [if_pos rfl, e2, Option.bind_some, e3, Option.bind_some] at e
      simpa using e
theorem gw_free (n : Int) (fp m : List X_) (nxt : Int) (l : List It) (hfp : fp.length ≤ 1048576) (h : Ev (fun k => spec_GoodWork.f k n fp m nxt l) true) : isort [] fp = m := by
  obtain ⟨g, e1, _, _⟩ := goodFree_full n fp m hfp
  cases g with
  | true => exact gf_sorted n fp m hfp e1
  | false =>
    obtain ⟨K1, h1⟩ := h
    obtain ⟨K2, h2⟩ := e1
    have e : spec_GoodWork.f (K1 + K2) n fp m nxt l = some true := h1 _ (by omega)
    have e2 : spec_GoodFree.f (K1 + K2) n fp m = some false := h2 _ (by omega)
    unfold spec_GoodWork.f at e
    rw [e2, Option.bind_some, if_neg Bool.false_ne_true] at e
    cases e
theorem own_s (n : Int) (fp m : List X_) (nxt : Int) (l : List It) (hfp : fp.length ≤ 1048576) (hl : l.length ≤ 1048576) (h : isort [] fp = m) : Ev (fun k => spec_l12Own.f k n fp m nxt l) (n, fp, m, nxt, l) := by
  unfold spec_l12Own.f spec_l5Of.f
  refine Ev.bind' (n, fp, m) (Ev.bindc [] rfl (Ev.pos (by rw [List.length_nil]; omega) (Ev.bind' _ (bysize_ev fp hfp) (Ev.now' (by rw [h, List.nil_append]))))) (Ev.bindc [] rfl (Ev.pos (by rw [List.length_nil]; omega) (Ev.now' (by rw [List.nil_append]))))
/-- A state and whether it is one: what both hand back. -/
def ansW (n : Int) (fp m : List X_) (nxt : Int) (l : List It) : Bool → Int × List X_ × List X_ × Int × List It × Bool
  | true => (n, fp, m, nxt, l, true)
  | false => (0, [], [], 0, [], false)
theorem with_i (n : Int) (fp m : List X_) (nxt : Int) (l : List It) (x : It) (nx : Int) (hfp : fp.length ≤ 1048576) (hm : m.length ≤ 1048576) (hl : l.length ≤ 1048576) (h : Ev (fun k => impl_GoodWork.f k n fp m nxt l) true) (b : Bool) (hb : Ev (fun k => impl_GoodWork.f k n fp m nx (l ++ [x])) b) :
    Ev (fun k => impl_withItem.f k n fp m nxt l x.f0 x.f1 x.f2.f0 x.f2.f1 x.f3 nx) (ansW n fp m nx (l ++ [x]) b) := by
  have e1 : impl_ownFree.f n fp m = some (n, fp, m) := by
    unfold impl_ownFree.f impl_Extent_51.f
    rw [if_pos (by omega), Option.bind_some, if_pos (by omega), Option.bind_some]
  have e2 : impl_Item_68.f l = some l := by
    unfold impl_Item_68.f
    rw [if_pos (by omega)]
  unfold impl_withItem.f
  refine Ev.bindc _ e1 (Ev.bindc _ e2 (Ev.bindc [x] rfl (Ev.pos (by rw [List.length_singleton]; omega) (Ev.bindc (l ++ [x]) rfl (Ev.bind' true h (Ev.pos rfl (Ev.bind' b hb ?_)))))))
  cases b with
  | true => exact Ev.pos rfl (Ev.now _)
  | false => exact Ev.neg Bool.false_ne_true (Ev.now _)
/-- What an intent's numbers are. -/
structure Inv3 (n : Int) (out : List It) : Prop where
  lo : ∀ y ∈ out, 0 ≤ y.f3
  hi : ∀ y ∈ out, y.f2.f1 ≤ n
theorem getD_mem' (l : List It) (j : Nat) (h : j < l.length) : l.getD j z71 ∈ l := getD_mem l j _ h
theorem Inv3.next {n : Int} {fp : List X_} {out o : List It} {x : It} (hn : n ≤ 400) (H2 : ∀ y ∈ out, y.f3 ≤ y.f2.f1) (H : Inv3 n out) (h : istep n fp out x = some o) : Inv3 n o := by
  unfold istep at h
  split at h
  · split at h
    · rename_i c
      split at h
      · cases h
      · split at h
        · cases h
        · obtain rfl := Option.some.inj h
          refine ⟨fun y hy => ?_, fun y hy => ?_⟩
          · rcases List.mem_append.1 hy with hy | hy
            · exact H.lo y hy
            · rw [List.mem_singleton.1 hy]; omega
          · rcases List.mem_append.1 hy with hy | hy
            · exact H.hi y hy
            · rw [List.mem_singleton.1 hy]; exact c.2.2.2.2.1
    · cases h
  · split at h
    · rename_i c
      obtain rfl := Option.some.inj h
      obtain ⟨_, _, _, c1, c2, c3, c4⟩ := c
      have hj : (x.f1 - 1).toNat < out.length := by omega
      have hm := getD_mem' out _ hj
      have a1 := H.lo _ hm
      have a2 := H.hi _ hm
      have a3 := H2 _ hm
      rw [w64 (by omega) (by omega)] at c3
      refine ⟨fun y hy => ?_, fun y hy => ?_⟩
      · rcases List.mem_or_eq_of_mem_set hy with hy | hy
        · exact H.lo y hy
        · rw [hy]; show 0 ≤ x.f3; omega
      · rcases List.mem_or_eq_of_mem_set hy with hy | hy
        · exact H.hi y hy
        · rw [hy]; exact a2
    · cases h
theorem runI_inv3 {n : Int} {fp : List X_} (hn : n ≤ 400) : ∀ (l p out o : List It), Inv p out → Inv2 p out → Inv3 n out → runI n fp out l = some o → Inv3 n o
  | [], p, out, o, _, _, H3, h => by
    rw [runI] at h
    obtain rfl := Option.some.inj h
    exact H3
  | x :: t, p, out, o, H, H2, H3, h => by
    rw [runI] at h
    cases e : istep n fp out x with
    | none => rw [e] at h; cases h
    | some q =>
      rw [e, Option.bind_some] at h
      exact runI_inv3 hn t (p ++ [x]) q o (H.next e) (H2.next e) (H3.next hn H2.le e) h
abbrev z0_ : Int × List X_ × List X_ × Int × List It × Bool := (0, [], [], 0, [], false)
theorem look_s (id many n : Int) (fp m : List X_) (nxt : Int) (l L : List It) (hL : L.length ≤ 1048576) (r : Int × List X_ × List X_ × Int × List It × Bool)
    (hit : ∀ y ∈ L, y.f1 = id → Ev (fun k => spec_WorkOn.j4 k id many n fp m nxt l y.f0 y.f1 y.f2.f0 y.f2.f1 y.f3) r) (no : (∀ y ∈ L, y.f1 ≠ id) → r = z0_) :
    ∀ d j : Nat, L.length - j = d → j ≤ L.length → (∀ i : Nat, i < j → (L.getD i z71).f1 ≠ id) → Ev (fun k => spec_WorkOn.l0 k id many L (L.length : Int) (j : Int) n fp m nxt l) r := by
  intro d
  induction d with
  | zero =>
    intro j hd hj hist
    have e : j = L.length := by omega
    subst e
    rw [no (fun y hy => by
      obtain ⟨i, hi, rfl⟩ := List.mem_iff_getElem.1 hy
      have := hist i hi
      rwa [getD_eq L i _ hi] at this)]
    exact Ev.step (fun k => by rw [spec_WorkOn.l0]) (Ev.neg (by omega) (Ev.now _))
  | succ d ih =>
    intro j hd hj hist
    have hjl : j < L.length := by omega
    refine Ev.step (fun k => by rw [spec_WorkOn.l0]) (Ev.pos (by omega) ?_)
    refine Ev.step (fun k => by rw [spec_WorkOn.j3]) (Ev.pos (by omega) (Ev.pos (by omega) ?_))
    rw [rdI]
    by_cases c : (L.getD j z71).f1 = id
    · exact Ev.pos c (hit _ (getD_mem' L j hjl) c)
    · refine Ev.neg c ?_
      rw [show wrap64 ((j : Int) + 1) = ((j + 1 : Nat) : Int) from by rw [w64 (by omega) (by omega)]; omega]
      exact ih (j + 1) (by omega) (by omega) (fun i hi => by
        by_cases e : i = j
        · subst e; exact c
        · exact hist i (by omega))
theorem workOn_both (n : Int) (fp m : List X_) (nxt : Int) (l : List It) (id many : Int) (hfp : fp.length ≤ 1048576) (hm : m.length ≤ 1048576) (hl : l.length ≤ 1048576) :
    ∃ r : Int × List X_ × List X_ × Int × List It × Bool, Ev (fun k => spec_WorkOn.f k n fp m nxt l id many) r ∧ Ev (fun k => impl_WorkOn.f k n fp m nxt l id many) r ∧ r.2.1.length ≤ 2000000 ∧ r.2.2.1.length ≤ 2000000 ∧ r.2.2.2.2.1.length ≤ 2000000 := by
  obtain ⟨o, h1, h2, h3⟩ := goodIntents_full n fp m nxt l hfp (by omega)
  have js : Ev (fun k => spec_WorkOn.j0 k id many true n fp m nxt l) z0_ := Ev.step (fun k => by rw [spec_WorkOn.j0]) (Ev.pos rfl (Ev.now _))
  have ji : ∀ out : List It, Ev (fun k => impl_WorkOn.j0 k id many out true n fp m nxt l) z0_ := fun out => Ev.step (fun k => by rw [impl_WorkOn.j0]) (Ev.pos rfl (Ev.now _))
  unfold spec_WorkOn.f impl_WorkOn.f
  cases o with
  | none => exact ⟨z0_, Ev.bind' _ h2 (Ev.neg Bool.false_ne_true js), Ev.bind' _ h1 (Ev.neg Bool.false_ne_true (ji _)), Nat.zero_le _, Nat.zero_le _, Nat.zero_le _⟩
  | some out =>
    obtain ⟨b1, b2, b3, n1, n2, f60, hnx⟩ := h3 out rfl
    obtain ⟨H, H2⟩ := runI_inv l [] [] out Inv.start Inv2.start b2
    rw [List.nil_append] at H H2
    have H3 := runI_inv3 n2 l [] [] out Inv.start Inv2.start ⟨fun y h => (by cases h), fun y h => (by cases h)⟩ b2
    have hso := gw_free n fp m nxt l hfp h2
    have gi : Ev (fun k => impl_GoodWork.f k n fp m nxt l) true := by
      unfold impl_GoodWork.f
      exact Ev.bind' _ h1 (Ev.now _)
    have hown := own_s n fp m nxt l hfp (by omega) hso
    have hopen : Ev (fun k => spec_l12Open.f k l) (out.filter (fun y => !(done y))) := by
      unfold spec_l12Open.f
      have h0 : Ev (fun k => spec_l12Open.l0 k l [] l (l.length : Int) 0) (l.filterMap (openOf l)) := open_s l (by omega) l.length 0 [] rfl (Nat.zero_le _) (Nat.zero_le _)
      rw [open_eq H H2] at h0
      exact h0
    have hfl := List.length_filter_le (fun y => !(done y)) out
    -- the reference, from its list of open intents on
    have spec_of : ∀ r : Int × List X_ × List X_ × Int × List It × Bool, ¬ many < 1 → (∀ y ∈ out.filter (fun y => !(done y)), y.f1 = id → Ev (fun k => spec_WorkOn.j4 k id many n fp m nxt l y.f0 y.f1 y.f2.f0 y.f2.f1 y.f3) r) → ((∀ y ∈ out.filter (fun y => !(done y)), y.f1 ≠ id) → r = z0_) →
        Ev (fun k => spec_WorkOn.j0 k id many (decide (many < 1)) n fp m nxt l) r := fun r hm1 hit no => by
      rw [decide_eq_false hm1]
      refine Ev.step (fun k => by rw [spec_WorkOn.j0]) (Ev.neg Bool.false_ne_true ?_)
      refine Ev.step (fun k => by rw [spec_WorkOn.j1]) (Ev.bind' _ hown (Ev.bind' _ hopen ?_))
      exact look_s id many n fp m nxt l _ (by omega) r hit no _ 0 rfl (Nat.zero_le _) (fun i hi => absurd hi (Nat.not_lt_zero _))
    by_cases cm : many < 1
    · refine ⟨z0_, Ev.bind' _ h2 (Ev.pos rfl (by rw [decide_eq_true cm]; exact js)), Ev.bind' _ h1 (Ev.pos rfl (Ev.bindc _ (within_eq _ _ _) ?_)), Nat.zero_le _, Nat.zero_le _, Nat.zero_le _⟩
      show Ev (fun k => impl_WorkOn.j0 k id many out (!decide (1 ≤ id ∧ id ≤ (out.length : Int))) n fp m nxt l) z0_
      by_cases ci : 1 ≤ id ∧ id ≤ (out.length : Int)
      · rw [decide_eq_true ci]
        refine Ev.step (fun k => by rw [impl_WorkOn.j0]) (Ev.neg (by simp) ?_)
        rw [w64 (x := id - 1) (by omega) (by omega)]
        refine Ev.pos (by omega) (Ev.pos (by omega) (Ev.ite (fun _ => Ev.now _) (fun _ => Ev.pos cm (Ev.now _))))
      · rw [decide_eq_false ci]
        exact ji _
    · by_cases ci : 1 ≤ id ∧ id ≤ (out.length : Int)
      · have hj : (id - 1).toNat < out.length := by omega
        have hmem := getD_mem' out _ hj
        have a1 := H3.lo _ hmem
        have a2 := H3.hi _ hmem
        have a3 := H2.le _ hmem
        have a4 := H2.ids _ hj
        have uniq : ∀ y ∈ out, y.f1 = id → y = out.getD (id - 1).toNat z71 := fun y hy e => by
          obtain ⟨i, hi, rfl⟩ := List.mem_iff_getElem.1 hy
          have := H2.ids i hi
          rw [getD_eq out i _ hi] at this
          have ei : i = (id - 1).toNat := by omega
          subst ei
          exact (getD_eq out _ _ hi).symm
        have himp : ∀ r, Ev (fun k => if (wrap64 ((out.getD (id - 1).toNat z71).f2.f1 - (out.getD (id - 1).toNat z71).f3)) = 0 then some z0_ else (if many < 1 then some z0_ else ((impl_withItem.f k n fp m nxt l 2 id 0 0 (wrap64 ((out.getD (id - 1).toNat z71).f3 + (mn many (wrap64 ((out.getD (id - 1).toNat z71).f2.f1 - (out.getD (id - 1).toNat z71).f3))))) nxt).bind fun bt => (some (bt.1, bt.2.1, bt.2.2.1, bt.2.2.2.1, bt.2.2.2.2.1, bt.2.2.2.2.2))))) r →
            Ev (fun k => (impl_within.f id 1 (out.length : Int)).bind fun t449 => impl_WorkOn.j0 k id many out (!t449) n fp m nxt l) r := fun r h => by
          refine Ev.bindc _ (within_eq _ _ _) ?_
          rw [decide_eq_true ci]
          refine Ev.step (fun k => by rw [impl_WorkOn.j0]) (Ev.neg (by simp) ?_)
          rw [w64 (x := id - 1) (by omega) (by omega)]
          refine Ev.pos (by omega) (Ev.pos (by omega) ?_)
          have er : rd_T71 out (id - 1) = out.getD (id - 1).toNat z71 := by
            have := rdI out (id - 1).toNat
            rwa [Int.toNat_of_nonneg (by omega)] at this
          rw [er]
          exact h
        generalize hx : out.getD (id - 1).toNat z71 = x at *
        by_cases cd : x.f2.f1 - x.f3 = 0
        · refine ⟨z0_, Ev.bind' _ h2 (Ev.pos rfl (spec_of z0_ cm (fun y hy e => ?_) (fun _ => rfl))), Ev.bind' _ h1 (Ev.pos rfl (himp _ (Ev.pos (by rw [w64 (by omega) (by omega)]; exact cd) (Ev.now _)))), Nat.zero_le _, Nat.zero_le _, Nat.zero_le _⟩
          have hy2 := List.mem_filter.1 hy
          have := uniq y hy2.1 e
          rw [this] at hy2
          have hd : done x = true := by unfold done; rw [beq_iff_eq]; omega
          rw [hd] at hy2
          exact absurd hy2.2 (by simp)
        · -- the item that is written
          obtain ⟨up, hup, hup1⟩ : ∃ up : Int, up = (if many < x.f2.f1 - x.f3 then x.f3 + many else x.f2.f1) ∧ wrap64 (x.f3 + mn many (wrap64 (x.f2.f1 - x.f3))) = up := by
            refine ⟨_, rfl, ?_⟩
            rw [w64 (x := x.f2.f1 - x.f3) (by omega) (by omega)]
            unfold mn
            by_cases c : many < x.f2.f1 - x.f3
            · rw [if_pos c, if_neg (by omega), w64 (by omega) (by omega)]
            · rw [if_neg c]
              by_cases c2 : x.f2.f1 - x.f3 < many
              · rw [if_pos c2, w64 (by omega) (by omega)]; omega
              · rw [if_neg c2, w64 (by omega) (by omega)]; omega
          obtain ⟨g, gs, gi2⟩ := goodWork_both n fp m nxt (l ++ [(⟨2, id, ⟨0, 0⟩, up⟩ : It)]) hfp hm (by rw [List.length_append, List.length_singleton]; omega)
          have hw := with_i n fp m nxt l (⟨2, id, ⟨0, 0⟩, up⟩ : It) nxt hfp hm (by omega) gi g gi2
          refine ⟨ansW n fp m nxt (l ++ [(⟨2, id, ⟨0, 0⟩, up⟩ : It)]) g, Ev.bind' _ h2 (Ev.pos rfl (spec_of _ cm (fun y hy e => ?_) (fun no => ?_))), Ev.bind' _ h1 (Ev.pos rfl (himp _ (Ev.neg (by rw [w64 (by omega) (by omega)]; exact cd) (Ev.neg cm ?_)))), ?_⟩
          · have hy2 := List.mem_filter.1 hy
            have := uniq y hy2.1 e
            subst this
            have fin : Ev (fun k => ((spec_GoodWork.f k n fp m nxt (l ++ [(⟨2, id, ⟨0, 0⟩, up⟩ : It)])).bind fun t => (if t = true then (some (n, fp, m, nxt, l ++ [(⟨2, id, ⟨0, 0⟩, up⟩ : It)], true)) else (some z0_)))) (ansW n fp m nxt (l ++ [(⟨2, id, ⟨0, 0⟩, up⟩ : It)]) g) := by
              refine Ev.bind' _ gs ?_
              cases g with
              | true => exact Ev.pos rfl (Ev.now _)
              | false => exact Ev.neg Bool.false_ne_true (Ev.now _)
            refine Ev.step (fun k => by rw [spec_WorkOn.j4]) ?_
            rw [w64 (x := y.f2.f1 - y.f3) (by omega) (by omega)]
            by_cases c : many < y.f2.f1 - y.f3
            · rw [if_pos c] at hup
              refine Ev.pos c (Ev.pos (by omega) (Ev.bindc _ rfl ?_))
              rw [w64 (x := y.f3 + many) (by omega) (by omega), ← hup]
              exact fin
            · rw [if_neg c] at hup
              refine Ev.neg c (Ev.pos (by omega) (Ev.bindc _ rfl ?_))
              rw [← hup]
              exact fin
          · refine absurd ?_ (no x (List.mem_filter.2 ⟨hmem, ?_⟩))
            · omega
            · have hd : done x = false := by unfold done; rw [beq_eq_false_iff_ne]; omega
              rw [hd]; rfl
          · rw [hup1]
            exact Ev.bind' _ hw (Ev.now _)
          · cases g with
            | true => exact ⟨by show fp.length ≤ _; omega, by show m.length ≤ _; omega, by show (l ++ [(⟨2, id, ⟨0, 0⟩, up⟩ : It)]).length ≤ _; rw [List.length_append, List.length_singleton]; omega⟩
            | false => exact ⟨Nat.zero_le _, Nat.zero_le _, Nat.zero_le _⟩
      · refine ⟨z0_, Ev.bind' _ h2 (Ev.pos rfl (spec_of z0_ cm (fun y hy e => ?_) (fun _ => rfl))), Ev.bind' _ h1 (Ev.pos rfl (Ev.bindc _ (within_eq _ _ _) (by show Ev (fun k => impl_WorkOn.j0 k id many out (!decide (1 ≤ id ∧ id ≤ (out.length : Int))) n fp m nxt l) z0_; rw [decide_eq_false ci]; exact ji _))), Nat.zero_le _, Nat.zero_le _, Nat.zero_le _⟩
        obtain ⟨i, hi, rfl⟩ := List.mem_iff_getElem.1 (List.mem_filter.1 hy).1
        have := H2.ids i hi
        rw [getD_eq out i _ hi] at this
        exact absurd ⟨by omega, by omega⟩ ci
end Go.Proofs.Ytakgjdckolllaaa.Q
