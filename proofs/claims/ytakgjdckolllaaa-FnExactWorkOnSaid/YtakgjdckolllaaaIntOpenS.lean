/- What is open of a state, as the reference sees it. -/
import Derived.Test.YtakgjdckolllaaaIntGood
import Derived.Test.YtakgjdckolllaaaG5
namespace Go.Proofs.Ytakgjdckolllaaa.Q
open Go.RowKit Go.Proofs.YtakgjdckolllaaaW.PrintWords Go.Proofs.Ytakgjdckolllaaa.G
set_option linter.unusedVariables false
set_option linter.unusedSimpArgs false
def isInt (x : It) : Bool := x.f0 == 1
structure Inv2 (p out : List It) : Prop where
  key : out.map (fun y => (y.f0, y.f1, y.f2)) = (p.filter isInt).map (fun y => (y.f0, y.f1, y.f2))
  ids : ∀ j : Nat, j < out.length → (out.getD j z71).f1 = (j : Int) + 1
  le : ∀ y ∈ out, y.f3 ≤ y.f2.f1
  zero : ∀ x ∈ p, x.f0 = 1 → x.f3 = 0
theorem Inv2.start : Inv2 [] [] := ⟨rfl, fun j h => absurd h (Nat.not_lt_zero _), fun y h => (by cases h), fun y h => (by cases h)⟩
theorem Inv2.next {n : Int} {fp : List X_} {p out o : List It} {x : It} (H : Inv2 p out) (h : istep n fp out x = some o) : Inv2 (p ++ [x]) o := by
  unfold istep at h
  by_cases c : x.f0 = 1
  · rw [if_pos c] at h
    by_cases d : x.f1 = (out.length : Int) + 1 ∧ x.f3 = 0 ∧ okExt n x.f2
    · rw [if_pos d] at h
      split at h
      · cases h
      split at h
      · cases h
      obtain rfl := Option.some.inj h
      have ci : isInt x = true := by simp [isInt, c]
      refine ⟨?_, fun j hj => ?_, fun y hy => ?_, fun y hy e => ?_⟩
      · rw [List.map_append, List.filter_append, List.map_append, H.key]
        simp [ci]
      · rw [List.length_append, List.length_singleton] at hj
        rcases Nat.lt_or_ge j out.length with hlt | hge
        · rw [getD_append_left _ _ _ _ hlt]; exact H.ids j hlt
        · have ej : j = out.length := by omega
          subst ej
          have : (out ++ [x]).getD out.length z71 = x := by simp
          rw [this]
          exact d.1
      · rcases List.mem_append.1 hy with hy | hy
        · exact H.le y hy
        · rw [List.mem_singleton.1 hy]
          have := d.2.2.2.1
          omega
      · rcases List.mem_append.1 hy with hy | hy
        · exact H.zero y hy e
        · rw [List.mem_singleton.1 hy]; exact d.2.1
    · rw [if_neg d] at h
      cases h
  · rw [if_neg c] at h
    split at h
    · rename_i d
      obtain rfl := Option.some.inj h
      obtain ⟨d0, d1, d2, d3, d4, d5, d6⟩ := d
      have hlt : (x.f1 - 1).toNat < out.length := by omega
      have ci : isInt x = false := by simp [isInt, c]
      refine ⟨?_, fun j hj => ?_, fun y hy => ?_, fun y hy e => ?_⟩
      · rw [List.filter_append, show [x].filter isInt = [] by simp [ci], List.append_nil, ← H.key, List.map_set]
        refine List.ext_getElem (by simp) fun i h1 h2 => ?_
        rw [List.getElem_set]
        split
        · rename_i hji
          subst hji
          rw [List.getElem_map, getD_eq out _ _ hlt]
        · rfl
      · rw [List.length_set] at hj
        by_cases e : (x.f1 - 1).toNat = j
        · subst e
          rw [getD_set_self _ _ _ _ hj]
          exact H.ids _ hj
        · rw [getD_set_ne _ _ _ _ _ (fun h => e h.symm)]
          exact H.ids j hj
      · obtain ⟨i, hi, rfl⟩ := List.mem_iff_getElem.1 hy
        rw [List.length_set] at hi
        rw [List.getElem_set]
        split
        · exact d6
        · exact H.le _ (List.getElem_mem _)
      · rcases List.mem_append.1 hy with hy | hy
        · exact H.zero y hy e
        · rw [List.mem_singleton.1 hy] at e
          exact absurd e c
    · cases h
theorem runI_inv {n : Int} {fp : List X_} : ∀ (l p out o : List It), Inv p out → Inv2 p out → runI n fp out l = some o → Inv (p ++ l) o ∧ Inv2 (p ++ l) o
  | [], p, out, o, H, H2, h => by
    rw [runI] at h
    obtain rfl := Option.some.inj h
    rw [List.append_nil]
    exact ⟨H, H2⟩
  | x :: t, p, out, o, H, H2, h => by
    rw [runI] at h
    cases e : istep n fp out x with
    | none => rw [e] at h; cases h
    | some o1 =>
      rw [e] at h
      have := runI_inv t (p ++ [x]) o1 o (H.next e) (H2.next e) h
      rwa [List.append_assoc, List.singleton_append] at this
/-- An intent with its last progress. -/
def lastOf (l : List It) (x : It) : It := ⟨x.f0, x.f1, x.f2, (look l x.f1).1⟩
theorem out_eq {l out : List It} (H : Inv l out) (H2 : Inv2 l out) : out = (l.filter isInt).map (lastOf l) := by
  have hlen : out.length = (l.filter isInt).length := by
    have := congrArg List.length H2.key
    simpa using this
  refine List.ext_getElem (by rw [List.length_map]; exact hlen) fun j h1 h2 => ?_
  have hk : (out.map (fun y => (y.f0, y.f1, y.f2)))[j]'(by simpa using h1) = ((l.filter isInt).map (fun y => (y.f0, y.f1, y.f2)))[j]'(by rw [List.length_map, ← hlen]; exact h1) := by
    simp only [H2.key]
  rw [List.getElem_map, List.getElem_map] at hk
  simp only [Prod.mk.injEq] at hk
  obtain ⟨k0, k1, k2⟩ := hk
  have hid := H2.ids j h1
  have hon := H.on j h1
  rw [getD_eq out j _ h1] at hid hon
  rw [List.getElem_map]
  have e : lastOf l (l.filter isInt)[j] = (⟨out[j].f0, out[j].f1, out[j].f2, out[j].f3⟩ : It) := by
    unfold lastOf
    rw [← k0, ← k1, ← k2, hid, hon]
  rw [e]
/-! ### the reference's open intents -/
def upd (id : Int) (u : Int) (o : It) : Int := if o.f1 = id then o.f3 else u
theorem look_upd (id : Int) : ∀ (l : List It) (s : Int × Int), (l.foldl (lk id) s).1 = l.foldl (upd id) s.1
  | [], _ => rfl
  | x :: t, s => by
    rw [List.foldl_cons, List.foldl_cons, look_upd id t]
    congr 1
    unfold lk upd
    split <;> rfl
def openOf (l : List It) (x : It) : Option It := if x.f0 = 1 then (if l.foldl (upd x.f1) x.f3 < x.f2.f1 then some ⟨x.f0, x.f1, x.f2, l.foldl (upd x.f1) x.f3⟩ else none) else none
theorem open_inner (l acc : List It) (j : Nat) (x : It) (r : List It) (hl : l.length ≤ 1048576)
    : ∀ (d i : Nat) (u : Int), l.length - i = d → i ≤ l.length →
    Ev (fun k => spec_l12Open.l1 k l acc l (l.length : Int) (j : Int) l (l.length : Int) (l.length : Int) x.f0 x.f1 x.f2.f0 x.f2.f1 ((l.drop i).foldl (upd x.f1) u)) r →
    Ev (fun k => spec_l12Open.l1 k l acc l (l.length : Int) (j : Int) l (l.length : Int) (i : Int) x.f0 x.f1 x.f2.f0 x.f2.f1 u) r := by
  intro d
  induction d with
  | zero =>
    intro i u hd hi h
    rw [List.drop_eq_nil_of_le (by omega)] at h
    rw [show i = l.length by omega]
    exact h
  | succ d ih =>
    intro i u hd hi h
    rw [drop_getD l i z71 (by omega), List.foldl_cons] at h
    have h' := ih (i + 1) (upd x.f1 u (l.getD i z71)) (by omega) (by omega) h
    rw [show ((i + 1 : Nat) : Int) = wrap64 ((i : Int) + 1) by rw [w64 (by omega) (by omega)]; rfl] at h'
    refine Ev.step (fun k => by rw [spec_l12Open.l1]) (Ev.pos (by omega) (Ev.pos (by omega) (Ev.pos (by omega) ?_)))
    rw [rdI]
    unfold upd at h'
    by_cases c : (l.getD i z71).f1 = x.f1
    · rw [if_pos c] at h'
      exact Ev.pos c h'
    · rw [if_neg c] at h'
      exact Ev.neg c h'
theorem open_s (l : List It) (hl : l.length ≤ 1048576) : ∀ (d j : Nat) (acc : List It), l.length - j = d → j ≤ l.length → acc.length ≤ j →
    Ev (fun k => spec_l12Open.l0 k l acc l (l.length : Int) (j : Int)) (acc ++ (l.drop j).filterMap (openOf l)) := by
  intro d
  induction d with
  | zero =>
    intro j acc hd hj ha
    rw [List.drop_eq_nil_of_le (by omega)]
    refine Ev.step (fun k => by rw [spec_l12Open.l0]) (Ev.neg ?_ (Ev.now' (show acc = acc ++ ([] : List It).filterMap (openOf l) by simp)))
    omega
  | succ d ih =>
    intro j acc hd hj ha
    obtain ⟨x, hx⟩ : ∃ x, x = l.getD j z71 := ⟨_, rfl⟩
    have hw : wrap64 ((j : Int) + 1) = ((j + 1 : Nat) : Int) := by rw [w64 (by omega) (by omega)]; rfl
    rw [drop_getD l j z71 (by omega), ← hx]
    refine Ev.step (fun k => by rw [spec_l12Open.l0]) (Ev.pos (by omega) (Ev.pos (by omega) (Ev.pos (by omega) ?_)))
    rw [rdI, ← hx]
    by_cases c : x.f0 = 1
    · refine Ev.pos c ?_
      have := open_inner l acc j x (acc ++ (x :: l.drop (j + 1)).filterMap (openOf l)) hl l.length 0 x.f3 (by omega) (Nat.zero_le _) (by
        rw [List.drop_zero]
        refine Ev.step (fun k => by rw [spec_l12Open.l1]) (Ev.neg (by omega) ?_)
        by_cases e : l.foldl (upd x.f1) x.f3 < x.f2.f1
        · have h := ih (j + 1) (acc ++ [(⟨x.f0, x.f1, x.f2, l.foldl (upd x.f1) x.f3⟩ : It)]) (by omega) (by omega) (by rw [List.length_append, List.length_singleton]; omega)
          rw [← hw] at h
          have eo : openOf l x = some ⟨x.f0, x.f1, x.f2, l.foldl (upd x.f1) x.f3⟩ := by unfold openOf; rw [if_pos c, if_pos e]
          rw [List.filterMap_cons_some eo]
          rw [List.append_assoc, List.singleton_append] at h
          exact Ev.pos e (Ev.pos (show acc.length < 3518437208883 by omega) h)
        · have h := ih (j + 1) acc (by omega) (by omega) (by omega)
          rw [← hw] at h
          have eo : openOf l x = none := by unfold openOf; rw [if_pos c, if_neg e]
          rw [List.filterMap_cons_none eo]
          exact Ev.neg e h)
      exact this
    · have h := ih (j + 1) acc (by omega) (by omega) (by omega)
      rw [← hw] at h
      have eo : openOf l x = none := by unfold openOf; rw [if_neg c]
      rw [List.filterMap_cons_none eo]
      exact Ev.neg c h
theorem open_eq {l out : List It} (H : Inv l out) (H2 : Inv2 l out) : l.filterMap (openOf l) = out.filter (fun y => !(y.f3 == y.f2.f1)) := by
  have h1 : ∀ m : List It, (∀ x ∈ m, x ∈ l) → m.filterMap (openOf l) = ((m.filter isInt).map (lastOf l)).filter (fun y => decide (y.f3 < y.f2.f1)) := by
    intro m
    induction m with
    | nil => intro _; rfl
    | cons x t ih =>
      intro hm
      have ht := ih (fun y hy => hm y (List.mem_cons_of_mem _ hy))
      by_cases c : x.f0 = 1
      · have ci : isInt x = true := by simp [isInt, c]
        have hz := H2.zero x (hm x (List.mem_cons_self ..)) c
        have eu : l.foldl (upd x.f1) x.f3 = (look l x.f1).1 := by rw [hz]; exact (look_upd x.f1 l (0, -1)).symm
        rw [List.filter_cons_of_pos ci, List.map_cons]
        by_cases e : (look l x.f1).1 < x.f2.f1
        · have eo : openOf l x = some (lastOf l x) := by unfold openOf lastOf; rw [if_pos c, eu, if_pos e]
          rw [List.filterMap_cons_some eo, ht, List.filter_cons_of_pos (by show decide ((look l x.f1).1 < x.f2.f1) = true; exact decide_eq_true e)]
        · have eo : openOf l x = none := by unfold openOf; rw [if_pos c, eu, if_neg e]
          rw [List.filterMap_cons_none eo, ht, List.filter_cons_of_neg (by show ¬ decide ((look l x.f1).1 < x.f2.f1) = true; rw [decide_eq_true_iff]; exact e)]
      · have ci : ¬ isInt x = true := by simp [isInt, c]
        have eo : openOf l x = none := by unfold openOf; rw [if_neg c]
        rw [List.filterMap_cons_none eo, ht, List.filter_cons_of_neg ci]
  rw [h1 l (fun x h => h), ← out_eq H H2]
  refine List.filter_congr fun y hy => ?_
  have := H2.le y hy
  rw [Bool.eq_iff_iff, decide_eq_true_iff, Bool.not_eq_true', beq_eq_false_iff_ne]
  exact ⟨fun h => by omega, fun h => by omega⟩
/-! ### the program's deletion -/
def done (y : It) : Bool := y.f3 == y.f2.f1
end Go.Proofs.Ytakgjdckolllaaa.Q
