-- Printed by a program of this session (drive.py, by way of the kit's print). Not trusted: Lean checks it.
import Derived.Test.YtojdlcbmbpgplaaG0
import Derived.Test.YtojdlcbmbpgplaaG3
namespace Go.Proofs.Ytojdlcbmbpgplaa.G
open Go.RowKit Go.Proofs.YtojdlcbmbpgplaaW.PrintWords Go.Proofs.YtojdlcbmbpgplaaW.PrintLast Go.Proofs.YtojdlcbmbpgplaaW.PrintMore
attribute [local go_sem] max2_int min2_int max_two min_two max_three min_three max_four min_four   -- for this text's walks alone
set_option linter.unusedVariables false
set_option linter.unusedSimpArgs false

/-! ### spec_l9Stretch: function 68 -/
def spec_l9Stretch.f (a0 : Int) (a1 : Int) : Option (Bool) := (spec_l1In.f a0 0 200).bind fun t626 => (if t626 = true then ((spec_l1In.f a1 0 (wrap64 (200 - a0))).bind fun t627 => (some t627)) else (some false))
set_option maxHeartbeats 8000000 in
set_option maxRecDepth 100000 in
theorem spec_l9Stretch.calls (a0 : Int) (a1 : Int) (r : Bool) (w : World) (h : spec_l9Stretch.f a0 a1 = some r) :
  Calls Try.prog 68 #[.int .i64 a0, .int .i64 a1] w fun e w' => e = .returned (.bool r) ∧ Drawn0 w w' := by
 have H : ((spec_l1In.f a0 0 200).bind fun t626 => (if t626 = true then ((spec_l1In.f a1 0 (wrap64 (200 - a0))).bind fun t627 => (some t627)) else (some false))) = some r := h
 clear h
 replace H := Option.bind_eq_some_iff.mp H
 obtain ⟨t626, A30, H⟩ := H
 replace H : (if t626 = true then ((spec_l1In.f a1 0 (wrap64 (200 - a0))).bind fun t627 => (some t627)) else (some false)) = some r := H
 have A3 := Aside0.mk A30
 clear A30
 by_cases c4 : t626 = true
 ·
  subst c4
  rw [if_pos rfl] at H
  replace H := Option.bind_eq_some_iff.mp H
  obtain ⟨t627, A50, H⟩ := H
  replace H : (some t627) = some r := H
  have A5 := Aside0.mk A50
  clear A50
  obtain rfl := Option.some.inj H
  go_enter Try.func68, Try.ntmps68
  go_wp2_with (first | ((with_reducible refine gate_callee (f := 54) rfl ?_); refine gL (some 6) rfl rfl Try.func54 (by kernel_rfl) rfl #[.int .i64 a0, .int .i64 0, .int .i64 200] rfl ?_; (with_reducible refine (spec_l1In.calls a0 0 200 true _ A3.out).mono ?_); rintro e w' ⟨rfl, ⟨nd, rfl⟩⟩; refine ⟨_, rfl, ?_⟩) | (go_at_call 54; (with_reducible refine (spec_l1In.calls a1 0 (wrap64 (200 - a0)) t627 _ A5.out).mono ?_); rintro e w' ⟨rfl, ⟨nd, rfl⟩⟩))
  go_ret
  exact ⟨by first | rfl | (simp; done) | (simp [*]; done), by repeat (first | exact Drawn0.refl _ | apply Drawn0.step)⟩
 ·
  replace c4 := Bool.eq_false_iff.mpr c4
  subst c4
  rw [if_neg (show ¬ (false = true) by decide)] at H
  obtain rfl := Option.some.inj H
  go_enter Try.func68, Try.ntmps68
  go_wp2_with (first | ((with_reducible refine gate_callee (f := 54) rfl ?_); refine gL (some 6) rfl rfl Try.func54 (by kernel_rfl) rfl #[.int .i64 a0, .int .i64 0, .int .i64 200] rfl ?_; (with_reducible refine (spec_l1In.calls a0 0 200 false _ A3.out).mono ?_); rintro e w' ⟨rfl, ⟨nd, rfl⟩⟩; refine ⟨_, rfl, ?_⟩))
  go_ret
  exact ⟨by first | rfl | (simp; done) | (simp [*]; done), by repeat (first | exact Drawn0.refl _ | apply Drawn0.step)⟩

/-! ### spec_l9Cut: function 69 -/
mutual
def spec_l9Cut.l0 : Nat → Int → List (S48) → List (S48) → Int → List (S48) → Int → Int → Option ((List (S48)) × (List (S48)))
 | 0, _, _, _, _, _, _, _ => none
 | k + 1, x1, x8, x9, x10, x20, x21, x22 => if x22 < x21 then (if 0 ≤ x22 then (if x22 < (x20.length : Int) then (if ((rd_T48 x20 x22).f0) < x1 then (spec_l9Cut.j1 k x1 x8 x9 x10 ((rd_T48 x20 x22).f0) (wrap64 (((rd_T48 x20 x22).f0) + ((rd_T48 x20 x22).f1))) x1 x20 x21 x22 ((rd_T48 x20 x22).f0) ((rd_T48 x20 x22).f1) ((rd_T48 x20 x22).f2) ((rd_T48 x20 x22).f3)) else (spec_l9Cut.j1 k x1 x8 x9 x10 ((rd_T48 x20 x22).f0) (wrap64 (((rd_T48 x20 x22).f0) + ((rd_T48 x20 x22).f1))) ((rd_T48 x20 x22).f0) x20 x21 x22 ((rd_T48 x20 x22).f0) ((rd_T48 x20 x22).f1) ((rd_T48 x20 x22).f2) ((rd_T48 x20 x22).f3))) else (none)) else (none)) else (some (x8, x9))
def spec_l9Cut.j1 : Nat → Int → List (S48) → List (S48) → Int → Int → Int → Int → List (S48) → Int → Int → Int → Int → Int → Bool → Option ((List (S48)) × (List (S48)))
 | 0, _, _, _, _, _, _, _, _, _, _, _, _, _, _ => none
 | k + 1, x1, x8, x9, x10, x13, x14, x15, x20, x21, x22, x630000, x630001, x630002, x630003 => if x14 > x10 then (spec_l9Cut.j2 k x1 x8 x9 x10 x13 x14 x15 x10 x20 x21 x22 x630000 x630001 x630002 x630003) else (spec_l9Cut.j2 k x1 x8 x9 x10 x13 x14 x15 x14 x20 x21 x22 x630000 x630001 x630002 x630003)
def spec_l9Cut.j2 : Nat → Int → List (S48) → List (S48) → Int → Int → Int → Int → Int → List (S48) → Int → Int → Int → Int → Int → Bool → Option ((List (S48)) × (List (S48)))
 | 0, _, _, _, _, _, _, _, _, _, _, _, _, _, _, _ => none
 | k + 1, x1, x8, x9, x10, x13, x14, x15, x16, x20, x21, x22, x630000, x630001, x630002, x630003 => if x15 ≥ x16 then (if x8.length < 4398046511104 then (spec_l9Cut.l0 k x1 (x8 ++ [(⟨x630000, x630001, x630002, x630003⟩ : S48)]) x9 x10 x20 x21 (wrap64 (x22 + 1))) else (none)) else (if x13 < x15 then (if x8.length < 4398046511104 then ((some (x8 ++ [(⟨x13, wrap64 (x15 - x13), x630002, x630003⟩ : S48)] : List (S48))).bind fun y633 => (if x9.length < 4398046511104 then ((some (x9 ++ [(⟨x15, wrap64 (x16 - x15), wrap64 ((wrap64 (x630002 + x15)) - x13), x630003⟩ : S48)] : List (S48))).bind fun y636 => (if x16 < x14 then (if y633.length < 4398046511104 then (spec_l9Cut.l0 k x1 (y633 ++ [(⟨x16, wrap64 (x14 - x16), wrap64 ((wrap64 (x630002 + x16)) - x13), x630003⟩ : S48)]) y636 x10 x20 x21 (wrap64 (x22 + 1))) else (none)) else (spec_l9Cut.l0 k x1 y633 y636 x10 x20 x21 (wrap64 (x22 + 1))))) else (none))) else (none)) else (if x9.length < 4398046511104 then ((some (x9 ++ [(⟨x15, wrap64 (x16 - x15), wrap64 ((wrap64 (x630002 + x15)) - x13), x630003⟩ : S48)] : List (S48))).bind fun y642 => (if x16 < x14 then (if x8.length < 4398046511104 then (spec_l9Cut.l0 k x1 (x8 ++ [(⟨x16, wrap64 (x14 - x16), wrap64 ((wrap64 (x630002 + x16)) - x13), x630003⟩ : S48)]) y642 x10 x20 x21 (wrap64 (x22 + 1))) else (none)) else (spec_l9Cut.l0 k x1 x8 y642 x10 x20 x21 (wrap64 (x22 + 1))))) else (none)))
end
def spec_l9Cut.f (k : Nat) (l0 : List (S48)) (a1 : Int) (a2 : Int) : Option ((List (S48)) × (List (S48))) := spec_l9Cut.l0 k a1 ([] : List (S48)) ([] : List (S48)) (wrap64 (a1 + a2)) l0 (l0.length : Int) 0
theorem spec_l9Cut.mono_l : ∀ k, (∀ y0 y1 y2 y3 y4 y5 y6, LeO (spec_l9Cut.l0 k y0 y1 y2 y3 y4 y5 y6) (spec_l9Cut.l0 (k + 1) y0 y1 y2 y3 y4 y5 y6)) ∧ (∀ y0 y1 y2 y3 y4 y5 y6 y7 y8 y9 y10 y11 y12 y13, LeO (spec_l9Cut.j1 k y0 y1 y2 y3 y4 y5 y6 y7 y8 y9 y10 y11 y12 y13) (spec_l9Cut.j1 (k + 1) y0 y1 y2 y3 y4 y5 y6 y7 y8 y9 y10 y11 y12 y13)) ∧ (∀ y0 y1 y2 y3 y4 y5 y6 y7 y8 y9 y10 y11 y12 y13 y14, LeO (spec_l9Cut.j2 k y0 y1 y2 y3 y4 y5 y6 y7 y8 y9 y10 y11 y12 y13 y14) (spec_l9Cut.j2 (k + 1) y0 y1 y2 y3 y4 y5 y6 y7 y8 y9 y10 y11 y12 y13 y14))
 | 0 => ⟨fun _ _ _ _ _ _ _ r h => by simp [spec_l9Cut.l0] at h, fun _ _ _ _ _ _ _ _ _ _ _ _ _ _ r h => by simp [spec_l9Cut.j1] at h, fun _ _ _ _ _ _ _ _ _ _ _ _ _ _ _ r h => by simp [spec_l9Cut.j2] at h⟩
 | k + 1 => by
  obtain ⟨ih0, ih1, ih2⟩ := spec_l9Cut.mono_l k
  refine ⟨?_, ?_, ?_⟩
  ·
   intro y0 y1 y2 y3 y4 y5 y6
   unfold spec_l9Cut.l0
   repeat' first
   | (with_reducible exact ih0 _ _ _ _ _ _ _)
   | (with_reducible exact ih1 _ _ _ _ _ _ _ _ _ _ _ _ _ _)
   | (with_reducible exact ih2 _ _ _ _ _ _ _ _ _ _ _ _ _ _ _)
   | (with_reducible exact LeO.refl _)
   | (with_reducible exact LeO.none _)
   | (with_reducible refine LeO.ite ?_ ?_)
   | (with_reducible refine LeO.bind ?_ (fun _ => ?_))
   | exact ih0 _ _ _ _ _ _ _
   | exact ih1 _ _ _ _ _ _ _ _ _ _ _ _ _ _
   | exact ih2 _ _ _ _ _ _ _ _ _ _ _ _ _ _ _
   | exact LeO.none _
   | refine LeO.ite ?_ ?_
   | refine LeO.bind ?_ (fun _ => ?_)
  ·
   intro y0 y1 y2 y3 y4 y5 y6 y7 y8 y9 y10 y11 y12 y13
   unfold spec_l9Cut.j1
   repeat' first
   | (with_reducible exact ih0 _ _ _ _ _ _ _)
   | (with_reducible exact ih1 _ _ _ _ _ _ _ _ _ _ _ _ _ _)
   | (with_reducible exact ih2 _ _ _ _ _ _ _ _ _ _ _ _ _ _ _)
   | (with_reducible exact LeO.refl _)
   | (with_reducible exact LeO.none _)
   | (with_reducible refine LeO.ite ?_ ?_)
   | (with_reducible refine LeO.bind ?_ (fun _ => ?_))
   | exact ih0 _ _ _ _ _ _ _
   | exact ih1 _ _ _ _ _ _ _ _ _ _ _ _ _ _
   | exact ih2 _ _ _ _ _ _ _ _ _ _ _ _ _ _ _
   | exact LeO.none _
   | refine LeO.ite ?_ ?_
   | refine LeO.bind ?_ (fun _ => ?_)
  ·
   intro y0 y1 y2 y3 y4 y5 y6 y7 y8 y9 y10 y11 y12 y13 y14
   unfold spec_l9Cut.j2
   repeat' first
   | (with_reducible exact ih0 _ _ _ _ _ _ _)
   | (with_reducible exact ih1 _ _ _ _ _ _ _ _ _ _ _ _ _ _)
   | (with_reducible exact ih2 _ _ _ _ _ _ _ _ _ _ _ _ _ _ _)
   | (with_reducible exact LeO.refl _)
   | (with_reducible exact LeO.none _)
   | (with_reducible refine LeO.ite ?_ ?_)
   | (with_reducible refine LeO.bind ?_ (fun _ => ?_))
   | exact ih0 _ _ _ _ _ _ _
   | exact ih1 _ _ _ _ _ _ _ _ _ _ _ _ _ _
   | exact ih2 _ _ _ _ _ _ _ _ _ _ _ _ _ _ _
   | exact LeO.none _
   | refine LeO.ite ?_ ?_
   | refine LeO.bind ?_ (fun _ => ?_)
theorem spec_l9Cut.mono : ∀ a0 a1 a2 k, LeO (spec_l9Cut.f k a0 a1 a2) (spec_l9Cut.f (k + 1) a0 a1 a2) := by
 intro a0 a1 a2 k
 obtain ⟨ih0, ih1, ih2⟩ := spec_l9Cut.mono_l k
 unfold spec_l9Cut.f
 repeat' first
   | (with_reducible exact ih0 _ _ _ _ _ _ _)
   | (with_reducible exact ih1 _ _ _ _ _ _ _ _ _ _ _ _ _ _)
   | (with_reducible exact ih2 _ _ _ _ _ _ _ _ _ _ _ _ _ _ _)
   | (with_reducible exact LeO.refl _)
   | (with_reducible exact LeO.none _)
   | (with_reducible refine LeO.ite ?_ ?_)
   | (with_reducible refine LeO.bind ?_ (fun _ => ?_))
   | exact ih0 _ _ _ _ _ _ _
   | exact ih1 _ _ _ _ _ _ _ _ _ _ _ _ _ _
   | exact ih2 _ _ _ _ _ _ _ _ _ _ _ _ _ _ _
   | exact LeO.none _
   | refine LeO.ite ?_ ?_
   | refine LeO.bind ?_ (fun _ => ?_)
set_option maxHeartbeats 8000000 in
set_option maxRecDepth 100000 in
theorem spec_l9Cut.calls (k : Nat) (A0 : Option Addr) (c0 : Nat) (l0 : List (S48)) (a1 : Int) (a2 : Int) (r1 : List (S48)) (r2 : List (S48)) (w : World) (hr0 : Kd.C k48 w A0 l0.length l0) (hc0 : l0.length ≤ c0) (h : spec_l9Cut.f k l0 a1 a2 = some (r1, r2)) :
  Calls Try.prog 69 #[.slice A0 l0.length c0, .int .i64 a1, .int .i64 a2] w fun e w' => ∃ v0_ v1_ : Value, e = .returned (.tuple #[v0_, v1_]) ∧ Kd.R k48 48 w' w.heap.size (fun k_ => some k_ ≠ (v1_ : Value).ownBlock) v0_ r1 ∧ Kd.R k48 48 w' w.heap.size (fun k_ => some k_ ≠ (v0_ : Value).ownBlock) v1_ r2 ∧ Below w.heap.size w w' := by
 have hu48 := Try.underlying48
 have HR0 := Aside0.mk hr0
 have HC0 := Aside0.mk hc0
 clear hr0 hc0
 have HB := Aside0.mk (Below.refl w.heap.size w)
 have H : (spec_l9Cut.l0 k a1 ([] : List (S48)) ([] : List (S48)) (wrap64 (a1 + a2)) l0 (l0.length : Int) 0) = some (r1, r2) := h
 clear h
 have H' := Aside0.mk H
 clear H
 go_enter Try.func69, Try.ntmps69
 go_wp2
 go_loopg [8, 9, 22] k (fun kq v8 v9 v22 w' => ∃ (x8_1 : List (S48)) (x9_1 : List (S48)) (x22_1 : Int), v22 = .int .i64 x22_1 ∧ Aside0 (spec_l9Cut.l0 kq a1 x8_1 x9_1 (wrap64 (a1 + a2)) l0 (l0.length : Int) x22_1 = some (r1, r2)) ∧ Aside0 (kq ≤ k) ∧ Aside0 (Kd.R k48 48 w' w.heap.size (fun k_ => some k_ ≠ (v9 : Value).ownBlock) v8 x8_1) ∧ Aside0 (Kd.R k48 48 w' w.heap.size (fun k_ => some k_ ≠ (v8 : Value).ownBlock) v9 x9_1) ∧ Aside0 (Below w.heap.size w w'))
 case atStart => exact ⟨(([] : List (S48))), (([] : List (S48))), (0), (by first | rfl | (simp; done) | (simp [*]; done)), H', ⟨Nat.le_refl _⟩, ⟨by first | exact Kd.R_nil _ _ _ _ _ | exact Kd.N_nil _ _ _ _ _ | exact Kd.V_nil _ _ _ _ _ | exact Kd.Q_nil _ _ _ _ _ | exact Kd.S_nil _ _ _ _ _⟩, ⟨by first | exact Kd.R_nil _ _ _ _ _ | exact Kd.N_nil _ _ _ _ _ | exact Kd.V_nil _ _ _ _ _ | exact Kd.Q_nil _ _ _ _ _ | exact Kd.S_nil _ _ _ _ _⟩, ⟨bs HB⟩⟩
 case round =>
  clear H'
  try clear p2
  obtain ⟨x8_1, x9_1, x22_1, rfl, HA, HK1, HO_8, HO_9, HB⟩ := hrel
  cases gk with
  | zero => exact absurd HA.out (by simp [spec_l9Cut.l0])
  | succ k1 =>
   have H := HA.out
   clear HA
   simp only [spec_l9Cut.l0] at H
   by_cases c4 : x22_1 < (l0.length : Int)
   ·
    rw [if_pos c4] at H
    have c4b0 : decide (x22_1 < (l0.length : Int)) = true := decide_eq_true c4
    clear c4
    by_cases c5 : 0 ≤ x22_1
    ·
     rw [if_pos c5] at H
     have c5b0 : decide (0 ≤ x22_1) = true := decide_eq_true c5
     clear c5
     by_cases c6 : x22_1 < (l0.length : Int)
     ·
      rw [if_pos c6] at H
      have c6b0 : decide (x22_1 < (l0.length : Int)) = true := decide_eq_true c6
      clear c6
      have HC7 := Aside0.mk H
      clear H
      have p628 : 0 ≤ (x22_1 : Int) := of_decide_eq_true (by first | (with_reducible assumption) | assumption)
      have q628 : x22_1 < (l0.length : Int) := of_decide_eq_true (by first | (with_reducible assumption) | assumption)
      obtain ⟨ad628, e628, hx628_0, hx628_1, hx628_2, hx628_3⟩ := at_T48 HR0.out x22_1 p628 q628
      cases e628
      replace hx628_0 := (HB.out.cell (World.block_lt_of_cell? w _ hx628_0)).trans hx628_0
      replace hx628_1 := (HB.out.cell (World.block_lt_of_cell? w _ hx628_1)).trans hx628_1
      replace hx628_2 := (HB.out.cell (World.block_lt_of_cell? w _ hx628_2)).trans hx628_2
      replace hx628_3 := (HB.out.cell (World.block_lt_of_cell? w _ hx628_3)).trans hx628_3
      replace p628 := eq_true p628
      replace q628 := eq_true q628
      go_upto_if 36 with (first | ((with_reducible refine gate_dst (N := 12) rfl ?_); refine box_event ?hg (N := 12) ?hd (cs := #[.int .i64 0, .int .i64 0, .int .i64 0, .bool false]) (t := 48) ?hr ?_; (case hd => rfl); (case hg => rfl); (case hr => first | (go_simp; done) | (go_simp; rfl)); intro gb629 hg w8 hbox hb; replace HO_8 := Aside0.mk (Kd.R_below (Kd.R_elderB (rr HO_8.out) gb629 (Nat.le_of_eq hg.symm)) hb); replace HO_9 := Aside0.mk (Kd.R_below (Kd.R_elderB (rr HO_9.out) gb629 (Nat.le_of_eq hg.symm)) hb); have BK629 := Aside0.mk (hbox); have GW629 := Aside0.mk ((by rw [hg]; exact (below_size (bs HB)) : w.heap.size ≤ gb629)); have GE629 := Aside0.mk ((by rw [hg]; exact (below_size (bs HB)) : w.heap.size ≤ gb629)); replace HB := Aside0.mk (below_step (bs HB) hb); clear hb hbox hg; obtain ⟨hcz9_0, hcz9_1, hcz9_2, hcz9_3⟩ := cz4 BK629; obtain ⟨hfz9_0, hfz9_1, hfz9_2, hfz9_3⟩ := fz4 BK629))
      (try simp only [Act.put, List.setIfInBounds_toArray, List.set_cons_zero, List.set_cons_succ])
      go_cut [15] (fun v15 wc => ∃ (kq : Nat) (x15_6 : Int), v15 = .int .i64 x15_6 ∧ Aside0 (spec_l9Cut.j1 kq a1 x8_1 x9_1 (wrap64 (a1 + a2)) ((rd_T48 l0 x22_1).f0) (wrap64 (((rd_T48 l0 x22_1).f0) + ((rd_T48 l0 x22_1).f1))) x15_6 l0 (l0.length : Int) x22_1 ((rd_T48 l0 x22_1).f0) ((rd_T48 l0 x22_1).f1) ((rd_T48 l0 x22_1).f2) ((rd_T48 l0 x22_1).f3) = some (r1, r2)) ∧ Aside0 (kq ≤ k1) ∧ Aside0 (Kd.R k48 48 wc w.heap.size (fun k_ => some k_ ≠ (u9 : Value).ownBlock ∧ k_ ≠ gb629) u8 x8_1) ∧ Aside0 (Kd.R k48 48 wc w.heap.size (fun k_ => some k_ ≠ (u8 : Value).ownBlock ∧ k_ ≠ gb629) u9 x9_1) ∧ Aside0 (wc.heap[gb629]? = some (.cells #[.int .i64 ((rd_T48 l0 x22_1).f0), .int .i64 ((rd_T48 l0 x22_1).f1), .int .i64 ((rd_T48 l0 x22_1).f2), .bool ((rd_T48 l0 x22_1).f3)] 48 (0, 0))) ∧ Aside0 (Below w.heap.size w wc))
      case first =>
       have H := HC7.out
       clear HC7
       by_cases c10 : ((rd_T48 l0 x22_1).f0) < a1
       ·
        rw [if_pos c10] at H
        have c10b0 : decide (((rd_T48 l0 x22_1).f0) < a1) = true := decide_eq_true c10
        clear c10
        (first | rw [c10b0] | (simp only [i64_w, i32_w]; rw [c10b0]) | (simp only [c10b2, Bool.not_false, Bool.not_true]) | skip)
        have H' := Aside0.mk H
        clear H
        go_wp2
        go_meet
        case rel => exact ⟨_, (a1), (by first | rfl | (simp; done) | (simp [*]; done)), H', ⟨by have := HK1.out; first | omega | exact Nat.le_refl _⟩, ⟨by (with_reducible repeat (first | apply Kd.R_alloc | apply Kd.R_drewN | apply Kd.R_drew)); exact Kd.R_mono (Kd.R_far (p := ⟨gb629, 3, none⟩) (Kd.R_far (p := ⟨gb629, 2, none⟩) (Kd.R_far (p := ⟨gb629, 1, none⟩) (Kd.R_far (p := ⟨gb629, 0, none⟩) (Kd.R_mono HO_8.out (fun k_ hk => (⟨hk, hk.2⟩ : _ ∧ k_ ≠ gb629))) (fun _ hk => hk.2) (.int .i64 ((rd_T48 l0 x22_1).f0))) (fun _ hk => hk.2) (.int .i64 ((rd_T48 l0 x22_1).f1))) (fun _ hk => hk.2) (.int .i64 ((rd_T48 l0 x22_1).f2))) (fun _ hk => hk.2) (.bool ((rd_T48 l0 x22_1).f3))) (fun _ hk => ⟨hk.1.1, hk.1.2⟩)⟩, ⟨by (with_reducible repeat (first | apply Kd.R_alloc | apply Kd.R_drewN | apply Kd.R_drew)); exact Kd.R_mono (Kd.R_far (p := ⟨gb629, 3, none⟩) (Kd.R_far (p := ⟨gb629, 2, none⟩) (Kd.R_far (p := ⟨gb629, 1, none⟩) (Kd.R_far (p := ⟨gb629, 0, none⟩) (Kd.R_mono HO_9.out (fun k_ hk => (⟨hk, hk.2⟩ : _ ∧ k_ ≠ gb629))) (fun _ hk => hk.2) (.int .i64 ((rd_T48 l0 x22_1).f0))) (fun _ hk => hk.2) (.int .i64 ((rd_T48 l0 x22_1).f1))) (fun _ hk => hk.2) (.int .i64 ((rd_T48 l0 x22_1).f2))) (fun _ hk => hk.2) (.bool ((rd_T48 l0 x22_1).f3))) (fun _ hk => ⟨hk.1.1, hk.1.2⟩)⟩, ⟨by (with_reducible repeat (first | refine blk_drewN ?_ _ | refine blk_drew ?_ | refine blk_alloc ?_ _)); refine blk_put (cs := #[.int .i64 ((rd_T48 l0 x22_1).f0), .int .i64 ((rd_T48 l0 x22_1).f1), .int .i64 ((rd_T48 l0 x22_1).f2), .bool false]) ?_ 3 _ rfl; (with_reducible repeat (first | refine blk_drewN ?_ _ | refine blk_drew ?_ | refine blk_alloc ?_ _)); refine blk_put (cs := #[.int .i64 ((rd_T48 l0 x22_1).f0), .int .i64 ((rd_T48 l0 x22_1).f1), .int .i64 0, .bool false]) ?_ 2 _ rfl; (with_reducible repeat (first | refine blk_drewN ?_ _ | refine blk_drew ?_ | refine blk_alloc ?_ _)); refine blk_put (cs := #[.int .i64 ((rd_T48 l0 x22_1).f0), .int .i64 0, .int .i64 0, .bool false]) ?_ 1 _ rfl; (with_reducible repeat (first | refine blk_drewN ?_ _ | refine blk_drew ?_ | refine blk_alloc ?_ _)); refine blk_put (cs := #[.int .i64 0, .int .i64 0, .int .i64 0, .bool false]) ?_ 0 _ rfl; (with_reducible repeat (first | refine blk_drewN ?_ _ | refine blk_drew ?_ | refine blk_alloc ?_ _)); exact BK629.out⟩, ⟨bs1 HB GE629⟩⟩
       ·
        rw [if_neg c10] at H
        have c10b0 : decide (((rd_T48 l0 x22_1).f0) < a1) = false := decide_eq_false c10
        clear c10
        (first | rw [c10b0] | (simp only [i64_w, i32_w]; rw [c10b0]) | (simp only [c10b2, Bool.not_false, Bool.not_true]) | skip)
        have H' := Aside0.mk H
        clear H
        go_wp2
        go_meet
        case rel => exact ⟨_, ((rd_T48 l0 x22_1).f0), (by first | rfl | (simp; done) | (simp [*]; done)), H', ⟨by have := HK1.out; first | omega | exact Nat.le_refl _⟩, ⟨by (with_reducible repeat (first | apply Kd.R_alloc | apply Kd.R_drewN | apply Kd.R_drew)); exact Kd.R_mono (Kd.R_far (p := ⟨gb629, 3, none⟩) (Kd.R_far (p := ⟨gb629, 2, none⟩) (Kd.R_far (p := ⟨gb629, 1, none⟩) (Kd.R_far (p := ⟨gb629, 0, none⟩) (Kd.R_mono HO_8.out (fun k_ hk => (⟨hk, hk.2⟩ : _ ∧ k_ ≠ gb629))) (fun _ hk => hk.2) (.int .i64 ((rd_T48 l0 x22_1).f0))) (fun _ hk => hk.2) (.int .i64 ((rd_T48 l0 x22_1).f1))) (fun _ hk => hk.2) (.int .i64 ((rd_T48 l0 x22_1).f2))) (fun _ hk => hk.2) (.bool ((rd_T48 l0 x22_1).f3))) (fun _ hk => ⟨hk.1.1, hk.1.2⟩)⟩, ⟨by (with_reducible repeat (first | apply Kd.R_alloc | apply Kd.R_drewN | apply Kd.R_drew)); exact Kd.R_mono (Kd.R_far (p := ⟨gb629, 3, none⟩) (Kd.R_far (p := ⟨gb629, 2, none⟩) (Kd.R_far (p := ⟨gb629, 1, none⟩) (Kd.R_far (p := ⟨gb629, 0, none⟩) (Kd.R_mono HO_9.out (fun k_ hk => (⟨hk, hk.2⟩ : _ ∧ k_ ≠ gb629))) (fun _ hk => hk.2) (.int .i64 ((rd_T48 l0 x22_1).f0))) (fun _ hk => hk.2) (.int .i64 ((rd_T48 l0 x22_1).f1))) (fun _ hk => hk.2) (.int .i64 ((rd_T48 l0 x22_1).f2))) (fun _ hk => hk.2) (.bool ((rd_T48 l0 x22_1).f3))) (fun _ hk => ⟨hk.1.1, hk.1.2⟩)⟩, ⟨by (with_reducible repeat (first | refine blk_drewN ?_ _ | refine blk_drew ?_ | refine blk_alloc ?_ _)); refine blk_put (cs := #[.int .i64 ((rd_T48 l0 x22_1).f0), .int .i64 ((rd_T48 l0 x22_1).f1), .int .i64 ((rd_T48 l0 x22_1).f2), .bool false]) ?_ 3 _ rfl; (with_reducible repeat (first | refine blk_drewN ?_ _ | refine blk_drew ?_ | refine blk_alloc ?_ _)); refine blk_put (cs := #[.int .i64 ((rd_T48 l0 x22_1).f0), .int .i64 ((rd_T48 l0 x22_1).f1), .int .i64 0, .bool false]) ?_ 2 _ rfl; (with_reducible repeat (first | refine blk_drewN ?_ _ | refine blk_drew ?_ | refine blk_alloc ?_ _)); refine blk_put (cs := #[.int .i64 ((rd_T48 l0 x22_1).f0), .int .i64 0, .int .i64 0, .bool false]) ?_ 1 _ rfl; (with_reducible repeat (first | refine blk_drewN ?_ _ | refine blk_drew ?_ | refine blk_alloc ?_ _)); refine blk_put (cs := #[.int .i64 0, .int .i64 0, .int .i64 0, .bool false]) ?_ 0 _ rfl; (with_reducible repeat (first | refine blk_drewN ?_ _ | refine blk_drew ?_ | refine blk_alloc ?_ _)); exact BK629.out⟩, ⟨bs1 HB GE629⟩⟩
      case rest =>
       clear HC7
       try clear c1
       try clear p2
       try clear c4
       try clear c4b0
       try clear c5
       try clear c5b0
       try clear c6
       try clear c6b0
       try clear p6
       try clear q6
       try clear hx6
       try clear c10
       try clear c10b0
       try clear hcz9_0 hcz9_1 hcz9_2 hcz9_3
       try clear hfz9_0 hfz9_1 hfz9_2 hfz9_3
       try clear hx628_0
       try clear hx628_1
       try clear hx628_2
       try clear hx628_3
       try clear p2
       try clear p628
       try clear q628
       obtain ⟨kq, x15_6, rfl, HA, HJ6, HO_8, HO_9, BK629, HB⟩ := hcut
       cases kq with
       | zero => exact absurd HA.out (by simp [spec_l9Cut.j1])
       | succ kj6 =>
        have H := HA.out
        clear HA
        simp only [spec_l9Cut.j1] at H
        have HC11 := Aside0.mk H
        clear H
        go_upto_if 41 with (fail)
        go_cut [16] (fun v16 wc => ∃ (kq : Nat) (x16_10 : Int), v16 = .int .i64 x16_10 ∧ Aside0 (spec_l9Cut.j2 kq a1 x8_1 x9_1 (wrap64 (a1 + a2)) ((rd_T48 l0 x22_1).f0) (wrap64 (((rd_T48 l0 x22_1).f0) + ((rd_T48 l0 x22_1).f1))) x15_6 x16_10 l0 (l0.length : Int) x22_1 ((rd_T48 l0 x22_1).f0) ((rd_T48 l0 x22_1).f1) ((rd_T48 l0 x22_1).f2) ((rd_T48 l0 x22_1).f3) = some (r1, r2)) ∧ Aside0 (kq ≤ kj6) ∧ Aside0 (Kd.R k48 48 wc w.heap.size (fun k_ => some k_ ≠ (u9 : Value).ownBlock ∧ k_ ≠ gb629) u8 x8_1) ∧ Aside0 (Kd.R k48 48 wc w.heap.size (fun k_ => some k_ ≠ (u8 : Value).ownBlock ∧ k_ ≠ gb629) u9 x9_1) ∧ Aside0 (wc.heap[gb629]? = some (.cells #[.int .i64 ((rd_T48 l0 x22_1).f0), .int .i64 ((rd_T48 l0 x22_1).f1), .int .i64 ((rd_T48 l0 x22_1).f2), .bool ((rd_T48 l0 x22_1).f3)] 48 (0, 0))) ∧ Aside0 (Below w.heap.size w wc))
        case first =>
         have H := HC11.out
         clear HC11
         by_cases c12 : (wrap64 (((rd_T48 l0 x22_1).f0) + ((rd_T48 l0 x22_1).f1))) > (wrap64 (a1 + a2))
         ·
          rw [if_pos c12] at H
          have c12b0 : decide ((wrap64 (a1 + a2)) < (wrap64 (((rd_T48 l0 x22_1).f0) + ((rd_T48 l0 x22_1).f1)))) = true := decide_eq_true c12
          clear c12
          (first | rw [c12b0] | (simp only [i64_w, i32_w]; rw [c12b0]) | (simp only [c12b2, Bool.not_false, Bool.not_true]) | skip)
          have H' := Aside0.mk H
          clear H
          go_wp2
          go_meet
          case rel => exact ⟨_, ((wrap64 (a1 + a2))), (by first | rfl | (simp; done) | (simp [*]; done)), H', ⟨by have := HK1.out; have := HJ6.out; first | omega | exact Nat.le_refl _⟩, ⟨rr HO_8.out⟩, ⟨rr HO_9.out⟩, ⟨bk BK629⟩, ⟨bs1 HB GE629⟩⟩
         ·
          rw [if_neg c12] at H
          have c12b0 : decide ((wrap64 (a1 + a2)) < (wrap64 (((rd_T48 l0 x22_1).f0) + ((rd_T48 l0 x22_1).f1)))) = false := decide_eq_false c12
          clear c12
          (first | rw [c12b0] | (simp only [i64_w, i32_w]; rw [c12b0]) | (simp only [c12b2, Bool.not_false, Bool.not_true]) | skip)
          have H' := Aside0.mk H
          clear H
          go_wp2
          go_meet
          case rel => exact ⟨_, ((wrap64 (((rd_T48 l0 x22_1).f0) + ((rd_T48 l0 x22_1).f1)))), (by first | rfl | (simp; done) | (simp [*]; done)), H', ⟨by have := HK1.out; have := HJ6.out; first | omega | exact Nat.le_refl _⟩, ⟨rr HO_8.out⟩, ⟨rr HO_9.out⟩, ⟨bk BK629⟩, ⟨bs1 HB GE629⟩⟩
        case rest =>
         clear HC11
         try clear c1
         try clear p2
         try clear c4
         try clear c4b0
         try clear c5
         try clear c5b0
         try clear c6
         try clear c6b0
         try clear p6
         try clear q6
         try clear hx6
         try clear c10
         try clear c10b0
         try clear c12
         try clear c12b0
         try clear hcz9_0 hcz9_1 hcz9_2 hcz9_3
         try clear hfz9_0 hfz9_1 hfz9_2 hfz9_3
         try clear hx628_0
         try clear hx628_1
         try clear hx628_2
         try clear hx628_3
         try clear p2
         try clear p6
         try clear p628
         try clear q6
         try clear q628
         obtain ⟨kq, x16_10, rfl, HA, HJ10, HO_8, HO_9, BK629, HB⟩ := hcut
         cases kq with
         | zero => exact absurd HA.out (by simp [spec_l9Cut.j2])
         | succ kj10 =>
          have H := HA.out
          clear HA
          simp only [spec_l9Cut.j2] at H
          by_cases c13 : x15_6 ≥ x16_10
          ·
           rw [if_pos c13] at H
           have c13b0 : decide (x16_10 ≤ x15_6) = true := decide_eq_true c13
           clear c13
           by_cases c14 : x8_1.length < 4398046511104
           ·
            rw [if_pos c14] at H
            have LMc14 := Aside0.mk c14
            clear c14
            obtain ⟨y630, hy630⟩ : ∃ y_ : List (S48), y_ = (x8_1 ++ [(⟨((rd_T48 l0 x22_1).f0), ((rd_T48 l0 x22_1).f1), ((rd_T48 l0 x22_1).f2), ((rd_T48 l0 x22_1).f3)⟩ : S48)]) := ⟨_, rfl⟩
            replace H : (spec_l9Cut.l0 kj10 a1 y630 x9_1 (wrap64 (a1 + a2)) l0 (l0.length : Int) (wrap64 (x22_1 + 1))) = some (r1, r2) := by first | (rw [hy630]; with_reducible exact H) | (have H2_ := (Option.bind_some _ _).symm.trans H; rw [hy630]; with_reducible exact H2_) | (have H2_ := (Option.bind_some _ _).symm.trans H; with_reducible exact H2_) | with_reducible exact H | (rw [hy630]; exact H) | exact H
            have Ny630 := Aside0.mk hy630
            clear hy630
            have H' := Aside0.mk H
            clear H
            obtain ⟨hcz15_0, hcz15_1, hcz15_2, hcz15_3⟩ := cz4 BK629
            obtain ⟨hfz15_0, hfz15_1, hfz15_2, hfz15_3⟩ := fz4 BK629
            go_wp2_with (first | ((with_reducible refine gate_builtin (b := .append) (xs := #[.tmp 46, .tmp 48]) rfl ?_); at_builtin; refine Kd.R_append k48 (w0 := w) w.heap.size rfl (.tmp 46) (.tmp 48) 27 48 (.agg #[(.int .i64 0), (.int .i64 0), (.int .i64 0), (.bool false)]) 32 rfl Try.underlying27 info48 rfl (by decide) (by omega) u8 x8_1 (⟨((rd_T48 l0 x22_1).f0), ((rd_T48 l0 x22_1).f1), ((rd_T48 l0 x22_1).f2), ((rd_T48 l0 x22_1).f3)⟩ : S48) [.int .i64 ((rd_T48 l0 x22_1).f0), .int .i64 ((rd_T48 l0 x22_1).f1), .int .i64 ((rd_T48 l0 x22_1).f2), .bool ((rd_T48 l0 x22_1).f3)] (fun k_ => some k_ ≠ (u9 : Value).ownBlock ∧ k_ ≠ gb629) (fun _ => False) rfl rfl ?aP (fun _ hk => hk.elim) ?aF ?aO ?aB ?aS ?aL ?_; (case aP => exact k48_mkM _ _ _ (⟨((rd_T48 l0 x22_1).f0), ((rd_T48 l0 x22_1).f1), ((rd_T48 l0 x22_1).f2), ((rd_T48 l0 x22_1).f3)⟩ : S48)); (case aB => exact (bs1 HB GE629)); (case aF => exact (fun k_ hk => ⟨Kd.fresh' (Kd.R_lt (rr HO_9.out)) k_ hk, Kd.freshB (bk BK629) k_ hk⟩)); (case aO => exact (rr HO_8.out)); (case aS => exact (below_size (bs1 HB GE629))); (case aL => have := LMc14.out; omega); intro v631 w16 ho hb hg hat; rw [← Ny630.out] at ho; replace HO_9 := Aside0.mk (Kd.R_after (ok := (fun k_ => k_ ≠ gb629)) (by (with_reducible repeat (first | apply Kd.R_alloc | apply Kd.R_drewN | apply Kd.R_drew)); exact Kd.R_mono HO_9.out (fun _ hk => ⟨hk.2, hk.1⟩)) hg hat); replace BK629 := Aside0.mk (blk_grown (bk BK629) hg (Kd.R_away HO_8.out (fun _ hk => hk.2))); replace HB := Aside0.mk (hb); have HO632 := Aside0.mk (ho); clear HO_8; clear ho hb hg hat))
            go_roundg kj10
            case measure => have := HK1.out; have := HJ6.out; have := HJ10.out; omega
            case rel => exact ⟨(y630), (x9_1), (wrap64 (x22_1 + 1)), (by first | rfl | (simp; done) | (simp [*]; done)), H', ⟨by have := HK1.out; have := HJ6.out; have := HJ10.out; omega⟩, rm HO632 (fun _ hk => hk.1), rm HO_9 (fun _ hk => hk.2), ⟨bs1 HB GE629⟩⟩
           ·
            rw [if_neg c14] at H
            exact absurd H (by simp)
          ·
           rw [if_neg c13] at H
           have c13b0 : decide (x16_10 ≤ x15_6) = false := decide_eq_false c13
           clear c13
           by_cases c17 : ((rd_T48 l0 x22_1).f0) < x15_6
           ·
            rw [if_pos c17] at H
            have c17b0 : decide (((rd_T48 l0 x22_1).f0) < x15_6) = true := decide_eq_true c17
            clear c17
            by_cases c18 : x8_1.length < 4398046511104
            ·
             rw [if_pos c18] at H
             have LMc18 := Aside0.mk c18
             clear c18
             obtain ⟨y633, hy633⟩ : ∃ y_ : List (S48), y_ = (x8_1 ++ [(⟨((rd_T48 l0 x22_1).f0), wrap64 (x15_6 - ((rd_T48 l0 x22_1).f0)), ((rd_T48 l0 x22_1).f2), ((rd_T48 l0 x22_1).f3)⟩ : S48)]) := ⟨_, rfl⟩
             replace H : (if x9_1.length < 4398046511104 then ((some (x9_1 ++ [(⟨x15_6, wrap64 (x16_10 - x15_6), wrap64 ((wrap64 (((rd_T48 l0 x22_1).f2) + x15_6)) - ((rd_T48 l0 x22_1).f0)), ((rd_T48 l0 x22_1).f3)⟩ : S48)] : List (S48))).bind fun y636 => (if x16_10 < (wrap64 (((rd_T48 l0 x22_1).f0) + ((rd_T48 l0 x22_1).f1))) then (if y633.length < 4398046511104 then (spec_l9Cut.l0 kj10 a1 (y633 ++ [(⟨x16_10, wrap64 ((wrap64 (((rd_T48 l0 x22_1).f0) + ((rd_T48 l0 x22_1).f1))) - x16_10), wrap64 ((wrap64 (((rd_T48 l0 x22_1).f2) + x16_10)) - ((rd_T48 l0 x22_1).f0)), ((rd_T48 l0 x22_1).f3)⟩ : S48)]) y636 (wrap64 (a1 + a2)) l0 (l0.length : Int) (wrap64 (x22_1 + 1))) else (none)) else (spec_l9Cut.l0 kj10 a1 y633 y636 (wrap64 (a1 + a2)) l0 (l0.length : Int) (wrap64 (x22_1 + 1))))) else (none)) = some (r1, r2) := by first | (rw [hy633]; with_reducible exact H) | (have H2_ := (Option.bind_some _ _).symm.trans H; rw [hy633]; with_reducible exact H2_) | (have H2_ := (Option.bind_some _ _).symm.trans H; with_reducible exact H2_) | with_reducible exact H | (rw [hy633]; exact H) | exact H
             have Ny633 := Aside0.mk hy633
             clear hy633
             by_cases c19 : x9_1.length < 4398046511104
             ·
              rw [if_pos c19] at H
              have LMc19 := Aside0.mk c19
              clear c19
              obtain ⟨y636, hy636⟩ : ∃ y_ : List (S48), y_ = (x9_1 ++ [(⟨x15_6, wrap64 (x16_10 - x15_6), wrap64 ((wrap64 (((rd_T48 l0 x22_1).f2) + x15_6)) - ((rd_T48 l0 x22_1).f0)), ((rd_T48 l0 x22_1).f3)⟩ : S48)]) := ⟨_, rfl⟩
              replace H : (if x16_10 < (wrap64 (((rd_T48 l0 x22_1).f0) + ((rd_T48 l0 x22_1).f1))) then (if y633.length < 4398046511104 then (spec_l9Cut.l0 kj10 a1 (y633 ++ [(⟨x16_10, wrap64 ((wrap64 (((rd_T48 l0 x22_1).f0) + ((rd_T48 l0 x22_1).f1))) - x16_10), wrap64 ((wrap64 (((rd_T48 l0 x22_1).f2) + x16_10)) - ((rd_T48 l0 x22_1).f0)), ((rd_T48 l0 x22_1).f3)⟩ : S48)]) y636 (wrap64 (a1 + a2)) l0 (l0.length : Int) (wrap64 (x22_1 + 1))) else (none)) else (spec_l9Cut.l0 kj10 a1 y633 y636 (wrap64 (a1 + a2)) l0 (l0.length : Int) (wrap64 (x22_1 + 1)))) = some (r1, r2) := by first | (rw [hy636]; with_reducible exact H) | (have H2_ := (Option.bind_some _ _).symm.trans H; rw [hy636]; with_reducible exact H2_) | (have H2_ := (Option.bind_some _ _).symm.trans H; with_reducible exact H2_) | with_reducible exact H | (rw [hy636]; exact H) | exact H
              have Ny636 := Aside0.mk hy636
              clear hy636
              by_cases c20 : x16_10 < (wrap64 (((rd_T48 l0 x22_1).f0) + ((rd_T48 l0 x22_1).f1)))
              ·
               rw [if_pos c20] at H
               have c20b0 : decide (x16_10 < (wrap64 (((rd_T48 l0 x22_1).f0) + ((rd_T48 l0 x22_1).f1)))) = true := decide_eq_true c20
               clear c20
               by_cases c21 : y633.length < 4398046511104
               ·
                rw [if_pos c21] at H
                have LMc21 := Aside0.mk c21
                clear c21
                obtain ⟨y639, hy639⟩ : ∃ y_ : List (S48), y_ = (y633 ++ [(⟨x16_10, wrap64 ((wrap64 (((rd_T48 l0 x22_1).f0) + ((rd_T48 l0 x22_1).f1))) - x16_10), wrap64 ((wrap64 (((rd_T48 l0 x22_1).f2) + x16_10)) - ((rd_T48 l0 x22_1).f0)), ((rd_T48 l0 x22_1).f3)⟩ : S48)]) := ⟨_, rfl⟩
                replace H : (spec_l9Cut.l0 kj10 a1 y639 y636 (wrap64 (a1 + a2)) l0 (l0.length : Int) (wrap64 (x22_1 + 1))) = some (r1, r2) := by first | (rw [hy639]; with_reducible exact H) | (have H2_ := (Option.bind_some _ _).symm.trans H; rw [hy639]; with_reducible exact H2_) | (have H2_ := (Option.bind_some _ _).symm.trans H; with_reducible exact H2_) | with_reducible exact H | (rw [hy639]; exact H) | exact H
                have Ny639 := Aside0.mk hy639
                clear hy639
                have H' := Aside0.mk H
                clear H
                obtain ⟨hcz22_0, hcz22_1, hcz22_2, hcz22_3⟩ := cz4 BK629
                obtain ⟨hfz22_0, hfz22_1, hfz22_2, hfz22_3⟩ := fz4 BK629
                go_wp2_with (first | ((with_reducible refine gate_builtin (b := .append) (xs := #[.tmp 53, .tmp 63]) rfl ?_); at_builtin; refine Kd.R_append k48 (w0 := w) w.heap.size rfl (.tmp 53) (.tmp 63) 27 48 (.agg #[(.int .i64 0), (.int .i64 0), (.int .i64 0), (.bool false)]) 32 rfl Try.underlying27 info48 rfl (by decide) (by omega) u8 x8_1 (⟨((rd_T48 l0 x22_1).f0), wrap64 (x15_6 - ((rd_T48 l0 x22_1).f0)), ((rd_T48 l0 x22_1).f2), ((rd_T48 l0 x22_1).f3)⟩ : S48) [.int .i64 ((rd_T48 l0 x22_1).f0), .int .i64 (wrap64 (x15_6 - ((rd_T48 l0 x22_1).f0))), .int .i64 ((rd_T48 l0 x22_1).f2), .bool ((rd_T48 l0 x22_1).f3)] (fun k_ => some k_ ≠ (u9 : Value).ownBlock ∧ k_ ≠ gb629) (fun _ => False) rfl rfl ?aP (fun _ hk => hk.elim) ?aF ?aO ?aB ?aS ?aL ?_; (case aP => exact k48_mkM _ _ _ (⟨((rd_T48 l0 x22_1).f0), wrap64 (x15_6 - ((rd_T48 l0 x22_1).f0)), ((rd_T48 l0 x22_1).f2), ((rd_T48 l0 x22_1).f3)⟩ : S48)); (case aB => exact (bs1 HB GE629)); (case aF => exact (fun k_ hk => ⟨Kd.fresh' (Kd.R_lt (rr HO_9.out)) k_ hk, Kd.freshB (bk BK629) k_ hk⟩)); (case aO => exact (rr HO_8.out)); (case aS => exact (below_size (bs1 HB GE629))); (case aL => have := LMc18.out; omega); intro v634 w23 ho hb hg hat; rw [← Ny633.out] at ho; replace HO_9 := Aside0.mk (Kd.R_after (ok := (fun k_ => k_ ≠ gb629)) (by (with_reducible repeat (first | apply Kd.R_alloc | apply Kd.R_drewN | apply Kd.R_drew)); exact Kd.R_mono HO_9.out (fun _ hk => ⟨hk.2, hk.1⟩)) hg hat); replace BK629 := Aside0.mk (blk_grown (bk BK629) hg (Kd.R_away HO_8.out (fun _ hk => hk.2))); replace HB := Aside0.mk (hb); have HO635 := Aside0.mk (ho); clear HO_8; clear ho hb hg hat; obtain ⟨hcz24_0, hcz24_1, hcz24_2, hcz24_3⟩ := cz4 BK629; obtain ⟨hfz24_0, hfz24_1, hfz24_2, hfz24_3⟩ := fz4 BK629) | ((with_reducible refine gate_builtin (b := .append) (xs := #[.tmp 65, .tmp 79]) rfl ?_); at_builtin; refine Kd.R_append k48 (w0 := w) w.heap.size rfl (.tmp 65) (.tmp 79) 27 48 (.agg #[(.int .i64 0), (.int .i64 0), (.int .i64 0), (.bool false)]) 32 rfl Try.underlying27 info48 rfl (by decide) (by omega) u9 x9_1 (⟨x15_6, wrap64 (x16_10 - x15_6), wrap64 ((wrap64 (((rd_T48 l0 x22_1).f2) + x15_6)) - ((rd_T48 l0 x22_1).f0)), ((rd_T48 l0 x22_1).f3)⟩ : S48) [.int .i64 x15_6, .int .i64 (wrap64 (x16_10 - x15_6)), .int .i64 (wrap64 ((wrap64 (((rd_T48 l0 x22_1).f2) + x15_6)) - ((rd_T48 l0 x22_1).f0))), .bool ((rd_T48 l0 x22_1).f3)] (fun k_ => some k_ ≠ (v634 : Value).ownBlock ∧ k_ ≠ gb629) (fun _ => False) rfl rfl ?aP (fun _ hk => hk.elim) ?aF ?aO ?aB ?aS ?aL ?_; (case aP => exact k48_mkM _ _ _ (⟨x15_6, wrap64 (x16_10 - x15_6), wrap64 ((wrap64 (((rd_T48 l0 x22_1).f2) + x15_6)) - ((rd_T48 l0 x22_1).f0)), ((rd_T48 l0 x22_1).f3)⟩ : S48)); (case aB => exact (bs1 HB GE629)); (case aF => exact (fun k_ hk => ⟨Kd.fresh' (Kd.R_lt (rr HO635.out)) k_ hk, Kd.freshB (bk BK629) k_ hk⟩)); (case aO => exact (by (with_reducible repeat (first | apply Kd.R_alloc | apply Kd.R_drewN | apply Kd.R_drew)); exact Kd.R_mono HO_9.out (fun _ hk => ⟨hk.2, hk.1⟩))); (case aS => exact (below_size (bs1 HB GE629))); (case aL => have := LMc19.out; omega); intro v637 w25 ho hb hg hat; rw [← Ny636.out] at ho; replace BK629 := Aside0.mk (blk_grown (bk BK629) hg (Kd.R_away HO_9.out (fun _ hk => hk.1))); replace HO635 := Aside0.mk (Kd.R_after (ok := (fun k_ => k_ ≠ gb629)) (by (with_reducible repeat (first | apply Kd.R_alloc | apply Kd.R_drewN | apply Kd.R_drew)); exact Kd.R_mono HO635.out (fun _ hk => ⟨hk.2, hk.1⟩)) hg hat); replace HB := Aside0.mk (hb); have HO638 := Aside0.mk (ho); clear HO_9; clear ho hb hg hat; obtain ⟨hcz26_0, hcz26_1, hcz26_2, hcz26_3⟩ := cz4 BK629; obtain ⟨hfz26_0, hfz26_1, hfz26_2, hfz26_3⟩ := fz4 BK629) | ((with_reducible refine gate_builtin (b := .append) (xs := #[.tmp 84, .tmp 98]) rfl ?_); at_builtin; refine Kd.R_append k48 (w0 := w) w.heap.size rfl (.tmp 84) (.tmp 98) 27 48 (.agg #[(.int .i64 0), (.int .i64 0), (.int .i64 0), (.bool false)]) 32 rfl Try.underlying27 info48 rfl (by decide) (by omega) v634 y633 (⟨x16_10, wrap64 ((wrap64 (((rd_T48 l0 x22_1).f0) + ((rd_T48 l0 x22_1).f1))) - x16_10), wrap64 ((wrap64 (((rd_T48 l0 x22_1).f2) + x16_10)) - ((rd_T48 l0 x22_1).f0)), ((rd_T48 l0 x22_1).f3)⟩ : S48) [.int .i64 x16_10, .int .i64 (wrap64 ((wrap64 (((rd_T48 l0 x22_1).f0) + ((rd_T48 l0 x22_1).f1))) - x16_10)), .int .i64 (wrap64 ((wrap64 (((rd_T48 l0 x22_1).f2) + x16_10)) - ((rd_T48 l0 x22_1).f0))), .bool ((rd_T48 l0 x22_1).f3)] (fun k_ => some k_ ≠ (v637 : Value).ownBlock ∧ k_ ≠ gb629) (fun _ => False) rfl rfl ?aP (fun _ hk => hk.elim) ?aF ?aO ?aB ?aS ?aL ?_; (case aP => exact k48_mkM _ _ _ (⟨x16_10, wrap64 ((wrap64 (((rd_T48 l0 x22_1).f0) + ((rd_T48 l0 x22_1).f1))) - x16_10), wrap64 ((wrap64 (((rd_T48 l0 x22_1).f2) + x16_10)) - ((rd_T48 l0 x22_1).f0)), ((rd_T48 l0 x22_1).f3)⟩ : S48)); (case aB => exact (bs1 HB GE629)); (case aF => exact (fun k_ hk => ⟨Kd.fresh' (Kd.R_lt (rr HO638.out)) k_ hk, Kd.freshB (bk BK629) k_ hk⟩)); (case aO => exact (by (with_reducible repeat (first | apply Kd.R_alloc | apply Kd.R_drewN | apply Kd.R_drew)); exact Kd.R_mono HO635.out (fun _ hk => ⟨hk.2, hk.1⟩))); (case aS => exact (below_size (bs1 HB GE629))); (case aL => have := LMc21.out; omega); intro v640 w27 ho hb hg hat; rw [← Ny639.out] at ho; replace BK629 := Aside0.mk (blk_grown (bk BK629) hg (Kd.R_away HO635.out (fun _ hk => hk.1))); replace HO638 := Aside0.mk (Kd.R_after (ok := (fun k_ => k_ ≠ gb629)) (by (with_reducible repeat (first | apply Kd.R_alloc | apply Kd.R_drewN | apply Kd.R_drew)); exact Kd.R_mono HO638.out (fun _ hk => ⟨hk.2, hk.1⟩)) hg hat); replace HB := Aside0.mk (hb); have HO641 := Aside0.mk (ho); clear HO635; clear ho hb hg hat))
                go_roundg kj10
                case measure => have := HK1.out; have := HJ6.out; have := HJ10.out; omega
                case rel => exact ⟨(y639), (y636), (wrap64 (x22_1 + 1)), (by first | rfl | (simp; done) | (simp [*]; done)), H', ⟨by have := HK1.out; have := HJ6.out; have := HJ10.out; omega⟩, rm HO641 (fun _ hk => hk.1), rm HO638 (fun _ hk => hk.2), ⟨bs1 HB GE629⟩⟩
               ·
                rw [if_neg c21] at H
                exact absurd H (by simp)
              ·
               rw [if_neg c20] at H
               have c20b0 : decide (x16_10 < (wrap64 (((rd_T48 l0 x22_1).f0) + ((rd_T48 l0 x22_1).f1)))) = false := decide_eq_false c20
               clear c20
               have H' := Aside0.mk H
               clear H
               obtain ⟨hcz28_0, hcz28_1, hcz28_2, hcz28_3⟩ := cz4 BK629
               obtain ⟨hfz28_0, hfz28_1, hfz28_2, hfz28_3⟩ := fz4 BK629
               go_wp2_with (first | ((with_reducible refine gate_builtin (b := .append) (xs := #[.tmp 53, .tmp 63]) rfl ?_); at_builtin; refine Kd.R_append k48 (w0 := w) w.heap.size rfl (.tmp 53) (.tmp 63) 27 48 (.agg #[(.int .i64 0), (.int .i64 0), (.int .i64 0), (.bool false)]) 32 rfl Try.underlying27 info48 rfl (by decide) (by omega) u8 x8_1 (⟨((rd_T48 l0 x22_1).f0), wrap64 (x15_6 - ((rd_T48 l0 x22_1).f0)), ((rd_T48 l0 x22_1).f2), ((rd_T48 l0 x22_1).f3)⟩ : S48) [.int .i64 ((rd_T48 l0 x22_1).f0), .int .i64 (wrap64 (x15_6 - ((rd_T48 l0 x22_1).f0))), .int .i64 ((rd_T48 l0 x22_1).f2), .bool ((rd_T48 l0 x22_1).f3)] (fun k_ => some k_ ≠ (u9 : Value).ownBlock ∧ k_ ≠ gb629) (fun _ => False) rfl rfl ?aP (fun _ hk => hk.elim) ?aF ?aO ?aB ?aS ?aL ?_; (case aP => exact k48_mkM _ _ _ (⟨((rd_T48 l0 x22_1).f0), wrap64 (x15_6 - ((rd_T48 l0 x22_1).f0)), ((rd_T48 l0 x22_1).f2), ((rd_T48 l0 x22_1).f3)⟩ : S48)); (case aB => exact (bs1 HB GE629)); (case aF => exact (fun k_ hk => ⟨Kd.fresh' (Kd.R_lt (rr HO_9.out)) k_ hk, Kd.freshB (bk BK629) k_ hk⟩)); (case aO => exact (rr HO_8.out)); (case aS => exact (below_size (bs1 HB GE629))); (case aL => have := LMc18.out; omega); intro v634 w29 ho hb hg hat; rw [← Ny633.out] at ho; replace HO_9 := Aside0.mk (Kd.R_after (ok := (fun k_ => k_ ≠ gb629)) (by (with_reducible repeat (first | apply Kd.R_alloc | apply Kd.R_drewN | apply Kd.R_drew)); exact Kd.R_mono HO_9.out (fun _ hk => ⟨hk.2, hk.1⟩)) hg hat); replace BK629 := Aside0.mk (blk_grown (bk BK629) hg (Kd.R_away HO_8.out (fun _ hk => hk.2))); replace HB := Aside0.mk (hb); have HO635 := Aside0.mk (ho); clear HO_8; clear ho hb hg hat; obtain ⟨hcz30_0, hcz30_1, hcz30_2, hcz30_3⟩ := cz4 BK629; obtain ⟨hfz30_0, hfz30_1, hfz30_2, hfz30_3⟩ := fz4 BK629) | ((with_reducible refine gate_builtin (b := .append) (xs := #[.tmp 65, .tmp 79]) rfl ?_); at_builtin; refine Kd.R_append k48 (w0 := w) w.heap.size rfl (.tmp 65) (.tmp 79) 27 48 (.agg #[(.int .i64 0), (.int .i64 0), (.int .i64 0), (.bool false)]) 32 rfl Try.underlying27 info48 rfl (by decide) (by omega) u9 x9_1 (⟨x15_6, wrap64 (x16_10 - x15_6), wrap64 ((wrap64 (((rd_T48 l0 x22_1).f2) + x15_6)) - ((rd_T48 l0 x22_1).f0)), ((rd_T48 l0 x22_1).f3)⟩ : S48) [.int .i64 x15_6, .int .i64 (wrap64 (x16_10 - x15_6)), .int .i64 (wrap64 ((wrap64 (((rd_T48 l0 x22_1).f2) + x15_6)) - ((rd_T48 l0 x22_1).f0))), .bool ((rd_T48 l0 x22_1).f3)] (fun k_ => some k_ ≠ (v634 : Value).ownBlock ∧ k_ ≠ gb629) (fun _ => False) rfl rfl ?aP (fun _ hk => hk.elim) ?aF ?aO ?aB ?aS ?aL ?_; (case aP => exact k48_mkM _ _ _ (⟨x15_6, wrap64 (x16_10 - x15_6), wrap64 ((wrap64 (((rd_T48 l0 x22_1).f2) + x15_6)) - ((rd_T48 l0 x22_1).f0)), ((rd_T48 l0 x22_1).f3)⟩ : S48)); (case aB => exact (bs1 HB GE629)); (case aF => exact (fun k_ hk => ⟨Kd.fresh' (Kd.R_lt (rr HO635.out)) k_ hk, Kd.freshB (bk BK629) k_ hk⟩)); (case aO => exact (by (with_reducible repeat (first | apply Kd.R_alloc | apply Kd.R_drewN | apply Kd.R_drew)); exact Kd.R_mono HO_9.out (fun _ hk => ⟨hk.2, hk.1⟩))); (case aS => exact (below_size (bs1 HB GE629))); (case aL => have := LMc19.out; omega); intro v637 w31 ho hb hg hat; rw [← Ny636.out] at ho; replace BK629 := Aside0.mk (blk_grown (bk BK629) hg (Kd.R_away HO_9.out (fun _ hk => hk.1))); replace HO635 := Aside0.mk (Kd.R_after (ok := (fun k_ => k_ ≠ gb629)) (by (with_reducible repeat (first | apply Kd.R_alloc | apply Kd.R_drewN | apply Kd.R_drew)); exact Kd.R_mono HO635.out (fun _ hk => ⟨hk.2, hk.1⟩)) hg hat); replace HB := Aside0.mk (hb); have HO638 := Aside0.mk (ho); clear HO_9; clear ho hb hg hat))
               go_roundg kj10
               case measure => have := HK1.out; have := HJ6.out; have := HJ10.out; omega
               case rel => exact ⟨(y633), (y636), (wrap64 (x22_1 + 1)), (by first | rfl | (simp; done) | (simp [*]; done)), H', ⟨by have := HK1.out; have := HJ6.out; have := HJ10.out; omega⟩, rm HO635 (fun _ hk => hk.2), rm HO638 (fun _ hk => hk.1), ⟨bs1 HB GE629⟩⟩
             ·
              rw [if_neg c19] at H
              exact absurd H (by simp)
            ·
             rw [if_neg c18] at H
             exact absurd H (by simp)
           ·
            rw [if_neg c17] at H
            have c17b0 : decide (((rd_T48 l0 x22_1).f0) < x15_6) = false := decide_eq_false c17
            clear c17
            by_cases c32 : x9_1.length < 4398046511104
            ·
             rw [if_pos c32] at H
             have LMc32 := Aside0.mk c32
             clear c32
             obtain ⟨y642, hy642⟩ : ∃ y_ : List (S48), y_ = (x9_1 ++ [(⟨x15_6, wrap64 (x16_10 - x15_6), wrap64 ((wrap64 (((rd_T48 l0 x22_1).f2) + x15_6)) - ((rd_T48 l0 x22_1).f0)), ((rd_T48 l0 x22_1).f3)⟩ : S48)]) := ⟨_, rfl⟩
             replace H : (if x16_10 < (wrap64 (((rd_T48 l0 x22_1).f0) + ((rd_T48 l0 x22_1).f1))) then (if x8_1.length < 4398046511104 then (spec_l9Cut.l0 kj10 a1 (x8_1 ++ [(⟨x16_10, wrap64 ((wrap64 (((rd_T48 l0 x22_1).f0) + ((rd_T48 l0 x22_1).f1))) - x16_10), wrap64 ((wrap64 (((rd_T48 l0 x22_1).f2) + x16_10)) - ((rd_T48 l0 x22_1).f0)), ((rd_T48 l0 x22_1).f3)⟩ : S48)]) y642 (wrap64 (a1 + a2)) l0 (l0.length : Int) (wrap64 (x22_1 + 1))) else (none)) else (spec_l9Cut.l0 kj10 a1 x8_1 y642 (wrap64 (a1 + a2)) l0 (l0.length : Int) (wrap64 (x22_1 + 1)))) = some (r1, r2) := by first | (rw [hy642]; with_reducible exact H) | (have H2_ := (Option.bind_some _ _).symm.trans H; rw [hy642]; with_reducible exact H2_) | (have H2_ := (Option.bind_some _ _).symm.trans H; with_reducible exact H2_) | with_reducible exact H | (rw [hy642]; exact H) | exact H
             have Ny642 := Aside0.mk hy642
             clear hy642
             by_cases c33 : x16_10 < (wrap64 (((rd_T48 l0 x22_1).f0) + ((rd_T48 l0 x22_1).f1)))
             ·
              rw [if_pos c33] at H
              have c33b0 : decide (x16_10 < (wrap64 (((rd_T48 l0 x22_1).f0) + ((rd_T48 l0 x22_1).f1)))) = true := decide_eq_true c33
              clear c33
              by_cases c34 : x8_1.length < 4398046511104
              ·
               rw [if_pos c34] at H
               have LMc34 := Aside0.mk c34
               clear c34
               obtain ⟨y645, hy645⟩ : ∃ y_ : List (S48), y_ = (x8_1 ++ [(⟨x16_10, wrap64 ((wrap64 (((rd_T48 l0 x22_1).f0) + ((rd_T48 l0 x22_1).f1))) - x16_10), wrap64 ((wrap64 (((rd_T48 l0 x22_1).f2) + x16_10)) - ((rd_T48 l0 x22_1).f0)), ((rd_T48 l0 x22_1).f3)⟩ : S48)]) := ⟨_, rfl⟩
               replace H : (spec_l9Cut.l0 kj10 a1 y645 y642 (wrap64 (a1 + a2)) l0 (l0.length : Int) (wrap64 (x22_1 + 1))) = some (r1, r2) := by first | (rw [hy645]; with_reducible exact H) | (have H2_ := (Option.bind_some _ _).symm.trans H; rw [hy645]; with_reducible exact H2_) | (have H2_ := (Option.bind_some _ _).symm.trans H; with_reducible exact H2_) | with_reducible exact H | (rw [hy645]; exact H) | exact H
               have Ny645 := Aside0.mk hy645
               clear hy645
               have H' := Aside0.mk H
               clear H
               obtain ⟨hcz35_0, hcz35_1, hcz35_2, hcz35_3⟩ := cz4 BK629
               obtain ⟨hfz35_0, hfz35_1, hfz35_2, hfz35_3⟩ := fz4 BK629
               go_wp2_with (first | ((with_reducible refine gate_builtin (b := .append) (xs := #[.tmp 65, .tmp 79]) rfl ?_); at_builtin; refine Kd.R_append k48 (w0 := w) w.heap.size rfl (.tmp 65) (.tmp 79) 27 48 (.agg #[(.int .i64 0), (.int .i64 0), (.int .i64 0), (.bool false)]) 32 rfl Try.underlying27 info48 rfl (by decide) (by omega) u9 x9_1 (⟨x15_6, wrap64 (x16_10 - x15_6), wrap64 ((wrap64 (((rd_T48 l0 x22_1).f2) + x15_6)) - ((rd_T48 l0 x22_1).f0)), ((rd_T48 l0 x22_1).f3)⟩ : S48) [.int .i64 x15_6, .int .i64 (wrap64 (x16_10 - x15_6)), .int .i64 (wrap64 ((wrap64 (((rd_T48 l0 x22_1).f2) + x15_6)) - ((rd_T48 l0 x22_1).f0))), .bool ((rd_T48 l0 x22_1).f3)] (fun k_ => some k_ ≠ (u8 : Value).ownBlock ∧ k_ ≠ gb629) (fun _ => False) rfl rfl ?aP (fun _ hk => hk.elim) ?aF ?aO ?aB ?aS ?aL ?_; (case aP => exact k48_mkM _ _ _ (⟨x15_6, wrap64 (x16_10 - x15_6), wrap64 ((wrap64 (((rd_T48 l0 x22_1).f2) + x15_6)) - ((rd_T48 l0 x22_1).f0)), ((rd_T48 l0 x22_1).f3)⟩ : S48)); (case aB => exact (bs1 HB GE629)); (case aF => exact (fun k_ hk => ⟨Kd.fresh' (Kd.R_lt (rr HO_8.out)) k_ hk, Kd.freshB (bk BK629) k_ hk⟩)); (case aO => exact (rr HO_9.out)); (case aS => exact (below_size (bs1 HB GE629))); (case aL => have := LMc32.out; omega); intro v643 w36 ho hb hg hat; rw [← Ny642.out] at ho; replace HO_8 := Aside0.mk (Kd.R_after (ok := (fun k_ => k_ ≠ gb629)) (by (with_reducible repeat (first | apply Kd.R_alloc | apply Kd.R_drewN | apply Kd.R_drew)); exact Kd.R_mono HO_8.out (fun _ hk => ⟨hk.2, hk.1⟩)) hg hat); replace BK629 := Aside0.mk (blk_grown (bk BK629) hg (Kd.R_away HO_9.out (fun _ hk => hk.2))); replace HB := Aside0.mk (hb); have HO644 := Aside0.mk (ho); clear HO_9; clear ho hb hg hat; obtain ⟨hcz37_0, hcz37_1, hcz37_2, hcz37_3⟩ := cz4 BK629; obtain ⟨hfz37_0, hfz37_1, hfz37_2, hfz37_3⟩ := fz4 BK629) | ((with_reducible refine gate_builtin (b := .append) (xs := #[.tmp 84, .tmp 98]) rfl ?_); at_builtin; refine Kd.R_append k48 (w0 := w) w.heap.size rfl (.tmp 84) (.tmp 98) 27 48 (.agg #[(.int .i64 0), (.int .i64 0), (.int .i64 0), (.bool false)]) 32 rfl Try.underlying27 info48 rfl (by decide) (by omega) u8 x8_1 (⟨x16_10, wrap64 ((wrap64 (((rd_T48 l0 x22_1).f0) + ((rd_T48 l0 x22_1).f1))) - x16_10), wrap64 ((wrap64 (((rd_T48 l0 x22_1).f2) + x16_10)) - ((rd_T48 l0 x22_1).f0)), ((rd_T48 l0 x22_1).f3)⟩ : S48) [.int .i64 x16_10, .int .i64 (wrap64 ((wrap64 (((rd_T48 l0 x22_1).f0) + ((rd_T48 l0 x22_1).f1))) - x16_10)), .int .i64 (wrap64 ((wrap64 (((rd_T48 l0 x22_1).f2) + x16_10)) - ((rd_T48 l0 x22_1).f0))), .bool ((rd_T48 l0 x22_1).f3)] (fun k_ => some k_ ≠ (v643 : Value).ownBlock ∧ k_ ≠ gb629) (fun _ => False) rfl rfl ?aP (fun _ hk => hk.elim) ?aF ?aO ?aB ?aS ?aL ?_; (case aP => exact k48_mkM _ _ _ (⟨x16_10, wrap64 ((wrap64 (((rd_T48 l0 x22_1).f0) + ((rd_T48 l0 x22_1).f1))) - x16_10), wrap64 ((wrap64 (((rd_T48 l0 x22_1).f2) + x16_10)) - ((rd_T48 l0 x22_1).f0)), ((rd_T48 l0 x22_1).f3)⟩ : S48)); (case aB => exact (bs1 HB GE629)); (case aF => exact (fun k_ hk => ⟨Kd.fresh' (Kd.R_lt (rr HO644.out)) k_ hk, Kd.freshB (bk BK629) k_ hk⟩)); (case aO => exact (by (with_reducible repeat (first | apply Kd.R_alloc | apply Kd.R_drewN | apply Kd.R_drew)); exact Kd.R_mono HO_8.out (fun _ hk => ⟨hk.2, hk.1⟩))); (case aS => exact (below_size (bs1 HB GE629))); (case aL => have := LMc34.out; omega); intro v646 w38 ho hb hg hat; rw [← Ny645.out] at ho; replace BK629 := Aside0.mk (blk_grown (bk BK629) hg (Kd.R_away HO_8.out (fun _ hk => hk.1))); replace HO644 := Aside0.mk (Kd.R_after (ok := (fun k_ => k_ ≠ gb629)) (by (with_reducible repeat (first | apply Kd.R_alloc | apply Kd.R_drewN | apply Kd.R_drew)); exact Kd.R_mono HO644.out (fun _ hk => ⟨hk.2, hk.1⟩)) hg hat); replace HB := Aside0.mk (hb); have HO647 := Aside0.mk (ho); clear HO_8; clear ho hb hg hat))
               go_roundg kj10
               case measure => have := HK1.out; have := HJ6.out; have := HJ10.out; omega
               case rel => exact ⟨(y645), (y642), (wrap64 (x22_1 + 1)), (by first | rfl | (simp; done) | (simp [*]; done)), H', ⟨by have := HK1.out; have := HJ6.out; have := HJ10.out; omega⟩, rm HO647 (fun _ hk => hk.1), rm HO644 (fun _ hk => hk.2), ⟨bs1 HB GE629⟩⟩
              ·
               rw [if_neg c34] at H
               exact absurd H (by simp)
             ·
              rw [if_neg c33] at H
              have c33b0 : decide (x16_10 < (wrap64 (((rd_T48 l0 x22_1).f0) + ((rd_T48 l0 x22_1).f1)))) = false := decide_eq_false c33
              clear c33
              have H' := Aside0.mk H
              clear H
              obtain ⟨hcz39_0, hcz39_1, hcz39_2, hcz39_3⟩ := cz4 BK629
              obtain ⟨hfz39_0, hfz39_1, hfz39_2, hfz39_3⟩ := fz4 BK629
              go_wp2_with (first | ((with_reducible refine gate_builtin (b := .append) (xs := #[.tmp 65, .tmp 79]) rfl ?_); at_builtin; refine Kd.R_append k48 (w0 := w) w.heap.size rfl (.tmp 65) (.tmp 79) 27 48 (.agg #[(.int .i64 0), (.int .i64 0), (.int .i64 0), (.bool false)]) 32 rfl Try.underlying27 info48 rfl (by decide) (by omega) u9 x9_1 (⟨x15_6, wrap64 (x16_10 - x15_6), wrap64 ((wrap64 (((rd_T48 l0 x22_1).f2) + x15_6)) - ((rd_T48 l0 x22_1).f0)), ((rd_T48 l0 x22_1).f3)⟩ : S48) [.int .i64 x15_6, .int .i64 (wrap64 (x16_10 - x15_6)), .int .i64 (wrap64 ((wrap64 (((rd_T48 l0 x22_1).f2) + x15_6)) - ((rd_T48 l0 x22_1).f0))), .bool ((rd_T48 l0 x22_1).f3)] (fun k_ => some k_ ≠ (u8 : Value).ownBlock ∧ k_ ≠ gb629) (fun _ => False) rfl rfl ?aP (fun _ hk => hk.elim) ?aF ?aO ?aB ?aS ?aL ?_; (case aP => exact k48_mkM _ _ _ (⟨x15_6, wrap64 (x16_10 - x15_6), wrap64 ((wrap64 (((rd_T48 l0 x22_1).f2) + x15_6)) - ((rd_T48 l0 x22_1).f0)), ((rd_T48 l0 x22_1).f3)⟩ : S48)); (case aB => exact (bs1 HB GE629)); (case aF => exact (fun k_ hk => ⟨Kd.fresh' (Kd.R_lt (rr HO_8.out)) k_ hk, Kd.freshB (bk BK629) k_ hk⟩)); (case aO => exact (rr HO_9.out)); (case aS => exact (below_size (bs1 HB GE629))); (case aL => have := LMc32.out; omega); intro v643 w40 ho hb hg hat; rw [← Ny642.out] at ho; replace HO_8 := Aside0.mk (Kd.R_after (ok := (fun k_ => k_ ≠ gb629)) (by (with_reducible repeat (first | apply Kd.R_alloc | apply Kd.R_drewN | apply Kd.R_drew)); exact Kd.R_mono HO_8.out (fun _ hk => ⟨hk.2, hk.1⟩)) hg hat); replace BK629 := Aside0.mk (blk_grown (bk BK629) hg (Kd.R_away HO_9.out (fun _ hk => hk.2))); replace HB := Aside0.mk (hb); have HO644 := Aside0.mk (ho); clear HO_9; clear ho hb hg hat))
              go_roundg kj10
              case measure => have := HK1.out; have := HJ6.out; have := HJ10.out; omega
              case rel => exact ⟨(x8_1), (y642), (wrap64 (x22_1 + 1)), (by first | rfl | (simp; done) | (simp [*]; done)), H', ⟨by have := HK1.out; have := HJ6.out; have := HJ10.out; omega⟩, rm HO_8 (fun _ hk => hk.2), rm HO644 (fun _ hk => hk.1), ⟨bs1 HB GE629⟩⟩
            ·
             rw [if_neg c32] at H
             exact absurd H (by simp)
     ·
      rw [if_neg c6] at H
      exact absurd H (by simp)
    ·
     rw [if_neg c5] at H
     exact absurd H (by simp)
   ·
    rw [if_neg c4] at H
    have c4b0 : decide (x22_1 < (l0.length : Int)) = false := decide_eq_false c4
    clear c4
    simp only [Option.some.injEq, Prod.mk.injEq] at H
    obtain ⟨rfl, rfl⟩ := H
    go_wp2
    go_ret2
    exact ⟨_, _, by first | rfl | (simp [errW_none, errW_some] <;> rfl) | (simp [*, errW_none, errW_some] <;> rfl), by (with_reducible repeat (first | apply Kd.R_alloc | apply Kd.R_drewN | apply Kd.R_drew)); exact HO_8.out, by (with_reducible repeat (first | apply Kd.R_alloc | apply Kd.R_drewN | apply Kd.R_drew)); exact HO_9.out, bs HB⟩

end Go.Proofs.Ytojdlcbmbpgplaa.G
