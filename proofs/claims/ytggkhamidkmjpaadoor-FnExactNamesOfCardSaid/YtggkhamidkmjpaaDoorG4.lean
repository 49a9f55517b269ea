-- Printed by a program of this session (drive.py, by way of the kit's print). Not trusted: Lean checks it.
import Derived.Test.YtggkhamidkmjpaaDoorG0
import Derived.Test.YtggkhamidkmjpaaDoorG3
namespace Go.Proofs.YtggkhamidkmjpaaDoor.G
open Go.RowKit Go.Proofs.YtggkhamidkmjpaaDoorW.PrintWords Go.Proofs.YtggkhamidkmjpaaDoorW.PrintLast Go.Proofs.YtggkhamidkmjpaaDoorW.PrintMore
attribute [local go_sem] max2_int min2_int max_two min_two max_three min_three max_four min_four   -- for this text's walks alone
set_option linter.unusedVariables false
set_option linter.unusedSimpArgs false

/-! ### slices_Index_int_int: function 38 -/
def slices_Index_int_int.l0 : Nat → List Int → Int → Int → Int → Option (Int)
 | 0, _, _, _, _ => none
 | k + 1, x0, x1, x7, x8 => if x8 < x7 then (if 0 ≤ x8 then (if x8 < (x0.length : Int) then (if x1 = (rd x0 x8) then (some x8) else (slices_Index_int_int.l0 k x0 x1 x7 (wrap64 (x8 + 1)))) else (none)) else (none)) else (some (-1))
def slices_Index_int_int.f (k : Nat) (l0 : List Int) (a1 : Int) : Option (Int) := slices_Index_int_int.l0 k l0 a1 (l0.length : Int) 0
theorem slices_Index_int_int.mono_l : ∀ k, (∀ y0 y1 y2 y3, LeO (slices_Index_int_int.l0 k y0 y1 y2 y3) (slices_Index_int_int.l0 (k + 1) y0 y1 y2 y3))
 | 0 => fun _ _ _ _ r h => by simp [slices_Index_int_int.l0] at h
 | k + 1 => by
  have ih0 := slices_Index_int_int.mono_l k
  ·
   intro y0 y1 y2 y3
   unfold slices_Index_int_int.l0
   repeat' first
   | (with_reducible exact ih0 _ _ _ _)
   | (with_reducible exact LeO.refl _)
   | (with_reducible exact LeO.none _)
   | (with_reducible refine LeO.ite ?_ ?_)
   | (with_reducible refine LeO.bind ?_ (fun _ => ?_))
   | exact ih0 _ _ _ _
   | exact LeO.none _
   | refine LeO.ite ?_ ?_
   | refine LeO.bind ?_ (fun _ => ?_)
theorem slices_Index_int_int.mono : ∀ a0 a1 k, LeO (slices_Index_int_int.f k a0 a1) (slices_Index_int_int.f (k + 1) a0 a1) := by
 intro a0 a1 k
 have ih0 := slices_Index_int_int.mono_l k
 unfold slices_Index_int_int.f
 repeat' first
   | (with_reducible exact ih0 _ _ _ _)
   | (with_reducible exact LeO.refl _)
   | (with_reducible exact LeO.none _)
   | (with_reducible refine LeO.ite ?_ ?_)
   | (with_reducible refine LeO.bind ?_ (fun _ => ?_))
   | exact ih0 _ _ _ _
   | exact LeO.none _
   | refine LeO.ite ?_ ?_
   | refine LeO.bind ?_ (fun _ => ?_)
set_option maxHeartbeats 8000000 in
set_option maxRecDepth 100000 in
theorem slices_Index_int_int.calls (k : Nat) (A0 : Option Addr) (c0 : Nat) (l0 : List Int) (a1 : Int) (r : Int) (w : World) (hr0 : Kd.C (Kd.int .i64) w A0 l0.length l0) (hc0 : l0.length ≤ c0) (h : slices_Index_int_int.f k l0 a1 = some r) :
  Calls Tryd.prog 38 #[.slice A0 l0.length c0, .int .i64 a1] w fun e w' => e = .returned (.int .i64 r) ∧ Drawn0 w w' := by
 have HR0 := Ah hr0
 have HC0 := Ah hc0
 clear hr0 hc0
 have H : (slices_Index_int_int.l0 k l0 a1 (l0.length : Int) 0) = some r := h
 clear h
 have H' := Ah H
 clear H
 go_enter Tryd.func38, Tryd.ntmps38
 go_wp2
 go_loopg [8] k (fun kq v8 w' => ∃ (x8_1 : Int), v8 = .int .i64 x8_1 ∧ Aside0 (slices_Index_int_int.l0 kq l0 a1 (l0.length : Int) x8_1 = some r) ∧ Aside0 (kq ≤ k) ∧ Drawn0 w w')
 case atStart => exact ⟨(0), e3, H', ⟨Nat.le_refl _⟩, by repeat (first | exact Drawn0.refl _ | apply Drawn0.step)⟩
 case round =>
  clear H'
  try clear p2
  obtain ⟨x8_1, rfl, HA, HK1, ⟨m1, rfl⟩⟩ := hrel
  cases gk with
  | zero => exact absurd HA.out (by simp [slices_Index_int_int.l0])
  | succ k1 =>
   have H := HA.out
   clear HA
   simp only [slices_Index_int_int.l0] at H
   by_cases c3 : x8_1 < (l0.length : Int)
   rotate_left
   ·
    rw [if_neg c3] at H
    have c3b0 : decide (x8_1 < (l0.length : Int)) = false := decide_eq_false c3
    clear c3
    obtain rfl := Option.some.inj H
    go_wp2
    go_ret
    exact ⟨e3, by repeat (first | exact Drawn0.refl _ | apply Drawn0.step)⟩
   rw [if_pos c3] at H
   have c3b0 : decide (x8_1 < (l0.length : Int)) = true := decide_eq_true c3
   clear c3
   by_cases c4 : 0 ≤ x8_1
   rotate_left
   ·
    rw [if_neg c4] at H
    exact absurd H (by simp)
   rw [if_pos c4] at H
   have c4b0 : decide (0 ≤ x8_1) = true := decide_eq_true c4
   clear c4
   by_cases c5 : x8_1 < (l0.length : Int)
   rotate_left
   ·
    rw [if_neg c5] at H
    exact absurd H (by simp)
   rw [if_pos c5] at H
   have c5b0 : decide (x8_1 < (l0.length : Int)) = true := decide_eq_true c5
   clear c5
   by_cases c6 : a1 = (rd l0 x8_1)
   ·
    rw [if_pos c6] at H
    have c6b0 : (a1 == (rd l0 x8_1)) = true := beq_iff_eq.mpr c6
    have c6b1 : (a1 != (rd l0 x8_1)) = false := bne_eq_false_iff_eq.mpr c6
    clear c6
    obtain rfl := Option.some.inj H
    have p228 : 0 ≤ (x8_1 : Int) := od
    have q228 : x8_1 < (l0.length : Int) := od
    obtain ⟨ad228, e228, hx228_0⟩ := Kd.at_int HR0.out x8_1 p228 q228
    cases e228
    replace p228 := eq_true p228
    replace q228 := eq_true q228
    go_wp2
    go_ret
    exact ⟨e3, by repeat (first | exact Drawn0.refl _ | apply Drawn0.step)⟩
   rw [if_neg c6] at H
   have c6b0 : (a1 == (rd l0 x8_1)) = false := beq_eq_false_iff_ne.mpr c6
   have c6b1 : (a1 != (rd l0 x8_1)) = true := bne_iff_ne.mpr c6
   have H' := Ah H
   clear H
   have p228 : 0 ≤ (x8_1 : Int) := od
   have q228 : x8_1 < (l0.length : Int) := od
   obtain ⟨ad228, e228, hx228_0⟩ := Kd.at_int HR0.out x8_1 p228 q228
   cases e228
   replace p228 := eq_true p228
   replace q228 := eq_true q228
   go_wp2
   go_roundg k1
   case measure => have := HK1.out; omega
   case rel => exact ⟨(wrap64 (x8_1 + 1)), e3, H', ⟨by have := HK1.out; omega⟩, by repeat (first | exact Drawn0.refl _ | apply Drawn0.step)⟩

/-! ### impl_Dir_areAgreed: function 39 -/
mutual
def impl_Dir_areAgreed.l0 : Nat → List (S43) → Int → Int → Int → List Int → List (S43) → Option (Bool)
 | 0, _, _, _, _, _, _ => none
 | k + 1, x9, x10, x11, x230000, x230001, x230002 => if x11 < x10 then (if 0 ≤ x11 then (if x11 < (x9.length : Int) then (impl_Dir_areAgreed.l1 k x11 0 x9 x10 x11 x230001 (x230001.length : Int) 0 x230000 x230001 x230002 ((rd_T43 x9 x11).f0) ((rd_T43 x9 x11).f1)) else (none)) else (none)) else (some true)
def impl_Dir_areAgreed.l1 : Nat → Int → Int → List (S43) → Int → Int → List Int → Int → Int → Int → List Int → List (S43) → Int → List (S45) → Option (Bool)
 | 0, _, _, _, _, _, _, _, _, _, _, _, _, _ => none
 | k + 1, x3, x5, x9, x10, x11, x17, x18, x19, x230000, x230001, x230002, x232000, x232001 => if x19 < x18 then (if 0 ≤ x19 then (if x19 < (x17.length : Int) then (if (rd x17 x19) = x3 then (impl_Dir_areAgreed.l1 k x3 (wrap64 (x5 + 1)) x9 x10 x11 x17 x18 (wrap64 (x19 + 1)) x230000 x230001 x230002 x232000 x232001) else (impl_Dir_areAgreed.l1 k x3 x5 x9 x10 x11 x17 x18 (wrap64 (x19 + 1)) x230000 x230001 x230002 x232000 x232001)) else (none)) else (none)) else (if 0 ≤ x232000 then (if x5 = (shr .i64 (x230001.length : Int) x232000) then (impl_Dir_areAgreed.l0 k x9 x10 (wrap64 (x11 + 1)) x230000 x230001 x230002) else (some false)) else (none))
end
def impl_Dir_areAgreed.f (k : Nat) (a0_0 : Int) (l0_1 : List Int) (l0_2 : List (S43)) : Option (Bool) := impl_Dir_areAgreed.l0 k l0_2 (l0_2.length : Int) 0 a0_0 l0_1 l0_2
theorem impl_Dir_areAgreed.mono_l : ∀ k, (∀ y0 y1 y2 y3 y4 y5, LeO (impl_Dir_areAgreed.l0 k y0 y1 y2 y3 y4 y5) (impl_Dir_areAgreed.l0 (k + 1) y0 y1 y2 y3 y4 y5)) ∧ (∀ y0 y1 y2 y3 y4 y5 y6 y7 y8 y9 y10 y11 y12, LeO (impl_Dir_areAgreed.l1 k y0 y1 y2 y3 y4 y5 y6 y7 y8 y9 y10 y11 y12) (impl_Dir_areAgreed.l1 (k + 1) y0 y1 y2 y3 y4 y5 y6 y7 y8 y9 y10 y11 y12))
 | 0 => ⟨fun _ _ _ _ _ _ r h => by simp [impl_Dir_areAgreed.l0] at h, fun _ _ _ _ _ _ _ _ _ _ _ _ _ r h => by simp [impl_Dir_areAgreed.l1] at h⟩
 | k + 1 => by
  obtain ⟨ih0, ih1⟩ := impl_Dir_areAgreed.mono_l k
  refine ⟨?_, ?_⟩ <;> intros <;> first | unfold impl_Dir_areAgreed.l0 | unfold impl_Dir_areAgreed.l1
  all_goals repeat' first
   | (with_reducible exact ih0 _ _ _ _ _ _)
   | (with_reducible exact ih1 _ _ _ _ _ _ _ _ _ _ _ _ _)
   | (with_reducible exact LeO.refl _)
   | (with_reducible exact LeO.none _)
   | (with_reducible refine LeO.ite ?_ ?_)
   | (with_reducible refine LeO.bind ?_ (fun _ => ?_))
   | exact ih0 _ _ _ _ _ _
   | exact ih1 _ _ _ _ _ _ _ _ _ _ _ _ _
   | exact LeO.none _
   | refine LeO.ite ?_ ?_
   | refine LeO.bind ?_ (fun _ => ?_)
theorem impl_Dir_areAgreed.mono : ∀ a0 a1 a2 k, LeO (impl_Dir_areAgreed.f k a0 a1 a2) (impl_Dir_areAgreed.f (k + 1) a0 a1 a2) := by
 intro a0 a1 a2 k
 obtain ⟨ih0, ih1⟩ := impl_Dir_areAgreed.mono_l k
 unfold impl_Dir_areAgreed.f
 repeat' first
   | (with_reducible exact ih0 _ _ _ _ _ _)
   | (with_reducible exact ih1 _ _ _ _ _ _ _ _ _ _ _ _ _)
   | (with_reducible exact LeO.refl _)
   | (with_reducible exact LeO.none _)
   | (with_reducible refine LeO.ite ?_ ?_)
   | (with_reducible refine LeO.bind ?_ (fun _ => ?_))
   | exact ih0 _ _ _ _ _ _
   | exact ih1 _ _ _ _ _ _ _ _ _ _ _ _ _
   | exact LeO.none _
   | refine LeO.ite ?_ ?_
   | refine LeO.bind ?_ (fun _ => ?_)
set_option maxHeartbeats 8000000 in
set_option maxRecDepth 100000 in
theorem impl_Dir_areAgreed.calls (k : Nat) (a0_0 : Int) (A0_1 : Option Addr) (c0_1 : Nat) (l0_1 : List Int) (A0_2 : Option Addr) (c0_2 : Nat) (l0_2 : List (S43)) (r : Bool) (w : World) (hr0_1 : Kd.C (Kd.int .i64) w A0_1 l0_1.length l0_1) (hc0_1 : l0_1.length ≤ c0_1) (hr0_2 : Kd.C k43 w A0_2 l0_2.length l0_2) (hc0_2 : l0_2.length ≤ c0_2) (h : impl_Dir_areAgreed.f k a0_0 l0_1 l0_2 = some r) :
  Calls Tryd.prog 39 #[.agg #[.int .i64 a0_0, .slice A0_1 l0_1.length c0_1, .slice A0_2 l0_2.length c0_2]] w fun e w' => e = .returned (.bool r) ∧ Below w.heap.size w w' := by
 have hu32 := Tryd.underlying32
 have hu43 := Tryd.underlying43
 have HR0_1 := Ah hr0_1
 have HC0_1 := Ah hc0_1
 clear hr0_1 hc0_1
 have HR0_2 := Ah hr0_2
 have HC0_2 := Ah hc0_2
 clear hr0_2 hc0_2
 have HB := Ah (Below.refl w.heap.size w)
 have H : (impl_Dir_areAgreed.l0 k l0_2 (l0_2.length : Int) 0 a0_0 l0_1 l0_2) = some r := h
 clear h
 have H' := Ah H
 clear H
 go_enter Tryd.func39, Tryd.ntmps39
 go_wp2_with (first | ((with_reducible refine gate_dst (N := 1) rfl ?_); refine boxL 1 32 #[.int .i64 a0_0, .slice A0_1 l0_1.length c0_1, .slice A0_2 l0_2.length c0_2] ?_; intro gb229 hg w2 BK229 hb; have GW229 := gw hg (bs HB); have GE229 := gw hg (bs HB); replace HB := Ah (below_step (bs HB) hb); clear hb hg; obtain ⟨hcz3_0, hcz3_1, hcz3_2⟩ := cz3 BK229; obtain ⟨hfz3_0, hfz3_1, hfz3_2⟩ := fz3 BK229))
 go_loopg [11] k (fun kq v11 w' => ∃ (x11_1 : Int), v11 = .int .i64 x11_1 ∧ Aside0 (impl_Dir_areAgreed.l0 kq l0_2 (l0_2.length : Int) x11_1 a0_0 l0_1 l0_2 = some r) ∧ Aside0 (kq ≤ k) ∧ Aside0 (w'.heap[gb229]? = some (.cells #[.int .i64 a0_0, (.slice A0_1 l0_1.length c0_1), (.slice A0_2 l0_2.length c0_2)] 32 (0, 0))) ∧ Aside0 (Below w.heap.size w w'))
 case atStart => exact ⟨(0), e3, H', ⟨Nat.le_refl _⟩, ⟨bk BK229⟩, ⟨bs1 HB GE229⟩⟩
 case round =>
  clear H'
  try clear p2
  try clear c3
  try clear hcz3_0 hcz3_1 hcz3_2
  try clear hfz3_0 hfz3_1 hfz3_2
  obtain ⟨x11_1, rfl, HA, HK1, BK229, HB⟩ := hrel
  cases gk with
  | zero => exact absurd HA.out (by simp [impl_Dir_areAgreed.l0])
  | succ k1 =>
   have H := HA.out
   clear HA
   simp only [impl_Dir_areAgreed.l0] at H
   by_cases c4 : x11_1 < (l0_2.length : Int)
   rotate_left
   ·
    rw [if_neg c4] at H
    have c4b0 : decide (x11_1 < (l0_2.length : Int)) = false := decide_eq_false c4
    clear c4
    obtain rfl := Option.some.inj H
    go_wp2
    go_ret
    exact ⟨er, bs1 HB GE229⟩
   rw [if_pos c4] at H
   have c4b0 : decide (x11_1 < (l0_2.length : Int)) = true := decide_eq_true c4
   clear c4
   by_cases c5 : 0 ≤ x11_1
   rotate_left
   ·
    rw [if_neg c5] at H
    exact absurd H (by simp)
   rw [if_pos c5] at H
   have c5b0 : decide (0 ≤ x11_1) = true := decide_eq_true c5
   clear c5
   by_cases c6 : x11_1 < (l0_2.length : Int)
   rotate_left
   ·
    rw [if_neg c6] at H
    exact absurd H (by simp)
   rw [if_pos c6] at H
   have c6b0 : decide (x11_1 < (l0_2.length : Int)) = true := decide_eq_true c6
   clear c6
   have H' := Ah H
   clear H
   have p230 : 0 ≤ (x11_1 : Int) := od
   have q230 : x11_1 < (l0_2.length : Int) := od
   obtain ⟨ad230, A230_1, c230_1, e230, hx230_0, hx230_1, hl230_1, hi230_1⟩ := at_T43 HR0_2.out x11_1 p230 q230
   cases e230
   replace hx230_0 := (HB.out.cell (World.block_lt_of_cell? w _ hx230_0)).trans hx230_0
   replace hx230_1 := (HB.out.cell (World.block_lt_of_cell? w _ hx230_1)).trans hx230_1
   have HR230_1 := Ah hi230_1
   have HC230_1 := Ah hl230_1
   clear hi230_1 hl230_1
   replace p230 := eq_true p230
   replace q230 := eq_true q230
   go_wp2_with (first | ((with_reducible refine gate_dst (N := 4) rfl ?_); refine boxL 4 43 #[.int .i64 0, .slice none 0 0] ?_; intro gb231 hg w7 BK231 hb; have GW231 := gw hg (bs1 HB GE229); have GE231 := gw hg (bs1 HB GE229); replace HB := Ah (below_step (bs1 HB GE229) hb); have NB229_231 := nn BK229 hg; have NB231_229 := nm BK229 hg; replace BK229 := nb BK229 hb; clear hb hg; have hnb8 := NB231_229.out; have hnc8 := NB229_231.out; obtain ⟨hcz9_0, hcz9_1⟩ := cz2 BK231; obtain ⟨hfz9_0, hfz9_1⟩ := fz2 BK231; obtain ⟨hcz10_0, hcz10_1, hcz10_2⟩ := cz3 BK229; obtain ⟨hfz10_0, hfz10_1, hfz10_2⟩ := fz3 BK229))
   go_loopg [5, 19] k1 (fun kq v5 v19 w' => ∃ (x5_2 : Int) (x19_2 : Int), v5 = .int .i64 x5_2 ∧ v19 = .int .i64 x19_2 ∧ Aside0 (impl_Dir_areAgreed.l1 kq x11_1 x5_2 l0_2 (l0_2.length : Int) x11_1 l0_1 (l0_1.length : Int) x19_2 a0_0 l0_1 l0_2 ((rd_T43 l0_2 x11_1).f0) ((rd_T43 l0_2 x11_1).f1) = some r) ∧ Aside0 (kq ≤ k1) ∧ Aside0 (w'.heap[gb229]? = some (.cells #[.int .i64 a0_0, (.slice A0_1 l0_1.length c0_1), (.slice (some ad230) l0_2.length c0_2)] 32 (0, 0))) ∧ Aside0 (w'.heap[gb231]? = some (.cells #[.int .i64 ((rd_T43 l0_2 x11_1).f0), (.slice A230_1 ((rd_T43 l0_2 x11_1).f1).length c230_1)] 43 (0, 0))) ∧ Aside0 (Below w.heap.size w w'))
   case atStart => exact ⟨(0), (0), e3, e3, H', ⟨Nat.le_refl _⟩, ⟨bf BK229 NB229_231⟩, ⟨by (with_reducible repeat (first | refine blk_drewN ?_ _ | refine blk_drew ?_ | refine blk_alloc ?_ _)); refine blk_put (cs := #[.int .i64 ((rd_T43 l0_2 x11_1).f0), .slice none 0 0]) ?_ 1 _ rfl; (with_reducible repeat (first | refine blk_drewN ?_ _ | refine blk_drew ?_ | refine blk_alloc ?_ _)); refine blk_put (cs := #[.int .i64 0, .slice none 0 0]) ?_ 0 _ rfl; (with_reducible repeat (first | refine blk_drewN ?_ _ | refine blk_drew ?_ | refine blk_alloc ?_ _)); exact BK231.out⟩, ⟨bs2 HB GE229 GE231⟩⟩
   case round =>
    clear H'
    try clear c2
    try clear p2
    try clear q2
    try clear hx2
    try clear c3
    try clear c4
    try clear c4b0
    try clear c5
    try clear c5b0
    try clear c6
    try clear c6b0
    try clear c8
    try clear hcz10_0 hcz10_1 hcz10_2
    try clear hcz3_0 hcz3_1 hcz3_2
    try clear hcz9_0 hcz9_1
    try clear hfz10_0 hfz10_1 hfz10_2
    try clear hfz3_0 hfz3_1 hfz3_2
    try clear hfz9_0 hfz9_1
    try clear hx230_0
    try clear hx230_1
    try clear p2
    try clear p230
    try clear q230
    obtain ⟨x5_2, x19_2, rfl, rfl, HA, HK2, BK229, BK231, HB⟩ := hrel
    cases gk with
    | zero => exact absurd HA.out (by simp [impl_Dir_areAgreed.l1])
    | succ k2 =>
     have H := HA.out
     clear HA
     simp only [impl_Dir_areAgreed.l1] at H
     by_cases c11 : x19_2 < (l0_1.length : Int)
     rotate_left
     ·
      rw [if_neg c11] at H
      have c11b0 : decide (x19_2 < (l0_1.length : Int)) = false := decide_eq_false c11
      clear c11
      by_cases c15 : 0 ≤ ((rd_T43 l0_2 x11_1).f0)
      rotate_left
      ·
       rw [if_neg c15] at H
       exact absurd H (by simp)
      rw [if_pos c15] at H
      have c15b0 := eq_true c15
      have c15b1 : decide (0 ≤ ((rd_T43 l0_2 x11_1).f0)) = true := decide_eq_true c15
      clear c15
      obtain ⟨ji16, hji16⟩ : ∃ j_ : Int, (shr .i64 (l0_1.length : Int) ((rd_T43 l0_2 x11_1).f0)) = j_ := ⟨_, rfl⟩
      replace H : (if x5_2 = (ji16) then (impl_Dir_areAgreed.l0 k2 l0_2 (l0_2.length : Int) (wrap64 (x11_1 + 1)) a0_0 l0_1 l0_2) else (some false)) = some r := by first | (rw [hji16] at H; exact H) | (simp only [hji16] at H ⊢; exact H)
      have hji16_ : ((l0_1.length : Int) / 2 ^ min ((rd_T43 l0_2 x11_1).f0).toNat 64) = ji16 := hji16
      have hji16z : ((rd_T43 l0_2 x11_1).f0) ≤ 64 → ((l0_1.length : Int) / 2 ^ ((rd_T43 l0_2 x11_1).f0).toNat) = ji16 := shr_small hji16
      by_cases c17 : x5_2 = (ji16)
      rotate_left
      ·
       rw [if_neg c17] at H
       have c17b0 : (x5_2 == (ji16)) = false := beq_eq_false_iff_ne.mpr c17
       have c17b1 : (x5_2 != (ji16)) = true := bne_iff_ne.mpr c17
       obtain rfl := Option.some.inj H
       have hnb21 := NB229_231.out
       have hnc21 := NB231_229.out
       obtain ⟨hcz22_0, hcz22_1, hcz22_2⟩ := cz3 BK229
       obtain ⟨hfz22_0, hfz22_1, hfz22_2⟩ := fz3 BK229
       obtain ⟨hcz23_0, hcz23_1⟩ := cz2 BK231
       obtain ⟨hfz23_0, hfz23_1⟩ := fz2 BK231
       go_wp2
       go_ret
       exact ⟨by first | rfl | (simp [errW_none, errW_some] <;> rfl) | (simp only [← hji16]; first | rfl | (simp [errW_none, errW_some] <;> rfl)) | (simp [*, errW_none, errW_some] <;> rfl), bs2 HB GE229 GE231⟩
      rw [if_pos c17] at H
      have c17b0 : (x5_2 == (ji16)) = true := beq_iff_eq.mpr c17
      have c17b1 : (x5_2 != (ji16)) = false := bne_eq_false_iff_eq.mpr c17
      clear c17
      have H' := Ah H
      clear H
      have hnb18 := NB229_231.out
      have hnc18 := NB231_229.out
      obtain ⟨hcz19_0, hcz19_1, hcz19_2⟩ := cz3 BK229
      obtain ⟨hfz19_0, hfz19_1, hfz19_2⟩ := fz3 BK229
      obtain ⟨hcz20_0, hcz20_1⟩ := cz2 BK231
      obtain ⟨hfz20_0, hfz20_1⟩ := fz2 BK231
      go_wp2
      go_roundg k2
      case measure => have := HK1.out; have := HK2.out; omega
      case rel => exact ⟨(wrap64 (x11_1 + 1)), e3, H', ⟨by have := HK1.out; have := HK2.out; omega⟩, ⟨bk BK229⟩, ⟨bs2 HB GE229 GE231⟩⟩
     rw [if_pos c11] at H
     have c11b0 : decide (x19_2 < (l0_1.length : Int)) = true := decide_eq_true c11
     clear c11
     by_cases c12 : 0 ≤ x19_2
     rotate_left
     ·
      rw [if_neg c12] at H
      exact absurd H (by simp)
     rw [if_pos c12] at H
     have c12b0 : decide (0 ≤ x19_2) = true := decide_eq_true c12
     clear c12
     by_cases c13 : x19_2 < (l0_1.length : Int)
     rotate_left
     ·
      rw [if_neg c13] at H
      exact absurd H (by simp)
     rw [if_pos c13] at H
     have c13b0 : decide (x19_2 < (l0_1.length : Int)) = true := decide_eq_true c13
     clear c13
     by_cases c14 : (rd l0_1 x19_2) = x11_1
     rotate_left
     ·
      rw [if_neg c14] at H
      have c14b0 : ((rd l0_1 x19_2) == x11_1) = false := beq_eq_false_iff_ne.mpr c14
      have c14b1 : ((rd l0_1 x19_2) != x11_1) = true := bne_iff_ne.mpr c14
      have H' := Ah H
      clear H
      have p232 : 0 ≤ (x19_2 : Int) := od
      have q232 : x19_2 < (l0_1.length : Int) := od
      obtain ⟨ad232, e232, hx232_0⟩ := Kd.at_int HR0_1.out x19_2 p232 q232
      cases e232
      replace hx232_0 := (HB.out.cell (World.block_lt_of_cell? w _ hx232_0)).trans hx232_0
      replace p232 := eq_true p232
      replace q232 := eq_true q232
      go_wp2
      go_roundg k2
      case measure => have := HK1.out; have := HK2.out; omega
      case rel => exact ⟨(x5_2), (wrap64 (x19_2 + 1)), e3, e3, H', ⟨by have := HK1.out; have := HK2.out; omega⟩, ⟨bk BK229⟩, ⟨bk BK231⟩, ⟨bs2 HB GE229 GE231⟩⟩
     rw [if_pos c14] at H
     have c14b0 : ((rd l0_1 x19_2) == x11_1) = true := beq_iff_eq.mpr c14
     have c14b1 : ((rd l0_1 x19_2) != x11_1) = false := bne_eq_false_iff_eq.mpr c14
     clear c14
     have H' := Ah H
     clear H
     have p232 : 0 ≤ (x19_2 : Int) := od
     have q232 : x19_2 < (l0_1.length : Int) := od
     obtain ⟨ad232, e232, hx232_0⟩ := Kd.at_int HR0_1.out x19_2 p232 q232
     cases e232
     replace hx232_0 := (HB.out.cell (World.block_lt_of_cell? w _ hx232_0)).trans hx232_0
     replace p232 := eq_true p232
     replace q232 := eq_true q232
     go_wp2
     go_roundg k2
     case measure => have := HK1.out; have := HK2.out; omega
     case rel => exact ⟨(wrap64 (x5_2 + 1)), (wrap64 (x19_2 + 1)), e3, e3, H', ⟨by have := HK1.out; have := HK2.out; omega⟩, ⟨bk BK229⟩, ⟨bk BK231⟩, ⟨bs2 HB GE229 GE231⟩⟩

/-! ### impl_NameHash: function 48 -/
def impl_NameHash.l0 : Nat → ByteArray → Int → Int → Int → Option (Int)
 | 0, _, _, _, _ => none
 | k + 1, x0, x3, x6, x7 => if x7 < x6 then (if 0 ≤ x7 then (if x7 < (x0.size : Int) then (impl_NameHash.l0 k x0 (Int.tmod (wrap64 ((wrap64 (31 * x3)) + (wrap64 (bt x0 x7)))) 65536) x6 (wrap64 (x7 + 1))) else (none)) else (none)) else (some (Go.bits .xor .i64 x3 (x3 / 32)))
def impl_NameHash.f (k : Nat) (a0 : ByteArray) : Option (Int) := impl_NameHash.l0 k a0 7 (a0.size : Int) 0
theorem impl_NameHash.mono_l : ∀ k, (∀ y0 y1 y2 y3, LeO (impl_NameHash.l0 k y0 y1 y2 y3) (impl_NameHash.l0 (k + 1) y0 y1 y2 y3))
 | 0 => fun _ _ _ _ r h => by simp [impl_NameHash.l0] at h
 | k + 1 => by
  have ih0 := impl_NameHash.mono_l k
  ·
   intro y0 y1 y2 y3
   unfold impl_NameHash.l0
   repeat' first
   | (with_reducible exact ih0 _ _ _ _)
   | (with_reducible exact LeO.refl _)
   | (with_reducible exact LeO.none _)
   | (with_reducible refine LeO.ite ?_ ?_)
   | (with_reducible refine LeO.bind ?_ (fun _ => ?_))
   | exact ih0 _ _ _ _
   | exact LeO.none _
   | refine LeO.ite ?_ ?_
   | refine LeO.bind ?_ (fun _ => ?_)
theorem impl_NameHash.mono : ∀ a0 k, LeO (impl_NameHash.f k a0) (impl_NameHash.f (k + 1) a0) := by
 intro a0 k
 have ih0 := impl_NameHash.mono_l k
 unfold impl_NameHash.f
 repeat' first
   | (with_reducible exact ih0 _ _ _ _)
   | (with_reducible exact LeO.refl _)
   | (with_reducible exact LeO.none _)
   | (with_reducible refine LeO.ite ?_ ?_)
   | (with_reducible refine LeO.bind ?_ (fun _ => ?_))
   | exact ih0 _ _ _ _
   | exact LeO.none _
   | refine LeO.ite ?_ ?_
   | refine LeO.bind ?_ (fun _ => ?_)
set_option maxHeartbeats 8000000 in
set_option maxRecDepth 100000 in
theorem impl_NameHash.calls (k : Nat) (a0 : ByteArray) (r : Int) (w : World) (h : impl_NameHash.f k a0 = some r) :
  Calls Tryd.prog 48 #[.string a0] w fun e w' => e = .returned (.int .i64 r) ∧ Drawn0 w w' := by
 have H : (impl_NameHash.l0 k a0 7 (a0.size : Int) 0) = some r := h
 clear h
 have H' := Ah H
 clear H
 go_enter Tryd.func48, Tryd.ntmps48
 go_wp2
 go_loopg [3, 7] k (fun kq v3 v7 w' => ∃ (x3_1 : Int) (x7_1 : Int), v3 = .int .i64 x3_1 ∧ v7 = .int .i64 x7_1 ∧ Aside0 (impl_NameHash.l0 kq a0 x3_1 (a0.size : Int) x7_1 = some r) ∧ Aside0 (kq ≤ k) ∧ Drawn0 w w')
 case atStart => exact ⟨(7), (0), e3, e3, H', ⟨Nat.le_refl _⟩, by repeat (first | exact Drawn0.refl _ | apply Drawn0.step)⟩
 case round =>
  clear H'
  obtain ⟨x3_1, x7_1, rfl, rfl, HA, HK1, ⟨m1, rfl⟩⟩ := hrel
  cases gk with
  | zero => exact absurd HA.out (by simp [impl_NameHash.l0])
  | succ k1 =>
   have H := HA.out
   clear HA
   simp only [impl_NameHash.l0] at H
   by_cases c2 : x7_1 < (a0.size : Int)
   rotate_left
   ·
    rw [if_neg c2] at H
    have c2b0 : decide (x7_1 < (a0.size : Int)) = false := decide_eq_false c2
    clear c2
    obtain rfl := Option.some.inj H
    go_wp2
    go_ret
    exact ⟨e3, by repeat (first | exact Drawn0.refl _ | apply Drawn0.step)⟩
   rw [if_pos c2] at H
   have c2b0 : decide (x7_1 < (a0.size : Int)) = true := decide_eq_true c2
   clear c2
   by_cases c3 : 0 ≤ x7_1
   rotate_left
   ·
    rw [if_neg c3] at H
    exact absurd H (by simp)
   rw [if_pos c3] at H
   have c3b0 : decide (0 ≤ x7_1) = true := decide_eq_true c3
   clear c3
   by_cases c4 : x7_1 < (a0.size : Int)
   rotate_left
   ·
    rw [if_neg c4] at H
    exact absurd H (by simp)
   rw [if_pos c4] at H
   have c4b0 : decide (x7_1 < (a0.size : Int)) = true := decide_eq_true c4
   clear c4
   have H' := Ah H
   clear H
   have p5 : 0 ≤ (x7_1 : Int) := od
   have q5 : x7_1 < (a0.size : Int) := od
   have hx5 := bt_at a0 x7_1
   replace p5 := eq_true p5
   replace q5 := eq_true q5
   go_wp2
   go_roundg k1
   case measure => have := HK1.out; omega
   case rel => exact ⟨(Int.tmod (wrap64 ((wrap64 (31 * x3_1)) + (wrap64 (bt a0 x7_1)))) 65536), (wrap64 (x7_1 + 1)), e3, e3, H', ⟨by have := HK1.out; omega⟩, by repeat (first | exact Drawn0.refl _ | apply Drawn0.step)⟩

/-! ### impl_Dir_slotOf: function 40 -/
def impl_Dir_slotOf.f (k : Nat) (a0_0 : Int) (l0_1 : List Int) (l0_2 : List (S43)) (a1 : ByteArray) : Option (Int) := (impl_NameHash.f k a1).bind fun t234 => (if (l0_1.length : Int) = 0 then (none) else (some (Int.tmod t234 (l0_1.length : Int))))
theorem impl_Dir_slotOf.mono : ∀ a0 a1 a2 a3 k, LeO (impl_Dir_slotOf.f k a0 a1 a2 a3) (impl_Dir_slotOf.f (k + 1) a0 a1 a2 a3) := by
 intro a0 a1 a2 a3 k
 unfold impl_Dir_slotOf.f
 repeat' first
   | (with_reducible exact impl_NameHash.mono _ _)
   | (with_reducible exact LeO.refl _)
   | (with_reducible exact LeO.none _)
   | (with_reducible refine LeO.ite ?_ ?_)
   | (with_reducible refine LeO.bind ?_ (fun _ => ?_))
   | exact impl_NameHash.mono _ _
   | exact LeO.none _
   | refine LeO.ite ?_ ?_
   | refine LeO.bind ?_ (fun _ => ?_)
set_option maxHeartbeats 8000000 in
set_option maxRecDepth 100000 in
theorem impl_Dir_slotOf.calls (k : Nat) (a0_0 : Int) (A0_1 : Option Addr) (c0_1 : Nat) (l0_1 : List Int) (A0_2 : Option Addr) (c0_2 : Nat) (l0_2 : List (S43)) (a1 : ByteArray) (r : Int) (w : World) (hr0_1 : Kd.C (Kd.int .i64) w A0_1 l0_1.length l0_1) (hc0_1 : l0_1.length ≤ c0_1) (hr0_2 : Kd.C k43 w A0_2 l0_2.length l0_2) (hc0_2 : l0_2.length ≤ c0_2) (h : impl_Dir_slotOf.f k a0_0 l0_1 l0_2 a1 = some r) :
  Calls Tryd.prog 40 #[.agg #[.int .i64 a0_0, .slice A0_1 l0_1.length c0_1, .slice A0_2 l0_2.length c0_2], .string a1] w fun e w' => e = .returned (.int .i64 r) ∧ Below w.heap.size w w' := by
 have hu32 := Tryd.underlying32
 have HR0_1 := Ah hr0_1
 have HC0_1 := Ah hc0_1
 clear hr0_1 hc0_1
 have HR0_2 := Ah hr0_2
 have HC0_2 := Ah hc0_2
 clear hr0_2 hc0_2
 have HB := Ah (Below.refl w.heap.size w)
 have H : ((impl_NameHash.f k a1).bind fun t234 => (if (l0_1.length : Int) = 0 then (none) else (some (Int.tmod t234 (l0_1.length : Int))))) = some r := h
 clear h
 replace H := Option.bind_eq_some_iff.mp H
 obtain ⟨t234, A30, H⟩ := H
 try dsimp only at H
 have A3 := Ah A30
 clear A30
 by_cases c4 : (l0_1.length : Int) = 0
 ·
  rw [if_pos c4] at H
  exact absurd H (by simp)
 rw [if_neg c4] at H
 have c4b0 : ((l0_1.length : Int) == 0) = false := beq_eq_false_iff_ne.mpr c4
 have c4b1 : ((l0_1.length : Int) != 0) = true := bne_iff_ne.mpr c4
 have c4b2 : ¬ (l0_1 = []) := fun h_ => c4 (by rw [h_]; rfl)
 obtain rfl := Option.some.inj H
 go_enter Tryd.func40, Tryd.ntmps40
 go_wp2_with (first | ((with_reducible refine gate_dst (N := 2) rfl ?_); refine boxL 2 32 #[.int .i64 a0_0, .slice A0_1 l0_1.length c0_1, .slice A0_2 l0_2.length c0_2] ?_; intro gb233 hg w5 BK233 hb; have GW233 := gw hg (bs HB); have GE233 := gw hg (bs HB); replace HB := Ah (below_step (bs HB) hb); clear hb hg) | (go_at_call 48; (with_reducible refine (impl_NameHash.calls k a1 t234 _ A3.out).mono ?_); rintro e w' ⟨rfl, ⟨nd, rfl⟩⟩; (try first | exact ⟨rfl, _, World.drewN_drewN _ _ _⟩ | exact ⟨rfl, _, Eq.trans (World.drewN_drewN _ _ _) (congrArg (World.drewN _) (Nat.add_assoc _ _ _))⟩); obtain ⟨hcz6_0, hcz6_1, hcz6_2⟩ := cz3 BK233; obtain ⟨hfz6_0, hfz6_1, hfz6_2⟩ := fz3 BK233))
 repeat (go_quiet (first | ((with_reducible refine gate_dst (N := 2) rfl ?_); refine boxL 2 32 #[.int .i64 a0_0, .slice A0_1 l0_1.length c0_1, .slice A0_2 l0_2.length c0_2] ?_; intro gb233 hg w5 BK233 hb; have GW233 := gw hg (bs HB); have GE233 := gw hg (bs HB); replace HB := Ah (below_step (bs HB) hb); clear hb hg) | (go_at_call 48; (with_reducible refine (impl_NameHash.calls k a1 t234 _ A3.out).mono ?_); rintro e w' ⟨rfl, ⟨nd, rfl⟩⟩; (try first | exact ⟨rfl, _, World.drewN_drewN _ _ _⟩ | exact ⟨rfl, _, Eq.trans (World.drewN_drewN _ _ _) (congrArg (World.drewN _) (Nat.add_assoc _ _ _))⟩); obtain ⟨hcz6_0, hcz6_1, hcz6_2⟩ := cz3 BK233; obtain ⟨hfz6_0, hfz6_1, hfz6_2⟩ := fz3 BK233)); try go_wp2_with (first | ((with_reducible refine gate_dst (N := 2) rfl ?_); refine boxL 2 32 #[.int .i64 a0_0, .slice A0_1 l0_1.length c0_1, .slice A0_2 l0_2.length c0_2] ?_; intro gb233 hg w5 BK233 hb; have GW233 := gw hg (bs HB); have GE233 := gw hg (bs HB); replace HB := Ah (below_step (bs HB) hb); clear hb hg) | (go_at_call 48; (with_reducible refine (impl_NameHash.calls k a1 t234 _ A3.out).mono ?_); rintro e w' ⟨rfl, ⟨nd, rfl⟩⟩; (try first | exact ⟨rfl, _, World.drewN_drewN _ _ _⟩ | exact ⟨rfl, _, Eq.trans (World.drewN_drewN _ _ _) (congrArg (World.drewN _) (Nat.add_assoc _ _ _))⟩); obtain ⟨hcz6_0, hcz6_1, hcz6_2⟩ := cz3 BK233; obtain ⟨hfz6_0, hfz6_1, hfz6_2⟩ := fz3 BK233)))
 go_ret
 exact ⟨er, bs1 HB GE233⟩

/-! ### impl_GoodDir: function 19 -/
mutual
def impl_GoodDir.j0 : Nat → Bool → Int → List Int → List (S43) → Option (Bool)
 | 0, _, _, _, _ => none
 | k + 1, x23, x236000, x236001, x236002 => if x23 = true then (some false) else (impl_GoodDir.l0 k 0 x236001 (x236001.length : Int) 0 x236000 x236001 x236002)
def impl_GoodDir.l0 : Nat → Int → List Int → Int → Int → Int → List Int → List (S43) → Option (Bool)
 | 0, _, _, _, _, _, _, _ => none
 | k + 1, x3, x25, x26, x27, x236000, x236001, x236002 => if x27 < x26 then (if 0 ≤ x27 then (if x27 < (x25.length : Int) then ((impl_within.f (rd x25 x27) 0 (mn x3 (wrap64 ((x236002.length : Int) - 1)))).bind fun t238 => (if t238 = true then (if (rd x25 x27) = x3 then (impl_GoodDir.j2 k (wrap64 (x3 + 1)) x27 (rd x25 x27) x25 x26 x27 x236000 x236001 x236002) else (impl_GoodDir.j2 k x3 x27 (rd x25 x27) x25 x26 x27 x236000 x236001 x236002)) else (some false))) else (none)) else (none)) else (if x3 = (x236002.length : Int) then ((impl_Dir_areAgreed.f k x236000 x236001 x236002).bind fun t243 => (impl_GoodDir.j3 k (!t243) x236000 x236001 x236002)) else (impl_GoodDir.j3 k true x236000 x236001 x236002))
def impl_GoodDir.j2 : Nat → Int → Int → Int → List Int → Int → Int → Int → List Int → List (S43) → Option (Bool)
 | 0, _, _, _, _, _, _, _, _, _ => none
 | k + 1, x3, x4, x5, x25, x26, x27, x236000, x236001, x236002 => if 0 ≤ x5 then (if x5 < (x236002.length : Int) then ((impl_isGoodBucket.f k ((rd_T43 x236002 x5).f0) ((rd_T43 x236002 x5).f1) x236000).bind fun t240 => (if t240 = true then (if 0 ≤ ((rd_T43 x236002 x5).f0) then (if (shl .i64 1 ((rd_T43 x236002 x5).f0)) = 0 then (none) else ((slices_Index_int_int.f k x236001 x5).bind fun t242 => (if t242 = (Int.tmod x4 (shl .i64 1 ((rd_T43 x236002 x5).f0))) then (impl_GoodDir.l0 k x3 x25 x26 (wrap64 (x27 + 1)) x236000 x236001 x236002) else (some false)))) else (none)) else (some false))) else (none)) else (none)
def impl_GoodDir.j3 : Nat → Bool → Int → List Int → List (S43) → Option (Bool)
 | 0, _, _, _, _ => none
 | k + 1, x80, x236000, x236001, x236002 => if x80 = true then (some false) else (impl_GoodDir.l1 k x236002 (x236002.length : Int) 0 x236000 x236001 x236002)
def impl_GoodDir.l1 : Nat → List (S43) → Int → Int → Int → List Int → List (S43) → Option (Bool)
 | 0, _, _, _, _, _, _ => none
 | k + 1, x82, x83, x84, x236000, x236001, x236002 => if x84 < x83 then (if 0 ≤ x84 then (if x84 < (x82.length : Int) then (impl_GoodDir.l2 k x84 x82 x83 x84 ((rd_T43 x82 x84).f1) (((rd_T43 x82 x84).f1).length : Int) 0 x236000 x236001 x236002) else (none)) else (none)) else (some true)
def impl_GoodDir.l2 : Nat → Int → List (S43) → Int → Int → List (S45) → Int → Int → Int → List Int → List (S43) → Option (Bool)
 | 0, _, _, _, _, _, _, _, _, _, _ => none
 | k + 1, x7, x82, x83, x84, x90, x91, x92, x236000, x236001, x236002 => if x92 < x91 then (if 0 ≤ x92 then (if x92 < (x90.length : Int) then ((impl_Dir_slotOf.f k x236000 x236001 x236002 ((rd_T45 x90 x92).f0)).bind fun t248 => (if 0 ≤ t248 then (if t248 < (x236001.length : Int) then (if (rd x236001 t248) = x7 then (impl_GoodDir.l2 k x7 x82 x83 x84 x90 x91 (wrap64 (x92 + 1)) x236000 x236001 x236002) else (some false)) else (none)) else (none))) else (none)) else (none)) else (impl_GoodDir.l1 k x82 x83 (wrap64 (x84 + 1)) x236000 x236001 x236002)
end
def impl_GoodDir.f (k : Nat) (a0_0 : Int) (l0_1 : List Int) (l0_2 : List (S43)) : Option (Bool) := (impl_within.f a0_0 0 8).bind fun t236 => (if t236 = true then (if 0 ≤ a0_0 then (impl_GoodDir.j0 k ((l0_1.length : Int) != (shl .i64 1 a0_0)) a0_0 l0_1 l0_2) else (none)) else (impl_GoodDir.j0 k true a0_0 l0_1 l0_2))
theorem impl_GoodDir.mono_l : ∀ k, (∀ y0 y1 y2 y3, LeO (impl_GoodDir.j0 k y0 y1 y2 y3) (impl_GoodDir.j0 (k + 1) y0 y1 y2 y3)) ∧ (∀ y0 y1 y2 y3 y4 y5 y6, LeO (impl_GoodDir.l0 k y0 y1 y2 y3 y4 y5 y6) (impl_GoodDir.l0 (k + 1) y0 y1 y2 y3 y4 y5 y6)) ∧ (∀ y0 y1 y2 y3 y4 y5 y6 y7 y8, LeO (impl_GoodDir.j2 k y0 y1 y2 y3 y4 y5 y6 y7 y8) (impl_GoodDir.j2 (k + 1) y0 y1 y2 y3 y4 y5 y6 y7 y8)) ∧ (∀ y0 y1 y2 y3, LeO (impl_GoodDir.j3 k y0 y1 y2 y3) (impl_GoodDir.j3 (k + 1) y0 y1 y2 y3)) ∧ (∀ y0 y1 y2 y3 y4 y5, LeO (impl_GoodDir.l1 k y0 y1 y2 y3 y4 y5) (impl_GoodDir.l1 (k + 1) y0 y1 y2 y3 y4 y5)) ∧ (∀ y0 y1 y2 y3 y4 y5 y6 y7 y8 y9, LeO (impl_GoodDir.l2 k y0 y1 y2 y3 y4 y5 y6 y7 y8 y9) (impl_GoodDir.l2 (k + 1) y0 y1 y2 y3 y4 y5 y6 y7 y8 y9))
 | 0 => ⟨fun _ _ _ _ r h => by simp [impl_GoodDir.j0] at h, fun _ _ _ _ _ _ _ r h => by simp [impl_GoodDir.l0] at h, fun _ _ _ _ _ _ _ _ _ r h => by simp [impl_GoodDir.j2] at h, fun _ _ _ _ r h => by simp [impl_GoodDir.j3] at h, fun _ _ _ _ _ _ r h => by simp [impl_GoodDir.l1] at h, fun _ _ _ _ _ _ _ _ _ _ r h => by simp [impl_GoodDir.l2] at h⟩
 | k + 1 => by
  obtain ⟨ih0, ih1, ih2, ih3, ih4, ih5⟩ := impl_GoodDir.mono_l k
  refine ⟨?_, ?_, ?_, ?_, ?_, ?_⟩ <;> intros <;> first | unfold impl_GoodDir.j0 | unfold impl_GoodDir.l0 | unfold impl_GoodDir.j2 | unfold impl_GoodDir.j3 | unfold impl_GoodDir.l1 | unfold impl_GoodDir.l2
  all_goals repeat' first
   | (with_reducible exact ih0 _ _ _ _)
   | (with_reducible exact ih1 _ _ _ _ _ _ _)
   | (with_reducible exact ih2 _ _ _ _ _ _ _ _ _)
   | (with_reducible exact ih3 _ _ _ _)
   | (with_reducible exact ih4 _ _ _ _ _ _)
   | (with_reducible exact ih5 _ _ _ _ _ _ _ _ _ _)
   | (with_reducible exact impl_Dir_areAgreed.mono _ _ _ _)
   | (with_reducible exact impl_Dir_slotOf.mono _ _ _ _ _)
   | (with_reducible exact impl_isGoodBucket.mono _ _ _ _)
   | (with_reducible exact slices_Index_int_int.mono _ _ _)
   | (with_reducible exact LeO.refl _)
   | (with_reducible exact LeO.none _)
   | (with_reducible refine LeO.ite ?_ ?_)
   | (with_reducible refine LeO.bind ?_ (fun _ => ?_))
   | exact ih0 _ _ _ _
   | exact ih1 _ _ _ _ _ _ _
   | exact ih2 _ _ _ _ _ _ _ _ _
   | exact ih3 _ _ _ _
   | exact ih4 _ _ _ _ _ _
   | exact ih5 _ _ _ _ _ _ _ _ _ _
   | exact impl_Dir_areAgreed.mono _ _ _ _
   | exact impl_Dir_slotOf.mono _ _ _ _ _
   | exact impl_isGoodBucket.mono _ _ _ _
   | exact slices_Index_int_int.mono _ _ _
   | exact LeO.none _
   | refine LeO.ite ?_ ?_
   | refine LeO.bind ?_ (fun _ => ?_)
theorem impl_GoodDir.mono : ∀ a0 a1 a2 k, LeO (impl_GoodDir.f k a0 a1 a2) (impl_GoodDir.f (k + 1) a0 a1 a2) := by
 intro a0 a1 a2 k
 obtain ⟨ih0, ih1, ih2, ih3, ih4, ih5⟩ := impl_GoodDir.mono_l k
 unfold impl_GoodDir.f
 repeat' first
   | (with_reducible exact ih0 _ _ _ _)
   | (with_reducible exact ih1 _ _ _ _ _ _ _)
   | (with_reducible exact ih2 _ _ _ _ _ _ _ _ _)
   | (with_reducible exact ih3 _ _ _ _)
   | (with_reducible exact ih4 _ _ _ _ _ _)
   | (with_reducible exact ih5 _ _ _ _ _ _ _ _ _ _)
   | (with_reducible exact impl_Dir_areAgreed.mono _ _ _ _)
   | (with_reducible exact impl_Dir_slotOf.mono _ _ _ _ _)
   | (with_reducible exact impl_isGoodBucket.mono _ _ _ _)
   | (with_reducible exact slices_Index_int_int.mono _ _ _)
   | (with_reducible exact LeO.refl _)
   | (with_reducible exact LeO.none _)
   | (with_reducible refine LeO.ite ?_ ?_)
   | (with_reducible refine LeO.bind ?_ (fun _ => ?_))
   | exact ih0 _ _ _ _
   | exact ih1 _ _ _ _ _ _ _
   | exact ih2 _ _ _ _ _ _ _ _ _
   | exact ih3 _ _ _ _
   | exact ih4 _ _ _ _ _ _
   | exact ih5 _ _ _ _ _ _ _ _ _ _
   | exact impl_Dir_areAgreed.mono _ _ _ _
   | exact impl_Dir_slotOf.mono _ _ _ _ _
   | exact impl_isGoodBucket.mono _ _ _ _
   | exact slices_Index_int_int.mono _ _ _
   | exact LeO.none _
   | refine LeO.ite ?_ ?_
   | refine LeO.bind ?_ (fun _ => ?_)
def impl_GoodDir.T1 : Bool × List (List Nat × List Nat) := (true, [([], []), ([0], [0]), ([1], [1]), ([2], [2]), ([3, 2], [3]), ([4], [4]), ([5, 4], [4, 5]), ([6, 4], [4, 6]), ([4], [4]), ([8, 4], [4, 8]), ([9, 4], [4, 9]), ([7, 10, 4], [4, 7, 10]), ([4, 11], [4, 11])])
def impl_GoodDir.B1 : List Nat := [0, 1, 3, 7, 15, 31, 63, 127, 31, 287, 799, 2047, 4095]
theorem impl_GoodDir.tab1 : rtab .any (opsOf Tryd.f19 1) = impl_GoodDir.T1 := by kernel_rfl
theorem impl_GoodDir.bits1 : waitsOk impl_GoodDir.T1.2 impl_GoodDir.B1 = true := by kernel_rfl
def impl_GoodDir.T11 : Bool × List (List Nat × List Nat) := (true, [([], []), ([0], [0]), ([], []), ([1, 2], [1, 2]), ([3], [3]), ([], []), ([5], [5]), ([4, 6], [4, 6]), ([7], [7])])
def impl_GoodDir.B11 : List Nat := [0, 1, 0, 7, 15, 0, 32, 127, 255]
theorem impl_GoodDir.tab11 : rtab .any (opsOf Tryd.f19 11) = impl_GoodDir.T11 := by kernel_rfl
theorem impl_GoodDir.bits11 : waitsOk impl_GoodDir.T11.2 impl_GoodDir.B11 = true := by kernel_rfl
def impl_GoodDir.T25 : Bool × List (List Nat × List Nat) := (true, [([], []), ([0], [0]), ([], []), ([], []), ([3], [3]), ([2, 4], [2, 4]), ([1, 5], [1, 5]), ([6], [6]), ([], []), ([7, 8], [7, 8])])
def impl_GoodDir.B25 : List Nat := [0, 1, 0, 0, 8, 28, 63, 127, 0, 511]
theorem impl_GoodDir.tab25 : rtab .any (opsOf Tryd.f19 25) = impl_GoodDir.T25 := by kernel_rfl
theorem impl_GoodDir.bits25 : waitsOk impl_GoodDir.T25.2 impl_GoodDir.B25 = true := by kernel_rfl
set_option maxHeartbeats 8000000 in
set_option maxRecDepth 100000 in
theorem impl_GoodDir.calls (k : Nat) (a0_0 : Int) (A0_1 : Option Addr) (c0_1 : Nat) (l0_1 : List Int) (A0_2 : Option Addr) (c0_2 : Nat) (l0_2 : List (S43)) (r : Bool) (w : World) (hr0_1 : Kd.C (Kd.int .i64) w A0_1 l0_1.length l0_1) (hc0_1 : l0_1.length ≤ c0_1) (hr0_2 : Kd.C k43 w A0_2 l0_2.length l0_2) (hc0_2 : l0_2.length ≤ c0_2) (h : impl_GoodDir.f k a0_0 l0_1 l0_2 = some r) :
  Calls Tryd.prog 19 #[.agg #[.int .i64 a0_0, .slice A0_1 l0_1.length c0_1, .slice A0_2 l0_2.length c0_2]] w fun e w' => e = .returned (.bool r) ∧ Below w.heap.size w w' := by
 have hu32 := Tryd.underlying32
 have hu43 := Tryd.underlying43
 have hu45 := Tryd.underlying45
 have HR0_1 := Ah hr0_1
 have HC0_1 := Ah hc0_1
 clear hr0_1 hc0_1
 have HR0_2 := Ah hr0_2
 have HC0_2 := Ah hc0_2
 clear hr0_2 hc0_2
 have HB := Ah (Below.refl w.heap.size w)
 have H : ((impl_within.f a0_0 0 8).bind fun t236 => (if t236 = true then (if 0 ≤ a0_0 then (impl_GoodDir.j0 k ((l0_1.length : Int) != (shl .i64 1 a0_0)) a0_0 l0_1 l0_2) else (none)) else (impl_GoodDir.j0 k true a0_0 l0_1 l0_2))) = some r := h
 clear h
 have HC2 := Ah H
 clear H
 go_enter Tryd.func19, Tryd.ntmps19
 go_upto_region 1 with (first | ((with_reducible refine gate_dst (N := 1) rfl ?_); (try (refine gate_guard (by rfl) ?_; dsimp only)); refine boxL 1 32 #[.int .i64 a0_0, .slice A0_1 l0_1.length c0_1, .slice A0_2 l0_2.length c0_2] ?_; intro gb235 hg w3 BK235 hb; have GW235 := gw hg (bs HB); have GE235 := gw hg (bs HB); replace HB := Ah (below_step (bs HB) hb); clear hb hg))
 (try simp only [Act.put, List.setIfInBounds_toArray, List.set_cons_zero, List.set_cons_succ])
 go_cut [23] (fun v23 wc => ∃ (kq : Nat) (x23_1 : Bool), v23 = .bool x23_1 ∧ Aside0 (impl_GoodDir.j0 kq x23_1 a0_0 l0_1 l0_2 = some r) ∧ Aside0 (kq ≤ k) ∧ Aside0 (wc.heap[gb235]? = some (.cells #[.int .i64 a0_0, (.slice A0_1 l0_1.length c0_1), (.slice A0_2 l0_2.length c0_2)] 32 (0, 0))) ∧ Aside0 (Below w.heap.size w wc))
 case first =>
  have H := HC2.out
  clear HC2
  replace H := Option.bind_eq_some_iff.mp H
  obtain ⟨t236, A40, H⟩ := H
  try dsimp only at H
  have A4 := Ah A40
  clear A40
  by_cases c5 : t236 = true
  rotate_left
  ·
   replace c5 := Bool.eq_false_iff.mpr c5
   subst c5
   rw [if_neg fne] at H
   have H' := Ah H
   clear H
   try go_wp2
   have n0_ := Ah (blk_drew BK235.out)
   have n1_ := Ah (below_drew1 HB.out)
   clear BK235 HB
   have BK235 := n0_
   have HB := n1_
   clear n0_ n1_
   refine start_ (n := 13) (S := fun w' => w'.cell? ⟨gb235, 0, none⟩ = some (.int .i64 a0_0) ∧ w'.cell? ⟨gb235, 1, none⟩ = some (.slice A0_1 l0_1.length c0_1) ∧ w'.cell? ⟨gb235, 2, none⟩ = some (.slice A0_2 l0_2.length c0_2)) (ds := []) #[false, false, false, false, false, false, false, false, false, false, false, false, false] (by kernel_rfl) rfl rfl ⟨(blk_cell BK235.out 0).trans rfl, (blk_cell BK235.out 1).trans rfl, (blk_cell BK235.out 2).trans rfl⟩ (fun hHeld => ?_); refine with_tabW impl_GoodDir.tab1 impl_GoodDir.bits1 (fun HT_ HW_ => ?_)
   generalize w3.drew = w9 at BK235 HB hHeld ⊢
   refine pureS 0 11 HT_.out ?_
   refine takeS 1 12 HT_.out HW_.out hHeld (hr := by rintro w' ⟨s0, s1, s2⟩; go_simp; with_reducible rfl) (h := ?_)
   refine one_ (i := 2) (N := some 13) #[true, true, true, false, false, false, false, false, false, false, false, false, false] rfl rfl (one_of HT_.out (by kernel_rfl)) (by decide) (fun K hK => ?_)
   refine goes_ Tryd.func36 (by kernel_rfl) rfl #[.int .i64 a0_0, .int .i64 0, .int .i64 8] (by rfl) rfl rfl (by (try simp only [List.map_toArray, List.map_cons, List.map_nil]); first | done | rfl | (simp only [List.length_drop, List.length_take]; rfl)) ?_
   with_reducible refine (impl_within.calls a0_0 0 8 false _ A4.out).mono ?_
   rintro e w' ⟨rfl, ⟨nd, rfl⟩⟩
   refine ⟨_, rfl, ?_⟩
   refine hK.out _ _ ⟨(blk_cell BK235.out 0).trans rfl, (blk_cell BK235.out 1).trans rfl, (blk_cell BK235.out 2).trans rfl⟩ (fun hHeld => ?_)
   clear hK K
   refine norm_ (a' := ?_) ?_ ?_
   rotate_left
   ·
    show Act.put _ (some 13) _ = _
    simp only [Act.put, List.setIfInBounds_toArray, List.set_cons_zero, List.set_cons_succ, i64_w, i32_w]
    rfl
   refine pureS 3 14 HT_.out ?_
   refine pureS 4 15 HT_.out ?_
   refine pureU 5 16 HT_.out ?_
   refine pureU 6 17 HT_.out ?_
   refine pureU 7 18 HT_.out ?_
   refine pureU 8 19 HT_.out ?_
   refine pureU 9 20 HT_.out ?_
   refine pureU 10 21 HT_.out ?_
   refine pureU 11 22 HT_.out ?_
   refine pureS 12 23 HT_.out ?_
   refine done_ (done_of HT_.out (by kernel_rfl)) ?_
   try go_wp2
   go_meet
   case rel => exact ⟨_, (true), e3, H', ⟨by first | omega | exact Nat.le_refl _⟩, ⟨bk BK235⟩, ⟨bs1 HB GE235⟩⟩
  subst c5
  rw [if_pos rfl] at H
  by_cases c6 : 0 ≤ a0_0
  rotate_left
  ·
   rw [if_neg c6] at H
   exact absurd H (by simp)
  rw [if_pos c6] at H
  have c6b0 := eq_true c6
  have c6b1 : decide (0 ≤ a0_0) = true := decide_eq_true c6
  clear c6
  obtain ⟨ji7, hji7⟩ : ∃ j_ : Int, (shl .i64 1 a0_0) = j_ := ⟨_, rfl⟩
  replace H : (impl_GoodDir.j0 k ((l0_1.length : Int) != (ji7)) a0_0 l0_1 l0_2) = some r := by first | (rw [hji7] at H; exact H) | (simp only [hji7] at H ⊢; exact H)
  (try rw [hji7] at A4)
  have hji7_ : (IntKind.i64.wrap (1 * 2 ^ min a0_0.toNat 64)) = ji7 := hji7
  have hji7z : a0_0 ≤ 64 → (IntKind.i64.wrap (1 * 2 ^ a0_0.toNat)) = ji7 := shl_small hji7
  have hji7u : (IntKind.i64.wrap (2 ^ min a0_0.toNat 64)) = ji7 := by have h_ := hji7_; rw [Int.one_mul] at h_; exact h_
  have hji7v : a0_0 ≤ 64 → (IntKind.i64.wrap (2 ^ a0_0.toNat)) = ji7 := fun hle_ => by have h_ := hji7z hle_; rw [Int.one_mul] at h_; exact h_
  have hji7y : (wrap64 (1 * 2 ^ min a0_0.toNat 64)) = ji7 := (i64_w _).symm.trans hji7_
  have hji7x : a0_0 ≤ 64 → (wrap64 (1 * 2 ^ a0_0.toNat)) = ji7 := fun h_ => (i64_w _).symm.trans (hji7z h_)
  have H' := Ah H
  clear H
  try go_wp2
  have n0_ := Ah (blk_drew BK235.out)
  have n1_ := Ah (below_drew1 HB.out)
  clear BK235 HB
  have BK235 := n0_
  have HB := n1_
  clear n0_ n1_
  refine start_ (n := 13) (S := fun w' => w'.cell? ⟨gb235, 0, none⟩ = some (.int .i64 a0_0) ∧ w'.cell? ⟨gb235, 1, none⟩ = some (.slice A0_1 l0_1.length c0_1) ∧ w'.cell? ⟨gb235, 2, none⟩ = some (.slice A0_2 l0_2.length c0_2)) (ds := []) #[false, false, false, false, false, false, false, false, false, false, false, false, false] (by kernel_rfl) rfl rfl ⟨(blk_cell BK235.out 0).trans rfl, (blk_cell BK235.out 1).trans rfl, (blk_cell BK235.out 2).trans rfl⟩ (fun hHeld => ?_); refine with_tabW impl_GoodDir.tab1 impl_GoodDir.bits1 (fun HT_ HW_ => ?_)
  generalize w3.drew = w8 at BK235 HB hHeld ⊢
  refine pureS 0 11 HT_.out ?_
  refine takeS 1 12 HT_.out HW_.out hHeld (hr := by rintro w' ⟨s0, s1, s2⟩; go_simp; with_reducible rfl) (h := ?_)
  refine one_ (i := 2) (N := some 13) #[true, true, true, false, false, false, false, false, false, false, false, false, false] rfl rfl (one_of HT_.out (by kernel_rfl)) (by decide) (fun K hK => ?_)
  refine goes_ Tryd.func36 (by kernel_rfl) rfl #[.int .i64 a0_0, .int .i64 0, .int .i64 8] (by rfl) rfl rfl (by (try simp only [List.map_toArray, List.map_cons, List.map_nil]); first | done | rfl | (simp only [List.length_drop, List.length_take]; rfl)) ?_
  with_reducible refine (impl_within.calls a0_0 0 8 true _ A4.out).mono ?_
  rintro e w' ⟨rfl, ⟨nd, rfl⟩⟩
  refine ⟨_, rfl, ?_⟩
  refine hK.out _ _ ⟨(blk_cell BK235.out 0).trans rfl, (blk_cell BK235.out 1).trans rfl, (blk_cell BK235.out 2).trans rfl⟩ (fun hHeld => ?_)
  clear hK K
  refine norm_ (a' := ?_) ?_ ?_
  rotate_left
  ·
   show Act.put _ (some 13) _ = _
   simp only [Act.put, List.setIfInBounds_toArray, List.set_cons_zero, List.set_cons_succ, i64_w, i32_w]
   rfl
  refine pureS 3 14 HT_.out ?_
  refine pureS 4 15 HT_.out ?_
  refine pureS 5 16 HT_.out ?_
  refine pureS 8 19 HT_.out ?_
  refine takeS 6 17 HT_.out HW_.out hHeld (hr := by rintro w' ⟨s0, s1, s2⟩; go_simp; with_reducible rfl) (h := ?_)
  refine pureS 7 18 HT_.out ?_
  refine takeS 9 20 HT_.out HW_.out hHeld (hr := by rintro w' ⟨s0, s1, s2⟩; go_simp; with_reducible rfl) (h := ?_)
  refine pureS 10 21 HT_.out ?_
  refine pureS 11 22 HT_.out ?_
  refine pureS 12 23 HT_.out ?_
  refine done_ (done_of HT_.out (by kernel_rfl)) ?_
  try go_wp2
  go_meet
  case rel => exact ⟨_, (((l0_1.length : Int) != (ji7))), (by first | rfl | (simp; done) | (simp only [← hji7] <;> (first | rfl | simp)) | (simp [*]; done)), H', ⟨by first | omega | exact Nat.le_refl _⟩, ⟨bk BK235⟩, ⟨bs1 HB GE235⟩⟩
 case rest =>
  clear HC2
  try clear c1
  try clear p2
  try clear c3
  try clear c5
  try clear c6
  try clear c6b0
  try clear c6b1
  try clear p6
  obtain ⟨kq, x23_1, rfl, HA, HJ1, BK235, HB⟩ := hcut
  cases kq with
  | zero => exact absurd HA.out (by simp [impl_GoodDir.j0])
  | succ kj1 =>
   have H := HA.out
   clear HA
   simp only [impl_GoodDir.j0] at H
   by_cases c10 : x23_1 = true
   ·
    subst c10
    rw [if_pos rfl] at H
    obtain rfl := Option.some.inj H
    go_wp2
    go_ret
    exact ⟨er, bs1 HB GE235⟩
   replace c10 := Bool.eq_false_iff.mpr c10
   subst c10
   rw [if_neg fne] at H
   have H' := Ah H
   clear H
   obtain ⟨hcz11_0, hcz11_1, hcz11_2⟩ := cz3 BK235
   obtain ⟨hfz11_0, hfz11_1, hfz11_2⟩ := fz3 BK235
   go_wp2
   go_loopg [3, 27] kj1 (fun kq v3 v27 w' => ∃ (x3_2 : Int) (x27_2 : Int), v3 = .int .i64 x3_2 ∧ v27 = .int .i64 x27_2 ∧ Aside0 (impl_GoodDir.l0 kq x3_2 l0_1 (l0_1.length : Int) x27_2 a0_0 l0_1 l0_2 = some r) ∧ Aside0 (kq ≤ kj1) ∧ Aside0 (w'.heap[gb235]? = some (.cells #[.int .i64 a0_0, (.slice A0_1 l0_1.length c0_1), (.slice A0_2 l0_2.length c0_2)] 32 (0, 0))) ∧ Aside0 (Below w.heap.size w w'))
   case atStart => exact ⟨(0), (0), e3, e3, H', ⟨Nat.le_refl _⟩, ⟨bk BK235⟩, ⟨bs1 HB GE235⟩⟩
   case round =>
    clear H'
    try clear c1
    try clear p2
    try clear c3
    try clear c5
    try clear c6
    try clear c6b0
    try clear c6b1
    try clear p6
    try clear c10
    try clear hcz11_0 hcz11_1 hcz11_2
    try clear hfz11_0 hfz11_1 hfz11_2
    try clear p2
    try clear p6
    obtain ⟨x3_2, x27_2, rfl, rfl, HA, HK2, BK235, HB⟩ := hrel
    cases gk with
    | zero => exact absurd HA.out (by simp [impl_GoodDir.l0])
    | succ k2 =>
     have H := HA.out
     clear HA
     simp only [impl_GoodDir.l0] at H
     by_cases c12 : x27_2 < (l0_1.length : Int)
     ·
      rw [if_pos c12] at H
      have c12b0 : decide (x27_2 < (l0_1.length : Int)) = true := decide_eq_true c12
      clear c12
      by_cases c13 : 0 ≤ x27_2
      rotate_left
      ·
       rw [if_neg c13] at H
       exact absurd H (by simp)
      rw [if_pos c13] at H
      have c13b0 : decide (0 ≤ x27_2) = true := decide_eq_true c13
      clear c13
      by_cases c14 : x27_2 < (l0_1.length : Int)
      rotate_left
      ·
       rw [if_neg c14] at H
       exact absurd H (by simp)
      rw [if_pos c14] at H
      have c14b0 : decide (x27_2 < (l0_1.length : Int)) = true := decide_eq_true c14
      clear c14
      obtain ⟨ji15, hji15⟩ : ∃ j_ : Int, (mn x3_2 (wrap64 ((l0_2.length : Int) - 1))) = j_ := ⟨_, rfl⟩
      replace H : ((impl_within.f (rd l0_1 x27_2) 0 (ji15)).bind fun t238 => (if t238 = true then (if (rd l0_1 x27_2) = x3_2 then (impl_GoodDir.j2 k2 (wrap64 (x3_2 + 1)) x27_2 (rd l0_1 x27_2) l0_1 (l0_1.length : Int) x27_2 a0_0 l0_1 l0_2) else (impl_GoodDir.j2 k2 x3_2 x27_2 (rd l0_1 x27_2) l0_1 (l0_1.length : Int) x27_2 a0_0 l0_1 l0_2)) else (some false))) = some r := by first | (rw [hji15] at H; exact H) | (simp only [hji15] at H ⊢; exact H)
      have hji15_ : (if (wrap64 ((l0_2.length : Int) - 1)) < x3_2 then (wrap64 ((l0_2.length : Int) - 1)) else x3_2) = ji15 := hji15
      replace H := Option.bind_eq_some_iff.mp H
      obtain ⟨t238, A160, H⟩ := H
      try dsimp only at H
      have A16 := Ah A160
      clear A160
      by_cases c17 : t238 = true
      rotate_left
      ·
       replace c17 := Bool.eq_false_iff.mpr c17
       subst c17
       rw [if_neg fne] at H
       obtain rfl := Option.some.inj H
       have p237 : 0 ≤ (x27_2 : Int) := od
       have q237 : x27_2 < (l0_1.length : Int) := od
       obtain ⟨ad237, e237, hx237_0⟩ := Kd.at_int HR0_1.out x27_2 p237 q237
       cases e237
       replace hx237_0 := (HB.out.cell (World.block_lt_of_cell? w _ hx237_0)).trans hx237_0
       replace p237 := eq_true p237
       replace q237 := eq_true q237
       obtain ⟨hcz38_0, hcz38_1, hcz38_2⟩ := cz3 BK235
       obtain ⟨hfz38_0, hfz38_1, hfz38_2⟩ := fz3 BK235
       go_wp2_with (first | ((with_reducible refine gate_callee (f := 36) rfl ?_); refine goesL_ (some 39) rfl rfl Tryd.func36 (by kernel_rfl) rfl #[.int .i64 (rd l0_1 x27_2), .int .i64 0, .int .i64 ji15] rfl (by (try simp only [List.map_toArray, List.map_cons, List.map_nil]); first | done | (simp only [hji15]; rfl) | rfl | (simp only [List.length_drop, List.length_take]; rfl)) ?_; (with_reducible refine (impl_within.calls (rd l0_1 x27_2) 0 ji15 false _ A16.out).mono ?_); rintro e w' ⟨rfl, ⟨nd, rfl⟩⟩; refine ⟨_, rfl, ?_⟩))
       go_ret
       exact ⟨by first | rfl | (simp [errW_none, errW_some] <;> rfl) | (simp only [← hji15]; first | rfl | (simp [errW_none, errW_some] <;> rfl)) | (simp [*, errW_none, errW_some] <;> rfl), bs1 HB GE235⟩
      subst c17
      rw [if_pos rfl] at H
      have HC18 := Ah H
      clear H
      have p237 : 0 ≤ (x27_2 : Int) := od
      have q237 : x27_2 < (l0_1.length : Int) := od
      obtain ⟨ad237, e237, hx237_0⟩ := Kd.at_int HR0_1.out x27_2 p237 q237
      cases e237
      replace hx237_0 := (HB.out.cell (World.block_lt_of_cell? w _ hx237_0)).trans hx237_0
      replace p237 := eq_true p237
      replace q237 := eq_true q237
      obtain ⟨hcz19_0, hcz19_1, hcz19_2⟩ := cz3 BK235
      obtain ⟨hfz19_0, hfz19_1, hfz19_2⟩ := fz3 BK235
      go_upto_if 43 with (first | ((with_reducible refine gate_callee (f := 36) rfl ?_); refine goesL_ (some 39) rfl rfl Tryd.func36 (by kernel_rfl) rfl #[.int .i64 (rd l0_1 x27_2), .int .i64 0, .int .i64 ji15] rfl (by (try simp only [List.map_toArray, List.map_cons, List.map_nil]); first | done | (simp only [hji15]; rfl) | rfl | (simp only [List.length_drop, List.length_take]; rfl)) ?_; (with_reducible refine (impl_within.calls (rd l0_1 x27_2) 0 ji15 true _ A16.out).mono ?_); rintro e w' ⟨rfl, ⟨nd, rfl⟩⟩; refine ⟨_, rfl, ?_⟩))
      (try simp only [Act.put, List.setIfInBounds_toArray, List.set_cons_zero, List.set_cons_succ])
      go_cut [3] (fun v3 wc => ∃ (kq : Nat) (x3_17 : Int), v3 = .int .i64 x3_17 ∧ Aside0 (impl_GoodDir.j2 kq x3_17 x27_2 (rd l0_1 x27_2) l0_1 (l0_1.length : Int) x27_2 a0_0 l0_1 l0_2 = some r) ∧ Aside0 (kq ≤ k2) ∧ Aside0 (wc.heap[gb235]? = some (.cells #[.int .i64 a0_0, (.slice (some ad237) l0_1.length c0_1), (.slice A0_2 l0_2.length c0_2)] 32 (0, 0))) ∧ Aside0 (Below w.heap.size w wc))
      case first =>
       have H := HC18.out
       clear HC18
       by_cases c20 : (rd l0_1 x27_2) = x3_2
       rotate_left
       ·
        rw [if_neg c20] at H
        have c20b0 : ((rd l0_1 x27_2) == x3_2) = false := beq_eq_false_iff_ne.mpr c20
        have c20b1 : ((rd l0_1 x27_2) != x3_2) = true := bne_iff_ne.mpr c20
        (first | rw [c20b0] | (simp only [i64_w, i32_w]; rw [c20b0]) | (simp only [c20b2, Bool.not_false, Bool.not_true]) | skip)
        have H' := Ah H
        clear H
        go_wp2
        go_meet
        case rel => exact ⟨_, (x3_2), e3, H', ⟨by have := HJ1.out; have := HK2.out; first | omega | exact Nat.le_refl _⟩, ⟨bk BK235⟩, ⟨bs1 HB GE235⟩⟩
       rw [if_pos c20] at H
       have c20b0 : ((rd l0_1 x27_2) == x3_2) = true := beq_iff_eq.mpr c20
       have c20b1 : ((rd l0_1 x27_2) != x3_2) = false := bne_eq_false_iff_eq.mpr c20
       clear c20
       (first | rw [c20b0] | (simp only [i64_w, i32_w]; rw [c20b0]) | (simp only [c20b2, Bool.not_false, Bool.not_true]) | skip)
       have H' := Ah H
       clear H
       go_wp2
       go_meet
       case rel => exact ⟨_, (wrap64 (x3_2 + 1)), e3, H', ⟨by have := HJ1.out; have := HK2.out; first | omega | exact Nat.le_refl _⟩, ⟨bk BK235⟩, ⟨bs1 HB GE235⟩⟩
      case rest =>
       clear HC18
       try clear c1
       try clear c2
       try clear p2
       try clear q2
       try clear hx2
       try clear c3
       try clear c5
       try clear c6
       try clear c6b0
       try clear c6b1
       try clear p6
       try clear c10
       try clear c12
       try clear c12b0
       try clear c13
       try clear c13b0
       try clear c14
       try clear c14b0
       try clear c17
       try clear c19
       try clear c20
       try clear c20b0
       try clear c20b1
       try clear hcz11_0 hcz11_1 hcz11_2
       try clear hcz19_0 hcz19_1 hcz19_2
       try clear hfz11_0 hfz11_1 hfz11_2
       try clear hfz19_0 hfz19_1 hfz19_2
       try clear hx237_0
       try clear p2
       try clear p237
       try clear p6
       try clear q237
       obtain ⟨kq, x3_17, rfl, HA, HJ17, BK235, HB⟩ := hcut
       cases kq with
       | zero => exact absurd HA.out (by simp [impl_GoodDir.j2])
       | succ kj17 =>
        have H := HA.out
        clear HA
        simp only [impl_GoodDir.j2] at H
        by_cases c21 : 0 ≤ (rd l0_1 x27_2)
        rotate_left
        ·
         rw [if_neg c21] at H
         exact absurd H (by simp)
        rw [if_pos c21] at H
        have c21b0 : decide (0 ≤ (rd l0_1 x27_2)) = true := decide_eq_true c21
        clear c21
        by_cases c22 : (rd l0_1 x27_2) < (l0_2.length : Int)
        rotate_left
        ·
         rw [if_neg c22] at H
         exact absurd H (by simp)
        rw [if_pos c22] at H
        have c22b0 : decide ((rd l0_1 x27_2) < (l0_2.length : Int)) = true := decide_eq_true c22
        clear c22
        replace H := Option.bind_eq_some_iff.mp H
        obtain ⟨t240, A230, H⟩ := H
        try dsimp only at H
        have A23 := Ah A230
        clear A230
        by_cases c24 : t240 = true
        rotate_left
        ·
         replace c24 := Bool.eq_false_iff.mpr c24
         subst c24
         rw [if_neg fne] at H
         obtain rfl := Option.some.inj H
         try go_wp2
         have n0_ := Ah (blk_drew BK235.out)
         have n1_ := Ah (below_drew1 HB.out)
         clear BK235 HB
         have BK235 := n0_
         have HB := n1_
         clear n0_ n1_
         have p239 : 0 ≤ ((rd l0_1 x27_2) : Int) := od
         have q239 : (rd l0_1 x27_2) < (l0_2.length : Int) := od
         obtain ⟨ad239, A239_1, c239_1, e239, hx239_0, hx239_1, hl239_1, hi239_1⟩ := at_T43 HR0_2.out (rd l0_1 x27_2) p239 q239
         have hw239_1 := hx239_1
         have hw239_0 := hx239_0
         cases e239
         replace hx239_0 := (HB.out.cell (World.block_lt_of_cell? w _ hx239_0)).trans hx239_0
         replace hx239_1 := (HB.out.cell (World.block_lt_of_cell? w _ hx239_1)).trans hx239_1
         have HR239_1 := Ah hi239_1
         have HC239_1 := Ah hl239_1
         clear hi239_1 hl239_1
         replace p239 := eq_true p239
         replace q239 := eq_true q239
         refine start_ (n := 9) (S := fun w' => w'.cell? ⟨gb235, 0, none⟩ = some (.int .i64 a0_0) ∧ w'.cell? ⟨gb235, 1, none⟩ = some (.slice (some ad237) l0_1.length c0_1) ∧ w'.cell? ⟨gb235, 2, none⟩ = some (.slice (some ad239) l0_2.length c0_2) ∧ w'.cell? (ad239.add (((rd l0_1 x27_2)).toNat * 2)) = some (.int .i64 ((rd_T43 l0_2 (rd l0_1 x27_2)).f0)) ∧ w'.cell? ⟨(ad239.add (((rd l0_1 x27_2)).toNat * 2)).block, (ad239.add (((rd l0_1 x27_2)).toNat * 2)).off + 1, none⟩ = some (.slice A239_1 ((rd_T43 l0_2 (rd l0_1 x27_2)).f1).length c239_1)) (ds := []) #[false, false, false, false, false, false, false, false, false] (by kernel_rfl) rfl rfl ⟨(blk_cell BK235.out 0).trans rfl, (blk_cell BK235.out 1).trans rfl, (blk_cell BK235.out 2).trans rfl, ((HB.out.cell (World.block_lt_of_cell? w _ hw239_0)).trans hw239_0), ((HB.out.cell (World.block_lt_of_cell? w _ hw239_1)).trans hw239_1)⟩ (fun hHeld => ?_); refine with_tabW impl_GoodDir.tab11 impl_GoodDir.bits11 (fun HT_ HW_ => ?_)
         generalize wc.drew = w36 at BK235 HB HR239_1 hx239_0 hx239_1 hHeld ⊢
         refine pureS 0 46 HT_.out ?_
         refine pureS 2 48 HT_.out ?_
         refine pureS 5 51 HT_.out ?_
         refine takeS 1 47 HT_.out HW_.out hHeld (hr := by rintro w' ⟨s0, s1, s2, s3, s4⟩; go_simp; with_reducible rfl) (h := ?_)
         refine pureS 3 49 HT_.out ?_
         refine takeS 4 50 HT_.out HW_.out hHeld (hr := by rintro w' ⟨s0, s1, s2, s3, s4⟩; go_simp; with_reducible rfl) (h := ?_)
         refine takeS 6 52 HT_.out HW_.out hHeld (hr := by rintro w' ⟨s0, s1, s2, s3, s4⟩; go_simp; with_reducible rfl) (h := ?_)
         refine one_ (i := 7) (N := some 53) #[true, true, true, true, true, true, true, true, false] rfl rfl (one_of HT_.out (by kernel_rfl)) (by decide) (fun K hK => ?_)
         refine goes_ Tryd.func37 (by kernel_rfl) rfl #[.agg #[.int .i64 ((rd_T43 l0_2 (rd l0_1 x27_2)).f0), .slice A239_1 ((rd_T43 l0_2 (rd l0_1 x27_2)).f1).length c239_1], .int .i64 a0_0] (by rfl) rfl rfl (by (try simp only [List.map_toArray, List.map_cons, List.map_nil]); first | done | rfl | (simp only [List.length_drop, List.length_take]; rfl)) ?_
         with_reducible refine (impl_isGoodBucket.calls kj17 ((rd_T43 l0_2 (rd l0_1 x27_2)).f0) _ _ ((rd_T43 l0_2 (rd l0_1 x27_2)).f1) a0_0 false _ ?side1 ?side2 A23.out).mono ?_
         (case side1 => exact cb HR239_1 HB)
         (case side2 => exact HC239_1.out)
         rintro e w37 ⟨rfl, hb⟩
         refine ⟨_, rfl, ?_⟩
         have n0_ := Ah (bb BK235 hb)
         have n1_ := Ah (below_step (bs1 HB GE235) hb)
         clear BK235 HB
         have BK235 := n0_
         have HB := n1_
         clear n0_ n1_
         (try clear hb)
         (try clear hb2)
         (try clear hk)
         (try clear hi)
         refine hK.out _ _ ⟨(blk_cell BK235.out 0).trans rfl, (blk_cell BK235.out 1).trans rfl, (blk_cell BK235.out 2).trans rfl, ((HB.out.cell (World.block_lt_of_cell? w _ hw239_0)).trans hw239_0), ((HB.out.cell (World.block_lt_of_cell? w _ hw239_1)).trans hw239_1)⟩ (fun hHeld => ?_)
         clear hK K
         refine norm_ (a' := ?_) ?_ ?_
         rotate_left
         ·
          show Act.put _ (some 53) _ = _
          simp only [Act.put, List.setIfInBounds_toArray, List.set_cons_zero, List.set_cons_succ, i64_w, i32_w]
          rfl
         refine pureS 8 54 HT_.out ?_
         refine done_ (done_of HT_.out (by kernel_rfl)) ?_
         try go_wp2
         go_ret
         exact ⟨by first | rfl | (simp [errW_none, errW_some] <;> rfl) | (simp only [← hji15]; first | rfl | (simp [errW_none, errW_some] <;> rfl)) | (simp [*, errW_none, errW_some] <;> rfl), bs1 HB GE235⟩
        subst c24
        rw [if_pos rfl] at H
        by_cases c25 : 0 ≤ ((rd_T43 l0_2 (rd l0_1 x27_2)).f0)
        rotate_left
        ·
         rw [if_neg c25] at H
         exact absurd H (by simp)
        rw [if_pos c25] at H
        have c25b0 := eq_true c25
        have c25b1 : decide (0 ≤ ((rd_T43 l0_2 (rd l0_1 x27_2)).f0)) = true := decide_eq_true c25
        clear c25
        obtain ⟨ji26, hji26⟩ : ∃ j_ : Int, (shl .i64 1 ((rd_T43 l0_2 (rd l0_1 x27_2)).f0)) = j_ := ⟨_, rfl⟩
        replace H : (if (ji26) = 0 then (none) else ((slices_Index_int_int.f kj17 l0_1 (rd l0_1 x27_2)).bind fun t242 => (if t242 = (Int.tmod x27_2 (ji26)) then (impl_GoodDir.l0 kj17 x3_17 l0_1 (l0_1.length : Int) (wrap64 (x27_2 + 1)) a0_0 l0_1 l0_2) else (some false)))) = some r := by first | (rw [hji26] at H; exact H) | (simp only [hji26] at H ⊢; exact H)
        (try rw [hji26] at A23)
        have hji26_ : (IntKind.i64.wrap (1 * 2 ^ min ((rd_T43 l0_2 (rd l0_1 x27_2)).f0).toNat 64)) = ji26 := hji26
        have hji26z : ((rd_T43 l0_2 (rd l0_1 x27_2)).f0) ≤ 64 → (IntKind.i64.wrap (1 * 2 ^ ((rd_T43 l0_2 (rd l0_1 x27_2)).f0).toNat)) = ji26 := shl_small hji26
        have hji26u : (IntKind.i64.wrap (2 ^ min ((rd_T43 l0_2 (rd l0_1 x27_2)).f0).toNat 64)) = ji26 := by have h_ := hji26_; rw [Int.one_mul] at h_; exact h_
        have hji26v : ((rd_T43 l0_2 (rd l0_1 x27_2)).f0) ≤ 64 → (IntKind.i64.wrap (2 ^ ((rd_T43 l0_2 (rd l0_1 x27_2)).f0).toNat)) = ji26 := fun hle_ => by have h_ := hji26z hle_; rw [Int.one_mul] at h_; exact h_
        have hji26y : (wrap64 (1 * 2 ^ min ((rd_T43 l0_2 (rd l0_1 x27_2)).f0).toNat 64)) = ji26 := (i64_w _).symm.trans hji26_
        have hji26x : ((rd_T43 l0_2 (rd l0_1 x27_2)).f0) ≤ 64 → (wrap64 (1 * 2 ^ ((rd_T43 l0_2 (rd l0_1 x27_2)).f0).toNat)) = ji26 := fun h_ => (i64_w _).symm.trans (hji26z h_)
        by_cases c27 : (ji26) = 0
        ·
         rw [if_pos c27] at H
         exact absurd H (by simp)
        rw [if_neg c27] at H
        have c27b0 : ((ji26) == 0) = false := beq_eq_false_iff_ne.mpr c27
        have c27b1 : ((ji26) != 0) = true := bne_iff_ne.mpr c27
        replace H := Option.bind_eq_some_iff.mp H
        obtain ⟨t242, A280, H⟩ := H
        try dsimp only at H
        have A28 := Ah A280
        clear A280
        by_cases c29 : t242 = (Int.tmod x27_2 (ji26))
        rotate_left
        ·
         rw [if_neg c29] at H
         have c29b0 : (t242 == (Int.tmod x27_2 (ji26))) = false := beq_eq_false_iff_ne.mpr c29
         have c29b1 : (t242 != (Int.tmod x27_2 (ji26))) = true := bne_iff_ne.mpr c29
         obtain rfl := Option.some.inj H
         try go_wp2
         have n0_ := Ah (blk_drew BK235.out)
         have n1_ := Ah (below_drew1 HB.out)
         clear BK235 HB
         have BK235 := n0_
         have HB := n1_
         clear n0_ n1_
         have p239 : 0 ≤ ((rd l0_1 x27_2) : Int) := od
         have q239 : (rd l0_1 x27_2) < (l0_2.length : Int) := od
         obtain ⟨ad239, A239_1, c239_1, e239, hx239_0, hx239_1, hl239_1, hi239_1⟩ := at_T43 HR0_2.out (rd l0_1 x27_2) p239 q239
         have hw239_1 := hx239_1
         have hw239_0 := hx239_0
         cases e239
         replace hx239_0 := (HB.out.cell (World.block_lt_of_cell? w _ hx239_0)).trans hx239_0
         replace hx239_1 := (HB.out.cell (World.block_lt_of_cell? w _ hx239_1)).trans hx239_1
         have HR239_1 := Ah hi239_1
         have HC239_1 := Ah hl239_1
         clear hi239_1 hl239_1
         replace p239 := eq_true p239
         replace q239 := eq_true q239
         refine start_ (n := 9) (S := fun w' => w'.cell? ⟨gb235, 0, none⟩ = some (.int .i64 a0_0) ∧ w'.cell? ⟨gb235, 1, none⟩ = some (.slice (some ad237) l0_1.length c0_1) ∧ w'.cell? ⟨gb235, 2, none⟩ = some (.slice (some ad239) l0_2.length c0_2) ∧ w'.cell? (ad239.add (((rd l0_1 x27_2)).toNat * 2)) = some (.int .i64 ((rd_T43 l0_2 (rd l0_1 x27_2)).f0)) ∧ w'.cell? ⟨(ad239.add (((rd l0_1 x27_2)).toNat * 2)).block, (ad239.add (((rd l0_1 x27_2)).toNat * 2)).off + 1, none⟩ = some (.slice A239_1 ((rd_T43 l0_2 (rd l0_1 x27_2)).f1).length c239_1)) (ds := []) #[false, false, false, false, false, false, false, false, false] (by kernel_rfl) rfl rfl ⟨(blk_cell BK235.out 0).trans rfl, (blk_cell BK235.out 1).trans rfl, (blk_cell BK235.out 2).trans rfl, ((HB.out.cell (World.block_lt_of_cell? w _ hw239_0)).trans hw239_0), ((HB.out.cell (World.block_lt_of_cell? w _ hw239_1)).trans hw239_1)⟩ (fun hHeld => ?_); refine with_tabW impl_GoodDir.tab11 impl_GoodDir.bits11 (fun HT_ HW_ => ?_)
         generalize wc.drew = w33 at BK235 HB HR239_1 hx239_0 hx239_1 hHeld ⊢
         refine pureS 0 46 HT_.out ?_
         refine pureS 2 48 HT_.out ?_
         refine pureS 5 51 HT_.out ?_
         refine takeS 1 47 HT_.out HW_.out hHeld (hr := by rintro w' ⟨s0, s1, s2, s3, s4⟩; go_simp; with_reducible rfl) (h := ?_)
         refine pureS 3 49 HT_.out ?_
         refine takeS 4 50 HT_.out HW_.out hHeld (hr := by rintro w' ⟨s0, s1, s2, s3, s4⟩; go_simp; with_reducible rfl) (h := ?_)
         refine takeS 6 52 HT_.out HW_.out hHeld (hr := by rintro w' ⟨s0, s1, s2, s3, s4⟩; go_simp; with_reducible rfl) (h := ?_)
         refine one_ (i := 7) (N := some 53) #[true, true, true, true, true, true, true, true, false] rfl rfl (one_of HT_.out (by kernel_rfl)) (by decide) (fun K hK => ?_)
         refine goes_ Tryd.func37 (by kernel_rfl) rfl #[.agg #[.int .i64 ((rd_T43 l0_2 (rd l0_1 x27_2)).f0), .slice A239_1 ((rd_T43 l0_2 (rd l0_1 x27_2)).f1).length c239_1], .int .i64 a0_0] (by rfl) rfl rfl (by (try simp only [List.map_toArray, List.map_cons, List.map_nil]); first | done | rfl | (simp only [List.length_drop, List.length_take]; rfl)) ?_
         with_reducible refine (impl_isGoodBucket.calls kj17 ((rd_T43 l0_2 (rd l0_1 x27_2)).f0) _ _ ((rd_T43 l0_2 (rd l0_1 x27_2)).f1) a0_0 true _ ?side1 ?side2 A23.out).mono ?_
         (case side1 => exact cb HR239_1 HB)
         (case side2 => exact HC239_1.out)
         rintro e w34 ⟨rfl, hb⟩
         refine ⟨_, rfl, ?_⟩
         have n0_ := Ah (bb BK235 hb)
         have n1_ := Ah (below_step (bs1 HB GE235) hb)
         clear BK235 HB
         have BK235 := n0_
         have HB := n1_
         clear n0_ n1_
         (try clear hb)
         (try clear hb2)
         (try clear hk)
         (try clear hi)
         refine hK.out _ _ ⟨(blk_cell BK235.out 0).trans rfl, (blk_cell BK235.out 1).trans rfl, (blk_cell BK235.out 2).trans rfl, ((HB.out.cell (World.block_lt_of_cell? w _ hw239_0)).trans hw239_0), ((HB.out.cell (World.block_lt_of_cell? w _ hw239_1)).trans hw239_1)⟩ (fun hHeld => ?_)
         clear hK K
         refine norm_ (a' := ?_) ?_ ?_
         rotate_left
         ·
          show Act.put _ (some 53) _ = _
          simp only [Act.put, List.setIfInBounds_toArray, List.set_cons_zero, List.set_cons_succ, i64_w, i32_w]
          rfl
         refine pureS 8 54 HT_.out ?_
         refine done_ (done_of HT_.out (by kernel_rfl)) ?_
         obtain ⟨hcz35_0, hcz35_1, hcz35_2⟩ := cz3 BK235
         obtain ⟨hfz35_0, hfz35_1, hfz35_2⟩ := fz3 BK235
         have p241 : 0 ≤ ((rd l0_1 x27_2) : Int) := od
         have q241 : (rd l0_1 x27_2) < (l0_2.length : Int) := od
         obtain ⟨ad241, A241_1, c241_1, e241, hx241_0, hx241_1, hl241_1, hi241_1⟩ := at_T43 HR0_2.out (rd l0_1 x27_2) p241 q241
         obtain rfl : ad239 = ad241 := (by injection e241)
         replace hx241_0 := (HB.out.cell (World.block_lt_of_cell? w _ hx241_0)).trans hx241_0
         replace hx241_1 := (HB.out.cell (World.block_lt_of_cell? w _ hx241_1)).trans hx241_1
         have HR241_1 := Ah hi241_1
         have HC241_1 := Ah hl241_1
         clear hi241_1 hl241_1
         replace p241 := eq_true p241
         replace q241 := eq_true q241
         try go_wp2_with (first | ((with_reducible refine gate_callee (f := 38) rfl ?_); refine gL (some 67) rfl rfl Tryd.func38 (by kernel_rfl) rfl #[.slice (some ad237) l0_1.length c0_1, .int .i64 (rd l0_1 x27_2)] rfl ?_; (with_reducible refine (slices_Index_int_int.calls kj17 _ _ l0_1 (rd l0_1 x27_2) t242 _ ?side1 ?side2 A28.out).mono ?_); (case side1 => exact cb HR0_1 HB); (case side2 => exact HC0_1.out); rintro e w' ⟨rfl, ⟨nd, rfl⟩⟩; refine ⟨_, rfl, ?_⟩))
         go_ret
         exact ⟨by first | rfl | (simp [errW_none, errW_some] <;> rfl) | (simp only [← hji15, ← hji26]; first | rfl | (simp [errW_none, errW_some] <;> rfl)) | (simp [*, errW_none, errW_some] <;> rfl), bs1 HB GE235⟩
        rw [if_pos c29] at H
        have c29b0 : (t242 == (Int.tmod x27_2 (ji26))) = true := beq_iff_eq.mpr c29
        have c29b1 : (t242 != (Int.tmod x27_2 (ji26))) = false := bne_eq_false_iff_eq.mpr c29
        clear c29
        have H' := Ah H
        clear H
        try go_wp2
        have n0_ := Ah (blk_drew BK235.out)
        have n1_ := Ah (below_drew1 HB.out)
        clear BK235 HB
        have BK235 := n0_
        have HB := n1_
        clear n0_ n1_
        have p239 : 0 ≤ ((rd l0_1 x27_2) : Int) := od
        have q239 : (rd l0_1 x27_2) < (l0_2.length : Int) := od
        obtain ⟨ad239, A239_1, c239_1, e239, hx239_0, hx239_1, hl239_1, hi239_1⟩ := at_T43 HR0_2.out (rd l0_1 x27_2) p239 q239
        have hw239_1 := hx239_1
        have hw239_0 := hx239_0
        cases e239
        replace hx239_0 := (HB.out.cell (World.block_lt_of_cell? w _ hx239_0)).trans hx239_0
        replace hx239_1 := (HB.out.cell (World.block_lt_of_cell? w _ hx239_1)).trans hx239_1
        have HR239_1 := Ah hi239_1
        have HC239_1 := Ah hl239_1
        clear hi239_1 hl239_1
        replace p239 := eq_true p239
        replace q239 := eq_true q239
        refine start_ (n := 9) (S := fun w' => w'.cell? ⟨gb235, 0, none⟩ = some (.int .i64 a0_0) ∧ w'.cell? ⟨gb235, 1, none⟩ = some (.slice (some ad237) l0_1.length c0_1) ∧ w'.cell? ⟨gb235, 2, none⟩ = some (.slice (some ad239) l0_2.length c0_2) ∧ w'.cell? (ad239.add (((rd l0_1 x27_2)).toNat * 2)) = some (.int .i64 ((rd_T43 l0_2 (rd l0_1 x27_2)).f0)) ∧ w'.cell? ⟨(ad239.add (((rd l0_1 x27_2)).toNat * 2)).block, (ad239.add (((rd l0_1 x27_2)).toNat * 2)).off + 1, none⟩ = some (.slice A239_1 ((rd_T43 l0_2 (rd l0_1 x27_2)).f1).length c239_1)) (ds := []) #[false, false, false, false, false, false, false, false, false] (by kernel_rfl) rfl rfl ⟨(blk_cell BK235.out 0).trans rfl, (blk_cell BK235.out 1).trans rfl, (blk_cell BK235.out 2).trans rfl, ((HB.out.cell (World.block_lt_of_cell? w _ hw239_0)).trans hw239_0), ((HB.out.cell (World.block_lt_of_cell? w _ hw239_1)).trans hw239_1)⟩ (fun hHeld => ?_); refine with_tabW impl_GoodDir.tab11 impl_GoodDir.bits11 (fun HT_ HW_ => ?_)
        generalize wc.drew = w30 at BK235 HB HR239_1 hx239_0 hx239_1 hHeld ⊢
        refine pureS 0 46 HT_.out ?_
        refine pureS 2 48 HT_.out ?_
        refine pureS 5 51 HT_.out ?_
        refine takeS 1 47 HT_.out HW_.out hHeld (hr := by rintro w' ⟨s0, s1, s2, s3, s4⟩; go_simp; with_reducible rfl) (h := ?_)
        refine pureS 3 49 HT_.out ?_
        refine takeS 4 50 HT_.out HW_.out hHeld (hr := by rintro w' ⟨s0, s1, s2, s3, s4⟩; go_simp; with_reducible rfl) (h := ?_)
        refine takeS 6 52 HT_.out HW_.out hHeld (hr := by rintro w' ⟨s0, s1, s2, s3, s4⟩; go_simp; with_reducible rfl) (h := ?_)
        refine one_ (i := 7) (N := some 53) #[true, true, true, true, true, true, true, true, false] rfl rfl (one_of HT_.out (by kernel_rfl)) (by decide) (fun K hK => ?_)
        refine goes_ Tryd.func37 (by kernel_rfl) rfl #[.agg #[.int .i64 ((rd_T43 l0_2 (rd l0_1 x27_2)).f0), .slice A239_1 ((rd_T43 l0_2 (rd l0_1 x27_2)).f1).length c239_1], .int .i64 a0_0] (by rfl) rfl rfl (by (try simp only [List.map_toArray, List.map_cons, List.map_nil]); first | done | rfl | (simp only [List.length_drop, List.length_take]; rfl)) ?_
        with_reducible refine (impl_isGoodBucket.calls kj17 ((rd_T43 l0_2 (rd l0_1 x27_2)).f0) _ _ ((rd_T43 l0_2 (rd l0_1 x27_2)).f1) a0_0 true _ ?side1 ?side2 A23.out).mono ?_
        (case side1 => exact cb HR239_1 HB)
        (case side2 => exact HC239_1.out)
        rintro e w31 ⟨rfl, hb⟩
        refine ⟨_, rfl, ?_⟩
        have n0_ := Ah (bb BK235 hb)
        have n1_ := Ah (below_step (bs1 HB GE235) hb)
        clear BK235 HB
        have BK235 := n0_
        have HB := n1_
        clear n0_ n1_
        (try clear hb)
        (try clear hb2)
        (try clear hk)
        (try clear hi)
        refine hK.out _ _ ⟨(blk_cell BK235.out 0).trans rfl, (blk_cell BK235.out 1).trans rfl, (blk_cell BK235.out 2).trans rfl, ((HB.out.cell (World.block_lt_of_cell? w _ hw239_0)).trans hw239_0), ((HB.out.cell (World.block_lt_of_cell? w _ hw239_1)).trans hw239_1)⟩ (fun hHeld => ?_)
        clear hK K
        refine norm_ (a' := ?_) ?_ ?_
        rotate_left
        ·
         show Act.put _ (some 53) _ = _
         simp only [Act.put, List.setIfInBounds_toArray, List.set_cons_zero, List.set_cons_succ, i64_w, i32_w]
         rfl
        refine pureS 8 54 HT_.out ?_
        refine done_ (done_of HT_.out (by kernel_rfl)) ?_
        obtain ⟨hcz32_0, hcz32_1, hcz32_2⟩ := cz3 BK235
        obtain ⟨hfz32_0, hfz32_1, hfz32_2⟩ := fz3 BK235
        have p241 : 0 ≤ ((rd l0_1 x27_2) : Int) := od
        have q241 : (rd l0_1 x27_2) < (l0_2.length : Int) := od
        obtain ⟨ad241, A241_1, c241_1, e241, hx241_0, hx241_1, hl241_1, hi241_1⟩ := at_T43 HR0_2.out (rd l0_1 x27_2) p241 q241
        obtain rfl : ad239 = ad241 := (by injection e241)
        replace hx241_0 := (HB.out.cell (World.block_lt_of_cell? w _ hx241_0)).trans hx241_0
        replace hx241_1 := (HB.out.cell (World.block_lt_of_cell? w _ hx241_1)).trans hx241_1
        have HR241_1 := Ah hi241_1
        have HC241_1 := Ah hl241_1
        clear hi241_1 hl241_1
        replace p241 := eq_true p241
        replace q241 := eq_true q241
        try go_wp2_with (first | ((with_reducible refine gate_callee (f := 38) rfl ?_); refine gL (some 67) rfl rfl Tryd.func38 (by kernel_rfl) rfl #[.slice (some ad237) l0_1.length c0_1, .int .i64 (rd l0_1 x27_2)] rfl ?_; (with_reducible refine (slices_Index_int_int.calls kj17 _ _ l0_1 (rd l0_1 x27_2) t242 _ ?side1 ?side2 A28.out).mono ?_); (case side1 => exact cb HR0_1 HB); (case side2 => exact HC0_1.out); rintro e w' ⟨rfl, ⟨nd, rfl⟩⟩; refine ⟨_, rfl, ?_⟩))
        go_roundg kj17
        case measure => have := HJ1.out; have := HK2.out; have := HJ17.out; omega
        case rel => exact ⟨(x3_17), (wrap64 (x27_2 + 1)), e3, e3, H', ⟨by have := HJ1.out; have := HK2.out; have := HJ17.out; omega⟩, ⟨bk BK235⟩, ⟨bs1 HB GE235⟩⟩
     rw [if_neg c12] at H
     have c12b0 : decide (x27_2 < (l0_1.length : Int)) = false := decide_eq_false c12
     clear c12
     have HC39 := Ah H
     clear H
     go_upto_region 17 with (fail)
     go_cut [80] (fun v80 wc => ∃ (kq : Nat) (x80_38 : Bool), v80 = .bool x80_38 ∧ Aside0 (impl_GoodDir.j3 kq x80_38 a0_0 l0_1 l0_2 = some r) ∧ Aside0 (kq ≤ k2) ∧ Aside0 (wc.heap[gb235]? = some (.cells #[.int .i64 a0_0, (.slice A0_1 l0_1.length c0_1), (.slice A0_2 l0_2.length c0_2)] 32 (0, 0))) ∧ Aside0 (Below w.heap.size w wc))
     case first =>
      have H := HC39.out
      clear HC39
      by_cases c40 : x3_2 = (l0_2.length : Int)
      rotate_left
      ·
       rw [if_neg c40] at H
       have c40b0 : (x3_2 == (l0_2.length : Int)) = false := beq_eq_false_iff_ne.mpr c40
       have c40b1 : (x3_2 != (l0_2.length : Int)) = true := bne_iff_ne.mpr c40
       (first | rw [c40b0] | (simp only [i64_w, i32_w]; rw [c40b0]) | (simp only [c40b2, Bool.not_false, Bool.not_true]) | skip)
       have H' := Ah H
       clear H
       obtain ⟨hcz44_0, hcz44_1, hcz44_2⟩ := cz3 BK235
       obtain ⟨hfz44_0, hfz44_1, hfz44_2⟩ := fz3 BK235
       go_wp2
       go_meet
       case rel => exact ⟨_, (true), e3, H', ⟨by have := HJ1.out; have := HK2.out; first | omega | exact Nat.le_refl _⟩, ⟨bk BK235⟩, ⟨bs1 HB GE235⟩⟩
      rw [if_pos c40] at H
      have c40b0 : (x3_2 == (l0_2.length : Int)) = true := beq_iff_eq.mpr c40
      have c40b1 : (x3_2 != (l0_2.length : Int)) = false := bne_eq_false_iff_eq.mpr c40
      clear c40
      (first | rw [c40b0] | (simp only [i64_w, i32_w]; rw [c40b0]) | (simp only [c40b2, Bool.not_false, Bool.not_true]) | skip)
      replace H := Option.bind_eq_some_iff.mp H
      obtain ⟨t243, A410, H⟩ := H
      try dsimp only at H
      have A41 := Ah A410
      clear A410
      have H' := Ah H
      clear H
      obtain ⟨hcz42_0, hcz42_1, hcz42_2⟩ := cz3 BK235
      obtain ⟨hfz42_0, hfz42_1, hfz42_2⟩ := fz3 BK235
      go_wp2_with (first | (go_at_call 39; (with_reducible refine (impl_Dir_areAgreed.calls k2 a0_0 _ _ l0_1 _ _ l0_2 t243 _ ?side1 ?side2 ?side3 ?side4 A41.out).mono ?_); (case side1 => exact cb HR0_1 HB); (case side2 => exact HC0_1.out); (case side3 => exact cb HR0_2 HB); (case side4 => exact HC0_2.out); rintro e w43 ⟨rfl, hb⟩; replace BK235 := nb BK235 hb; replace HB := Ah (below_step (bs1 HB GE235) hb); (try clear hb)))
      go_meet
      case rel => exact ⟨_, (!t243), e3, H', ⟨by have := HJ1.out; have := HK2.out; first | omega | exact Nat.le_refl _⟩, ⟨bk BK235⟩, ⟨bs1 HB GE235⟩⟩
     case rest =>
      clear HC39
      try clear c1
      try clear c2
      try clear p2
      try clear q2
      try clear hx2
      try clear c3
      try clear c4
      try clear c5
      try clear c6
      try clear c6b0
      try clear c6b1
      try clear p6
      try clear c10
      try clear c12
      try clear c12b0
      try clear c13
      try clear c13b0
      try clear c14
      try clear c14b0
      try clear c17
      try clear c19
      try clear c20
      try clear c20b0
      try clear c20b1
      try clear c21
      try clear c21b0
      try clear c22
      try clear c22b0
      try clear c23
      try clear p23
      try clear q23
      try clear hx23
      try clear c24
      try clear p24
      try clear q24
      try clear hx24
      try clear c25
      try clear c25b0
      try clear c25b1
      try clear c27
      try clear c27b0
      try clear c27b1
      try clear c29
      try clear c29b0
      try clear c29b1
      try clear c36
      try clear c37
      try clear c38
      try clear c40
      try clear c40b0
      try clear c40b1
      try clear hcz11_0 hcz11_1 hcz11_2
      try clear hcz19_0 hcz19_1 hcz19_2
      try clear hcz32_0 hcz32_1 hcz32_2
      try clear hcz35_0 hcz35_1 hcz35_2
      try clear hcz38_0 hcz38_1 hcz38_2
      try clear hcz42_0 hcz42_1 hcz42_2
      try clear hcz44_0 hcz44_1 hcz44_2
      try clear hfz11_0 hfz11_1 hfz11_2
      try clear hfz19_0 hfz19_1 hfz19_2
      try clear hfz32_0 hfz32_1 hfz32_2
      try clear hfz35_0 hfz35_1 hfz35_2
      try clear hfz38_0 hfz38_1 hfz38_2
      try clear hfz42_0 hfz42_1 hfz42_2
      try clear hfz44_0 hfz44_1 hfz44_2
      try clear hx237_0
      try clear hx239_0
      try clear hx239_1
      try clear hx241_0
      try clear hx241_1
      try clear p2
      try clear p237
      try clear p239
      try clear p241
      try clear p6
      try clear q2
      try clear q237
      try clear q239
      try clear q241
      obtain ⟨kq, x80_38, rfl, HA, HJ38, BK235, HB⟩ := hcut
      cases kq with
      | zero => exact absurd HA.out (by simp [impl_GoodDir.j3])
      | succ kj38 =>
       have H := HA.out
       clear HA
       simp only [impl_GoodDir.j3] at H
       by_cases c45 : x80_38 = true
       ·
        subst c45
        rw [if_pos rfl] at H
        obtain rfl := Option.some.inj H
        go_wp2
        go_ret
        exact ⟨er, bs1 HB GE235⟩
       replace c45 := Bool.eq_false_iff.mpr c45
       subst c45
       rw [if_neg fne] at H
       have H' := Ah H
       clear H
       obtain ⟨hcz46_0, hcz46_1, hcz46_2⟩ := cz3 BK235
       obtain ⟨hfz46_0, hfz46_1, hfz46_2⟩ := fz3 BK235
       go_wp2
       go_loopg [84] kj38 (fun kq v84 w' => ∃ (x84_4 : Int), v84 = .int .i64 x84_4 ∧ Aside0 (impl_GoodDir.l1 kq l0_2 (l0_2.length : Int) x84_4 a0_0 l0_1 l0_2 = some r) ∧ Aside0 (kq ≤ kj38) ∧ Aside0 (w'.heap[gb235]? = some (.cells #[.int .i64 a0_0, (.slice A0_1 l0_1.length c0_1), (.slice A0_2 l0_2.length c0_2)] 32 (0, 0))) ∧ Aside0 (Below w.heap.size w w'))
       case atStart => exact ⟨(0), e3, H', ⟨Nat.le_refl _⟩, ⟨bk BK235⟩, ⟨bs1 HB GE235⟩⟩
       case round =>
        clear H'
        try clear c1
        try clear c2
        try clear p2
        try clear q2
        try clear hx2
        try clear c3
        try clear c4
        try clear c5
        try clear c6
        try clear c6b0
        try clear c6b1
        try clear p6
        try clear c10
        try clear c12
        try clear c12b0
        try clear c13
        try clear c13b0
        try clear c14
        try clear c14b0
        try clear c17
        try clear c19
        try clear c20
        try clear c20b0
        try clear c20b1
        try clear c21
        try clear c21b0
        try clear c22
        try clear c22b0
        try clear c23
        try clear p23
        try clear q23
        try clear hx23
        try clear c24
        try clear p24
        try clear q24
        try clear hx24
        try clear c25
        try clear c25b0
        try clear c25b1
        try clear c27
        try clear c27b0
        try clear c27b1
        try clear c29
        try clear c29b0
        try clear c29b1
        try clear c36
        try clear c37
        try clear c38
        try clear c40
        try clear c40b0
        try clear c40b1
        try clear c45
        try clear hcz11_0 hcz11_1 hcz11_2
        try clear hcz19_0 hcz19_1 hcz19_2
        try clear hcz32_0 hcz32_1 hcz32_2
        try clear hcz35_0 hcz35_1 hcz35_2
        try clear hcz38_0 hcz38_1 hcz38_2
        try clear hcz42_0 hcz42_1 hcz42_2
        try clear hcz44_0 hcz44_1 hcz44_2
        try clear hcz46_0 hcz46_1 hcz46_2
        try clear hfz11_0 hfz11_1 hfz11_2
        try clear hfz19_0 hfz19_1 hfz19_2
        try clear hfz32_0 hfz32_1 hfz32_2
        try clear hfz35_0 hfz35_1 hfz35_2
        try clear hfz38_0 hfz38_1 hfz38_2
        try clear hfz42_0 hfz42_1 hfz42_2
        try clear hfz44_0 hfz44_1 hfz44_2
        try clear hfz46_0 hfz46_1 hfz46_2
        try clear hx237_0
        try clear hx239_0
        try clear hx239_1
        try clear hx241_0
        try clear hx241_1
        try clear p2
        try clear p23
        try clear p237
        try clear p239
        try clear p24
        try clear p241
        try clear p6
        try clear q2
        try clear q23
        try clear q237
        try clear q239
        try clear q24
        try clear q241
        obtain ⟨x84_4, rfl, HA, HK4, BK235, HB⟩ := hrel
        cases gk with
        | zero => exact absurd HA.out (by simp [impl_GoodDir.l1])
        | succ k4 =>
         have H := HA.out
         clear HA
         simp only [impl_GoodDir.l1] at H
         by_cases c47 : x84_4 < (l0_2.length : Int)
         rotate_left
         ·
          rw [if_neg c47] at H
          have c47b0 : decide (x84_4 < (l0_2.length : Int)) = false := decide_eq_false c47
          clear c47
          obtain rfl := Option.some.inj H
          go_wp2
          go_ret
          exact ⟨er, bs1 HB GE235⟩
         rw [if_pos c47] at H
         have c47b0 : decide (x84_4 < (l0_2.length : Int)) = true := decide_eq_true c47
         clear c47
         by_cases c48 : 0 ≤ x84_4
         rotate_left
         ·
          rw [if_neg c48] at H
          exact absurd H (by simp)
         rw [if_pos c48] at H
         have c48b0 : decide (0 ≤ x84_4) = true := decide_eq_true c48
         clear c48
         by_cases c49 : x84_4 < (l0_2.length : Int)
         rotate_left
         ·
          rw [if_neg c49] at H
          exact absurd H (by simp)
         rw [if_pos c49] at H
         have c49b0 : decide (x84_4 < (l0_2.length : Int)) = true := decide_eq_true c49
         clear c49
         have H' := Ah H
         clear H
         have p244 : 0 ≤ (x84_4 : Int) := od
         have q244 : x84_4 < (l0_2.length : Int) := od
         obtain ⟨ad244, A244_1, c244_1, e244, hx244_0, hx244_1, hl244_1, hi244_1⟩ := at_T43 HR0_2.out x84_4 p244 q244
         cases e244
         replace hx244_0 := (HB.out.cell (World.block_lt_of_cell? w _ hx244_0)).trans hx244_0
         replace hx244_1 := (HB.out.cell (World.block_lt_of_cell? w _ hx244_1)).trans hx244_1
         have HR244_1 := Ah hi244_1
         have HC244_1 := Ah hl244_1
         clear hi244_1 hl244_1
         replace p244 := eq_true p244
         replace q244 := eq_true q244
         go_wp2_with (first | ((with_reducible refine gate_dst (N := 8) rfl ?_); (try (refine gate_guard (by rfl) ?_; dsimp only)); refine boxL 8 43 #[.int .i64 0, .slice none 0 0] ?_; intro gb245 hg w50 BK245 hb; have GW245 := gw hg (bs1 HB GE235); have GE245 := gw hg (bs1 HB GE235); replace HB := Ah (below_step (bs1 HB GE235) hb); have NB235_245 := nn BK235 hg; have NB245_235 := nm BK235 hg; replace BK235 := nb BK235 hb; clear hb hg; have hnb51 := NB245_235.out; have hnc51 := NB235_245.out; obtain ⟨hcz52_0, hcz52_1⟩ := cz2 BK245; obtain ⟨hfz52_0, hfz52_1⟩ := fz2 BK245))
         go_loopg [92] k4 (fun kq v92 w' => ∃ (x92_5 : Int), v92 = .int .i64 x92_5 ∧ Aside0 (impl_GoodDir.l2 kq x84_4 l0_2 (l0_2.length : Int) x84_4 ((rd_T43 l0_2 x84_4).f1) (((rd_T43 l0_2 x84_4).f1).length : Int) x92_5 a0_0 l0_1 l0_2 = some r) ∧ Aside0 (kq ≤ k4) ∧ Aside0 (w'.heap[gb235]? = some (.cells #[.int .i64 a0_0, (.slice A0_1 l0_1.length c0_1), (.slice (some ad244) l0_2.length c0_2)] 32 (0, 0))) ∧ Aside0 (w'.heap[gb245]? = some (.cells #[.int .i64 ((rd_T43 l0_2 x84_4).f0), (.slice A244_1 ((rd_T43 l0_2 x84_4).f1).length c244_1)] 43 (0, 0))) ∧ Aside0 (Below w.heap.size w w'))
         case atStart => exact ⟨(0), e3, H', ⟨Nat.le_refl _⟩, ⟨bf BK235 NB235_245⟩, ⟨by (with_reducible repeat (first | refine blk_drewN ?_ _ | refine blk_drew ?_ | refine blk_alloc ?_ _)); refine blk_put (cs := #[.int .i64 ((rd_T43 l0_2 x84_4).f0), .slice none 0 0]) ?_ 1 _ rfl; (with_reducible repeat (first | refine blk_drewN ?_ _ | refine blk_drew ?_ | refine blk_alloc ?_ _)); refine blk_put (cs := #[.int .i64 0, .slice none 0 0]) ?_ 0 _ rfl; (with_reducible repeat (first | refine blk_drewN ?_ _ | refine blk_drew ?_ | refine blk_alloc ?_ _)); exact BK245.out⟩, ⟨bs2 HB GE235 GE245⟩⟩
         case round =>
          clear H'
          try clear c1
          try clear c2
          try clear p2
          try clear q2
          try clear hx2
          try clear c3
          try clear c4
          try clear c5
          try clear c6
          try clear c6b0
          try clear c6b1
          try clear p6
          try clear c10
          try clear c12
          try clear c12b0
          try clear c13
          try clear c13b0
          try clear c14
          try clear c14b0
          try clear c17
          try clear c19
          try clear c20
          try clear c20b0
          try clear c20b1
          try clear c21
          try clear c21b0
          try clear c22
          try clear c22b0
          try clear c23
          try clear p23
          try clear q23
          try clear hx23
          try clear c24
          try clear p24
          try clear q24
          try clear hx24
          try clear c25
          try clear c25b0
          try clear c25b1
          try clear c27
          try clear c27b0
          try clear c27b1
          try clear c29
          try clear c29b0
          try clear c29b1
          try clear c36
          try clear c37
          try clear c38
          try clear c40
          try clear c40b0
          try clear c40b1
          try clear c45
          try clear c47
          try clear c47b0
          try clear c48
          try clear c48b0
          try clear c49
          try clear c49b0
          try clear c51
          try clear hcz11_0 hcz11_1 hcz11_2
          try clear hcz19_0 hcz19_1 hcz19_2
          try clear hcz32_0 hcz32_1 hcz32_2
          try clear hcz35_0 hcz35_1 hcz35_2
          try clear hcz38_0 hcz38_1 hcz38_2
          try clear hcz42_0 hcz42_1 hcz42_2
          try clear hcz44_0 hcz44_1 hcz44_2
          try clear hcz46_0 hcz46_1 hcz46_2
          try clear hcz52_0 hcz52_1
          try clear hfz11_0 hfz11_1 hfz11_2
          try clear hfz19_0 hfz19_1 hfz19_2
          try clear hfz32_0 hfz32_1 hfz32_2
          try clear hfz35_0 hfz35_1 hfz35_2
          try clear hfz38_0 hfz38_1 hfz38_2
          try clear hfz42_0 hfz42_1 hfz42_2
          try clear hfz44_0 hfz44_1 hfz44_2
          try clear hfz46_0 hfz46_1 hfz46_2
          try clear hfz52_0 hfz52_1
          try clear hx237_0
          try clear hx239_0
          try clear hx239_1
          try clear hx241_0
          try clear hx241_1
          try clear hx244_0
          try clear hx244_1
          try clear p2
          try clear p23
          try clear p237
          try clear p239
          try clear p24
          try clear p241
          try clear p244
          try clear p6
          try clear q2
          try clear q23
          try clear q237
          try clear q239
          try clear q24
          try clear q241
          try clear q244
          obtain ⟨x92_5, rfl, HA, HK5, BK235, BK245, HB⟩ := hrel
          cases gk with
          | zero => exact absurd HA.out (by simp [impl_GoodDir.l2])
          | succ k5 =>
           have H := HA.out
           clear HA
           simp only [impl_GoodDir.l2] at H
           by_cases c53 : x92_5 < (((rd_T43 l0_2 x84_4).f1).length : Int)
           rotate_left
           ·
            rw [if_neg c53] at H
            have c53b0 : decide (x92_5 < (((rd_T43 l0_2 x84_4).f1).length : Int)) = false := decide_eq_false c53
            clear c53
            have H' := Ah H
            clear H
            go_wp2
            go_roundg k5
            case measure => have := HJ1.out; have := HK2.out; have := HJ38.out; have := HK4.out; have := HK5.out; omega
            case rel => exact ⟨(wrap64 (x84_4 + 1)), e3, H', ⟨by have := HJ1.out; have := HK2.out; have := HJ38.out; have := HK4.out; have := HK5.out; omega⟩, ⟨bk BK235⟩, ⟨bs2 HB GE235 GE245⟩⟩
           rw [if_pos c53] at H
           have c53b0 : decide (x92_5 < (((rd_T43 l0_2 x84_4).f1).length : Int)) = true := decide_eq_true c53
           clear c53
           by_cases c54 : 0 ≤ x92_5
           rotate_left
           ·
            rw [if_neg c54] at H
            exact absurd H (by simp)
           rw [if_pos c54] at H
           have c54b0 : decide (0 ≤ x92_5) = true := decide_eq_true c54
           clear c54
           by_cases c55 : x92_5 < (((rd_T43 l0_2 x84_4).f1).length : Int)
           rotate_left
           ·
            rw [if_neg c55] at H
            exact absurd H (by simp)
           rw [if_pos c55] at H
           have c55b0 : decide (x92_5 < (((rd_T43 l0_2 x84_4).f1).length : Int)) = true := decide_eq_true c55
           clear c55
           replace H := Option.bind_eq_some_iff.mp H
           obtain ⟨t248, A560, H⟩ := H
           try dsimp only at H
           have A56 := Ah A560
           clear A560
           by_cases c57 : 0 ≤ t248
           rotate_left
           ·
            rw [if_neg c57] at H
            exact absurd H (by simp)
           rw [if_pos c57] at H
           have c57b0 : decide (0 ≤ t248) = true := decide_eq_true c57
           clear c57
           by_cases c58 : t248 < (l0_1.length : Int)
           rotate_left
           ·
            rw [if_neg c58] at H
            exact absurd H (by simp)
           rw [if_pos c58] at H
           have c58b0 : decide (t248 < (l0_1.length : Int)) = true := decide_eq_true c58
           clear c58
           by_cases c59 : (rd l0_1 t248) = x84_4
           rotate_left
           ·
            rw [if_neg c59] at H
            have c59b0 : ((rd l0_1 t248) == x84_4) = false := beq_eq_false_iff_ne.mpr c59
            have c59b1 : ((rd l0_1 t248) != x84_4) = true := bne_iff_ne.mpr c59
            obtain rfl := Option.some.inj H
            have p246 : 0 ≤ (x92_5 : Int) := od
            have q246 : x92_5 < (((rd_T43 l0_2 x84_4).f1).length : Int) := od
            obtain ⟨ad246, e246, hx246_0, hx246_1⟩ := at_T45 HR244_1.out x92_5 p246 q246
            cases e246
            replace hx246_0 := (HB.out.cell (World.block_lt_of_cell? w _ hx246_0)).trans hx246_0
            replace hx246_1 := (HB.out.cell (World.block_lt_of_cell? w _ hx246_1)).trans hx246_1
            replace p246 := eq_true p246
            replace q246 := eq_true q246
            try go_wp2_with (first | ((with_reducible refine gate_dst (N := 10) rfl ?_); (try (refine gate_guard (by rfl) ?_; dsimp only)); refine boxL 10 45 #[.string (⟨#[]⟩ : ByteArray), .int .i64 0] ?_; intro gb247 hg w67 BK247 hb; have GW247 := gw hg (bs2 HB GE235 GE245); have GE247 := gw hg (bs2 HB GE235 GE245); replace HB := Ah (below_step (bs2 HB GE235 GE245) hb); have NB235_247 := nn BK235 hg; have NB247_235 := nm BK235 hg; replace BK235 := nb BK235 hb; have NB245_247 := nn BK245 hg; have NB247_245 := nm BK245 hg; replace BK245 := nb BK245 hb; clear hb hg; have hnb68 := NB247_235.out; have hnc68 := NB235_247.out; have hnb69 := NB247_245.out; have hnc69 := NB245_247.out; obtain ⟨hcz70_0, hcz70_1⟩ := cz2 BK247; obtain ⟨hfz70_0, hfz70_1⟩ := fz2 BK247))
            have n0_ : Aside0 (((w67.setCell ⟨gb247, 0, none⟩ (.string ((rd_T45 ((rd_T43 l0_2 x84_4).f1) x92_5).f0))).setCell ⟨gb247, 1, none⟩ (.int .i64 ((rd_T45 ((rd_T43 l0_2 x84_4).f1) x92_5).f1))).heap[gb235]? = some (.cells #[.int .i64 a0_0, .slice A0_1 l0_1.length c0_1, .slice (some ad244) l0_2.length c0_2] 32 (0, 0))) := ⟨bf BK235 NB235_247⟩
            have n1_ : Aside0 (((w67.setCell ⟨gb247, 0, none⟩ (.string ((rd_T45 ((rd_T43 l0_2 x84_4).f1) x92_5).f0))).setCell ⟨gb247, 1, none⟩ (.int .i64 ((rd_T45 ((rd_T43 l0_2 x84_4).f1) x92_5).f1))).heap[gb245]? = some (.cells #[.int .i64 ((rd_T43 l0_2 x84_4).f0), .slice (some ad246) ((rd_T43 l0_2 x84_4).f1).length c244_1] 43 (0, 0))) := ⟨bf BK245 NB245_247⟩
            have n2_ : Aside0 (((w67.setCell ⟨gb247, 0, none⟩ (.string ((rd_T45 ((rd_T43 l0_2 x84_4).f1) x92_5).f0))).setCell ⟨gb247, 1, none⟩ (.int .i64 ((rd_T45 ((rd_T43 l0_2 x84_4).f1) x92_5).f1))).heap[gb247]? = some (.cells #[.string ((rd_T45 ((rd_T43 l0_2 x84_4).f1) x92_5).f0), .int .i64 ((rd_T45 ((rd_T43 l0_2 x84_4).f1) x92_5).f1)] 45 (0, 0))) := ⟨by (with_reducible repeat (first | refine blk_drewN ?_ _ | refine blk_drew ?_ | refine blk_alloc ?_ _)); refine blk_put (cs := #[.string ((rd_T45 ((rd_T43 l0_2 x84_4).f1) x92_5).f0), .int .i64 0]) ?_ 1 _ rfl; (with_reducible repeat (first | refine blk_drewN ?_ _ | refine blk_drew ?_ | refine blk_alloc ?_ _)); refine blk_put (cs := #[.string (⟨#[]⟩ : ByteArray), .int .i64 0]) ?_ 0 _ rfl; (with_reducible repeat (first | refine blk_drewN ?_ _ | refine blk_drew ?_ | refine blk_alloc ?_ _)); exact BK247.out⟩
            have n3_ : Aside0 (Below w.heap.size w ((w67.setCell ⟨gb247, 0, none⟩ (.string ((rd_T45 ((rd_T43 l0_2 x84_4).f1) x92_5).f0))).setCell ⟨gb247, 1, none⟩ (.int .i64 ((rd_T45 ((rd_T43 l0_2 x84_4).f1) x92_5).f1)))) := ⟨bs3 HB GE235 GE245 GE247⟩
            (try clear BK235)
            (try clear BK245)
            (try clear BK247)
            (try clear HB)
            generalize ((w67.setCell ⟨gb247, 0, none⟩ (.string ((rd_T45 ((rd_T43 l0_2 x84_4).f1) x92_5).f0))).setCell ⟨gb247, 1, none⟩ (.int .i64 ((rd_T45 ((rd_T43 l0_2 x84_4).f1) x92_5).f1))) = w71 at n0_ n1_ n2_ n3_ ⊢
            have BK235 := n0_
            have BK245 := n1_
            have BK247 := n2_
            have HB := n3_
            clear n0_ n1_ n2_ n3_
            have n0_ := Ah (blk_drew BK235.out)
            have n1_ := Ah (blk_drew BK245.out)
            have n2_ := Ah (blk_drew BK247.out)
            have n3_ := Ah (below_drew1 HB.out)
            clear BK235 BK245 BK247 HB
            have BK235 := n0_
            have BK245 := n1_
            have BK247 := n2_
            have HB := n3_
            clear n0_ n1_ n2_ n3_
            have p249 : 0 ≤ (t248 : Int) := od
            have q249 : t248 < (l0_1.length : Int) := od
            obtain ⟨ad249, e249, hx249_0⟩ := Kd.at_int HR0_1.out t248 p249 q249
            have hw249_0 := hx249_0
            cases e249
            replace hx249_0 := (HB.out.cell (World.block_lt_of_cell? w _ hx249_0)).trans hx249_0
            replace p249 := eq_true p249
            replace q249 := eq_true q249
            refine start_ (n := 10) (S := fun w' => w'.cell? ⟨gb235, 0, none⟩ = some (.int .i64 a0_0) ∧ w'.cell? ⟨gb235, 1, none⟩ = some (.slice (some ad249) l0_1.length c0_1) ∧ w'.cell? ⟨gb235, 2, none⟩ = some (.slice (some ad244) l0_2.length c0_2) ∧ w'.cell? ⟨gb247, 0, none⟩ = some (.string ((rd_T45 ((rd_T43 l0_2 x84_4).f1) x92_5).f0)) ∧ w'.cell? ⟨gb247, 1, none⟩ = some (.int .i64 ((rd_T45 ((rd_T43 l0_2 x84_4).f1) x92_5).f1)) ∧ w'.cell? (ad249.add (t248).toNat) = some (.int .i64 (rd l0_1 t248))) (ds := []) #[false, false, false, false, false, false, false, false, false, false] (by kernel_rfl) rfl rfl ⟨(blk_cell BK235.out 0).trans rfl, (blk_cell BK235.out 1).trans rfl, (blk_cell BK235.out 2).trans rfl, (blk_cell BK247.out 0).trans rfl, (blk_cell BK247.out 1).trans rfl, ((HB.out.cell (World.block_lt_of_cell? w _ hw249_0)).trans hw249_0)⟩ (fun hHeld => ?_); refine with_tabW impl_GoodDir.tab25 impl_GoodDir.bits25 (fun HT_ HW_ => ?_)
            generalize w71.drew = w72 at BK235 BK245 BK247 HB hx249_0 hHeld ⊢
            refine pureS 0 96 HT_.out ?_
            refine pureS 3 99 HT_.out ?_
            refine pureS 8 104 HT_.out ?_
            refine takeS 1 97 HT_.out HW_.out hHeld (hr := by rintro w' ⟨s0, s1, s2, s3, s4, s5⟩; go_simp; with_reducible rfl) (h := ?_)
            refine takeS 2 98 HT_.out HW_.out hHeld (hr := by rintro w' ⟨s0, s1, s2, s3, s4, s5⟩; go_simp; with_reducible rfl) (h := ?_)
            refine takeS 4 100 HT_.out HW_.out hHeld (hr := by rintro w' ⟨s0, s1, s2, s3, s4, s5⟩; go_simp; with_reducible rfl) (h := ?_)
            refine one_ (i := 5) (N := some 101) #[true, true, true, true, true, true, false, false, true, false] rfl rfl (one_of HT_.out (by kernel_rfl)) (by decide) (fun K hK => ?_)
            refine goes_ Tryd.func40 (by kernel_rfl) rfl #[.agg #[.int .i64 a0_0, .slice (some ad249) l0_1.length c0_1, .slice (some ad244) l0_2.length c0_2], .string ((rd_T45 ((rd_T43 l0_2 x84_4).f1) x92_5).f0)] (by rfl) rfl rfl (by (try simp only [List.map_toArray, List.map_cons, List.map_nil]); first | done | rfl | (simp only [List.length_drop, List.length_take]; rfl)) ?_
            with_reducible refine (impl_Dir_slotOf.calls k5 a0_0 _ _ l0_1 _ _ l0_2 ((rd_T45 ((rd_T43 l0_2 x84_4).f1) x92_5).f0) t248 _ ?side1 ?side2 ?side3 ?side4 A56.out).mono ?_
            (case side1 => exact cb HR0_1 HB)
            (case side2 => exact HC0_1.out)
            (case side3 => exact cb HR0_2 HB)
            (case side4 => exact HC0_2.out)
            rintro e w73 ⟨rfl, hb⟩
            refine ⟨_, rfl, ?_⟩
            have n0_ := Ah (bb BK235 hb)
            have n1_ := Ah (bb BK245 hb)
            have n2_ := Ah (bb BK247 hb)
            have n3_ := Ah (below_step (bs3 HB GE235 GE245 GE247) hb)
            clear BK235 BK245 BK247 HB
            have BK235 := n0_
            have BK245 := n1_
            have BK247 := n2_
            have HB := n3_
            clear n0_ n1_ n2_ n3_
            (try clear hb)
            (try clear hb2)
            (try clear hk)
            (try clear hi)
            refine hK.out _ _ ⟨(blk_cell BK235.out 0).trans rfl, (blk_cell BK235.out 1).trans rfl, (blk_cell BK235.out 2).trans rfl, (blk_cell BK247.out 0).trans rfl, (blk_cell BK247.out 1).trans rfl, ((HB.out.cell (World.block_lt_of_cell? w _ hw249_0)).trans hw249_0)⟩ (fun hHeld => ?_)
            clear hK K
            refine norm_ (a' := ?_) ?_ ?_
            rotate_left
            ·
             show Act.put _ (some 101) _ = _
             simp only [Act.put, List.setIfInBounds_toArray, List.set_cons_zero, List.set_cons_succ, i64_w, i32_w]
             rfl
            refine pureS 6 102 HT_.out ?_
            refine takeS 7 103 HT_.out HW_.out hHeld (hr := by rintro w' ⟨s0, s1, s2, s3, s4, s5⟩; go_simp; with_reducible rfl) (h := ?_)
            refine pureS 9 105 HT_.out ?_
            refine done_ (done_of HT_.out (by kernel_rfl)) ?_
            try go_wp2
            go_ret
            exact ⟨er, bs3 HB GE235 GE245 GE247⟩
           rw [if_pos c59] at H
           have c59b0 : ((rd l0_1 t248) == x84_4) = true := beq_iff_eq.mpr c59
           have c59b1 : ((rd l0_1 t248) != x84_4) = false := bne_eq_false_iff_eq.mpr c59
           clear c59
           have H' := Ah H
           clear H
           have p246 : 0 ≤ (x92_5 : Int) := od
           have q246 : x92_5 < (((rd_T43 l0_2 x84_4).f1).length : Int) := od
           obtain ⟨ad246, e246, hx246_0, hx246_1⟩ := at_T45 HR244_1.out x92_5 p246 q246
           cases e246
           replace hx246_0 := (HB.out.cell (World.block_lt_of_cell? w _ hx246_0)).trans hx246_0
           replace hx246_1 := (HB.out.cell (World.block_lt_of_cell? w _ hx246_1)).trans hx246_1
           replace p246 := eq_true p246
           replace q246 := eq_true q246
           try go_wp2_with (first | ((with_reducible refine gate_dst (N := 10) rfl ?_); (try (refine gate_guard (by rfl) ?_; dsimp only)); refine boxL 10 45 #[.string (⟨#[]⟩ : ByteArray), .int .i64 0] ?_; intro gb247 hg w60 BK247 hb; have GW247 := gw hg (bs2 HB GE235 GE245); have GE247 := gw hg (bs2 HB GE235 GE245); replace HB := Ah (below_step (bs2 HB GE235 GE245) hb); have NB235_247 := nn BK235 hg; have NB247_235 := nm BK235 hg; replace BK235 := nb BK235 hb; have NB245_247 := nn BK245 hg; have NB247_245 := nm BK245 hg; replace BK245 := nb BK245 hb; clear hb hg; have hnb61 := NB247_235.out; have hnc61 := NB235_247.out; have hnb62 := NB247_245.out; have hnc62 := NB245_247.out; obtain ⟨hcz63_0, hcz63_1⟩ := cz2 BK247; obtain ⟨hfz63_0, hfz63_1⟩ := fz2 BK247))
           have n0_ : Aside0 (((w60.setCell ⟨gb247, 0, none⟩ (.string ((rd_T45 ((rd_T43 l0_2 x84_4).f1) x92_5).f0))).setCell ⟨gb247, 1, none⟩ (.int .i64 ((rd_T45 ((rd_T43 l0_2 x84_4).f1) x92_5).f1))).heap[gb235]? = some (.cells #[.int .i64 a0_0, .slice A0_1 l0_1.length c0_1, .slice (some ad244) l0_2.length c0_2] 32 (0, 0))) := ⟨bf BK235 NB235_247⟩
           have n1_ : Aside0 (((w60.setCell ⟨gb247, 0, none⟩ (.string ((rd_T45 ((rd_T43 l0_2 x84_4).f1) x92_5).f0))).setCell ⟨gb247, 1, none⟩ (.int .i64 ((rd_T45 ((rd_T43 l0_2 x84_4).f1) x92_5).f1))).heap[gb245]? = some (.cells #[.int .i64 ((rd_T43 l0_2 x84_4).f0), .slice (some ad246) ((rd_T43 l0_2 x84_4).f1).length c244_1] 43 (0, 0))) := ⟨bf BK245 NB245_247⟩
           have n2_ : Aside0 (((w60.setCell ⟨gb247, 0, none⟩ (.string ((rd_T45 ((rd_T43 l0_2 x84_4).f1) x92_5).f0))).setCell ⟨gb247, 1, none⟩ (.int .i64 ((rd_T45 ((rd_T43 l0_2 x84_4).f1) x92_5).f1))).heap[gb247]? = some (.cells #[.string ((rd_T45 ((rd_T43 l0_2 x84_4).f1) x92_5).f0), .int .i64 ((rd_T45 ((rd_T43 l0_2 x84_4).f1) x92_5).f1)] 45 (0, 0))) := ⟨by (with_reducible repeat (first | refine blk_drewN ?_ _ | refine blk_drew ?_ | refine blk_alloc ?_ _)); refine blk_put (cs := #[.string ((rd_T45 ((rd_T43 l0_2 x84_4).f1) x92_5).f0), .int .i64 0]) ?_ 1 _ rfl; (with_reducible repeat (first | refine blk_drewN ?_ _ | refine blk_drew ?_ | refine blk_alloc ?_ _)); refine blk_put (cs := #[.string (⟨#[]⟩ : ByteArray), .int .i64 0]) ?_ 0 _ rfl; (with_reducible repeat (first | refine blk_drewN ?_ _ | refine blk_drew ?_ | refine blk_alloc ?_ _)); exact BK247.out⟩
           have n3_ : Aside0 (Below w.heap.size w ((w60.setCell ⟨gb247, 0, none⟩ (.string ((rd_T45 ((rd_T43 l0_2 x84_4).f1) x92_5).f0))).setCell ⟨gb247, 1, none⟩ (.int .i64 ((rd_T45 ((rd_T43 l0_2 x84_4).f1) x92_5).f1)))) := ⟨bs3 HB GE235 GE245 GE247⟩
           (try clear BK235)
           (try clear BK245)
           (try clear BK247)
           (try clear HB)
           generalize ((w60.setCell ⟨gb247, 0, none⟩ (.string ((rd_T45 ((rd_T43 l0_2 x84_4).f1) x92_5).f0))).setCell ⟨gb247, 1, none⟩ (.int .i64 ((rd_T45 ((rd_T43 l0_2 x84_4).f1) x92_5).f1))) = w64 at n0_ n1_ n2_ n3_ ⊢
           have BK235 := n0_
           have BK245 := n1_
           have BK247 := n2_
           have HB := n3_
           clear n0_ n1_ n2_ n3_
           have n0_ := Ah (blk_drew BK235.out)
           have n1_ := Ah (blk_drew BK245.out)
           have n2_ := Ah (blk_drew BK247.out)
           have n3_ := Ah (below_drew1 HB.out)
           clear BK235 BK245 BK247 HB
           have BK235 := n0_
           have BK245 := n1_
           have BK247 := n2_
           have HB := n3_
           clear n0_ n1_ n2_ n3_
           have p249 : 0 ≤ (t248 : Int) := od
           have q249 : t248 < (l0_1.length : Int) := od
           obtain ⟨ad249, e249, hx249_0⟩ := Kd.at_int HR0_1.out t248 p249 q249
           have hw249_0 := hx249_0
           cases e249
           replace hx249_0 := (HB.out.cell (World.block_lt_of_cell? w _ hx249_0)).trans hx249_0
           replace p249 := eq_true p249
           replace q249 := eq_true q249
           refine start_ (n := 10) (S := fun w' => w'.cell? ⟨gb235, 0, none⟩ = some (.int .i64 a0_0) ∧ w'.cell? ⟨gb235, 1, none⟩ = some (.slice (some ad249) l0_1.length c0_1) ∧ w'.cell? ⟨gb235, 2, none⟩ = some (.slice (some ad244) l0_2.length c0_2) ∧ w'.cell? ⟨gb247, 0, none⟩ = some (.string ((rd_T45 ((rd_T43 l0_2 x84_4).f1) x92_5).f0)) ∧ w'.cell? ⟨gb247, 1, none⟩ = some (.int .i64 ((rd_T45 ((rd_T43 l0_2 x84_4).f1) x92_5).f1)) ∧ w'.cell? (ad249.add (t248).toNat) = some (.int .i64 (rd l0_1 t248))) (ds := []) #[false, false, false, false, false, false, false, false, false, false] (by kernel_rfl) rfl rfl ⟨(blk_cell BK235.out 0).trans rfl, (blk_cell BK235.out 1).trans rfl, (blk_cell BK235.out 2).trans rfl, (blk_cell BK247.out 0).trans rfl, (blk_cell BK247.out 1).trans rfl, ((HB.out.cell (World.block_lt_of_cell? w _ hw249_0)).trans hw249_0)⟩ (fun hHeld => ?_); refine with_tabW impl_GoodDir.tab25 impl_GoodDir.bits25 (fun HT_ HW_ => ?_)
           generalize w64.drew = w65 at BK235 BK245 BK247 HB hx249_0 hHeld ⊢
           refine pureS 0 96 HT_.out ?_
           refine pureS 3 99 HT_.out ?_
           refine pureS 8 104 HT_.out ?_
           refine takeS 1 97 HT_.out HW_.out hHeld (hr := by rintro w' ⟨s0, s1, s2, s3, s4, s5⟩; go_simp; with_reducible rfl) (h := ?_)
           refine takeS 2 98 HT_.out HW_.out hHeld (hr := by rintro w' ⟨s0, s1, s2, s3, s4, s5⟩; go_simp; with_reducible rfl) (h := ?_)
           refine takeS 4 100 HT_.out HW_.out hHeld (hr := by rintro w' ⟨s0, s1, s2, s3, s4, s5⟩; go_simp; with_reducible rfl) (h := ?_)
           refine one_ (i := 5) (N := some 101) #[true, true, true, true, true, true, false, false, true, false] rfl rfl (one_of HT_.out (by kernel_rfl)) (by decide) (fun K hK => ?_)
           refine goes_ Tryd.func40 (by kernel_rfl) rfl #[.agg #[.int .i64 a0_0, .slice (some ad249) l0_1.length c0_1, .slice (some ad244) l0_2.length c0_2], .string ((rd_T45 ((rd_T43 l0_2 x84_4).f1) x92_5).f0)] (by rfl) rfl rfl (by (try simp only [List.map_toArray, List.map_cons, List.map_nil]); first | done | rfl | (simp only [List.length_drop, List.length_take]; rfl)) ?_
           with_reducible refine (impl_Dir_slotOf.calls k5 a0_0 _ _ l0_1 _ _ l0_2 ((rd_T45 ((rd_T43 l0_2 x84_4).f1) x92_5).f0) t248 _ ?side1 ?side2 ?side3 ?side4 A56.out).mono ?_
           (case side1 => exact cb HR0_1 HB)
           (case side2 => exact HC0_1.out)
           (case side3 => exact cb HR0_2 HB)
           (case side4 => exact HC0_2.out)
           rintro e w66 ⟨rfl, hb⟩
           refine ⟨_, rfl, ?_⟩
           have n0_ := Ah (bb BK235 hb)
           have n1_ := Ah (bb BK245 hb)
           have n2_ := Ah (bb BK247 hb)
           have n3_ := Ah (below_step (bs3 HB GE235 GE245 GE247) hb)
           clear BK235 BK245 BK247 HB
           have BK235 := n0_
           have BK245 := n1_
           have BK247 := n2_
           have HB := n3_
           clear n0_ n1_ n2_ n3_
           (try clear hb)
           (try clear hb2)
           (try clear hk)
           (try clear hi)
           refine hK.out _ _ ⟨(blk_cell BK235.out 0).trans rfl, (blk_cell BK235.out 1).trans rfl, (blk_cell BK235.out 2).trans rfl, (blk_cell BK247.out 0).trans rfl, (blk_cell BK247.out 1).trans rfl, ((HB.out.cell (World.block_lt_of_cell? w _ hw249_0)).trans hw249_0)⟩ (fun hHeld => ?_)
           clear hK K
           refine norm_ (a' := ?_) ?_ ?_
           rotate_left
           ·
            show Act.put _ (some 101) _ = _
            simp only [Act.put, List.setIfInBounds_toArray, List.set_cons_zero, List.set_cons_succ, i64_w, i32_w]
            rfl
           refine pureS 6 102 HT_.out ?_
           refine takeS 7 103 HT_.out HW_.out hHeld (hr := by rintro w' ⟨s0, s1, s2, s3, s4, s5⟩; go_simp; with_reducible rfl) (h := ?_)
           refine pureS 9 105 HT_.out ?_
           refine done_ (done_of HT_.out (by kernel_rfl)) ?_
           try go_wp2
           go_roundg k5
           case measure => have := HJ1.out; have := HK2.out; have := HJ38.out; have := HK4.out; have := HK5.out; omega
           case rel => exact ⟨(wrap64 (x92_5 + 1)), e3, H', ⟨by have := HJ1.out; have := HK2.out; have := HJ38.out; have := HK4.out; have := HK5.out; omega⟩, ⟨bk BK235⟩, ⟨bk BK245⟩, ⟨bs3 HB GE235 GE245 GE247⟩⟩

-- NOT PRINTED: function 49 (impl_Name_49)

-- NOT PRINTED: function 63 (impl_Name_63)

-- NOT PRINTED: function 50 (impl_Name_50)

-- NOT PRINTED: function 65 (slices_xorshift_Next)

-- NOT PRINTED: function 51 (impl_Name_51)

-- NOT PRINTED: function 75 (impl_Name_75)

-- NOT PRINTED: function 67 (impl_Name_67)

-- NOT PRINTED: function 66 (impl_Name_66)

-- NOT PRINTED: function 52 (impl_Name_52)

-- NOT PRINTED: function 53 (impl_Name_53)

-- NOT PRINTED: function 54 (impl_Name_54)

-- NOT PRINTED: function 55 (impl_Name_55)

-- NOT PRINTED: function 56 (impl_Name_56)

-- NOT PRINTED: function 41 (impl_Name_41)

-- NOT PRINTED: function 20 (impl_Name_20)

-- NOT PRINTED: function 59 (bytealg_abigen_runtime_cmpstring)

-- NOT PRINTED: function 43 (bytealg_CompareString)

/-! ### strings_Compare: function 22 -/
-- strings.Compare: the bytes compared.
def strings_Compare.f (a0 : ByteArray) (a1 : ByteArray) : Option Int := some (Lib.compareBytes a0.data.toList a1.data.toList)
theorem strings_Compare.calls (a0 : ByteArray) (a1 : ByteArray) (r : Int) (w : World) (h : strings_Compare.f a0 a1 = some r) :
    Calls Tryd.prog 22 #[.string a0, .string a1] w fun e w' => e = .returned (.int .i64 r) ∧ Drawn0 w w' := by
  unfold strings_Compare.f at h
  obtain rfl := Option.some.inj h
  refine (Rt.cmp_calls a0 a1 w).mono ?_
  rintro e w' ⟨rfl, rfl⟩
  exact ⟨rfl, Drawn0.refl _⟩

/-! ### impl_NamesOf_1: function 21 -/
def impl_NamesOf_1.f (a0_0 : ByteArray) (a0_1 : Int) (a1_0 : ByteArray) (a1_1 : Int) : Option (Int) := (strings_Compare.f a0_0 a1_0).bind fun t254 => (some t254)
set_option maxHeartbeats 8000000 in
set_option maxRecDepth 100000 in
theorem impl_NamesOf_1.calls (a0_0 : ByteArray) (a0_1 : Int) (a1_0 : ByteArray) (a1_1 : Int) (r : Int) (w : World) (h : impl_NamesOf_1.f a0_0 a0_1 a1_0 a1_1 = some r) :
  Calls Tryd.prog 21 #[.agg #[.string a0_0, .int .i64 a0_1], .agg #[.string a1_0, .int .i64 a1_1]] w fun e w' => e = .returned (.int .i64 r) ∧ Below w.heap.size w w' := by
 have hu45 := Tryd.underlying45
 have HB := Ah (Below.refl w.heap.size w)
 have H : ((strings_Compare.f a0_0 a1_0).bind fun t254 => (some t254)) = some r := h
 clear h
 replace H := Option.bind_eq_some_iff.mp H
 obtain ⟨t254, A30, H⟩ := H
 try dsimp only at H
 have A3 := Ah A30
 clear A30
 obtain rfl := Option.some.inj H
 go_enter Tryd.func21, Tryd.ntmps21
 go_wp2_with (first | ((with_reducible refine gate_dst (N := 2) rfl ?_); refine boxL 2 45 #[.string a0_0, .int .i64 a0_1] ?_; intro gb252 hg w4 BK252 hb; have GW252 := gw hg (bs HB); have GE252 := gw hg (bs HB); replace HB := Ah (below_step (bs HB) hb); clear hb hg) | ((with_reducible refine gate_dst (N := 3) rfl ?_); refine boxL 3 45 #[.string a1_0, .int .i64 a1_1] ?_; intro gb253 hg w5 BK253 hb; have GW253 := gw hg (bs1 HB GE252); have GE253 := gw hg (bs1 HB GE252); replace HB := Ah (below_step (bs1 HB GE252) hb); have NB252_253 := nn BK252 hg; have NB253_252 := nm BK252 hg; replace BK252 := nb BK252 hb; clear hb hg; have hnb6 := NB252_253.out; have hnc6 := NB253_252.out; obtain ⟨hcz7_0, hcz7_1⟩ := cz2 BK252; obtain ⟨hfz7_0, hfz7_1⟩ := fz2 BK252; obtain ⟨hcz8_0, hcz8_1⟩ := cz2 BK253; obtain ⟨hfz8_0, hfz8_1⟩ := fz2 BK253) | ((with_reducible refine gate_callee (f := 22) rfl ?_); refine gL (some 9) rfl rfl Tryd.func22 (by kernel_rfl) rfl #[.string a0_0, .string a1_0] rfl ?_; (with_reducible refine (strings_Compare.calls a0_0 a1_0 t254 _ A3.out).mono ?_); rintro e w' ⟨rfl, ⟨nd, rfl⟩⟩; refine ⟨_, rfl, ?_⟩))
 go_ret
 exact ⟨er, bs2 HB GE252 GE253⟩
set_option maxHeartbeats 8000000 in
set_option maxRecDepth 100000 in
theorem impl_NamesOf_1.exact (a0_0 : ByteArray) (a0_1 : Int) (a1_0 : ByteArray) (a1_1 : Int) (r : Int) (w : World) (h : impl_NamesOf_1.f a0_0 a0_1 a1_0 a1_1 = some r) :
  Calls Tryd.prog 21 #[.agg #[.string a0_0, .int .i64 a0_1], .agg #[.string a1_0, .int .i64 a1_1]] w fun e w' => e = .returned (.int .i64 r) ∧ Below w.heap.size w w' ∧ w.drawn ≤ w'.drawn := by
 have DR := Ah (Nat.le_refl w.drawn)
 have hu45 := Tryd.underlying45
 have HB := Ah (Below.refl w.heap.size w)
 have H : ((strings_Compare.f a0_0 a1_0).bind fun t254 => (some t254)) = some r := h
 clear h
 replace H := Option.bind_eq_some_iff.mp H
 obtain ⟨t254, A30, H⟩ := H
 try dsimp only at H
 have A3 := Ah A30
 clear A30
 obtain rfl := Option.some.inj H
 go_enter Tryd.func21, Tryd.ntmps21
 go_wp2_with (first | ((with_reducible refine gate_dst (N := 2) rfl ?_); refine box_eventD ?hg (N := 2) ?hd (cs := #[.string a0_0, .int .i64 a0_1]) (t := 45) ?hr ?_; (case hd => rfl); (case hg => rfl); (case hr => first | (go_simp; done) | (go_simp; rfl)); intro gb252 hg w4 hbox hb hdr_; replace DR := Ah (Nat.le_trans DR.out (Nat.le_of_eq hdr_.symm)); clear hdr_; have BK252 := Ah (hbox); have GW252 := gw hg (bs HB); have GE252 := gw hg (bs HB); replace HB := Ah (below_step (bs HB) hb); clear hb hbox hg) | ((with_reducible refine gate_dst (N := 3) rfl ?_); refine box_eventD ?hg (N := 3) ?hd (cs := #[.string a1_0, .int .i64 a1_1]) (t := 45) ?hr ?_; (case hd => rfl); (case hg => rfl); (case hr => first | (go_simp; done) | (go_simp; rfl)); intro gb253 hg w5 hbox hb hdr_; replace DR := Ah (Nat.le_trans DR.out (Nat.le_of_eq hdr_.symm)); clear hdr_; have BK253 := Ah (hbox); have GW253 := gw hg (bs1 HB GE252); have GE253 := gw hg (bs1 HB GE252); replace HB := Ah (below_step (bs1 HB GE252) hb); have NB252_253 := nn BK252 hg; have NB253_252 := nm BK252 hg; replace BK252 := nb BK252 hb; clear hb hbox hg; have hnb6 := NB252_253.out; have hnc6 := NB253_252.out; obtain ⟨hcz7_0, hcz7_1⟩ := cz2 BK252; obtain ⟨hfz7_0, hfz7_1⟩ := fz2 BK252; obtain ⟨hcz8_0, hcz8_1⟩ := cz2 BK253; obtain ⟨hfz8_0, hfz8_1⟩ := fz2 BK253) | ((with_reducible refine gate_callee (f := 22) rfl ?_); refine gL (some 9) rfl rfl Tryd.func22 (by kernel_rfl) rfl #[.string a0_0, .string a1_0] rfl ?_; (with_reducible refine (strings_Compare.calls a0_0 a1_0 t254 _ A3.out).mono ?_); rintro e w' ⟨rfl, ⟨nd, rfl⟩⟩; refine ⟨_, rfl, ?_⟩))
 go_ret
 exact ⟨er, bs2 HB GE252 GE253, by have h1_ := DR.out; first | exact h1_ | (simp only [World.drewN]; omega)⟩

/-! ### slices_SortFunc_impl_Name_at_impl_NamesOf_1: function 20 at given function values -/
-- slices.SortFunc at NamesOf's comparison: the row as Go's own pdqsort leaves it. By the shelf's contract (Derived.Shelf.SlSortCmp) at this program's own numbers.
def cmpNames (x y : S45) : Int := Lib.compareBytes x.f0.data.toList y.f0.data.toList
instance : Inhabited S45 := ⟨z45⟩
def slices_SortFunc_impl_Name_at_impl_NamesOf_1.f (l0 : List S45) : Option (List S45) := if l0.length ≤ 1048576 then some (Go.Sort.pdq (Go.Proofs.ltOf cmpNames) l0.toArray 0 l0.toArray.size (Lib.bitLen l0.toArray.size) true true).toList else none
theorem cmpNames_eq (x y : S45) : impl_NamesOf_1.f x.f0 x.f1 y.f0 y.f1 = some (cmpNames x y) := by
  unfold impl_NamesOf_1.f strings_Compare.f
  rfl
theorem ltNames (x y : S45) : Go.Proofs.ltOf cmpNames x y = Op.bytesLess x.f0.data.toList y.f0.data.toList := by
  unfold Go.Proofs.ltOf cmpNames
  rw [Bool.eq_iff_iff, decide_eq_true_iff]
  exact Go.Proofs.YtggkhamidkmjpaaDoor.NmC.cmp_lt _ _
def encNames (x : S45) : List Value := [.string x.f0, .int .i64 x.f1]
theorem swoNames : Go.Sort.SWO (Go.Proofs.ltOf cmpNames) where
  irrefl x := by rw [ltNames]; exact Go.Proofs.YtggkhamidkmjpaaDoor.NmC.less_irrefl _
  trans x y z h1 h2 := by rw [ltNames] at *; exact Go.Proofs.YtggkhamidkmjpaaDoor.NmC.less_trans _ _ _ h1 h2
  ntrans x y z h1 h2 := by rw [ltNames] at *; exact Go.Proofs.YtggkhamidkmjpaaDoor.NmC.not_less_trans _ _ _ h1 h2
theorem sortedNames (l : List S45) : Go.Sort.PermIn 0 l.toArray.size l.toArray (Go.Sort.pdq (Go.Proofs.ltOf cmpNames) l.toArray 0 l.toArray.size (Lib.bitLen l.toArray.size) true true) ∧ Go.Sort.SortedIn (Go.Proofs.ltOf cmpNames) 0 l.toArray.size (Go.Sort.pdq (Go.Proofs.ltOf cmpNames) l.toArray 0 l.toArray.size (Lib.bitLen l.toArray.size) true true) :=
  Go.Sort.pdq_sorts (Go.Proofs.ltOf cmpNames) swoNames l.toArray 0 l.toArray.size (Lib.bitLen l.toArray.size) true true (Nat.zero_le _) (Nat.le_refl _) (Or.inl rfl)
set_option maxRecDepth 100000 in
theorem slices_SortFunc_impl_Name_at_impl_NamesOf_1.calls (P0_ : Nat → Prop) (u9000_ : Value) (l0 : List S45) (r : List S45) (w0 w : World) (hB : Below w0.heap.size w0 w) (ho0 : Kd.R k45 45 w w0.heap.size P0_ u9000_ l0) (h : slices_SortFunc_impl_Name_at_impl_NamesOf_1.f l0 = some r) :
    Calls Tryd.prog 20 #[u9000_, .func (.func 21) #[] #[]] w fun e w' => e = .returned (.tuple #[]) ∧ Kd.R k45 45 w' w0.heap.size (fun k_ => (P0_ k_ ∨ w.heap.size ≤ k_)) u9000_ r ∧ Below w0.heap.size w0 w' ∧ Kept w w' (fun k_ => P0_ k_) := by
  unfold slices_SortFunc_impl_Name_at_impl_NamesOf_1.f at h
  by_cases hl0 : l0.length ≤ 1048576
  case neg => rw [if_neg hl0] at h; cases h
  rw [if_pos hl0] at h
  obtain rfl := Option.some.inj h
  rcases holdsK_of_R (d := k45) encNames (fun _ => rfl) (by decide) (fun hm => k45_openM hm) ho0 with ⟨rfl, rfl⟩ | ⟨g, cap, cur, rfl, hb, hok, hlt, hg, hc, hm, hs, hH⟩
  · refine (Go.Proofs.AnyF.slices_SortFunc_none Go.Proofs.YtggkhamidkmjpaaDoor.Srt.sortEx none 0 _ w).mono fun e w' hp => ?_
    obtain ⟨rfl, rfl⟩ := hp
    have e0 : (Go.Sort.pdq (Go.Proofs.ltOf cmpNames) ([] : List S45).toArray 0 ([] : List S45).toArray.size (Lib.bitLen ([] : List S45).toArray.size) true true).toList = [] := List.eq_nil_of_length_eq_zero (by have := (sortedNames []).1.1; simpa using this)
    rw [e0]
    exact ⟨rfl, Kd.R_nil _ _ _ _ _, hB, Kept.refl _ _⟩
  · have eg : ∀ args w, (callFunc 21 args).run Tryd.prog w = .ok (.enter 21 args) w := Go.Proofs.enters_of Tryd.func21 (by kernel_rfl) rfl
    have hcmp : Go.Proofs.CmpLays Tryd.prog 21 #[] encNames 2 cmpNames g 0 l0.toArray.size w := fun m os dk _ x y =>
      (impl_NamesOf_1.exact x.f0 x.f1 y.f0 y.f1 _ _ (cmpNames_eq x y)).mono fun e w' hp => ⟨hp.1, grow_of_below hp.2.1 hp.2.2⟩
    have hm' : cap ≤ 9223372036854775807 := hm
    have hsz : l0.toArray.size < 4611686018427387904 := by
      rw [List.size_toArray]
      omega
    have hcon := Go.Proofs.AnyQ.slices_SortFunc_eq Go.Proofs.YtggkhamidkmjpaaDoor.Srt.sortEx 2 Tryd.isAgg45 Tryd.sizeOf45 encNames (fun _ => rfl) (fun x v hv => by simp [encNames] at hv; rcases hv with rfl | rfl <;> rfl) cmpNames swoNames 21 #[] g 0 cap l0.toArray w eg hcmp hH hlt hsz
    refine Calls.mono (show Calls Tryd.prog 20 #[.slice (some ⟨g, 0, none⟩) l0.length cap, .func (.func 21) #[] #[]] w _ from hcon) fun e w' hp => ?_
    obtain ⟨rfl, n, os, rfl⟩ := hp
    have := R_of_sort (d := k45) encNames (fun _ => rfl) (by decide) (fun W base ok x => k45_mkM W base ok x) hB hb hok hlt hg hc hm hs _ ((sortedNames l0).1.1.trans (by simp)) n os
    have h1 := this.1
    simp at h1
    exact ⟨rfl, h1, this.2.1, this.2.2⟩

/-! ### impl_NamesOf: function 7 -/
def impl_NamesOf.l0 : Nat → List (S45) → List (S43) → Int → Int → Option ((List (S45)) × Bool)
 | 0, _, _, _, _ => none
 | k + 1, x4, x12, x13, x14 => if x14 < x13 then (if 0 ≤ x14 then (if x14 < (x12.length : Int) then (if x4.length + ((rd_T43 x12 x14).f1).length < 5864062014805 then (impl_NamesOf.l0 k (x4 ++ ((rd_T43 x12 x14).f1)) x12 x13 (wrap64 (x14 + 1))) else (none)) else (none)) else (none)) else ((slices_SortFunc_impl_Name_at_impl_NamesOf_1.f x4).bind fun t265 => (some (t265, true)))
def impl_NamesOf.f (k : Nat) (a0_0 : Int) (l0_1 : List Int) (l0_2 : List (S43)) : Option ((List (S45)) × Bool) := (impl_GoodDir.f k a0_0 l0_1 l0_2).bind fun t256 => (if t256 = true then (impl_NamesOf.l0 k (([] : List (S45))) l0_2 (l0_2.length : Int) 0) else (some (([] : List (S45)), false)))
theorem impl_NamesOf.mono_l : ∀ k, (∀ y0 y1 y2 y3, LeO (impl_NamesOf.l0 k y0 y1 y2 y3) (impl_NamesOf.l0 (k + 1) y0 y1 y2 y3))
 | 0 => fun _ _ _ _ r h => by simp [impl_NamesOf.l0] at h
 | k + 1 => by
  have ih0 := impl_NamesOf.mono_l k
  ·
   intro y0 y1 y2 y3
   unfold impl_NamesOf.l0
   repeat' first
   | (with_reducible exact ih0 _ _ _ _)
   | (with_reducible exact impl_GoodDir.mono _ _ _ _)
   | (with_reducible exact LeO.refl _)
   | (with_reducible exact LeO.none _)
   | (with_reducible refine LeO.ite ?_ ?_)
   | (with_reducible refine LeO.bind ?_ (fun _ => ?_))
   | exact ih0 _ _ _ _
   | exact impl_GoodDir.mono _ _ _ _
   | exact LeO.none _
   | refine LeO.ite ?_ ?_
   | refine LeO.bind ?_ (fun _ => ?_)
theorem impl_NamesOf.mono : ∀ a0 a1 a2 k, LeO (impl_NamesOf.f k a0 a1 a2) (impl_NamesOf.f (k + 1) a0 a1 a2) := by
 intro a0 a1 a2 k
 have ih0 := impl_NamesOf.mono_l k
 unfold impl_NamesOf.f
 repeat' first
   | (with_reducible exact ih0 _ _ _ _)
   | (with_reducible exact impl_GoodDir.mono _ _ _ _)
   | (with_reducible exact LeO.refl _)
   | (with_reducible exact LeO.none _)
   | (with_reducible refine LeO.ite ?_ ?_)
   | (with_reducible refine LeO.bind ?_ (fun _ => ?_))
   | exact ih0 _ _ _ _
   | exact impl_GoodDir.mono _ _ _ _
   | exact LeO.none _
   | refine LeO.ite ?_ ?_
   | refine LeO.bind ?_ (fun _ => ?_)
set_option maxHeartbeats 8000000 in
set_option maxRecDepth 100000 in
theorem impl_NamesOf.calls (k : Nat) (a0_0 : Int) (A0_1 : Option Addr) (c0_1 : Nat) (l0_1 : List Int) (A0_2 : Option Addr) (c0_2 : Nat) (l0_2 : List (S43)) (r1 : List (S45)) (r2 : Bool) (w : World) (hr0_1 : Kd.C (Kd.int .i64) w A0_1 l0_1.length l0_1) (hc0_1 : l0_1.length ≤ c0_1) (hr0_2 : Kd.C k43 w A0_2 l0_2.length l0_2) (hc0_2 : l0_2.length ≤ c0_2) (h : impl_NamesOf.f k a0_0 l0_1 l0_2 = some (r1, r2)) :
  Calls Tryd.prog 7 #[.agg #[.int .i64 a0_0, .slice A0_1 l0_1.length c0_1, .slice A0_2 l0_2.length c0_2]] w fun e w' => ∃ v0_ : Value, e = .returned (.tuple #[v0_, .bool r2]) ∧ Kd.R k45 45 w' w.heap.size (fun _ => True) v0_ r1 ∧ Below w.heap.size w w' := by
 have hu32 := Tryd.underlying32
 have hu43 := Tryd.underlying43
 have HR0_1 := Ah hr0_1
 have HC0_1 := Ah hc0_1
 clear hr0_1 hc0_1
 have HR0_2 := Ah hr0_2
 have HC0_2 := Ah hc0_2
 clear hr0_2 hc0_2
 have HB := Ah (Below.refl w.heap.size w)
 have H : ((impl_GoodDir.f k a0_0 l0_1 l0_2).bind fun t256 => (if t256 = true then (impl_NamesOf.l0 k (([] : List (S45))) l0_2 (l0_2.length : Int) 0) else (some (([] : List (S45)), false)))) = some (r1, r2) := h
 clear h
 replace H := Option.bind_eq_some_iff.mp H
 obtain ⟨t256, A20, H⟩ := H
 try dsimp only at H
 have A2 := Ah A20
 clear A20
 by_cases c3 : t256 = true
 rotate_left
 ·
  replace c3 := Bool.eq_false_iff.mpr c3
  subst c3
  rw [if_neg fne] at H
  simp only [Option.some.injEq, Prod.mk.injEq] at H
  obtain ⟨rfl, rfl⟩ := H
  go_enter Tryd.func7, Tryd.ntmps7
  go_wp2_with (first | ((with_reducible refine gate_dst (N := 1) rfl ?_); refine boxL 1 32 #[.int .i64 a0_0, .slice A0_1 l0_1.length c0_1, .slice A0_2 l0_2.length c0_2] ?_; intro gb255 hg w21 BK255 hb; have GW255 := gw hg (bs HB); have GE255 := gw hg (bs HB); replace HB := Ah (below_step (bs HB) hb); clear hb hg; obtain ⟨hcz22_0, hcz22_1, hcz22_2⟩ := cz3 BK255; obtain ⟨hfz22_0, hfz22_1, hfz22_2⟩ := fz3 BK255) | ((with_reducible refine gate_callee (f := 19) rfl ?_); refine gL (some 8) rfl rfl Tryd.func19 (by kernel_rfl) rfl #[.agg #[.int .i64 a0_0, .slice A0_1 l0_1.length c0_1, .slice A0_2 l0_2.length c0_2]] rfl ?_; (with_reducible refine (impl_GoodDir.calls k a0_0 _ _ l0_1 _ _ l0_2 false _ ?side1 ?side2 ?side3 ?side4 A2.out).mono ?_); (case side1 => exact cb HR0_1 HB); (case side2 => exact HC0_1.out); (case side3 => exact cb HR0_2 HB); (case side4 => exact HC0_2.out); rintro e w23 ⟨rfl, hb⟩; refine ⟨_, rfl, ?_⟩; replace BK255 := nb BK255 hb; replace HB := Ah (below_step (bs1 HB GE255) hb); (try clear hb)))
  go_ret2
  exact ⟨_, er, by first | exact Kd.R_nil _ _ _ _ _ | exact Kd.N_nil _ _ _ _ _ | exact Kd.V_nil _ _ _ _ _ | exact Kd.Q_nil _ _ _ _ _ | exact Kd.S_nil _ _ _ _ _, bs1 HB GE255⟩
 subst c3
 rw [if_pos rfl] at H
 obtain ⟨y257, hy257⟩ : ∃ y_ : List (S45), y_ = (([] : List (S45))) := ⟨_, rfl⟩
 replace H : (impl_NamesOf.l0 k y257 l0_2 (l0_2.length : Int) 0) = some (r1, r2) := by first | (rw [hy257]; with_reducible exact H) | (have H2_ := (Option.bind_some _ _).symm.trans H; rw [hy257]; with_reducible exact H2_) | (have H2_ := (Option.bind_some _ _).symm.trans H; with_reducible exact H2_) | with_reducible exact H | (rw [hy257]; exact H) | exact H
 have Ny257 := Ah hy257
 clear hy257
 have H' := Ah H
 clear H
 go_enter Tryd.func7, Tryd.ntmps7
 go_wp2_with (first | ((with_reducible refine gate_dst (N := 1) rfl ?_); refine boxL 1 32 #[.int .i64 a0_0, .slice A0_1 l0_1.length c0_1, .slice A0_2 l0_2.length c0_2] ?_; intro gb255 hg w4 BK255 hb; have GW255 := gw hg (bs HB); have GE255 := gw hg (bs HB); replace HB := Ah (below_step (bs HB) hb); clear hb hg; obtain ⟨hcz5_0, hcz5_1, hcz5_2⟩ := cz3 BK255; obtain ⟨hfz5_0, hfz5_1, hfz5_2⟩ := fz3 BK255) | ((with_reducible refine gate_callee (f := 19) rfl ?_); refine gL (some 8) rfl rfl Tryd.func19 (by kernel_rfl) rfl #[.agg #[.int .i64 a0_0, .slice A0_1 l0_1.length c0_1, .slice A0_2 l0_2.length c0_2]] rfl ?_; (with_reducible refine (impl_GoodDir.calls k a0_0 _ _ l0_1 _ _ l0_2 true _ ?side1 ?side2 ?side3 ?side4 A2.out).mono ?_); (case side1 => exact cb HR0_1 HB); (case side2 => exact HC0_1.out); (case side3 => exact cb HR0_2 HB); (case side4 => exact HC0_2.out); rintro e w6 ⟨rfl, hb⟩; refine ⟨_, rfl, ?_⟩; replace BK255 := nb BK255 hb; replace HB := Ah (below_step (bs1 HB GE255) hb); (try clear hb)) | ((with_reducible refine gate_dst (N := 10) rfl ?_); refine Kd.R_lit k45 _ 45 ?hg (N := 10) ?hd (xs := ([] : List (S45))) (inner := []) (ok := fun _ => True) (okp := fun _ => True) ?hr ?hp (fun _ hk => hk) trivial (Below.refl _ _) (Nat.le_refl _) (by simp) ?_; (case hd => rfl); (case hg => rfl); (case hr => first | (go_simp; done) | (go_simp; rfl)); (case hp => exact (Reps.none _ _)); intro v258 w7 ho8 hb hg_ hnew_; clear hg_ hnew_; (first | rw [← Ny257.out] at ho8 | (simp only [Int.reduceToNat] at ho8; rw [← Ny257.out] at ho8)); have HO259 := Ah (Kd.R_lower ho8 (below_size (bs1 HB GE255))); replace BK255 := nb BK255 hb; replace HB := Ah (below_step (bs1 HB GE255) hb); clear hb ho8; obtain ⟨hcz9_0, hcz9_1, hcz9_2⟩ := cz3 BK255; obtain ⟨hfz9_0, hfz9_1, hfz9_2⟩ := fz3 BK255))
 go_loopg [4, 14] k (fun kq v4 v14 w' => ∃ (x4_1 : List (S45)) (x14_1 : Int), v14 = .int .i64 x14_1 ∧ Aside0 (impl_NamesOf.l0 kq x4_1 l0_2 (l0_2.length : Int) x14_1 = some (r1, r2)) ∧ Aside0 (kq ≤ k) ∧ Aside0 (Kd.R k45 45 w' w.heap.size (fun _ => True) v4 x4_1) ∧ Aside0 (w'.heap[gb255]? = some (.cells #[.int .i64 a0_0, (.slice A0_1 l0_1.length c0_1), (.slice A0_2 l0_2.length c0_2)] 32 (0, 0))) ∧ Aside0 (Below w.heap.size w w'))
 case atStart => exact ⟨(y257), (0), e3, H', ⟨Nat.le_refl _⟩, ⟨rr HO259.out⟩, ⟨bk BK255⟩, ⟨bs1 HB GE255⟩⟩
 case round =>
  clear H'
  try clear c1
  try clear p2
  try clear c3
  try clear c7
  try clear hcz5_0 hcz5_1 hcz5_2
  try clear hcz9_0 hcz9_1 hcz9_2
  try clear hfz5_0 hfz5_1 hfz5_2
  try clear hfz9_0 hfz9_1 hfz9_2
  obtain ⟨x4_1, x14_1, rfl, HA, HK1, HO_4, BK255, HB⟩ := hrel
  cases gk with
  | zero => exact absurd HA.out (by simp [impl_NamesOf.l0])
  | succ k1 =>
   have H := HA.out
   clear HA
   simp only [impl_NamesOf.l0] at H
   by_cases c10 : x14_1 < (l0_2.length : Int)
   rotate_left
   ·
    rw [if_neg c10] at H
    have c10b0 : decide (x14_1 < (l0_2.length : Int)) = false := decide_eq_false c10
    clear c10
    replace H := Option.bind_eq_some_iff.mp H
    obtain ⟨t265, A180, H⟩ := H
    try dsimp only at H
    have A18 := Ah A180
    clear A180
    simp only [Option.some.injEq, Prod.mk.injEq] at H
    obtain ⟨rfl, rfl⟩ := H
    obtain ⟨Ao19, co19, eo19⟩ := Kd.R_slice HO_4.out
    subst eo19
    go_wp2_with (first | ((with_reducible refine gate_callee (f := 20) rfl ?_); refine gL (some 24) rfl rfl Tryd.func20 (by kernel_rfl) rfl #[.slice Ao19 x4_1.length co19, .func (.func 21) #[] #[]] rfl ?_; (with_reducible refine (slices_SortFunc_impl_Name_at_impl_NamesOf_1.calls (fun k_ => some k_ = (.slice Ao19 x4_1.length co19 : Value).ownBlock) (.slice Ao19 x4_1.length co19) x4_1  t265 w _ ?side1 ?side2 A18.out).mono ?_); (case side1 => repeat (first | (with_reducible first | exact HB.out | apply below_alloc | apply pw_below_drewN | apply below_drew1 | refine below_set ?_ GE255.out) | exact HB.out)); (case side2 => exact Kd.R_tight rfl HO_4.out); rintro e w20 ⟨rfl, hy0, hb, hkp⟩; refine ⟨_, rfl, ?_⟩; replace BK255 := Ah (blk_kept (bk BK255) hkp (fun hs_ => (fun e_ => (Kd.R_ne HO_4.out BK255.out (by decide)) e_) hs_)); replace HO_4 := Ah (Kd.R_reok rfl hy0 (fun k_ e_ => HO_4.out.1 k_ e_)); replace HB := Ah (hb); (try clear hb hkp hy0)))
    go_ret2
    exact ⟨_, er, by (with_reducible repeat (first | apply Kd.R_alloc | apply Kd.R_drewN | apply Kd.R_drew)); exact HO_4.out, bs1 HB GE255⟩
   rw [if_pos c10] at H
   have c10b0 : decide (x14_1 < (l0_2.length : Int)) = true := decide_eq_true c10
   clear c10
   by_cases c11 : 0 ≤ x14_1
   rotate_left
   ·
    rw [if_neg c11] at H
    exact absurd H (by simp)
   rw [if_pos c11] at H
   have c11b0 : decide (0 ≤ x14_1) = true := decide_eq_true c11
   clear c11
   by_cases c12 : x14_1 < (l0_2.length : Int)
   rotate_left
   ·
    rw [if_neg c12] at H
    exact absurd H (by simp)
   rw [if_pos c12] at H
   have c12b0 : decide (x14_1 < (l0_2.length : Int)) = true := decide_eq_true c12
   clear c12
   by_cases c13 : x4_1.length + ((rd_T43 l0_2 x14_1).f1).length < 5864062014805
   rotate_left
   ·
    rw [if_neg c13] at H
    exact absurd H (by simp)
   rw [if_pos c13] at H
   have LMc13 := Ah c13
   clear c13
   obtain ⟨y262, hy262⟩ : ∃ y_ : List (S45), y_ = (x4_1 ++ ((rd_T43 l0_2 x14_1).f1)) := ⟨_, rfl⟩
   replace H : (impl_NamesOf.l0 k1 y262 l0_2 (l0_2.length : Int) (wrap64 (x14_1 + 1))) = some (r1, r2) := by first | (rw [hy262]; with_reducible exact H) | (have H2_ := (Option.bind_some _ _).symm.trans H; rw [hy262]; with_reducible exact H2_) | (have H2_ := (Option.bind_some _ _).symm.trans H; with_reducible exact H2_) | with_reducible exact H | (rw [hy262]; exact H) | exact H
   have Ny262 := Ah hy262
   clear hy262
   have H' := Ah H
   clear H
   have p260 : 0 ≤ (x14_1 : Int) := od
   have q260 : x14_1 < (l0_2.length : Int) := od
   obtain ⟨ad260, A260_1, c260_1, e260, hx260_0, hx260_1, hl260_1, hi260_1⟩ := at_T43 HR0_2.out x14_1 p260 q260
   cases e260
   replace hx260_0 := (HB.out.cell (World.block_lt_of_cell? w _ hx260_0)).trans hx260_0
   replace hx260_1 := (HB.out.cell (World.block_lt_of_cell? w _ hx260_1)).trans hx260_1
   have HR260_1 := Ah hi260_1
   have HC260_1 := Ah hl260_1
   clear hi260_1 hl260_1
   replace p260 := eq_true p260
   replace q260 := eq_true q260
   go_wp2_with (first | ((with_reducible refine gate_dst (N := 6) rfl ?_); refine boxL 6 43 #[.int .i64 0, .slice none 0 0] ?_; intro gb261 hg w14 BK261 hb; replace HO_4 := nr HO_4 hb; have GW261 := gw hg (bs1 HB GE255); have GE261 := gw hg (bs1 HB GE255); replace HB := Ah (below_step (bs1 HB GE255) hb); have NB255_261 := nn BK255 hg; have NB261_255 := nm BK255 hg; replace BK255 := nb BK255 hb; clear hb hg; have hnb15 := NB261_255.out; have hnc15 := NB255_261.out; obtain ⟨hcz16_0, hcz16_1⟩ := cz2 BK261; obtain ⟨hfz16_0, hfz16_1⟩ := fz2 BK261) | ((with_reducible refine gate_builtin (b := .append) (xs := #[.tmp 18, .tmp 20]) rfl ?_); at_builtin; refine Kd.R_append_rows k45 (w0 := w) w.heap.size rfl (.tmp 18) (.tmp 20) 27 45 (.agg #[(.string ⟨#[]⟩), (.int .i64 0)]) 24 rfl Tryd.underlying27 info45 rfl (by decide) (by omega) u4 x4_1 ((rd_T43 l0_2 x14_1).f1) _ _ _ (fun _ => True) (fun _ => False) rfl rfl ?aO ?aR (fun _ _ h => h) (fun _ h => h.elim) ?aF ?aB ?aS ?aL ?_; (case aR => exact Kd.C_below HR260_1.out (bs2 HB GE255 GE261)); (case aB => exact (bs2 HB GE255 GE261)); (case aF => exact (fun _ _ => trivial)); (case aO => exact (by (with_reducible repeat (first | apply Kd.R_alloc | apply Kd.R_drewN | apply Kd.R_drew)); exact Kd.R_mono (Kd.R_far (p := ⟨gb261, 1, none⟩) (Kd.R_far (p := ⟨gb261, 0, none⟩) (Kd.R_types HO_4.out BK261.out (by decide)) (fun _ hk => hk.2) (.int .i64 ((rd_T43 l0_2 x14_1).f0))) (fun _ hk => hk.2) (.slice A260_1 ((rd_T43 l0_2 x14_1).f1).length c260_1)) (fun _ hk => trivial))); (case aS => exact (below_size (bs2 HB GE255 GE261))); (case aL => have := LMc13.out; omega); intro v263 w17 ho hb hg hat; rw [← Ny262.out] at ho; replace BK255 := Ah (blk_grown (bf BK255 NB255_261) hg (Kd.R_ne HO_4.out BK255.out (by decide))); replace BK261 := Ah (blk_grown (g := gb261) (o := .cells #[.int .i64 ((rd_T43 l0_2 x14_1).f0), .slice A260_1 ((rd_T43 l0_2 x14_1).f1).length c260_1] 43 (0, 0)) (by (with_reducible repeat (first | refine blk_drewN ?_ _ | refine blk_drew ?_ | refine blk_alloc ?_ _)); refine blk_put (cs := #[.int .i64 ((rd_T43 l0_2 x14_1).f0), .slice none 0 0]) ?_ 1 _ rfl; (with_reducible repeat (first | refine blk_drewN ?_ _ | refine blk_drew ?_ | refine blk_alloc ?_ _)); refine blk_put (cs := #[.int .i64 0, .slice none 0 0]) ?_ 0 _ rfl; (with_reducible repeat (first | refine blk_drewN ?_ _ | refine blk_drew ?_ | refine blk_alloc ?_ _)); exact BK261.out) hg (Kd.R_ne HO_4.out BK261.out (by decide))); replace HB := Ah (hb); have HO264 := Ah (ho); clear HO_4; clear ho hb hg hat))
   go_roundg k1
   case measure => have := HK1.out; omega
   case rel => exact ⟨(y262), (wrap64 (x14_1 + 1)), e3, H', ⟨by have := HK1.out; omega⟩, ⟨rr HO264.out⟩, ⟨bk BK255⟩, ⟨bs2 HB GE255 GE261⟩⟩

/-! ### laws_eqName: function 23 -/
def laws_eqName.f (a0_0 : ByteArray) (a0_1 : Int) (a1_0 : ByteArray) (a1_1 : Int) : Option (Bool) := if a0_0.toList = a1_0.toList then (if a0_1 = a1_1 then (some true) else (some false)) else (some false)
set_option maxHeartbeats 8000000 in
set_option maxRecDepth 100000 in
theorem laws_eqName.calls (a0_0 : ByteArray) (a0_1 : Int) (a1_0 : ByteArray) (a1_1 : Int) (r : Bool) (w : World) (h : laws_eqName.f a0_0 a0_1 a1_0 a1_1 = some r) :
  Calls Tryd.prog 23 #[.agg #[.string a0_0, .int .i64 a0_1], .agg #[.string a1_0, .int .i64 a1_1]] w fun e w' => e = .returned (.bool r) ∧ Below w.heap.size w w' := by
 have hu45 := Tryd.underlying45
 have HB := Ah (Below.refl w.heap.size w)
 have H : (if a0_0.toList = a1_0.toList then (if a0_1 = a1_1 then (some true) else (some false)) else (some false)) = some r := h
 clear h
 by_cases c3 : a0_0.toList = a1_0.toList
 rotate_left
 ·
  rw [if_neg c3] at H
  have c3b0 : (a0_0.toList == a1_0.toList) = false := beq_eq_false_iff_ne.mpr c3
  have c3b1 : (a0_0.toList != a1_0.toList) = true := bne_iff_ne.mpr c3
  obtain rfl := Option.some.inj H
  go_enter Tryd.func23, Tryd.ntmps23
  go_wp2_with (first | ((with_reducible refine gate_dst (N := 2) rfl ?_); refine boxL 2 45 #[.string a0_0, .int .i64 a0_1] ?_; intro gb266 hg w15 BK266 hb; have GW266 := gw hg (bs HB); have GE266 := gw hg (bs HB); replace HB := Ah (below_step (bs HB) hb); clear hb hg) | ((with_reducible refine gate_dst (N := 3) rfl ?_); refine boxL 3 45 #[.string a1_0, .int .i64 a1_1] ?_; intro gb267 hg w16 BK267 hb; have GW267 := gw hg (bs1 HB GE266); have GE267 := gw hg (bs1 HB GE266); replace HB := Ah (below_step (bs1 HB GE266) hb); have NB266_267 := nn BK266 hg; have NB267_266 := nm BK266 hg; replace BK266 := nb BK266 hb; clear hb hg; have hnb17 := NB266_267.out; have hnc17 := NB267_266.out; obtain ⟨hcz18_0, hcz18_1⟩ := cz2 BK266; obtain ⟨hfz18_0, hfz18_1⟩ := fz2 BK266; obtain ⟨hcz19_0, hcz19_1⟩ := cz2 BK267; obtain ⟨hfz19_0, hfz19_1⟩ := fz2 BK267))
  go_ret
  exact ⟨er, bs2 HB GE266 GE267⟩
 rw [if_pos c3] at H
 have c3b0 : (a0_0.toList == a1_0.toList) = true := beq_iff_eq.mpr c3
 have c3b1 : (a0_0.toList != a1_0.toList) = false := bne_eq_false_iff_eq.mpr c3
 clear c3
 by_cases c4 : a0_1 = a1_1
 ·
  rw [if_pos c4] at H
  have c4b0 : (a0_1 == a1_1) = true := beq_iff_eq.mpr c4
  have c4b1 : (a0_1 != a1_1) = false := bne_eq_false_iff_eq.mpr c4
  clear c4
  obtain rfl := Option.some.inj H
  go_enter Tryd.func23, Tryd.ntmps23
  go_wp2_with (first | ((with_reducible refine gate_dst (N := 2) rfl ?_); refine boxL 2 45 #[.string a0_0, .int .i64 a0_1] ?_; intro gb266 hg w5 BK266 hb; have GW266 := gw hg (bs HB); have GE266 := gw hg (bs HB); replace HB := Ah (below_step (bs HB) hb); clear hb hg) | ((with_reducible refine gate_dst (N := 3) rfl ?_); refine boxL 3 45 #[.string a1_0, .int .i64 a1_1] ?_; intro gb267 hg w6 BK267 hb; have GW267 := gw hg (bs1 HB GE266); have GE267 := gw hg (bs1 HB GE266); replace HB := Ah (below_step (bs1 HB GE266) hb); have NB266_267 := nn BK266 hg; have NB267_266 := nm BK266 hg; replace BK266 := nb BK266 hb; clear hb hg; have hnb7 := NB266_267.out; have hnc7 := NB267_266.out; obtain ⟨hcz8_0, hcz8_1⟩ := cz2 BK266; obtain ⟨hfz8_0, hfz8_1⟩ := fz2 BK266; obtain ⟨hcz9_0, hcz9_1⟩ := cz2 BK267; obtain ⟨hfz9_0, hfz9_1⟩ := fz2 BK267))
  go_ret
  exact ⟨er, bs2 HB GE266 GE267⟩
 rw [if_neg c4] at H
 have c4b0 : (a0_1 == a1_1) = false := beq_eq_false_iff_ne.mpr c4
 have c4b1 : (a0_1 != a1_1) = true := bne_iff_ne.mpr c4
 obtain rfl := Option.some.inj H
 go_enter Tryd.func23, Tryd.ntmps23
 go_wp2_with (first | ((with_reducible refine gate_dst (N := 2) rfl ?_); refine boxL 2 45 #[.string a0_0, .int .i64 a0_1] ?_; intro gb266 hg w10 BK266 hb; have GW266 := gw hg (bs HB); have GE266 := gw hg (bs HB); replace HB := Ah (below_step (bs HB) hb); clear hb hg) | ((with_reducible refine gate_dst (N := 3) rfl ?_); refine boxL 3 45 #[.string a1_0, .int .i64 a1_1] ?_; intro gb267 hg w11 BK267 hb; have GW267 := gw hg (bs1 HB GE266); have GE267 := gw hg (bs1 HB GE266); replace HB := Ah (below_step (bs1 HB GE266) hb); have NB266_267 := nn BK266 hg; have NB267_266 := nm BK266 hg; replace BK266 := nb BK266 hb; clear hb hg; have hnb12 := NB266_267.out; have hnc12 := NB267_266.out; obtain ⟨hcz13_0, hcz13_1⟩ := cz2 BK266; obtain ⟨hfz13_0, hfz13_1⟩ := fz2 BK266; obtain ⟨hcz14_0, hcz14_1⟩ := cz2 BK267; obtain ⟨hfz14_0, hfz14_1⟩ := fz2 BK267))
 go_ret
 exact ⟨er, bs2 HB GE266 GE267⟩

end Go.Proofs.YtggkhamidkmjpaaDoor.G
