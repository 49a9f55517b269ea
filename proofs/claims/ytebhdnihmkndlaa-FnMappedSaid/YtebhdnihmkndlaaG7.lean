-- Printed by a program of this session (drive.py, by way of the kit's print). Not trusted: Lean checks it.
import Derived.Test.YtebhdnihmkndlaaG0
import Derived.Test.YtebhdnihmkndlaaG2
import Derived.Test.YtebhdnihmkndlaaG3
import Derived.Test.YtebhdnihmkndlaaG5
import Derived.Test.YtebhdnihmkndlaaG6
namespace Go.Proofs.Ytebhdnihmkndlaa.G
open Go.RowKit Go.Proofs.YtebhdnihmkndlaaW.PrintWords Go.Proofs.YtebhdnihmkndlaaW.PrintLast Go.Proofs.YtebhdnihmkndlaaW.PrintMore
attribute [local go_sem] max2_int min2_int max_two min_two max_three min_three max_four min_four
set_option linter.unusedVariables false
set_option linter.unusedSimpArgs false
attribute [local go_sem high] eqA43
def impl_MapSize.l0 : Nat → Int → Int → List (S27) → Int → Int → Option (Int × Int × Bool)
 | 0, _, _, _, _, _ => none
 | k + 1, x5, x6, x13, x14, x15 => if x15 < x14 then (if 0 ≤ x15 then (if x15 < (x13.length : Int) then (if (rd_T27 x13 x15).f3 = true then (impl_MapSize.l0 k (wrap64 (x5 + ((rd_T27 x13 x15).f1))) (wrap64 (x6 + ((rd_T27 x13 x15).f1))) x13 x14 (wrap64 (x15 + 1))) else (impl_MapSize.l0 k (wrap64 (x5 + ((rd_T27 x13 x15).f1))) x6 x13 x14 (wrap64 (x15 + 1)))) else (none)) else (none)) else (some (x5, x6, true))
def impl_MapSize.f (k : Nat) (l0_0 : List (S27)) : Option (Int × Int × Bool) := (impl_GoodMap.f k l0_0).bind fun t481 => (if t481 = true then (impl_MapSize.l0 k 0 0 l0_0 (l0_0.length : Int) 0) else (some (0, 0, false)))
theorem impl_MapSize.mono_l : ∀ k, (∀ y0 y1 y2 y3 y4, LeO (impl_MapSize.l0 k y0 y1 y2 y3 y4) (impl_MapSize.l0 (k + 1) y0 y1 y2 y3 y4))
 | 0 => fun _ _ _ _ _ r h => by simp [impl_MapSize.l0] at h
 | k + 1 => by
  have ih0 := impl_MapSize.mono_l k
  ·
   intro y0 y1 y2 y3 y4;unfold impl_MapSize.l0
   repeat' with_reducible first|exact ih0 _ _ _ _ _|exact impl_GoodMap.mono _ _|exact LeO.refl _|exact LeO.none _|refine LeO.ite ?_ ?_|refine LeO.bind ?_ (fun _ => ?_)
theorem impl_MapSize.mono : ∀ a0 k, LeO (impl_MapSize.f k a0) (impl_MapSize.f (k + 1) a0) := by
 intro a0 k;have ih0 := impl_MapSize.mono_l k;unfold impl_MapSize.f
 repeat' with_reducible first|exact ih0 _ _ _ _ _|exact impl_GoodMap.mono _ _|exact LeO.refl _|exact LeO.none _|refine LeO.ite ?_ ?_|refine LeO.bind ?_ (fun _ => ?_)
set_option maxHeartbeats 8000000 in
set_option maxRecDepth 100000 in
theorem impl_MapSize.calls (k : Nat) (A0_0 : Option Addr) (c0_0 : Nat) (l0_0 : List (S27)) (r1 : Int) (r2 : Int) (r3 : Bool) (w : World) (hr0_0 : Kd.C k27 w A0_0 l0_0.length l0_0) (hc0_0 : l0_0.length ≤ c0_0) (h : impl_MapSize.f k l0_0 = some (r1, r2, r3)) :
  Calls Try.prog 11 #[.agg #[.slice A0_0 l0_0.length c0_0]] w fun e w' => e = .returned (.tuple #[.int .i64 r1, .int .i64 r2, .bool r3]) ∧ Below w.heap.size w w' := by
 have hu25 := Try.underlying25;have hu27 := Try.underlying27;have HR0_0 := Ah hr0_0;have HC0_0 := Ah hc0_0;clear hr0_0 hc0_0;have HB := Ah (Below.refl w.heap.size w);have H : ((impl_GoodMap.f k l0_0).bind fun t481 => (if t481 = true then (impl_MapSize.l0 k 0 0 l0_0 (l0_0.length : Int) 0) else (some (0, 0, false)))) = some (r1, r2, r3) := h;clear h;replace H := Option.bind_eq_some_iff.mp H;obtain ⟨t481, A20, H⟩ := H
 try dsimp only at H
 have A2 := Ah A20;clear A20
 by_cases c3 : t481 = true
 rotate_left
 ·
  replace c3 := Bool.eq_false_iff.mpr c3;subst c3;rw [if_neg fne] at H;simp only [Option.some.injEq, Prod.mk.injEq] at H;obtain ⟨rfl, rfl, rfl⟩ := H
  go_enter Try.func11, Try.ntmps11
  go_wp2_with (first | ((with_reducible refine gate_dst (N := 1) rfl ?_); refine boxL 1 25 #[.slice A0_0 l0_0.length c0_0] ?_; intro gb480 hg w19 BK480 hb; have GW480 := gw hg (bs HB); have GE480 := gw hg (bs HB); replace HB := Ah (below_step (bs HB) hb); clear hb hg; have hcz20_0 := cz1 BK480; have hfz20_0 := fz1 BK480) | ((with_reducible refine gate_callee (f := 8) rfl ?_); refine gL (some 10) rfl rfl Try.func8 (by kernel_rfl) rfl #[.agg #[.slice A0_0 l0_0.length c0_0]] rfl ?_; (with_reducible refine (impl_GoodMap.calls k _ _ l0_0 false _ ?side1 ?side2 A2.out).mono ?_); (case side1 => exact cb HR0_0 HB); (case side2 => exact HC0_0.out); rintro e w21 ⟨rfl, hb⟩; refine ⟨_, rfl, ?_⟩; replace BK480 := nb BK480 hb; replace HB := Ah (below_step (bs1 HB GE480) hb); (try clear hb)))
  go_ret3
  exact ⟨er, bs1 HB GE480⟩
 subst c3;rw [if_pos rfl] at H;have H' := Ah H;clear H
 go_enter Try.func11, Try.ntmps11
 go_wp2_with (first | ((with_reducible refine gate_dst (N := 1) rfl ?_); refine boxL 1 25 #[.slice A0_0 l0_0.length c0_0] ?_; intro gb480 hg w4 BK480 hb; have GW480 := gw hg (bs HB); have GE480 := gw hg (bs HB); replace HB := Ah (below_step (bs HB) hb); clear hb hg; have hcz5_0 := cz1 BK480; have hfz5_0 := fz1 BK480) | ((with_reducible refine gate_callee (f := 8) rfl ?_); refine gL (some 10) rfl rfl Try.func8 (by kernel_rfl) rfl #[.agg #[.slice A0_0 l0_0.length c0_0]] rfl ?_; (with_reducible refine (impl_GoodMap.calls k _ _ l0_0 true _ ?side1 ?side2 A2.out).mono ?_); (case side1 => exact cb HR0_0 HB); (case side2 => exact HC0_0.out); rintro e w6 ⟨rfl, hb⟩; refine ⟨_, rfl, ?_⟩; replace BK480 := nb BK480 hb; replace HB := Ah (below_step (bs1 HB GE480) hb); (try clear hb); have hcz7_0 := cz1 BK480; have hfz7_0 := fz1 BK480))
 go_loopg [5, 6, 15] k (fun kq v5 v6 v15 w' => ∃ (x5_1 : Int) (x6_1 : Int) (x15_1 : Int), v5 = .int .i64 x5_1 ∧ v6 = .int .i64 x6_1 ∧ v15 = .int .i64 x15_1 ∧ Aside0 (impl_MapSize.l0 kq x5_1 x6_1 l0_0 (l0_0.length : Int) x15_1 = some (r1, r2, r3)) ∧ Aside0 (kq ≤ k) ∧ Aside0 (w'.heap[gb480]? = some (.cells #[(.slice A0_0 l0_0.length c0_0)] 25 (0, 0))) ∧ Aside0 (Below w.heap.size w w'))
 case atStart => exact ⟨(0), (0), (0), e3, e3, e3, H', ⟨Nat.le_refl _⟩, ⟨bk BK480⟩, ⟨bs1 HB GE480⟩⟩
 case round =>
  clear H'
  try clear c1
  try clear p2
  try clear c3
  try clear hcz5_0
  try clear hcz7_0
  try clear hfz5_0
  try clear hfz7_0
  obtain ⟨x5_1, x6_1, x15_1, rfl, rfl, rfl, HA, HK1, BK480, HB⟩ := hrel
  cases gk with
  | zero => exact absurd HA.out (by simp [impl_MapSize.l0])
  | succ k1 =>
   have H := HA.out;clear HA;simp only [impl_MapSize.l0] at H
   by_cases c8 : x15_1 < (l0_0.length : Int)
   rotate_left
   ·
    rw [if_neg c8] at H;have c8b0 : decide (x15_1 < (l0_0.length : Int)) = false := decide_eq_false c8;clear c8;simp only [Option.some.injEq, Prod.mk.injEq] at H;obtain ⟨rfl, rfl, rfl⟩ := H
    go_wp2
    go_ret3
    exact ⟨er, bs1 HB GE480⟩
   rw [if_pos c8] at H;have c8b0 : decide (x15_1 < (l0_0.length : Int)) = true := decide_eq_true c8;clear c8
   by_cases c9 : 0 ≤ x15_1
   rotate_left
   ·
    rw [if_neg c9] at H;exact absurd H (by simp)
   rw [if_pos c9] at H;have c9b0 : decide (0 ≤ x15_1) = true := decide_eq_true c9;clear c9
   by_cases c10 : x15_1 < (l0_0.length : Int)
   rotate_left
   ·
    rw [if_neg c10] at H;exact absurd H (by simp)
   rw [if_pos c10] at H;have c10b0 : decide (x15_1 < (l0_0.length : Int)) = true := decide_eq_true c10;clear c10;obtain ⟨bq11, hbq11⟩ : ∃ b_ : Bool, b_ = ((rd_T27 l0_0 x15_1).f3) := ⟨_, rfl⟩
   replace H : (if bq11 = true then (impl_MapSize.l0 k1 (wrap64 (x5_1 + ((rd_T27 l0_0 x15_1).f1))) (wrap64 (x6_1 + ((rd_T27 l0_0 x15_1).f1))) l0_0 (l0_0.length : Int) (wrap64 (x15_1 + 1))) else (impl_MapSize.l0 k1 (wrap64 (x5_1 + ((rd_T27 l0_0 x15_1).f1))) x6_1 l0_0 (l0_0.length : Int) (wrap64 (x15_1 + 1)))) = some (r1, r2, r3) := by rw [← hbq11] at H; exact H
   have Nbq11 := Ah hbq11;clear hbq11
   by_cases c12 : bq11 = true
   ·
    subst c12;rw [if_pos rfl] at H;have H' := Ah H;clear H;have p482 : 0 ≤ (x15_1 : Int) := od;have q482 : x15_1 < (l0_0.length : Int) := od;obtain ⟨ad482, e482, hx482_0, hx482_1, hx482_2, hx482_3⟩ := at_T27 HR0_0.out x15_1 p482 q482;(try rw [← Nbq11.out] at hx482_3)
    cases e482
    replace hx482_0 := (HB.out.cell (World.block_lt_of_cell? w _ hx482_0)).trans hx482_0;replace hx482_1 := (HB.out.cell (World.block_lt_of_cell? w _ hx482_1)).trans hx482_1;replace hx482_2 := (HB.out.cell (World.block_lt_of_cell? w _ hx482_2)).trans hx482_2;replace hx482_3 := (HB.out.cell (World.block_lt_of_cell? w _ hx482_3)).trans hx482_3;replace p482 := eq_true p482;replace q482 := eq_true q482
    go_wp2_with (first | ((with_reducible refine gate_dst (N := 8) rfl ?_); refine boxL 8 27 #[.int .i64 0, .int .i64 0, .int .i64 0, .bool false] ?_; intro gb483 hg w13 BK483 hb; have GW483 := gw hg (bs1 HB GE480); have GE483 := gw hg (bs1 HB GE480); replace HB := Ah (below_step (bs1 HB GE480) hb); have NB480_483 := nn BK480 hg; have NB483_480 := nm BK480 hg; replace BK480 := nb BK480 hb; clear hb hg; have hnb14 := NB483_480.out; have hnc14 := NB480_483.out; obtain ⟨hcz15_0, hcz15_1, hcz15_2, hcz15_3⟩ := cz4 BK483; obtain ⟨hfz15_0, hfz15_1, hfz15_2, hfz15_3⟩ := fz4 BK483))
    go_roundg k1
    case measure => have := HK1.out; omega
    case rel => exact ⟨(wrap64 (x5_1 + ((rd_T27 l0_0 x15_1).f1))), (wrap64 (x6_1 + ((rd_T27 l0_0 x15_1).f1))), (wrap64 (x15_1 + 1)), e3, e3, e3, H', ⟨by have := HK1.out; omega⟩, ⟨bf BK480 NB480_483⟩, ⟨bs2 HB GE480 GE483⟩⟩
   replace c12 := Bool.eq_false_iff.mpr c12;subst c12;rw [if_neg fne] at H;have H' := Ah H;clear H;have p482 : 0 ≤ (x15_1 : Int) := od;have q482 : x15_1 < (l0_0.length : Int) := od;obtain ⟨ad482, e482, hx482_0, hx482_1, hx482_2, hx482_3⟩ := at_T27 HR0_0.out x15_1 p482 q482;(try rw [← Nbq11.out] at hx482_3)
   cases e482
   replace hx482_0 := (HB.out.cell (World.block_lt_of_cell? w _ hx482_0)).trans hx482_0;replace hx482_1 := (HB.out.cell (World.block_lt_of_cell? w _ hx482_1)).trans hx482_1;replace hx482_2 := (HB.out.cell (World.block_lt_of_cell? w _ hx482_2)).trans hx482_2;replace hx482_3 := (HB.out.cell (World.block_lt_of_cell? w _ hx482_3)).trans hx482_3;replace p482 := eq_true p482;replace q482 := eq_true q482
   go_wp2_with (first | ((with_reducible refine gate_dst (N := 8) rfl ?_); refine boxL 8 27 #[.int .i64 0, .int .i64 0, .int .i64 0, .bool false] ?_; intro gb483 hg w16 BK483 hb; have GW483 := gw hg (bs1 HB GE480); have GE483 := gw hg (bs1 HB GE480); replace HB := Ah (below_step (bs1 HB GE480) hb); have NB480_483 := nn BK480 hg; have NB483_480 := nm BK480 hg; replace BK480 := nb BK480 hb; clear hb hg; have hnb17 := NB483_480.out; have hnc17 := NB480_483.out; obtain ⟨hcz18_0, hcz18_1, hcz18_2, hcz18_3⟩ := cz4 BK483; obtain ⟨hfz18_0, hfz18_1, hfz18_2, hfz18_3⟩ := fz4 BK483))
   go_roundg k1
   case measure => have := HK1.out; omega
   case rel => exact ⟨(wrap64 (x5_1 + ((rd_T27 l0_0 x15_1).f1))), (x6_1), (wrap64 (x15_1 + 1)), e3, e3, e3, H', ⟨by have := HK1.out; omega⟩, ⟨bf BK480 NB480_483⟩, ⟨bs2 HB GE480 GE483⟩⟩
def impl_isRange.f (k : Nat) (l0_0 : List (S27)) (a1 : Int) (a2 : Int) : Option (Bool) := (impl_GoodMap.f k l0_0).bind fun t485 => (if t485 = true then ((impl_within.f a1 0 200).bind fun t486 => (if t486 = true then ((impl_within.f a2 0 (wrap64 (200 - a1))).bind fun t487 => (some t487)) else (some false))) else (some false))
theorem impl_isRange.mono : ∀ a0 a1 a2 k, LeO (impl_isRange.f k a0 a1 a2) (impl_isRange.f (k + 1) a0 a1 a2) := by
 intro a0 a1 a2 k;unfold impl_isRange.f
 repeat' with_reducible first|exact impl_GoodMap.mono _ _|exact LeO.refl _|exact LeO.none _|refine LeO.ite ?_ ?_|refine LeO.bind ?_ (fun _ => ?_)
set_option maxHeartbeats 8000000 in
set_option maxRecDepth 100000 in
theorem impl_isRange.calls (k : Nat) (A0_0 : Option Addr) (c0_0 : Nat) (l0_0 : List (S27)) (a1 : Int) (a2 : Int) (r : Bool) (w : World) (hr0_0 : Kd.C k27 w A0_0 l0_0.length l0_0) (hc0_0 : l0_0.length ≤ c0_0) (h : impl_isRange.f k l0_0 a1 a2 = some r) :
  Calls Try.prog 25 #[.agg #[.slice A0_0 l0_0.length c0_0], .int .i64 a1, .int .i64 a2] w fun e w' => e = .returned (.bool r) ∧ Below w.heap.size w w' := by
 have hu25 := Try.underlying25;have HR0_0 := Ah hr0_0;have HC0_0 := Ah hc0_0;clear hr0_0 hc0_0;have HB := Ah (Below.refl w.heap.size w);have H : ((impl_GoodMap.f k l0_0).bind fun t485 => (if t485 = true then ((impl_within.f a1 0 200).bind fun t486 => (if t486 = true then ((impl_within.f a2 0 (wrap64 (200 - a1))).bind fun t487 => (some t487)) else (some false))) else (some false))) = some r := h;clear h;replace H := Option.bind_eq_some_iff.mp H;obtain ⟨t485, A40, H⟩ := H
 try dsimp only at H
 have A4 := Ah A40;clear A40
 by_cases c5 : t485 = true
 rotate_left
 ·
  replace c5 := Bool.eq_false_iff.mpr c5;subst c5;rw [if_neg fne] at H;obtain rfl := Option.some.inj H
  go_enter Try.func25, Try.ntmps25
  go_wp2_with (first | ((with_reducible refine gate_dst (N := 3) rfl ?_); refine boxL 3 25 #[.slice A0_0 l0_0.length c0_0] ?_; intro gb484 hg w15 BK484 hb; have GW484 := gw hg (bs HB); have GE484 := gw hg (bs HB); replace HB := Ah (below_step (bs HB) hb); clear hb hg; have hcz16_0 := cz1 BK484; have hfz16_0 := fz1 BK484) | ((with_reducible refine gate_callee (f := 8) rfl ?_); refine gL (some 8) rfl rfl Try.func8 (by kernel_rfl) rfl #[.agg #[.slice A0_0 l0_0.length c0_0]] rfl ?_; (with_reducible refine (impl_GoodMap.calls k _ _ l0_0 false _ ?side1 ?side2 A4.out).mono ?_); (case side1 => exact cb HR0_0 HB); (case side2 => exact HC0_0.out); rintro e w17 ⟨rfl, hb⟩; refine ⟨_, rfl, ?_⟩; replace BK484 := nb BK484 hb; replace HB := Ah (below_step (bs1 HB GE484) hb); (try clear hb)))
  go_ret
  exact ⟨er, bs1 HB GE484⟩
 subst c5;rw [if_pos rfl] at H;replace H := Option.bind_eq_some_iff.mp H;obtain ⟨t486, A60, H⟩ := H
 try dsimp only at H
 have A6 := Ah A60;clear A60
 by_cases c7 : t486 = true
 rotate_left
 ·
  replace c7 := Bool.eq_false_iff.mpr c7;subst c7;rw [if_neg fne] at H;obtain rfl := Option.some.inj H
  go_enter Try.func25, Try.ntmps25
  go_wp2_with (first | ((with_reducible refine gate_dst (N := 3) rfl ?_); refine boxL 3 25 #[.slice A0_0 l0_0.length c0_0] ?_; intro gb484 hg w12 BK484 hb; have GW484 := gw hg (bs HB); have GE484 := gw hg (bs HB); replace HB := Ah (below_step (bs HB) hb); clear hb hg; have hcz13_0 := cz1 BK484; have hfz13_0 := fz1 BK484) | ((with_reducible refine gate_callee (f := 8) rfl ?_); refine gL (some 8) rfl rfl Try.func8 (by kernel_rfl) rfl #[.agg #[.slice A0_0 l0_0.length c0_0]] rfl ?_; (with_reducible refine (impl_GoodMap.calls k _ _ l0_0 true _ ?side1 ?side2 A4.out).mono ?_); (case side1 => exact cb HR0_0 HB); (case side2 => exact HC0_0.out); rintro e w14 ⟨rfl, hb⟩; refine ⟨_, rfl, ?_⟩; replace BK484 := nb BK484 hb; replace HB := Ah (below_step (bs1 HB GE484) hb); (try clear hb)) | (go_at_call 24; (with_reducible refine (impl_within.calls a1 0 200 false _ A6.out).mono ?_); rintro e w' ⟨rfl, ⟨nd, rfl⟩⟩))
  go_ret
  exact ⟨er, bs1 HB GE484⟩
 subst c7;rw [if_pos rfl] at H;replace H := Option.bind_eq_some_iff.mp H;obtain ⟨t487, A80, H⟩ := H
 try dsimp only at H
 have A8 := Ah A80;clear A80;obtain rfl := Option.some.inj H
 go_enter Try.func25, Try.ntmps25
 go_wp2_with (first | ((with_reducible refine gate_dst (N := 3) rfl ?_); refine boxL 3 25 #[.slice A0_0 l0_0.length c0_0] ?_; intro gb484 hg w9 BK484 hb; have GW484 := gw hg (bs HB); have GE484 := gw hg (bs HB); replace HB := Ah (below_step (bs HB) hb); clear hb hg; have hcz10_0 := cz1 BK484; have hfz10_0 := fz1 BK484) | ((with_reducible refine gate_callee (f := 8) rfl ?_); refine gL (some 8) rfl rfl Try.func8 (by kernel_rfl) rfl #[.agg #[.slice A0_0 l0_0.length c0_0]] rfl ?_; (with_reducible refine (impl_GoodMap.calls k _ _ l0_0 true _ ?side1 ?side2 A4.out).mono ?_); (case side1 => exact cb HR0_0 HB); (case side2 => exact HC0_0.out); rintro e w11 ⟨rfl, hb⟩; refine ⟨_, rfl, ?_⟩; replace BK484 := nb BK484 hb; replace HB := Ah (below_step (bs1 HB GE484) hb); (try clear hb)) | (go_at_call 24; (with_reducible refine (impl_within.calls a1 0 200 true _ A6.out).mono ?_); rintro e w' ⟨rfl, ⟨nd, rfl⟩⟩) | (go_at_call 24; (with_reducible refine (impl_within.calls a2 0 (wrap64 (200 - a1)) t487 _ A8.out).mono ?_); rintro e w' ⟨rfl, ⟨nd, rfl⟩⟩))
 go_ret
 exact ⟨er, bs1 HB GE484⟩
def impl_blocksIn_1.f (a0 : Int) (l1_0 : List Bool) : Option (Bool) := if 0 ≤ a0 then (if a0 < (l1_0.length : Int) then (some (rdOf false l1_0 a0)) else (none)) else (none)
set_option maxHeartbeats 8000000 in
set_option maxRecDepth 100000 in
theorem impl_blocksIn_1.calls (a0 : Int) (gx1_0 : Nat) (A1_0 : Option Addr) (c1_0 : Nat) (l1_0 : List Bool) (r : Bool) (w : World) (hr1_0 : Kd.C Kd.bool w A1_0 l1_0.length l1_0) (hc1_0 : l1_0.length ≤ c1_0) (hx1_0 : w.heap[gx1_0]? = some (.cells #[.slice A1_0 l1_0.length c1_0] 59 (0, 0))) (h : impl_blocksIn_1.f a0 l1_0 = some r) :
  Calls Try.prog 34 #[.int .i64 a0, .pointer (some ⟨gx1_0, 0, none⟩)] w fun e w' => e = .returned (.bool r) ∧ Drawn0 w w' := by
 have HR1_0 := Ah hr1_0;have HC1_0 := Ah hc1_0;clear hr1_0 hc1_0;have BK488 := Ah hx1_0;clear hx1_0;have H : (if 0 ≤ a0 then (if a0 < (l1_0.length : Int) then (some (rdOf false l1_0 a0)) else (none)) else (none)) = some r := h;clear h
 by_cases c3 : 0 ≤ a0
 rotate_left
 ·
  rw [if_neg c3] at H;exact absurd H (by simp)
 rw [if_pos c3] at H;have c3b0 : decide (0 ≤ a0) = true := decide_eq_true c3;clear c3
 by_cases c4 : a0 < (l1_0.length : Int)
 rotate_left
 ·
  rw [if_neg c4] at H;exact absurd H (by simp)
 rw [if_pos c4] at H;have c4b0 : decide (a0 < (l1_0.length : Int)) = true := decide_eq_true c4;clear c4;obtain rfl := Option.some.inj H;have hcz5_0 : w.cell? ⟨gx1_0, 0, none⟩ = some (.slice A1_0 l1_0.length c1_0) := (blk_cell BK488.out 0).trans rfl;have hfz5_0 := fz1 BK488;have p489 : 0 ≤ (a0 : Int) := od;have q489 : a0 < (l1_0.length : Int) := od;obtain ⟨ad489, e489, hx489_0⟩ := Kd.at_bool HR1_0.out a0 p489 q489
 cases e489
 replace p489 := eq_true p489;replace q489 := eq_true q489
 go_enter Try.func34, Try.ntmps34
 go_wp2
 go_ret
 exact ⟨e3, by repeat (first | exact Drawn0.refl _ | apply Drawn0.step)⟩
def impl_merged_at_impl_blocksIn_1.l0 : Nat → List (S43) → Int → Int → List Bool → Option ((List (S43)))
 | 0, _, _, _, _ => none
 | k + 1, x5, x9, x10, x491000 => if x10 < x9 then ((impl_blocksIn_1.f x10 x491000).bind fun t494 => (if t494 = true then (if (wrap64 ((x5.length : Int) - 1)) ≥ 0 then (if 0 ≤ (wrap64 ((x5.length : Int) - 1)) then (if (wrap64 ((x5.length : Int) - 1)) < (x5.length : Int) then (if (wrap64 (((rd_T43 x5 (wrap64 ((x5.length : Int) - 1))).f0) + ((rd_T43 x5 (wrap64 ((x5.length : Int) - 1))).f1))) = x10 then (impl_merged_at_impl_blocksIn_1.l0 k (x5.set ((wrap64 ((x5.length : Int) - 1)) : Int).toNat (⟨(rd_T43 x5 (wrap64 ((x5.length : Int) - 1))).f0, wrap64 (((rd_T43 x5 (wrap64 ((x5.length : Int) - 1))).f1) + 1)⟩ : S43)) x9 (wrap64 (x10 + 1)) x491000) else (if x5.length < 8796093022208 then (impl_merged_at_impl_blocksIn_1.l0 k (x5 ++ [(⟨x10, 1⟩ : S43)]) x9 (wrap64 (x10 + 1)) x491000) else (none))) else (none)) else (none)) else (if x5.length < 8796093022208 then (impl_merged_at_impl_blocksIn_1.l0 k (x5 ++ [(⟨x10, 1⟩ : S43)]) x9 (wrap64 (x10 + 1)) x491000) else (none))) else (impl_merged_at_impl_blocksIn_1.l0 k x5 x9 (wrap64 (x10 + 1)) x491000))) else (some x5)
def impl_merged_at_impl_blocksIn_1.f (k : Nat) (a0 : Int) (l1_0 : List Bool) : Option ((List (S43))) := impl_merged_at_impl_blocksIn_1.l0 k (([] : List (S43))) a0 0 l1_0
theorem impl_merged_at_impl_blocksIn_1.mono_l : ∀ k, (∀ y0 y1 y2 y3, LeO (impl_merged_at_impl_blocksIn_1.l0 k y0 y1 y2 y3) (impl_merged_at_impl_blocksIn_1.l0 (k + 1) y0 y1 y2 y3))
 | 0 => fun _ _ _ _ r h => by simp [impl_merged_at_impl_blocksIn_1.l0] at h
 | k + 1 => by
  have ih0 := impl_merged_at_impl_blocksIn_1.mono_l k
  ·
   intro y0 y1 y2 y3;unfold impl_merged_at_impl_blocksIn_1.l0
   repeat' with_reducible first|exact ih0 _ _ _ _|exact LeO.refl _|exact LeO.none _|refine LeO.ite ?_ ?_|refine LeO.bind ?_ (fun _ => ?_)
theorem impl_merged_at_impl_blocksIn_1.mono : ∀ a0 a1 k, LeO (impl_merged_at_impl_blocksIn_1.f k a0 a1) (impl_merged_at_impl_blocksIn_1.f (k + 1) a0 a1) := by
 intro a0 a1 k;have ih0 := impl_merged_at_impl_blocksIn_1.mono_l k;unfold impl_merged_at_impl_blocksIn_1.f
 repeat' with_reducible first|exact ih0 _ _ _ _|exact LeO.refl _|exact LeO.none _|refine LeO.ite ?_ ?_|refine LeO.bind ?_ (fun _ => ?_)
set_option maxHeartbeats 8000000 in
set_option maxRecDepth 100000 in
theorem impl_merged_at_impl_blocksIn_1.calls (k : Nat) (a0 : Int) (gx1_0 : Nat) (A1_0 : Option Addr) (c1_0 : Nat) (l1_0 : List Bool) (r : List (S43)) (w : World) (hr1_0 : Kd.C Kd.bool w A1_0 l1_0.length l1_0) (hc1_0 : l1_0.length ≤ c1_0) (hx1_0 : w.heap[gx1_0]? = some (.cells #[.slice A1_0 l1_0.length c1_0] 59 (0, 0))) (h : impl_merged_at_impl_blocksIn_1.f k a0 l1_0 = some r) :
  Calls Try.prog 33 #[.int .i64 a0, .func (.func 34) #[] #[.pointer (some ⟨gx1_0, 0, none⟩)]] w fun e w' => ∃ v0_ : Value, e = .returned (v0_) ∧ Kd.R k43 43 w' w.heap.size (fun _ => True) v0_ r ∧ Below w.heap.size w w' := by
 have hu43 := Try.underlying43
 have eg34 := fun (args : Array Value) (w : World) => enters_ (P := Try.prog) Try.func34 (by kernel_rfl) rfl args w
 have HR1_0 := Ah hr1_0;have HC1_0 := Ah hc1_0;clear hr1_0 hc1_0;have BK490 := Ah hx1_0;clear hx1_0;have HB := Ah (Below.refl w.heap.size w);have H : (impl_merged_at_impl_blocksIn_1.l0 k (([] : List (S43))) a0 0 l1_0) = some r := h;clear h;obtain ⟨y491, hy491⟩ : ∃ y_ : List (S43), y_ = (([] : List (S43))) := ⟨_, rfl⟩
 replace H : (impl_merged_at_impl_blocksIn_1.l0 k y491 a0 0 l1_0) = some r := by first | (rw [hy491]; with_reducible exact H) | (have H2_ := (Option.bind_some _ _).symm.trans H; rw [hy491]; with_reducible exact H2_) | (have H2_ := (Option.bind_some _ _).symm.trans H; with_reducible exact H2_) | with_reducible exact H | (rw [hy491]; exact H) | exact H
 have Ny491 := Ah hy491;clear hy491;have H' := Ah H;clear H
 go_enter Try.func33, Try.ntmps33
 go_wp2_with (first | ((with_reducible refine gate_dst (N := 8) rfl ?_); refine Kd.R_lit k43 _ 43 ?hg (N := 8) ?hd (xs := ([] : List (S43))) (inner := []) (ok := fun _ => True) (okp := fun _ => True) ?hr ?hp (fun _ hk => hk) trivial (Below.refl _ _) (Nat.le_refl _) (by simp) ?_; (case hd => rfl); (case hg => rfl); (case hr => first | (go_simp; done) | (go_simp; rfl)); (case hp => exact (Reps.none _ _)); intro v492 w3 ho4 hb hg_ hnew_; clear hg_ hnew_; (first | rw [← Ny491.out] at ho4 | (simp only [Int.reduceToNat] at ho4; rw [← Ny491.out] at ho4)); have HO493 := Ah (Kd.R_lower ho4 (below_size (bs HB))); replace BK490 := Ah (blk_below (g := gx1_0) (o := .cells #[.slice A1_0 l1_0.length c1_0] 59 (0, 0)) (bk BK490) hb); replace HB := Ah (below_step (bs HB) hb); clear hb ho4))
 repeat (go_quiet (first | ((with_reducible refine gate_dst (N := 8) rfl ?_); refine Kd.R_lit k43 _ 43 ?hg (N := 8) ?hd (xs := ([] : List (S43))) (inner := []) (ok := fun _ => True) (okp := fun _ => True) ?hr ?hp (fun _ hk => hk) trivial (Below.refl _ _) (Nat.le_refl _) (by simp) ?_; (case hd => rfl); (case hg => rfl); (case hr => first | (go_simp; done) | (go_simp; rfl)); (case hp => exact (Reps.none _ _)); intro v492 w3 ho4 hb hg_ hnew_; clear hg_ hnew_; (first | rw [← Ny491.out] at ho4 | (simp only [Int.reduceToNat] at ho4; rw [← Ny491.out] at ho4)); have HO493 := Ah (Kd.R_lower ho4 (below_size (bs HB))); replace BK490 := Ah (blk_below (g := gx1_0) (o := .cells #[.slice A1_0 l1_0.length c1_0] 59 (0, 0)) (bk BK490) hb); replace HB := Ah (below_step (bs HB) hb); clear hb ho4)); try go_wp2_with (first | ((with_reducible refine gate_dst (N := 8) rfl ?_); refine Kd.R_lit k43 _ 43 ?hg (N := 8) ?hd (xs := ([] : List (S43))) (inner := []) (ok := fun _ => True) (okp := fun _ => True) ?hr ?hp (fun _ hk => hk) trivial (Below.refl _ _) (Nat.le_refl _) (by simp) ?_; (case hd => rfl); (case hg => rfl); (case hr => first | (go_simp; done) | (go_simp; rfl)); (case hp => exact (Reps.none _ _)); intro v492 w3 ho4 hb hg_ hnew_; clear hg_ hnew_; (first | rw [← Ny491.out] at ho4 | (simp only [Int.reduceToNat] at ho4; rw [← Ny491.out] at ho4)); have HO493 := Ah (Kd.R_lower ho4 (below_size (bs HB))); replace BK490 := Ah (blk_below (g := gx1_0) (o := .cells #[.slice A1_0 l1_0.length c1_0] 59 (0, 0)) (bk BK490) hb); replace HB := Ah (below_step (bs HB) hb); clear hb ho4)))
 go_loopg [5, 10] k (fun kq v5 v10 w' => ∃ (x5_1 : List (S43)) (x10_1 : Int), v10 = .int .i64 x10_1 ∧ Aside0 (impl_merged_at_impl_blocksIn_1.l0 kq x5_1 a0 x10_1 l1_0 = some r) ∧ Aside0 (kq ≤ k) ∧ Aside0 (Kd.R k43 43 w' w.heap.size (fun _ => True) v5 x5_1) ∧ Aside0 (w'.heap[gx1_0]? = some (.cells #[(.slice A1_0 l1_0.length c1_0)] 59 (0, 0))) ∧ Aside0 (Below w.heap.size w w'))
 case atStart => exact ⟨(y491), (0), e3, H', ⟨Nat.le_refl _⟩, ⟨rr HO493.out⟩, ⟨bk BK490⟩, ⟨bs HB⟩⟩
 case round =>
  clear H'
  try clear c1
  try clear hx1
  try clear p2
  try clear c3
  try clear hx1_0
  obtain ⟨x5_1, x10_1, rfl, HA, HK1, HO_5, BK490, HB⟩ := hrel
  cases gk with
  | zero => exact absurd HA.out (by simp [impl_merged_at_impl_blocksIn_1.l0])
  | succ k1 =>
   have H := HA.out;clear HA;simp only [impl_merged_at_impl_blocksIn_1.l0] at H
   by_cases c5 : x10_1 < a0
   rotate_left
   ·
    rw [if_neg c5] at H;have c5b0 : decide (x10_1 < a0) = false := decide_eq_false c5;clear c5;obtain rfl := Option.some.inj H
    go_wp2
    repeat (go_quiet (fail); try go_wp2)
    go_ret
    exact ⟨_, er, by (with_reducible repeat (first | apply Kd.R_alloc | apply Kd.R_drewN | apply Kd.R_drew)); exact HO_5.out, bs HB⟩
   rw [if_pos c5] at H;have c5b0 : decide (x10_1 < a0) = true := decide_eq_true c5;clear c5;replace H := Option.bind_eq_some_iff.mp H;obtain ⟨t494, A60, H⟩ := H
   try dsimp only at H
   have A6 := Ah A60;clear A60
   by_cases c7 : t494 = true
   rotate_left
   ·
    replace c7 := Bool.eq_false_iff.mpr c7;subst c7;rw [if_neg fne] at H;have H' := Ah H;clear H
    go_wp2_with (first | (go_at_call 34; (with_reducible refine (impl_blocksIn_1.calls x10_1 gx1_0 A1_0 c1_0 l1_0 false _ ?side1 ?side2 ?side3 A6.out).mono ?_); (case side1 => exact cb HR1_0 HB); (case side2 => exact HC1_0.out); (case side3 => (with_reducible repeat (first | refine blk_drewN ?_ _ | refine blk_drew ?_ | refine blk_alloc ?_ _)); exact BK490.out); rintro e w' ⟨rfl, ⟨nd, rfl⟩⟩; (try first | exact ⟨rfl, _, World.drewN_drewN _ _ _⟩ | exact ⟨rfl, _, Eq.trans (World.drewN_drewN _ _ _) (congrArg (World.drewN _) (Nat.add_assoc _ _ _))⟩)))
    repeat (go_quiet (first | (go_at_call 34; (with_reducible refine (impl_blocksIn_1.calls x10_1 gx1_0 A1_0 c1_0 l1_0 false _ ?side1 ?side2 ?side3 A6.out).mono ?_); (case side1 => exact cb HR1_0 HB); (case side2 => exact HC1_0.out); (case side3 => (with_reducible repeat (first | refine blk_drewN ?_ _ | refine blk_drew ?_ | refine blk_alloc ?_ _)); exact BK490.out); rintro e w' ⟨rfl, ⟨nd, rfl⟩⟩; (try first | exact ⟨rfl, _, World.drewN_drewN _ _ _⟩ | exact ⟨rfl, _, Eq.trans (World.drewN_drewN _ _ _) (congrArg (World.drewN _) (Nat.add_assoc _ _ _))⟩))); try go_wp2_with (first | (go_at_call 34; (with_reducible refine (impl_blocksIn_1.calls x10_1 gx1_0 A1_0 c1_0 l1_0 false _ ?side1 ?side2 ?side3 A6.out).mono ?_); (case side1 => exact cb HR1_0 HB); (case side2 => exact HC1_0.out); (case side3 => (with_reducible repeat (first | refine blk_drewN ?_ _ | refine blk_drew ?_ | refine blk_alloc ?_ _)); exact BK490.out); rintro e w' ⟨rfl, ⟨nd, rfl⟩⟩; (try first | exact ⟨rfl, _, World.drewN_drewN _ _ _⟩ | exact ⟨rfl, _, Eq.trans (World.drewN_drewN _ _ _) (congrArg (World.drewN _) (Nat.add_assoc _ _ _))⟩))))
    go_roundg k1
    case measure => have := HK1.out; omega
    case rel => exact ⟨(x5_1), (wrap64 (x10_1 + 1)), e3, H', ⟨by have := HK1.out; omega⟩, ⟨rr HO_5.out⟩, ⟨bk BK490⟩, ⟨bs HB⟩⟩
   subst c7;rw [if_pos rfl] at H
   by_cases c8 : (wrap64 ((x5_1.length : Int) - 1)) ≥ 0
   rotate_left
   ·
    rw [if_neg c8] at H;have c8b0 : decide (0 ≤ (wrap64 ((x5_1.length : Int) - 1))) = false := decide_eq_false c8;clear c8
    by_cases c20 : x5_1.length < 8796093022208
    rotate_left
    ·
     rw [if_neg c20] at H;exact absurd H (by simp)
    rw [if_pos c20] at H;have LMc20 := Ah c20;clear c20;obtain ⟨y502, hy502⟩ : ∃ y_ : List (S43), y_ = (x5_1 ++ [(⟨x10_1, 1⟩ : S43)]) := ⟨_, rfl⟩
    replace H : (impl_merged_at_impl_blocksIn_1.l0 k1 y502 a0 (wrap64 (x10_1 + 1)) l1_0) = some r := by first | (rw [hy502]; with_reducible exact H) | (have H2_ := (Option.bind_some _ _).symm.trans H; rw [hy502]; with_reducible exact H2_) | (have H2_ := (Option.bind_some _ _).symm.trans H; with_reducible exact H2_) | with_reducible exact H | (rw [hy502]; exact H) | exact H
    have Ny502 := Ah hy502;clear hy502;have H' := Ah H;clear H
    go_wp2_with (first | (go_at_call 34; (with_reducible refine (impl_blocksIn_1.calls x10_1 gx1_0 A1_0 c1_0 l1_0 true _ ?side1 ?side2 ?side3 A6.out).mono ?_); (case side1 => exact cb HR1_0 HB); (case side2 => exact HC1_0.out); (case side3 => (with_reducible repeat (first | refine blk_drewN ?_ _ | refine blk_drew ?_ | refine blk_alloc ?_ _)); exact BK490.out); rintro e w' ⟨rfl, ⟨nd, rfl⟩⟩; (try first | exact ⟨rfl, _, World.drewN_drewN _ _ _⟩ | exact ⟨rfl, _, Eq.trans (World.drewN_drewN _ _ _) (congrArg (World.drewN _) (Nat.add_assoc _ _ _))⟩); obtain ⟨Ao21, co21, eo21⟩ := Kd.R_slice HO_5.out; subst eo21) | ((with_reducible refine gate_builtin (b := .append) (xs := #[.tmp 45, .tmp 48]) rfl ?_); at_builtin; refine Kd.R_append k43 (w0 := w) w.heap.size rfl (.tmp 45) (.tmp 48) 38 43 (.agg #[(.int .i64 0), (.int .i64 0)]) 16 rfl Try.underlying38 info43 rfl (by decide) (by omega) (.slice Ao21 x5_1.length co21) x5_1 (⟨x10_1, 1⟩ : S43) [.int .i64 x10_1, .int .i64 1] (fun _ => True) (fun _ => False) rfl rfl ?aP (fun _ hk => hk.elim) ?aF ?aO ?aB ?aS ?aL ?_; (case aP => exact k43_mkM _ _ _ (⟨x10_1, 1⟩ : S43)); (case aB => exact (bs HB)); (case aF => exact (fun _ _ => trivial)); (case aO => exact (rr HO_5.out)); (case aS => exact (below_size (bs HB))); (case aL => have := LMc20.out; omega); intro v503 w22 ho hb hg hat; rw [← Ny502.out] at ho; replace BK490 := Ah (blk_grown (g := gx1_0) (o := .cells #[.slice A1_0 l1_0.length c1_0] 59 (0, 0)) (bk BK490) hg (Kd.R_ne HO_5.out BK490.out (by decide))); replace HB := Ah (hb); have HO504 := Ah (ho); clear HO_5; clear ho hb hg hat))
    repeat (go_quiet (first | (go_at_call 34; (with_reducible refine (impl_blocksIn_1.calls x10_1 gx1_0 A1_0 c1_0 l1_0 true _ ?side1 ?side2 ?side3 A6.out).mono ?_); (case side1 => exact cb HR1_0 HB); (case side2 => exact HC1_0.out); (case side3 => (with_reducible repeat (first | refine blk_drewN ?_ _ | refine blk_drew ?_ | refine blk_alloc ?_ _)); exact BK490.out); rintro e w' ⟨rfl, ⟨nd, rfl⟩⟩; (try first | exact ⟨rfl, _, World.drewN_drewN _ _ _⟩ | exact ⟨rfl, _, Eq.trans (World.drewN_drewN _ _ _) (congrArg (World.drewN _) (Nat.add_assoc _ _ _))⟩); obtain ⟨Ao21, co21, eo21⟩ := Kd.R_slice HO_5.out; subst eo21) | ((with_reducible refine gate_builtin (b := .append) (xs := #[.tmp 45, .tmp 48]) rfl ?_); at_builtin; refine Kd.R_append k43 (w0 := w) w.heap.size rfl (.tmp 45) (.tmp 48) 38 43 (.agg #[(.int .i64 0), (.int .i64 0)]) 16 rfl Try.underlying38 info43 rfl (by decide) (by omega) (.slice Ao21 x5_1.length co21) x5_1 (⟨x10_1, 1⟩ : S43) [.int .i64 x10_1, .int .i64 1] (fun _ => True) (fun _ => False) rfl rfl ?aP (fun _ hk => hk.elim) ?aF ?aO ?aB ?aS ?aL ?_; (case aP => exact k43_mkM _ _ _ (⟨x10_1, 1⟩ : S43)); (case aB => exact (bs HB)); (case aF => exact (fun _ _ => trivial)); (case aO => exact (rr HO_5.out)); (case aS => exact (below_size (bs HB))); (case aL => have := LMc20.out; omega); intro v503 w22 ho hb hg hat; rw [← Ny502.out] at ho; replace BK490 := Ah (blk_grown (g := gx1_0) (o := .cells #[.slice A1_0 l1_0.length c1_0] 59 (0, 0)) (bk BK490) hg (Kd.R_ne HO_5.out BK490.out (by decide))); replace HB := Ah (hb); have HO504 := Ah (ho); clear HO_5; clear ho hb hg hat)); try go_wp2_with (first | (go_at_call 34; (with_reducible refine (impl_blocksIn_1.calls x10_1 gx1_0 A1_0 c1_0 l1_0 true _ ?side1 ?side2 ?side3 A6.out).mono ?_); (case side1 => exact cb HR1_0 HB); (case side2 => exact HC1_0.out); (case side3 => (with_reducible repeat (first | refine blk_drewN ?_ _ | refine blk_drew ?_ | refine blk_alloc ?_ _)); exact BK490.out); rintro e w' ⟨rfl, ⟨nd, rfl⟩⟩; (try first | exact ⟨rfl, _, World.drewN_drewN _ _ _⟩ | exact ⟨rfl, _, Eq.trans (World.drewN_drewN _ _ _) (congrArg (World.drewN _) (Nat.add_assoc _ _ _))⟩); obtain ⟨Ao21, co21, eo21⟩ := Kd.R_slice HO_5.out; subst eo21) | ((with_reducible refine gate_builtin (b := .append) (xs := #[.tmp 45, .tmp 48]) rfl ?_); at_builtin; refine Kd.R_append k43 (w0 := w) w.heap.size rfl (.tmp 45) (.tmp 48) 38 43 (.agg #[(.int .i64 0), (.int .i64 0)]) 16 rfl Try.underlying38 info43 rfl (by decide) (by omega) (.slice Ao21 x5_1.length co21) x5_1 (⟨x10_1, 1⟩ : S43) [.int .i64 x10_1, .int .i64 1] (fun _ => True) (fun _ => False) rfl rfl ?aP (fun _ hk => hk.elim) ?aF ?aO ?aB ?aS ?aL ?_; (case aP => exact k43_mkM _ _ _ (⟨x10_1, 1⟩ : S43)); (case aB => exact (bs HB)); (case aF => exact (fun _ _ => trivial)); (case aO => exact (rr HO_5.out)); (case aS => exact (below_size (bs HB))); (case aL => have := LMc20.out; omega); intro v503 w22 ho hb hg hat; rw [← Ny502.out] at ho; replace BK490 := Ah (blk_grown (g := gx1_0) (o := .cells #[.slice A1_0 l1_0.length c1_0] 59 (0, 0)) (bk BK490) hg (Kd.R_ne HO_5.out BK490.out (by decide))); replace HB := Ah (hb); have HO504 := Ah (ho); clear HO_5; clear ho hb hg hat)))
    go_roundg k1
    case measure => have := HK1.out; omega
    case rel => exact ⟨(y502), (wrap64 (x10_1 + 1)), e3, H', ⟨by have := HK1.out; omega⟩, ⟨rr HO504.out⟩, ⟨bk BK490⟩, ⟨bs HB⟩⟩
   rw [if_pos c8] at H;have c8b0 : decide (0 ≤ (wrap64 ((x5_1.length : Int) - 1))) = true := decide_eq_true c8;clear c8;obtain ⟨ji9, hji9⟩ : ∃ j_ : Int, (wrap64 ((x5_1.length : Int) - 1)) = j_ := ⟨_, rfl⟩
   replace H : (if 0 ≤ (ji9) then (if (ji9) < (x5_1.length : Int) then (if (wrap64 (((rd_T43 x5_1 (ji9)).f0) + ((rd_T43 x5_1 (ji9)).f1))) = x10_1 then (impl_merged_at_impl_blocksIn_1.l0 k1 (x5_1.set ((ji9) : Int).toNat (⟨(rd_T43 x5_1 (ji9)).f0, wrap64 (((rd_T43 x5_1 (ji9)).f1) + 1)⟩ : S43)) a0 (wrap64 (x10_1 + 1)) l1_0) else (if x5_1.length < 8796093022208 then (impl_merged_at_impl_blocksIn_1.l0 k1 (x5_1 ++ [(⟨x10_1, 1⟩ : S43)]) a0 (wrap64 (x10_1 + 1)) l1_0) else (none))) else (none)) else (none)) = some r := by first | (rw [hji9] at H; exact H) | (simp only [hji9] at H ⊢; exact H)
   (try rw [hji9] at c8b0);(try rw [hji9] at A6);have hji9w : (IntKind.i64.wrap ((x5_1.length : Int) - 1)) = ji9 := (i64_w _).trans hji9
   by_cases c10 : 0 ≤ (ji9)
   rotate_left
   ·
    rw [if_neg c10] at H;exact absurd H (by simp)
   rw [if_pos c10] at H;have c10b0 : decide (0 ≤ (ji9)) = true := decide_eq_true c10;clear c10
   by_cases c11 : (ji9) < (x5_1.length : Int)
   rotate_left
   ·
    rw [if_neg c11] at H;exact absurd H (by simp)
   rw [if_pos c11] at H;have c11b0 : decide ((ji9) < (x5_1.length : Int)) = true := decide_eq_true c11;clear c11
   by_cases c12 : (wrap64 (((rd_T43 x5_1 (ji9)).f0) + ((rd_T43 x5_1 (ji9)).f1))) = x10_1
   rotate_left
   ·
    rw [if_neg c12] at H;have c12b0 : ((wrap64 (((rd_T43 x5_1 (ji9)).f0) + ((rd_T43 x5_1 (ji9)).f1))) == x10_1) = false := beq_eq_false_iff_ne.mpr c12;have c12b1 : ((wrap64 (((rd_T43 x5_1 (ji9)).f0) + ((rd_T43 x5_1 (ji9)).f1))) != x10_1) = true := bne_iff_ne.mpr c12
    by_cases c17 : x5_1.length < 8796093022208
    rotate_left
    ·
     rw [if_neg c17] at H;exact absurd H (by simp)
    rw [if_pos c17] at H;have LMc17 := Ah c17;clear c17;obtain ⟨y499, hy499⟩ : ∃ y_ : List (S43), y_ = (x5_1 ++ [(⟨x10_1, 1⟩ : S43)]) := ⟨_, rfl⟩
    replace H : (impl_merged_at_impl_blocksIn_1.l0 k1 y499 a0 (wrap64 (x10_1 + 1)) l1_0) = some r := by first | (rw [hy499]; with_reducible exact H) | (have H2_ := (Option.bind_some _ _).symm.trans H; rw [hy499]; with_reducible exact H2_) | (have H2_ := (Option.bind_some _ _).symm.trans H; with_reducible exact H2_) | with_reducible exact H | (rw [hy499]; exact H) | exact H
    have Ny499 := Ah hy499;clear hy499;have H' := Ah H;clear H
    go_wp2_with (first | (go_at_call 34; (with_reducible refine (impl_blocksIn_1.calls x10_1 gx1_0 A1_0 c1_0 l1_0 true _ ?side1 ?side2 ?side3 A6.out).mono ?_); (case side1 => exact cb HR1_0 HB); (case side2 => exact HC1_0.out); (case side3 => (with_reducible repeat (first | refine blk_drewN ?_ _ | refine blk_drew ?_ | refine blk_alloc ?_ _)); exact BK490.out); rintro e w' ⟨rfl, ⟨nd, rfl⟩⟩; (try first | exact ⟨rfl, _, World.drewN_drewN _ _ _⟩ | exact ⟨rfl, _, Eq.trans (World.drewN_drewN _ _ _) (congrArg (World.drewN _) (Nat.add_assoc _ _ _))⟩); obtain ⟨Ao18, co18, eo18⟩ := Kd.R_slice HO_5.out; subst eo18; have p495 : 0 ≤ ((ji9) : Int) := od; have q495 : (ji9) < (x5_1.length : Int) := od; obtain ⟨ad495, e495, hx495_0, hx495_1⟩ := at_T43 (Kd.R_reads' HO_5.out).2.2 (ji9) p495 q495; cases e495; replace p495 := eq_true p495; replace q495 := eq_true q495; have p496 : 0 ≤ ((ji9) : Int) := od; have q496 : (ji9) < (x5_1.length : Int) := od; obtain ⟨ad496, e496, hx496_0, hx496_1⟩ := at_T43 (Kd.R_reads' HO_5.out).2.2 (ji9) p496 q496; obtain rfl : ad495 = ad496 := (by injection e496); replace p496 := eq_true p496; replace q496 := eq_true q496) | ((with_reducible refine gate_builtin (b := .append) (xs := #[.tmp 45, .tmp 48]) rfl ?_); at_builtin; refine Kd.R_append k43 (w0 := w) w.heap.size rfl (.tmp 45) (.tmp 48) 38 43 (.agg #[(.int .i64 0), (.int .i64 0)]) 16 rfl Try.underlying38 info43 rfl (by decide) (by omega) (.slice (some ad495) x5_1.length co18) x5_1 (⟨x10_1, 1⟩ : S43) [.int .i64 x10_1, .int .i64 1] (fun _ => True) (fun _ => False) rfl rfl ?aP (fun _ hk => hk.elim) ?aF ?aO ?aB ?aS ?aL ?_; (case aP => exact k43_mkM _ _ _ (⟨x10_1, 1⟩ : S43)); (case aB => exact (bs HB)); (case aF => exact (fun _ _ => trivial)); (case aO => exact (rr HO_5.out)); (case aS => exact (below_size (bs HB))); (case aL => have := LMc17.out; omega); intro v500 w19 ho hb hg hat; rw [← Ny499.out] at ho; replace BK490 := Ah (blk_grown (g := gx1_0) (o := .cells #[.slice A1_0 l1_0.length c1_0] 59 (0, 0)) (bk BK490) hg (Kd.R_ne HO_5.out BK490.out (by decide))); replace HB := Ah (hb); have HO501 := Ah (ho); clear HO_5; clear ho hb hg hat))
    repeat (go_quiet (first | (go_at_call 34; (with_reducible refine (impl_blocksIn_1.calls x10_1 gx1_0 A1_0 c1_0 l1_0 true _ ?side1 ?side2 ?side3 A6.out).mono ?_); (case side1 => exact cb HR1_0 HB); (case side2 => exact HC1_0.out); (case side3 => (with_reducible repeat (first | refine blk_drewN ?_ _ | refine blk_drew ?_ | refine blk_alloc ?_ _)); exact BK490.out); rintro e w' ⟨rfl, ⟨nd, rfl⟩⟩; (try first | exact ⟨rfl, _, World.drewN_drewN _ _ _⟩ | exact ⟨rfl, _, Eq.trans (World.drewN_drewN _ _ _) (congrArg (World.drewN _) (Nat.add_assoc _ _ _))⟩); obtain ⟨Ao18, co18, eo18⟩ := Kd.R_slice HO_5.out; subst eo18; have p495 : 0 ≤ ((ji9) : Int) := od; have q495 : (ji9) < (x5_1.length : Int) := od; obtain ⟨ad495, e495, hx495_0, hx495_1⟩ := at_T43 (Kd.R_reads' HO_5.out).2.2 (ji9) p495 q495; cases e495; replace p495 := eq_true p495; replace q495 := eq_true q495; have p496 : 0 ≤ ((ji9) : Int) := od; have q496 : (ji9) < (x5_1.length : Int) := od; obtain ⟨ad496, e496, hx496_0, hx496_1⟩ := at_T43 (Kd.R_reads' HO_5.out).2.2 (ji9) p496 q496; obtain rfl : ad495 = ad496 := (by injection e496); replace p496 := eq_true p496; replace q496 := eq_true q496) | ((with_reducible refine gate_builtin (b := .append) (xs := #[.tmp 45, .tmp 48]) rfl ?_); at_builtin; refine Kd.R_append k43 (w0 := w) w.heap.size rfl (.tmp 45) (.tmp 48) 38 43 (.agg #[(.int .i64 0), (.int .i64 0)]) 16 rfl Try.underlying38 info43 rfl (by decide) (by omega) (.slice (some ad495) x5_1.length co18) x5_1 (⟨x10_1, 1⟩ : S43) [.int .i64 x10_1, .int .i64 1] (fun _ => True) (fun _ => False) rfl rfl ?aP (fun _ hk => hk.elim) ?aF ?aO ?aB ?aS ?aL ?_; (case aP => exact k43_mkM _ _ _ (⟨x10_1, 1⟩ : S43)); (case aB => exact (bs HB)); (case aF => exact (fun _ _ => trivial)); (case aO => exact (rr HO_5.out)); (case aS => exact (below_size (bs HB))); (case aL => have := LMc17.out; omega); intro v500 w19 ho hb hg hat; rw [← Ny499.out] at ho; replace BK490 := Ah (blk_grown (g := gx1_0) (o := .cells #[.slice A1_0 l1_0.length c1_0] 59 (0, 0)) (bk BK490) hg (Kd.R_ne HO_5.out BK490.out (by decide))); replace HB := Ah (hb); have HO501 := Ah (ho); clear HO_5; clear ho hb hg hat)); try go_wp2_with (first | (go_at_call 34; (with_reducible refine (impl_blocksIn_1.calls x10_1 gx1_0 A1_0 c1_0 l1_0 true _ ?side1 ?side2 ?side3 A6.out).mono ?_); (case side1 => exact cb HR1_0 HB); (case side2 => exact HC1_0.out); (case side3 => (with_reducible repeat (first | refine blk_drewN ?_ _ | refine blk_drew ?_ | refine blk_alloc ?_ _)); exact BK490.out); rintro e w' ⟨rfl, ⟨nd, rfl⟩⟩; (try first | exact ⟨rfl, _, World.drewN_drewN _ _ _⟩ | exact ⟨rfl, _, Eq.trans (World.drewN_drewN _ _ _) (congrArg (World.drewN _) (Nat.add_assoc _ _ _))⟩); obtain ⟨Ao18, co18, eo18⟩ := Kd.R_slice HO_5.out; subst eo18; have p495 : 0 ≤ ((ji9) : Int) := od; have q495 : (ji9) < (x5_1.length : Int) := od; obtain ⟨ad495, e495, hx495_0, hx495_1⟩ := at_T43 (Kd.R_reads' HO_5.out).2.2 (ji9) p495 q495; cases e495; replace p495 := eq_true p495; replace q495 := eq_true q495; have p496 : 0 ≤ ((ji9) : Int) := od; have q496 : (ji9) < (x5_1.length : Int) := od; obtain ⟨ad496, e496, hx496_0, hx496_1⟩ := at_T43 (Kd.R_reads' HO_5.out).2.2 (ji9) p496 q496; obtain rfl : ad495 = ad496 := (by injection e496); replace p496 := eq_true p496; replace q496 := eq_true q496) | ((with_reducible refine gate_builtin (b := .append) (xs := #[.tmp 45, .tmp 48]) rfl ?_); at_builtin; refine Kd.R_append k43 (w0 := w) w.heap.size rfl (.tmp 45) (.tmp 48) 38 43 (.agg #[(.int .i64 0), (.int .i64 0)]) 16 rfl Try.underlying38 info43 rfl (by decide) (by omega) (.slice (some ad495) x5_1.length co18) x5_1 (⟨x10_1, 1⟩ : S43) [.int .i64 x10_1, .int .i64 1] (fun _ => True) (fun _ => False) rfl rfl ?aP (fun _ hk => hk.elim) ?aF ?aO ?aB ?aS ?aL ?_; (case aP => exact k43_mkM _ _ _ (⟨x10_1, 1⟩ : S43)); (case aB => exact (bs HB)); (case aF => exact (fun _ _ => trivial)); (case aO => exact (rr HO_5.out)); (case aS => exact (below_size (bs HB))); (case aL => have := LMc17.out; omega); intro v500 w19 ho hb hg hat; rw [← Ny499.out] at ho; replace BK490 := Ah (blk_grown (g := gx1_0) (o := .cells #[.slice A1_0 l1_0.length c1_0] 59 (0, 0)) (bk BK490) hg (Kd.R_ne HO_5.out BK490.out (by decide))); replace HB := Ah (hb); have HO501 := Ah (ho); clear HO_5; clear ho hb hg hat)))
    go_roundg k1
    case measure => have := HK1.out; omega
    case rel => exact ⟨(y499), (wrap64 (x10_1 + 1)), e3, H', ⟨by have := HK1.out; omega⟩, ⟨rr HO501.out⟩, ⟨bk BK490⟩, ⟨bs HB⟩⟩
   rw [if_pos c12] at H;have c12b0 : ((wrap64 (((rd_T43 x5_1 (ji9)).f0) + ((rd_T43 x5_1 (ji9)).f1))) == x10_1) = true := beq_iff_eq.mpr c12;have c12b1 : ((wrap64 (((rd_T43 x5_1 (ji9)).f0) + ((rd_T43 x5_1 (ji9)).f1))) != x10_1) = false := bne_eq_false_iff_eq.mpr c12;clear c12;obtain ⟨y498, hy498⟩ : ∃ y_ : List (S43), y_ = (x5_1.set ((ji9) : Int).toNat (⟨(rd_T43 x5_1 (ji9)).f0, wrap64 (((rd_T43 x5_1 (ji9)).f1) + 1)⟩ : S43)) := ⟨_, rfl⟩
   replace H : (impl_merged_at_impl_blocksIn_1.l0 k1 y498 a0 (wrap64 (x10_1 + 1)) l1_0) = some r := by first | (rw [hy498]; with_reducible exact H) | (have H2_ := (Option.bind_some _ _).symm.trans H; rw [hy498]; with_reducible exact H2_) | (have H2_ := (Option.bind_some _ _).symm.trans H; with_reducible exact H2_) | with_reducible exact H | (rw [hy498]; exact H) | exact H
   have Ny498 := Ah hy498;clear hy498;have H' := Ah H;clear H
   go_wp2_with (first | (go_at_call 34; (with_reducible refine (impl_blocksIn_1.calls x10_1 gx1_0 A1_0 c1_0 l1_0 true _ ?side1 ?side2 ?side3 A6.out).mono ?_); (case side1 => exact cb HR1_0 HB); (case side2 => exact HC1_0.out); (case side3 => (with_reducible repeat (first | refine blk_drewN ?_ _ | refine blk_drew ?_ | refine blk_alloc ?_ _)); exact BK490.out); rintro e w' ⟨rfl, ⟨nd, rfl⟩⟩; (try first | exact ⟨rfl, _, World.drewN_drewN _ _ _⟩ | exact ⟨rfl, _, Eq.trans (World.drewN_drewN _ _ _) (congrArg (World.drewN _) (Nat.add_assoc _ _ _))⟩); obtain ⟨Ao14, co14, eo14⟩ := Kd.R_slice HO_5.out; subst eo14; have p495 : 0 ≤ ((ji9) : Int) := od; have q495 : (ji9) < (x5_1.length : Int) := od; obtain ⟨ad495, e495, hx495_0, hx495_1⟩ := at_T43 (Kd.R_reads' HO_5.out).2.2 (ji9) p495 q495; cases e495; replace p495 := eq_true p495; replace q495 := eq_true q495; have p496 : 0 ≤ ((ji9) : Int) := od; have q496 : (ji9) < (x5_1.length : Int) := od; obtain ⟨ad496, e496, hx496_0, hx496_1⟩ := at_T43 (Kd.R_reads' HO_5.out).2.2 (ji9) p496 q496; obtain rfl : ad495 = ad496 := (by injection e496); replace p496 := eq_true p496; replace q496 := eq_true q496; have p497 : 0 ≤ ((ji9) : Int) := od; have q497 : (ji9) < (x5_1.length : Int) := od; obtain ⟨ad497, e497, hx497_0, hx497_1⟩ := at_T43 (Kd.R_reads' HO_5.out).2.2 (ji9) p497 q497; obtain rfl : ad495 = ad497 := (by injection e497); replace p497 := eq_true p497; replace q497 := eq_true q497; have p13 : 0 ≤ ((ji9) : Int) := od; have q13 : ((ji9) : Int) < ((x5_1.length : Int) : Int) := od; obtain ⟨go13, co13, eo13, gb13, gl13, cl13, HG13⟩ := Kd.R_form HO_5.out (by omega); (first | cases eo13 | (injection eo13 with ea_ en_ ec_; (first | subst ea_ | (injection ea_ with ea_; subst ea_)); subst ec_; clear en_)); have GB13 := Ah gb13; have GG13 := Ah HG13; clear gb13 gl13 HG13; (first | simp only [add_plain] at hx495_0 | skip); (first | simp only [add_plain] at hx495_1 | skip); (first | simp only [add_plain] at hx496_0 | skip); (first | simp only [add_plain] at hx496_1 | skip); (first | simp only [add_plain] at hx497_0 | skip); (first | simp only [add_plain] at hx497_1 | skip); obtain ⟨ce13, hcl13, hM13, hcc13, hfr13⟩ := Kd.R_elem HO_5.out z43 ((ji9) : Int) p13 q13; obtain rfl := k43_openM hM13; have hx13_0 : wr.cell? ⟨go13, ((ji9) : Int).toNat * 2, none⟩ = some (.int .i64 ((rd_T43 x5_1 (ji9)).f0)) := hcc13 0 _ rfl; have hx13_1 : wr.cell? ⟨go13, ((ji9) : Int).toNat * 2 + 1, none⟩ = some (.int .i64 ((rd_T43 x5_1 (ji9)).f1)) := hcc13 1 _ rfl; have hf13_0 : wr.frozen? ⟨go13, ((ji9) : Int).toNat * 2, none⟩ = false := hfr13 0; have hf13_1 : wr.frozen? ⟨go13, ((ji9) : Int).toNat * 2 + 1, none⟩ = false := hfr13 1; clear hcl13 hcc13 hfr13 hM13; replace p13 := eq_true p13; replace q13 := eq_true q13; have HX15 := Ah (show Kd.R k43 43 wr w.heap.size (fun _ => True) (.slice (some ⟨go13, 0, none⟩) x5_1.length co14) x5_1 from (rr HO_5.out)); obtain ⟨ce15, hcl15, hM15, hcc15, hfr15⟩ := Kd.R_elem HX15.out z43 ((ji9) : Int) (od) (by have h_ : ((ji9) : Int) < ((x5_1.length : Int) : Int) := od; first | exact h_ | (have e_ := (Kd.R_reads' HO_5.out).1; omega) | simpa using h_); obtain rfl := k43_openM hM15; have HP15 := Kd.R_seg HX15.out ((ji9) : Int) (od) (by have h_ : ((ji9) : Int) < ((x5_1.length : Int) : Int) := od; first | exact h_ | (have e_ := (Kd.R_reads' HO_5.out).1; omega) | simpa using h_) (seg := [.int .i64 (wrap64 (((rd_T43 x5_1 (ji9)).f1) + 1))]) (j := 1) hcl15 hcc15 (show 2 ≤ 2 from by decide) (x' := (⟨(rd_T43 x5_1 (ji9)).f0, wrap64 (((rd_T43 x5_1 (ji9)).f1) + 1)⟩ : S43)) (k43_mkM _ _ _ (⟨(rd_T43 x5_1 (ji9)).f0, wrap64 (((rd_T43 x5_1 (ji9)).f1) + 1)⟩ : S43) ) (fun _ hk => hk); have hx15_1 := hcc15 1 _ rfl; (try simp only [show (k43).sz = 2 from rfl, Nat.mul_one, Nat.add_zero] at hx15_1); have hf15_1 := hfr15 1; (try simp only [show (k43).sz = 2 from rfl, Nat.mul_one, Nat.add_zero] at hf15_1); clear hcl15 hcc15 hfr15 hM15) | ((with_reducible refine gate_store (t := 3) (p := 44) rfl ?_); (try (rw [drewN_self wr]; generalize hq_ : World.drewN wr _ = wr; replace HO_5 := Ah (Kd.R_at hq_ HO_5.out); replace BK490 := Ah (blk_at hq_ BK490.out); replace HB := Ah (below_at hq_ HB.out); clear hq_; (try (have HX15 := Ah (show Kd.R k43 43 wr w.heap.size (fun _ => True) (.slice (some ⟨go13, 0, none⟩) x5_1.length co14) x5_1 from (rr HO_5.out)))); (try (obtain ⟨ce15, hcl15, hM15, hcc15, hfr15⟩ := Kd.R_elem HX15.out z43 ((ji9) : Int) (od) (by have h_ : ((ji9) : Int) < ((x5_1.length : Int) : Int) := od; first | exact h_ | (have e_ := (Kd.R_reads' HO_5.out).1; omega) | simpa using h_))); (try (obtain rfl := k43_openM hM15)); (try (have HP15 := Kd.R_seg HX15.out ((ji9) : Int) (od) (by have h_ : ((ji9) : Int) < ((x5_1.length : Int) : Int) := od; first | exact h_ | (have e_ := (Kd.R_reads' HO_5.out).1; omega) | simpa using h_) (seg := [.int .i64 (wrap64 (((rd_T43 x5_1 (ji9)).f1) + 1))]) (j := 1) hcl15 hcc15 (show 2 ≤ 2 from by decide) (x' := (⟨(rd_T43 x5_1 (ji9)).f0, wrap64 (((rd_T43 x5_1 (ji9)).f1) + 1)⟩ : S43)) (k43_mkM _ _ _ (⟨(rd_T43 x5_1 (ji9)).f0, wrap64 (((rd_T43 x5_1 (ji9)).f1) + 1)⟩ : S43) ) (fun _ hk => hk))); (try (have hx15_1 := hcc15 1 _ rfl)); (try (try simp only [show (k43).sz = 2 from rfl, Nat.mul_one, Nat.add_zero] at hx15_1)); (try (have hf15_1 := hfr15 1)); (try (try simp only [show (k43).sz = 2 from rfl, Nat.mul_one, Nat.add_zero] at hf15_1)); (try (clear hcl15 hcc15 hfr15 hM15)))); refine store_event (t := 3) (p := 44) (v := ?vo_w16) (w1 := (wr.setCell ⟨go13, ((ji9) : Int).toNat * 2 + 1, none⟩ (.int .i64 (wrap64 (((rd_T43 x5_1 (ji9)).f1) + 1))))) ?hg ?ho ?hn ?hr ?_; (case ho => rfl); (case hg => rfl); (case hn => rfl); (case hr => first | (go_simp; done) | (go_simp; rfl)); intro w16 hw; have hg : wr.grownBy w16 (some go13) := (by rw [hw]; exact HP15.2); have hp_ : Kd.R k43 43 w16 w.heap.size (fun _ => True) (.slice (some ⟨go13, 0, none⟩) x5_1.length co14) y498 := (by rw [hw, Ny498.out]; exact HP15.1); clear HP15; replace BK490 := Ah (blk_grown (g := gx1_0) (o := .cells #[.slice A1_0 l1_0.length c1_0] 59 (0, 0)) (bk BK490) hg (Kd.R_ne HO_5.out BK490.out (by decide))); replace HO_5 := Ah (hp_); replace HB := Ah ((by rw [hw]; exact below_set (HB.out) GB13.out : Below w.heap.size w w16)); clear hg hw hp_))
   repeat (go_quiet (first | (go_at_call 34; (with_reducible refine (impl_blocksIn_1.calls x10_1 gx1_0 A1_0 c1_0 l1_0 true _ ?side1 ?side2 ?side3 A6.out).mono ?_); (case side1 => exact cb HR1_0 HB); (case side2 => exact HC1_0.out); (case side3 => (with_reducible repeat (first | refine blk_drewN ?_ _ | refine blk_drew ?_ | refine blk_alloc ?_ _)); exact BK490.out); rintro e w' ⟨rfl, ⟨nd, rfl⟩⟩; (try first | exact ⟨rfl, _, World.drewN_drewN _ _ _⟩ | exact ⟨rfl, _, Eq.trans (World.drewN_drewN _ _ _) (congrArg (World.drewN _) (Nat.add_assoc _ _ _))⟩); obtain ⟨Ao14, co14, eo14⟩ := Kd.R_slice HO_5.out; subst eo14; have p495 : 0 ≤ ((ji9) : Int) := od; have q495 : (ji9) < (x5_1.length : Int) := od; obtain ⟨ad495, e495, hx495_0, hx495_1⟩ := at_T43 (Kd.R_reads' HO_5.out).2.2 (ji9) p495 q495; cases e495; replace p495 := eq_true p495; replace q495 := eq_true q495; have p496 : 0 ≤ ((ji9) : Int) := od; have q496 : (ji9) < (x5_1.length : Int) := od; obtain ⟨ad496, e496, hx496_0, hx496_1⟩ := at_T43 (Kd.R_reads' HO_5.out).2.2 (ji9) p496 q496; obtain rfl : ad495 = ad496 := (by injection e496); replace p496 := eq_true p496; replace q496 := eq_true q496; have p497 : 0 ≤ ((ji9) : Int) := od; have q497 : (ji9) < (x5_1.length : Int) := od; obtain ⟨ad497, e497, hx497_0, hx497_1⟩ := at_T43 (Kd.R_reads' HO_5.out).2.2 (ji9) p497 q497; obtain rfl : ad495 = ad497 := (by injection e497); replace p497 := eq_true p497; replace q497 := eq_true q497; have p13 : 0 ≤ ((ji9) : Int) := od; have q13 : ((ji9) : Int) < ((x5_1.length : Int) : Int) := od; obtain ⟨go13, co13, eo13, gb13, gl13, cl13, HG13⟩ := Kd.R_form HO_5.out (by omega); (first | cases eo13 | (injection eo13 with ea_ en_ ec_; (first | subst ea_ | (injection ea_ with ea_; subst ea_)); subst ec_; clear en_)); have GB13 := Ah gb13; have GG13 := Ah HG13; clear gb13 gl13 HG13; (first | simp only [add_plain] at hx495_0 | skip); (first | simp only [add_plain] at hx495_1 | skip); (first | simp only [add_plain] at hx496_0 | skip); (first | simp only [add_plain] at hx496_1 | skip); (first | simp only [add_plain] at hx497_0 | skip); (first | simp only [add_plain] at hx497_1 | skip); obtain ⟨ce13, hcl13, hM13, hcc13, hfr13⟩ := Kd.R_elem HO_5.out z43 ((ji9) : Int) p13 q13; obtain rfl := k43_openM hM13; have hx13_0 : wr.cell? ⟨go13, ((ji9) : Int).toNat * 2, none⟩ = some (.int .i64 ((rd_T43 x5_1 (ji9)).f0)) := hcc13 0 _ rfl; have hx13_1 : wr.cell? ⟨go13, ((ji9) : Int).toNat * 2 + 1, none⟩ = some (.int .i64 ((rd_T43 x5_1 (ji9)).f1)) := hcc13 1 _ rfl; have hf13_0 : wr.frozen? ⟨go13, ((ji9) : Int).toNat * 2, none⟩ = false := hfr13 0; have hf13_1 : wr.frozen? ⟨go13, ((ji9) : Int).toNat * 2 + 1, none⟩ = false := hfr13 1; clear hcl13 hcc13 hfr13 hM13; replace p13 := eq_true p13; replace q13 := eq_true q13; have HX15 := Ah (show Kd.R k43 43 wr w.heap.size (fun _ => True) (.slice (some ⟨go13, 0, none⟩) x5_1.length co14) x5_1 from (rr HO_5.out)); obtain ⟨ce15, hcl15, hM15, hcc15, hfr15⟩ := Kd.R_elem HX15.out z43 ((ji9) : Int) (od) (by have h_ : ((ji9) : Int) < ((x5_1.length : Int) : Int) := od; first | exact h_ | (have e_ := (Kd.R_reads' HO_5.out).1; omega) | simpa using h_); obtain rfl := k43_openM hM15; have HP15 := Kd.R_seg HX15.out ((ji9) : Int) (od) (by have h_ : ((ji9) : Int) < ((x5_1.length : Int) : Int) := od; first | exact h_ | (have e_ := (Kd.R_reads' HO_5.out).1; omega) | simpa using h_) (seg := [.int .i64 (wrap64 (((rd_T43 x5_1 (ji9)).f1) + 1))]) (j := 1) hcl15 hcc15 (show 2 ≤ 2 from by decide) (x' := (⟨(rd_T43 x5_1 (ji9)).f0, wrap64 (((rd_T43 x5_1 (ji9)).f1) + 1)⟩ : S43)) (k43_mkM _ _ _ (⟨(rd_T43 x5_1 (ji9)).f0, wrap64 (((rd_T43 x5_1 (ji9)).f1) + 1)⟩ : S43) ) (fun _ hk => hk); have hx15_1 := hcc15 1 _ rfl; (try simp only [show (k43).sz = 2 from rfl, Nat.mul_one, Nat.add_zero] at hx15_1); have hf15_1 := hfr15 1; (try simp only [show (k43).sz = 2 from rfl, Nat.mul_one, Nat.add_zero] at hf15_1); clear hcl15 hcc15 hfr15 hM15) | ((with_reducible refine gate_store (t := 3) (p := 44) rfl ?_); (try (rw [drewN_self wr]; generalize hq_ : World.drewN wr _ = wr; replace HO_5 := Ah (Kd.R_at hq_ HO_5.out); replace BK490 := Ah (blk_at hq_ BK490.out); replace HB := Ah (below_at hq_ HB.out); clear hq_; (try (have HX15 := Ah (show Kd.R k43 43 wr w.heap.size (fun _ => True) (.slice (some ⟨go13, 0, none⟩) x5_1.length co14) x5_1 from (rr HO_5.out)))); (try (obtain ⟨ce15, hcl15, hM15, hcc15, hfr15⟩ := Kd.R_elem HX15.out z43 ((ji9) : Int) (od) (by have h_ : ((ji9) : Int) < ((x5_1.length : Int) : Int) := od; first | exact h_ | (have e_ := (Kd.R_reads' HO_5.out).1; omega) | simpa using h_))); (try (obtain rfl := k43_openM hM15)); (try (have HP15 := Kd.R_seg HX15.out ((ji9) : Int) (od) (by have h_ : ((ji9) : Int) < ((x5_1.length : Int) : Int) := od; first | exact h_ | (have e_ := (Kd.R_reads' HO_5.out).1; omega) | simpa using h_) (seg := [.int .i64 (wrap64 (((rd_T43 x5_1 (ji9)).f1) + 1))]) (j := 1) hcl15 hcc15 (show 2 ≤ 2 from by decide) (x' := (⟨(rd_T43 x5_1 (ji9)).f0, wrap64 (((rd_T43 x5_1 (ji9)).f1) + 1)⟩ : S43)) (k43_mkM _ _ _ (⟨(rd_T43 x5_1 (ji9)).f0, wrap64 (((rd_T43 x5_1 (ji9)).f1) + 1)⟩ : S43) ) (fun _ hk => hk))); (try (have hx15_1 := hcc15 1 _ rfl)); (try (try simp only [show (k43).sz = 2 from rfl, Nat.mul_one, Nat.add_zero] at hx15_1)); (try (have hf15_1 := hfr15 1)); (try (try simp only [show (k43).sz = 2 from rfl, Nat.mul_one, Nat.add_zero] at hf15_1)); (try (clear hcl15 hcc15 hfr15 hM15)))); refine store_event (t := 3) (p := 44) (v := ?vo_w16) (w1 := (wr.setCell ⟨go13, ((ji9) : Int).toNat * 2 + 1, none⟩ (.int .i64 (wrap64 (((rd_T43 x5_1 (ji9)).f1) + 1))))) ?hg ?ho ?hn ?hr ?_; (case ho => rfl); (case hg => rfl); (case hn => rfl); (case hr => first | (go_simp; done) | (go_simp; rfl)); intro w16 hw; have hg : wr.grownBy w16 (some go13) := (by rw [hw]; exact HP15.2); have hp_ : Kd.R k43 43 w16 w.heap.size (fun _ => True) (.slice (some ⟨go13, 0, none⟩) x5_1.length co14) y498 := (by rw [hw, Ny498.out]; exact HP15.1); clear HP15; replace BK490 := Ah (blk_grown (g := gx1_0) (o := .cells #[.slice A1_0 l1_0.length c1_0] 59 (0, 0)) (bk BK490) hg (Kd.R_ne HO_5.out BK490.out (by decide))); replace HO_5 := Ah (hp_); replace HB := Ah ((by rw [hw]; exact below_set (HB.out) GB13.out : Below w.heap.size w w16)); clear hg hw hp_)); try go_wp2_with (first | (go_at_call 34; (with_reducible refine (impl_blocksIn_1.calls x10_1 gx1_0 A1_0 c1_0 l1_0 true _ ?side1 ?side2 ?side3 A6.out).mono ?_); (case side1 => exact cb HR1_0 HB); (case side2 => exact HC1_0.out); (case side3 => (with_reducible repeat (first | refine blk_drewN ?_ _ | refine blk_drew ?_ | refine blk_alloc ?_ _)); exact BK490.out); rintro e w' ⟨rfl, ⟨nd, rfl⟩⟩; (try first | exact ⟨rfl, _, World.drewN_drewN _ _ _⟩ | exact ⟨rfl, _, Eq.trans (World.drewN_drewN _ _ _) (congrArg (World.drewN _) (Nat.add_assoc _ _ _))⟩); obtain ⟨Ao14, co14, eo14⟩ := Kd.R_slice HO_5.out; subst eo14; have p495 : 0 ≤ ((ji9) : Int) := od; have q495 : (ji9) < (x5_1.length : Int) := od; obtain ⟨ad495, e495, hx495_0, hx495_1⟩ := at_T43 (Kd.R_reads' HO_5.out).2.2 (ji9) p495 q495; cases e495; replace p495 := eq_true p495; replace q495 := eq_true q495; have p496 : 0 ≤ ((ji9) : Int) := od; have q496 : (ji9) < (x5_1.length : Int) := od; obtain ⟨ad496, e496, hx496_0, hx496_1⟩ := at_T43 (Kd.R_reads' HO_5.out).2.2 (ji9) p496 q496; obtain rfl : ad495 = ad496 := (by injection e496); replace p496 := eq_true p496; replace q496 := eq_true q496; have p497 : 0 ≤ ((ji9) : Int) := od; have q497 : (ji9) < (x5_1.length : Int) := od; obtain ⟨ad497, e497, hx497_0, hx497_1⟩ := at_T43 (Kd.R_reads' HO_5.out).2.2 (ji9) p497 q497; obtain rfl : ad495 = ad497 := (by injection e497); replace p497 := eq_true p497; replace q497 := eq_true q497; have p13 : 0 ≤ ((ji9) : Int) := od; have q13 : ((ji9) : Int) < ((x5_1.length : Int) : Int) := od; obtain ⟨go13, co13, eo13, gb13, gl13, cl13, HG13⟩ := Kd.R_form HO_5.out (by omega); (first | cases eo13 | (injection eo13 with ea_ en_ ec_; (first | subst ea_ | (injection ea_ with ea_; subst ea_)); subst ec_; clear en_)); have GB13 := Ah gb13; have GG13 := Ah HG13; clear gb13 gl13 HG13; (first | simp only [add_plain] at hx495_0 | skip); (first | simp only [add_plain] at hx495_1 | skip); (first | simp only [add_plain] at hx496_0 | skip); (first | simp only [add_plain] at hx496_1 | skip); (first | simp only [add_plain] at hx497_0 | skip); (first | simp only [add_plain] at hx497_1 | skip); obtain ⟨ce13, hcl13, hM13, hcc13, hfr13⟩ := Kd.R_elem HO_5.out z43 ((ji9) : Int) p13 q13; obtain rfl := k43_openM hM13; have hx13_0 : wr.cell? ⟨go13, ((ji9) : Int).toNat * 2, none⟩ = some (.int .i64 ((rd_T43 x5_1 (ji9)).f0)) := hcc13 0 _ rfl; have hx13_1 : wr.cell? ⟨go13, ((ji9) : Int).toNat * 2 + 1, none⟩ = some (.int .i64 ((rd_T43 x5_1 (ji9)).f1)) := hcc13 1 _ rfl; have hf13_0 : wr.frozen? ⟨go13, ((ji9) : Int).toNat * 2, none⟩ = false := hfr13 0; have hf13_1 : wr.frozen? ⟨go13, ((ji9) : Int).toNat * 2 + 1, none⟩ = false := hfr13 1; clear hcl13 hcc13 hfr13 hM13; replace p13 := eq_true p13; replace q13 := eq_true q13; have HX15 := Ah (show Kd.R k43 43 wr w.heap.size (fun _ => True) (.slice (some ⟨go13, 0, none⟩) x5_1.length co14) x5_1 from (rr HO_5.out)); obtain ⟨ce15, hcl15, hM15, hcc15, hfr15⟩ := Kd.R_elem HX15.out z43 ((ji9) : Int) (od) (by have h_ : ((ji9) : Int) < ((x5_1.length : Int) : Int) := od; first | exact h_ | (have e_ := (Kd.R_reads' HO_5.out).1; omega) | simpa using h_); obtain rfl := k43_openM hM15; have HP15 := Kd.R_seg HX15.out ((ji9) : Int) (od) (by have h_ : ((ji9) : Int) < ((x5_1.length : Int) : Int) := od; first | exact h_ | (have e_ := (Kd.R_reads' HO_5.out).1; omega) | simpa using h_) (seg := [.int .i64 (wrap64 (((rd_T43 x5_1 (ji9)).f1) + 1))]) (j := 1) hcl15 hcc15 (show 2 ≤ 2 from by decide) (x' := (⟨(rd_T43 x5_1 (ji9)).f0, wrap64 (((rd_T43 x5_1 (ji9)).f1) + 1)⟩ : S43)) (k43_mkM _ _ _ (⟨(rd_T43 x5_1 (ji9)).f0, wrap64 (((rd_T43 x5_1 (ji9)).f1) + 1)⟩ : S43) ) (fun _ hk => hk); have hx15_1 := hcc15 1 _ rfl; (try simp only [show (k43).sz = 2 from rfl, Nat.mul_one, Nat.add_zero] at hx15_1); have hf15_1 := hfr15 1; (try simp only [show (k43).sz = 2 from rfl, Nat.mul_one, Nat.add_zero] at hf15_1); clear hcl15 hcc15 hfr15 hM15) | ((with_reducible refine gate_store (t := 3) (p := 44) rfl ?_); (try (rw [drewN_self wr]; generalize hq_ : World.drewN wr _ = wr; replace HO_5 := Ah (Kd.R_at hq_ HO_5.out); replace BK490 := Ah (blk_at hq_ BK490.out); replace HB := Ah (below_at hq_ HB.out); clear hq_; (try (have HX15 := Ah (show Kd.R k43 43 wr w.heap.size (fun _ => True) (.slice (some ⟨go13, 0, none⟩) x5_1.length co14) x5_1 from (rr HO_5.out)))); (try (obtain ⟨ce15, hcl15, hM15, hcc15, hfr15⟩ := Kd.R_elem HX15.out z43 ((ji9) : Int) (od) (by have h_ : ((ji9) : Int) < ((x5_1.length : Int) : Int) := od; first | exact h_ | (have e_ := (Kd.R_reads' HO_5.out).1; omega) | simpa using h_))); (try (obtain rfl := k43_openM hM15)); (try (have HP15 := Kd.R_seg HX15.out ((ji9) : Int) (od) (by have h_ : ((ji9) : Int) < ((x5_1.length : Int) : Int) := od; first | exact h_ | (have e_ := (Kd.R_reads' HO_5.out).1; omega) | simpa using h_) (seg := [.int .i64 (wrap64 (((rd_T43 x5_1 (ji9)).f1) + 1))]) (j := 1) hcl15 hcc15 (show 2 ≤ 2 from by decide) (x' := (⟨(rd_T43 x5_1 (ji9)).f0, wrap64 (((rd_T43 x5_1 (ji9)).f1) + 1)⟩ : S43)) (k43_mkM _ _ _ (⟨(rd_T43 x5_1 (ji9)).f0, wrap64 (((rd_T43 x5_1 (ji9)).f1) + 1)⟩ : S43) ) (fun _ hk => hk))); (try (have hx15_1 := hcc15 1 _ rfl)); (try (try simp only [show (k43).sz = 2 from rfl, Nat.mul_one, Nat.add_zero] at hx15_1)); (try (have hf15_1 := hfr15 1)); (try (try simp only [show (k43).sz = 2 from rfl, Nat.mul_one, Nat.add_zero] at hf15_1)); (try (clear hcl15 hcc15 hfr15 hM15)))); refine store_event (t := 3) (p := 44) (v := ?vo_w16) (w1 := (wr.setCell ⟨go13, ((ji9) : Int).toNat * 2 + 1, none⟩ (.int .i64 (wrap64 (((rd_T43 x5_1 (ji9)).f1) + 1))))) ?hg ?ho ?hn ?hr ?_; (case ho => rfl); (case hg => rfl); (case hn => rfl); (case hr => first | (go_simp; done) | (go_simp; rfl)); intro w16 hw; have hg : wr.grownBy w16 (some go13) := (by rw [hw]; exact HP15.2); have hp_ : Kd.R k43 43 w16 w.heap.size (fun _ => True) (.slice (some ⟨go13, 0, none⟩) x5_1.length co14) y498 := (by rw [hw, Ny498.out]; exact HP15.1); clear HP15; replace BK490 := Ah (blk_grown (g := gx1_0) (o := .cells #[.slice A1_0 l1_0.length c1_0] 59 (0, 0)) (bk BK490) hg (Kd.R_ne HO_5.out BK490.out (by decide))); replace HO_5 := Ah (hp_); replace HB := Ah ((by rw [hw]; exact below_set (HB.out) GB13.out : Below w.heap.size w w16)); clear hg hw hp_)))
   go_roundg k1
   case measure => have := HK1.out; omega
   case rel => exact ⟨(y498), (wrap64 (x10_1 + 1)), e3, H', ⟨by have := HK1.out; omega⟩, ⟨rr HO_5.out⟩, ⟨bk BK490⟩, ⟨bs HB⟩⟩
def impl_blocksIn.l0 : Nat → List (S55) → Int → Int → List Bool → Option ((List (S43)))
 | 0, _, _, _, _ => none
 | k + 1, x7, x8, x9, x509000 => if x9 < x8 then (if 0 ≤ x9 then (if x9 < (x7.length : Int) then (if (rd_T55 x7 x9).f0 = true then (if 0 ≤ ((rd_T55 x7 x9).f1) then (if ((rd_T55 x7 x9).f1) < (x509000.length : Int) then (impl_blocksIn.l0 k x7 x8 (wrap64 (x9 + 1)) (x509000.set (((rd_T55 x7 x9).f1) : Int).toNat true)) else (none)) else (none)) else (impl_blocksIn.l0 k x7 x8 (wrap64 (x9 + 1)) x509000)) else (none)) else (none)) else ((impl_merged_at_impl_blocksIn_1.f k 400 x509000).bind fun t512 => (some t512))
def impl_blocksIn.f (k : Nat) (l0 : List (S55)) : Option ((List (S43))) := if 400 ≤ 281474976710656 then (impl_blocksIn.l0 k l0 (l0.length : Int) 0 (List.replicate 400 false)) else (none)
theorem impl_blocksIn.mono_l : ∀ k, (∀ y0 y1 y2 y3, LeO (impl_blocksIn.l0 k y0 y1 y2 y3) (impl_blocksIn.l0 (k + 1) y0 y1 y2 y3))
 | 0 => fun _ _ _ _ r h => by simp [impl_blocksIn.l0] at h
 | k + 1 => by
  have ih0 := impl_blocksIn.mono_l k
  ·
   intro y0 y1 y2 y3;unfold impl_blocksIn.l0
   repeat' with_reducible first|exact ih0 _ _ _ _|exact impl_merged_at_impl_blocksIn_1.mono _ _ _|exact LeO.refl _|exact LeO.none _|refine LeO.ite ?_ ?_|refine LeO.bind ?_ (fun _ => ?_)
theorem impl_blocksIn.mono : ∀ a0 k, LeO (impl_blocksIn.f k a0) (impl_blocksIn.f (k + 1) a0) := by
 intro a0 k;have ih0 := impl_blocksIn.mono_l k;unfold impl_blocksIn.f
 repeat' with_reducible first|exact ih0 _ _ _ _|exact impl_merged_at_impl_blocksIn_1.mono _ _ _|exact LeO.refl _|exact LeO.none _|refine LeO.ite ?_ ?_|refine LeO.bind ?_ (fun _ => ?_)
set_option maxHeartbeats 8000000 in
set_option maxRecDepth 100000 in
theorem impl_blocksIn.calls (k : Nat) (A0 : Option Addr) (c0 : Nat) (l0 : List (S55)) (r : List (S43)) (w : World) (hr0 : Kd.C k55 w A0 l0.length l0) (hc0 : l0.length ≤ c0) (h : impl_blocksIn.f k l0 = some r) :
  Calls Try.prog 26 #[.slice A0 l0.length c0] w fun e w' => ∃ v0_ : Value, e = .returned (v0_) ∧ Kd.R k43 43 w' w.heap.size (fun _ => True) v0_ r ∧ Below w.heap.size w w' := by
 have hu55 := Try.underlying55;have HR0 := Ah hr0;have HC0 := Ah hc0;clear hr0 hc0;have HB := Ah (Below.refl w.heap.size w);have H : (if 400 ≤ 281474976710656 then (impl_blocksIn.l0 k l0 (l0.length : Int) 0 (List.replicate 400 false)) else (none)) = some r := h;clear h
 by_cases c2 : 400 ≤ 281474976710656
 rotate_left
 ·
  rw [if_neg c2] at H;exact absurd H (by simp)
 rw [if_pos c2] at H;have c2b0 := eq_true c2;have c2b1 : decide (400 ≤ 281474976710656) = true := decide_eq_true c2;clear c2;obtain ⟨y505, hy505⟩ : ∃ y_ : List Bool, y_ = (List.replicate 400 false) := ⟨_, rfl⟩
 replace H : (impl_blocksIn.l0 k l0 (l0.length : Int) 0 y505) = some r := by first | (rw [hy505]; with_reducible exact H) | (have H2_ := (Option.bind_some _ _).symm.trans H; rw [hy505]; with_reducible exact H2_) | (have H2_ := (Option.bind_some _ _).symm.trans H; with_reducible exact H2_) | with_reducible exact H | (rw [hy505]; exact H) | exact H
 have Ny505 := Ah hy505;clear hy505;have H' := Ah H;clear H
 go_enter Try.func26, Try.ntmps26
 go_wp2_with (first | ((with_reducible refine gate_dst (N := 6) rfl ?_); refine Kd.R_make Kd.bool _ 4 rfl (N := 6) rfl 59 _ _ rfl 400 rfl rfl Try.underlying59 (.bool false) 1 info4 rfl (by decide) (by omega) false (ok := fun _ => True) (okp := fun _ => True) rfl (fun _ hk => hk) trivial (by omega) (by omega) (Below.refl _ _) (Nat.le_refl _) ?_; intro v506 w3 ho4 hb hg_ hnew_; clear hg_ hnew_; (first | rw [← Ny505.out] at ho4 | (simp only [Int.reduceToNat] at ho4; rw [← Ny505.out] at ho4)); have HO507 := Ah (Kd.R_lower ho4 (below_size (bs HB))); replace HB := Ah (below_step (bs HB) hb); clear hb ho4) | ((with_reducible refine gate_dst (N := 3) rfl ?_); refine boxL 3 59 #[.slice none 0 0] ?_; intro gb508 hg w5 BK508 hb; replace HO507 := nr HO507 hb; have GW508 := gw hg (bs HB); have GE508 := gw hg (bs HB); replace HB := Ah (below_step (bs HB) hb); clear hb hg; obtain ⟨Ao6, co6, eo6⟩ := Kd.R_slice HO507.out; subst eo6; have hcz7_0 := cz1 BK508; have hfz7_0 := fz1 BK508))
 go_loopg [9] k (fun kq v9 w' => ∃ (x9_1 : Int) (x509000_1 : List Bool) (u509000 : Value), v9 = .int .i64 x9_1 ∧ Aside0 (impl_blocksIn.l0 kq l0 (l0.length : Int) x9_1 x509000_1 = some r) ∧ Aside0 (kq ≤ k) ∧ Aside0 (Kd.R Kd.bool 4 w' w.heap.size (fun _ => True) u509000 x509000_1) ∧ Aside0 (w'.heap[gb508]? = some (.cells #[u509000] 59 (0, 0))) ∧ Aside0 (Below w.heap.size w w'))
 case atStart => exact ⟨(0), (y505), (.slice Ao6 y505.length co6), e3, H', ⟨Nat.le_refl _⟩, ⟨by (with_reducible repeat (first | apply Kd.R_alloc | apply Kd.R_drewN | apply Kd.R_drew)); exact Kd.R_mono (Kd.R_far (p := ⟨gb508, 0, none⟩) (Kd.R_types HO507.out BK508.out (by decide)) (fun _ hk => hk.2) (.slice Ao6 y505.length co6)) (fun _ hk => trivial)⟩, ⟨by (with_reducible repeat (first | refine blk_drewN ?_ _ | refine blk_drew ?_ | refine blk_alloc ?_ _)); refine blk_put (cs := #[.slice none 0 0]) ?_ 0 _ rfl; (with_reducible repeat (first | refine blk_drewN ?_ _ | refine blk_drew ?_ | refine blk_alloc ?_ _)); exact BK508.out⟩, ⟨bs1 HB GE508⟩⟩
 case round =>
  clear H'
  try clear c2
  try clear c2b0
  try clear c2b1
  try clear p2
  try clear hcz7_0
  try clear hfz7_0
  obtain ⟨x9_1, x509000_1, u509000, rfl, HA, HK1, HO_509000, BK508, HB⟩ := hrel
  cases gk with
  | zero => exact absurd HA.out (by simp [impl_blocksIn.l0])
  | succ k1 =>
   have H := HA.out;clear HA;simp only [impl_blocksIn.l0] at H
   by_cases c8 : x9_1 < (l0.length : Int)
   rotate_left
   ·
    rw [if_neg c8] at H;have c8b0 : decide (x9_1 < (l0.length : Int)) = false := decide_eq_false c8;clear c8;replace H := Option.bind_eq_some_iff.mp H;obtain ⟨t512, A270, H⟩ := H
    try dsimp only at H
    have A27 := Ah A270;clear A270;obtain rfl := Option.some.inj H;obtain ⟨Ao28, co28, eo28⟩ := Kd.R_slice HO_509000.out;subst eo28
    go_wp2_with (first | ((with_reducible refine gate_callee (f := 33) rfl ?_); refine gL (some 21) rfl rfl Try.func33 (by kernel_rfl) rfl #[.int .i64 400, .func (.func 34) #[] #[.pointer (some ⟨gb508, 0, none⟩)]] rfl ?_; (with_reducible refine (impl_merged_at_impl_blocksIn_1.calls k1 400 gb508 Ao28 co28 x509000_1 t512 _ ?side1 ?side2 ?side3 A27.out).mono ?_); (case side1 => exact rc0 HO_509000); (case side2 => exact (Kd.R_reads' HO_509000.out).2.1); (case side3 => (with_reducible repeat (first | refine blk_drewN ?_ _ | refine blk_drew ?_ | refine blk_alloc ?_ _)); exact BK508.out); rintro e w29 ⟨v513, rfl, ho0, hb⟩; refine ⟨_, rfl, ?_⟩; replace HO_509000 := nr HO_509000 hb; have HO514 := Ah (Kd.R_lower ho0 (below_size (bs1 HB GE508))); replace BK508 := nb BK508 hb; replace HB := Ah (below_step (bs1 HB GE508) hb); (try clear hb ho0)))
    go_ret
    exact ⟨_, er, by (with_reducible repeat (first | apply Kd.R_alloc | apply Kd.R_drewN | apply Kd.R_drew)); exact HO514.out, bs1 HB GE508⟩
   rw [if_pos c8] at H;have c8b0 : decide (x9_1 < (l0.length : Int)) = true := decide_eq_true c8;clear c8
   by_cases c9 : 0 ≤ x9_1
   rotate_left
   ·
    rw [if_neg c9] at H;exact absurd H (by simp)
   rw [if_pos c9] at H;have c9b0 : decide (0 ≤ x9_1) = true := decide_eq_true c9;clear c9
   by_cases c10 : x9_1 < (l0.length : Int)
   rotate_left
   ·
    rw [if_neg c10] at H;exact absurd H (by simp)
   rw [if_pos c10] at H;have c10b0 : decide (x9_1 < (l0.length : Int)) = true := decide_eq_true c10;clear c10;obtain ⟨bq11, hbq11⟩ : ∃ b_ : Bool, b_ = ((rd_T55 l0 x9_1).f0) := ⟨_, rfl⟩
   replace H : (if bq11 = true then (if 0 ≤ ((rd_T55 l0 x9_1).f1) then (if ((rd_T55 l0 x9_1).f1) < (x509000_1.length : Int) then (impl_blocksIn.l0 k1 l0 (l0.length : Int) (wrap64 (x9_1 + 1)) (x509000_1.set (((rd_T55 l0 x9_1).f1) : Int).toNat true)) else (none)) else (none)) else (impl_blocksIn.l0 k1 l0 (l0.length : Int) (wrap64 (x9_1 + 1)) x509000_1)) = some r := by rw [← hbq11] at H; exact H
   have Nbq11 := Ah hbq11;clear hbq11
   by_cases c12 : bq11 = true
   rotate_left
   ·
    replace c12 := Bool.eq_false_iff.mpr c12;subst c12;rw [if_neg fne] at H;have H' := Ah H;clear H;have p509 : 0 ≤ (x9_1 : Int) := od;have q509 : x9_1 < (l0.length : Int) := od;obtain ⟨ad509, e509, hx509_0, hx509_1, hx509_2⟩ := at_T55 HR0.out x9_1 p509 q509;(try rw [← Nbq11.out] at hx509_0);(try rw [← Nbq11.out] at hx509_2)
    cases e509
    replace hx509_0 := (HB.out.cell (World.block_lt_of_cell? w _ hx509_0)).trans hx509_0;replace hx509_1 := (HB.out.cell (World.block_lt_of_cell? w _ hx509_1)).trans hx509_1;replace hx509_2 := (HB.out.cell (World.block_lt_of_cell? w _ hx509_2)).trans hx509_2;replace p509 := eq_true p509;replace q509 := eq_true q509
    go_wp2_with (first | ((with_reducible refine gate_dst (N := 5) rfl ?_); refine boxL 5 55 #[.bool false, .int .i64 0, .bool false] ?_; intro gb510 hg w24 BK510 hb; replace HO_509000 := nr HO_509000 hb; have GW510 := gw hg (bs1 HB GE508); have GE510 := gw hg (bs1 HB GE508); replace HB := Ah (below_step (bs1 HB GE508) hb); have NB508_510 := nn BK508 hg; have NB510_508 := nm BK508 hg; replace BK508 := nb BK508 hb; clear hb hg; have hnb25 := NB510_508.out; have hnc25 := NB508_510.out; obtain ⟨hcz26_0, hcz26_1, hcz26_2⟩ := cz3 BK510; obtain ⟨hfz26_0, hfz26_1, hfz26_2⟩ := fz3 BK510))
    go_roundg k1
    case measure => have := HK1.out; omega
    case rel => exact ⟨(wrap64 (x9_1 + 1)), (x509000_1), (u509000), e3, H', ⟨by have := HK1.out; omega⟩, ⟨by (with_reducible repeat (first | apply Kd.R_alloc | apply Kd.R_drewN | apply Kd.R_drew)); exact Kd.R_mono (Kd.R_far (p := ⟨gb510, 2, none⟩) (Kd.R_far (p := ⟨gb510, 1, none⟩) (Kd.R_far (p := ⟨gb510, 0, none⟩) (Kd.R_types HO_509000.out BK510.out (by decide)) (fun _ hk => hk.2) (.bool false)) (fun _ hk => hk.2) (.int .i64 ((rd_T55 l0 x9_1).f1))) (fun _ hk => hk.2) (.bool ((rd_T55 l0 x9_1).f2))) (fun _ hk => trivial)⟩, ⟨bf BK508 NB508_510⟩, ⟨bs2 HB GE508 GE510⟩⟩
   subst c12;rw [if_pos rfl] at H
   by_cases c13 : 0 ≤ ((rd_T55 l0 x9_1).f1)
   rotate_left
   ·
    rw [if_neg c13] at H;exact absurd H (by simp)
   rw [if_pos c13] at H;have c13b0 : decide (0 ≤ ((rd_T55 l0 x9_1).f1)) = true := decide_eq_true c13;clear c13
   by_cases c14 : ((rd_T55 l0 x9_1).f1) < (x509000_1.length : Int)
   rotate_left
   ·
    rw [if_neg c14] at H;exact absurd H (by simp)
   rw [if_pos c14] at H;have c14b0 : decide (((rd_T55 l0 x9_1).f1) < (x509000_1.length : Int)) = true := decide_eq_true c14;clear c14;obtain ⟨y511, hy511⟩ : ∃ y_ : List Bool, y_ = (x509000_1.set (((rd_T55 l0 x9_1).f1) : Int).toNat true) := ⟨_, rfl⟩
   replace H : (impl_blocksIn.l0 k1 l0 (l0.length : Int) (wrap64 (x9_1 + 1)) y511) = some r := by first | (rw [hy511]; with_reducible exact H) | (have H2_ := (Option.bind_some _ _).symm.trans H; rw [hy511]; with_reducible exact H2_) | (have H2_ := (Option.bind_some _ _).symm.trans H; with_reducible exact H2_) | with_reducible exact H | (rw [hy511]; exact H) | exact H
   have Ny511 := Ah hy511;clear hy511;have H' := Ah H;clear H;have p509 : 0 ≤ (x9_1 : Int) := od;have q509 : x9_1 < (l0.length : Int) := od;obtain ⟨ad509, e509, hx509_0, hx509_1, hx509_2⟩ := at_T55 HR0.out x9_1 p509 q509;(try rw [← Nbq11.out] at hx509_0);(try rw [← Nbq11.out] at hx509_2)
   cases e509
   replace hx509_0 := (HB.out.cell (World.block_lt_of_cell? w _ hx509_0)).trans hx509_0;replace hx509_1 := (HB.out.cell (World.block_lt_of_cell? w _ hx509_1)).trans hx509_1;replace hx509_2 := (HB.out.cell (World.block_lt_of_cell? w _ hx509_2)).trans hx509_2;replace p509 := eq_true p509;replace q509 := eq_true q509
   go_wp2_with (first | ((with_reducible refine gate_dst (N := 5) rfl ?_); refine boxL 5 55 #[.bool false, .int .i64 0, .bool false] ?_; intro gb510 hg w16 BK510 hb; replace HO_509000 := nr HO_509000 hb; have GW510 := gw hg (bs1 HB GE508); have GE510 := gw hg (bs1 HB GE508); replace HB := Ah (below_step (bs1 HB GE508) hb); have NB508_510 := nn BK508 hg; have NB510_508 := nm BK508 hg; replace BK508 := nb BK508 hb; clear hb hg; have hnb17 := NB510_508.out; have hnc17 := NB508_510.out; obtain ⟨hcz18_0, hcz18_1, hcz18_2⟩ := cz3 BK510; obtain ⟨hfz18_0, hfz18_1, hfz18_2⟩ := fz3 BK510) | ((with_reducible refine gate_store (t := 55) (p := 5) rfl ?_); refine store_event (t := 55) (p := 5) (v := ?vo_w19) (w1 := (((w16.setCell ⟨gb510, 0, none⟩ (.bool true)).setCell ⟨gb510, 1, none⟩ (.int .i64 ((rd_T55 l0 x9_1).f1))).setCell ⟨gb510, 2, none⟩ (.bool ((rd_T55 l0 x9_1).f2)))) ?hg ?ho ?hn ?hr ?_; (case ho => rfl); (case hg => rfl); (case hn => rfl); (case hr => first | (go_simp; done) | (go_simp; rfl)); intro w19 hw; have n0_ : Aside0 (Kd.R Kd.bool 4 w19 w.heap.size (fun _ => True) u509000 x509000_1) := ⟨(by rw [hw]; exact (by (with_reducible repeat (first | apply Kd.R_alloc | apply Kd.R_drewN | apply Kd.R_drew)); exact Kd.R_mono (Kd.R_far (p := ⟨gb510, 2, none⟩) (Kd.R_far (p := ⟨gb510, 1, none⟩) (Kd.R_far (p := ⟨gb510, 0, none⟩) (Kd.R_types HO_509000.out BK510.out (by decide)) (fun _ hk => hk.2) (.bool true)) (fun _ hk => hk.2) (.int .i64 ((rd_T55 l0 x9_1).f1))) (fun _ hk => hk.2) (.bool ((rd_T55 l0 x9_1).f2))) (fun _ hk => trivial)))⟩; have n1_ : Aside0 (w19.heap[gb508]? = some (.cells #[u509000] 59 (0, 0))) := ⟨(by rw [hw]; exact (bf BK508 NB508_510))⟩; have n2_ : Aside0 (w19.heap[gb510]? = some (.cells #[.bool true, .int .i64 ((rd_T55 l0 x9_1).f1), .bool ((rd_T55 l0 x9_1).f2)] 55 (0, 0))) := ⟨(by rw [hw]; exact (by (with_reducible repeat (first | refine blk_drewN ?_ _ | refine blk_drew ?_ | refine blk_alloc ?_ _)); refine blk_put (cs := #[.bool true, .int .i64 ((rd_T55 l0 x9_1).f1), .bool false]) ?_ 2 _ rfl; (with_reducible repeat (first | refine blk_drewN ?_ _ | refine blk_drew ?_ | refine blk_alloc ?_ _)); refine blk_put (cs := #[.bool true, .int .i64 0, .bool false]) ?_ 1 _ rfl; (with_reducible repeat (first | refine blk_drewN ?_ _ | refine blk_drew ?_ | refine blk_alloc ?_ _)); refine blk_put (cs := #[.bool false, .int .i64 0, .bool false]) ?_ 0 _ rfl; (with_reducible repeat (first | refine blk_drewN ?_ _ | refine blk_drew ?_ | refine blk_alloc ?_ _)); exact BK510.out))⟩; have n3_ : Aside0 (Below w.heap.size w w19) := ⟨(by rw [hw]; exact (bs2 HB GE508 GE510))⟩; clear hw; clear HO_509000; clear BK508; clear BK510; clear HB; have HO_509000 := n0_; have BK508 := n1_; have BK510 := n2_; have HB := n3_; clear n0_ n1_ n2_ n3_; obtain ⟨hcz20_0, hcz20_1, hcz20_2⟩ := cz3 BK510; obtain ⟨hfz20_0, hfz20_1, hfz20_2⟩ := fz3 BK510; have hcz21_0 := cz1 BK508; have hfz21_0 := fz1 BK508; have p15 : 0 ≤ (((rd_T55 l0 x9_1).f1) : Int) := od; have q15 : (((rd_T55 l0 x9_1).f1) : Int) < ((x509000_1.length : Int) : Int) := od; obtain ⟨go15, co15, eo15, gb15, gl15, cl15, HG15⟩ := Kd.R_form HO_509000.out (by omega); (first | cases eo15 | (injection eo15 with ea_ en_ ec_; (first | subst ea_ | (injection ea_ with ea_; subst ea_)); subst ec_; clear en_)); have GB15 := Ah gb15; have GG15 := Ah HG15; clear gb15 gl15 HG15; obtain ⟨hx15_0, hf15_0⟩ := Kd.R_celln false HO_509000.out (((rd_T55 l0 x9_1).f1) : Int) p15 q15; replace p15 := eq_true p15; replace q15 := eq_true q15; obtain ⟨hy22_, hz22_⟩ := Kd.R_celln false HO_509000.out (((rd_T55 l0 x9_1).f1) : Int) (od) (od); have HP22 := Kd.R_putg HO_509000.out (((rd_T55 l0 x9_1).f1) : Int) true) | ((with_reducible refine gate_store (t := 4) (p := 18) rfl ?_); refine store_event (t := 4) (p := 18) (v := ?vo_w23) (w1 := (w19.setCell ⟨go15, (((rd_T55 l0 x9_1).f1) : Int).toNat, none⟩ (.bool true))) ?hg ?ho ?hn ?hr ?_; (case ho => rfl); (case hg => rfl); (case hn => rfl); (case hr => first | (go_simp; done) | (go_simp; rfl)); intro w23 hw; have hg : w19.grownBy w23 (some go15) := (by rw [hw]; exact HP22.2); have hp_ : Kd.R Kd.bool 4 w23 w.heap.size (fun _ => True) (.slice (some ⟨go15, 0, none⟩) x509000_1.length co15) y511 := (by rw [hw, Ny511.out]; exact HP22.1); clear HP22; replace BK508 := Ah (blk_grown (bk BK508) hg (Kd.R_ne HO_509000.out BK508.out (by decide))); replace BK510 := Ah (blk_grown (bk BK510) hg (Kd.R_ne HO_509000.out BK510.out (by decide))); replace HO_509000 := Ah (hp_); replace HB := Ah ((by rw [hw]; exact below_set (HB.out) GB15.out : Below w.heap.size w w23)); clear hg hw hp_))
   go_roundg k1
   case measure => have := HK1.out; omega
   case rel => exact ⟨(wrap64 (x9_1 + 1)), (y511), (.slice (some ⟨go15, 0, none⟩) x509000_1.length co15), e3, H', ⟨by have := HK1.out; omega⟩, ⟨rr HO_509000.out⟩, ⟨bk BK508⟩, ⟨bs2 HB GE508 GE510⟩⟩
def impl_PunchMap.f (k : Nat) (l0_0 : List (S27)) (a1 : Int) (a2 : Int) : Option ((List (S27)) × (List (S43)) × Bool) := (impl_isRange.f k l0_0 a1 a2).bind fun t517 => (if t517 = true then ((impl_FileMap_cells.f k l0_0).bind fun t518 => (if 0 ≤ a1 then (if a1 ≤ (wrap64 (a1 + a2)) then (if (wrap64 (a1 + a2)) ≤ (t518.length : Int) then ((some ((t518.take ((wrap64 (a1 + a2)) : Int).toNat).drop (a1 : Int).toNat : List (S55))).bind fun y521 => ((impl_blocksIn.f k y521).bind fun t525 => ((impl_mapOf.f k (t518.take (a1 : Int).toNat ++ List.replicate y521.length z55 ++ t518.drop ((a1 : Int).toNat + y521.length))).bind fun bt529 => (if bt529.2 = true then (some (bt529.1, t525, true)) else (some (([] : List (S27)), ([] : List (S43)), false)))))) else (none)) else (none)) else (none))) else (some (([] : List (S27)), ([] : List (S43)), false)))
theorem impl_PunchMap.mono : ∀ a0 a1 a2 k, LeO (impl_PunchMap.f k a0 a1 a2) (impl_PunchMap.f (k + 1) a0 a1 a2) := by
 intro a0 a1 a2 k;unfold impl_PunchMap.f
 repeat' with_reducible first|exact impl_FileMap_cells.mono _ _|exact impl_blocksIn.mono _ _|exact impl_isRange.mono _ _ _ _|exact impl_mapOf.mono _ _|exact LeO.refl _|exact LeO.none _|refine LeO.ite ?_ ?_|refine LeO.bind ?_ (fun _ => ?_)
set_option maxHeartbeats 8000000 in
set_option maxRecDepth 100000 in
theorem impl_PunchMap.calls (k : Nat) (A0_0 : Option Addr) (c0_0 : Nat) (l0_0 : List (S27)) (a1 : Int) (a2 : Int) (r1 : List (S27)) (r2 : List (S43)) (r3 : Bool) (w : World) (hr0_0 : Kd.C k27 w A0_0 l0_0.length l0_0) (hc0_0 : l0_0.length ≤ c0_0) (h : impl_PunchMap.f k l0_0 a1 a2 = some (r1, r2, r3)) :
  Calls Try.prog 12 #[.agg #[.slice A0_0 l0_0.length c0_0], .int .i64 a1, .int .i64 a2] w fun e w' => ∃ v0_ v1_ : Value, e = .returned (.tuple #[.agg #[v0_], v1_, .bool r3]) ∧ Kd.R k27 27 w' w.heap.size (fun _ => True) v0_ r1 ∧ Kd.R k43 43 w' w.heap.size (fun _ => True) v1_ r2 ∧ Below w.heap.size w w' := by
 have hu25 := Try.underlying25;have HR0_0 := Ah hr0_0;have HC0_0 := Ah hc0_0;clear hr0_0 hc0_0;have HB := Ah (Below.refl w.heap.size w);have H : ((impl_isRange.f k l0_0 a1 a2).bind fun t517 => (if t517 = true then ((impl_FileMap_cells.f k l0_0).bind fun t518 => (if 0 ≤ a1 then (if a1 ≤ (wrap64 (a1 + a2)) then (if (wrap64 (a1 + a2)) ≤ (t518.length : Int) then ((some ((t518.take ((wrap64 (a1 + a2)) : Int).toNat).drop (a1 : Int).toNat : List (S55))).bind fun y521 => ((impl_blocksIn.f k y521).bind fun t525 => ((impl_mapOf.f k (t518.take (a1 : Int).toNat ++ List.replicate y521.length z55 ++ t518.drop ((a1 : Int).toNat + y521.length))).bind fun bt529 => (if bt529.2 = true then (some (bt529.1, t525, true)) else (some (([] : List (S27)), ([] : List (S43)), false)))))) else (none)) else (none)) else (none))) else (some (([] : List (S27)), ([] : List (S43)), false)))) = some (r1, r2, r3) := h;clear h;replace H := Option.bind_eq_some_iff.mp H;obtain ⟨t517, A40, H⟩ := H
 try dsimp only at H
 have A4 := Ah A40;clear A40
 by_cases c5 : t517 = true
 rotate_left
 ·
  replace c5 := Bool.eq_false_iff.mpr c5;subst c5;rw [if_neg fne] at H;simp only [Option.some.injEq, Prod.mk.injEq] at H;obtain ⟨rfl, rfl, rfl⟩ := H
  go_enter Try.func12, Try.ntmps12
  go_wp2_with (first | ((with_reducible refine gate_dst (N := 3) rfl ?_); refine boxL 3 25 #[.slice A0_0 l0_0.length c0_0] ?_; intro gb515 hg w51 BK515 hb; have GW515 := gw hg (bs HB); have GE515 := gw hg (bs HB); replace HB := Ah (below_step (bs HB) hb); clear hb hg) | ((with_reducible refine gate_dst (N := 6) rfl ?_); refine boxL 6 25 #[.slice none 0 0] ?_; intro gb516 hg w52 BK516 hb; have GW516 := gw hg (bs1 HB GE515); have GE516 := gw hg (bs1 HB GE515); replace HB := Ah (below_step (bs1 HB GE515) hb); have NB515_516 := nn BK515 hg; have NB516_515 := nm BK515 hg; replace BK515 := nb BK515 hb; clear hb hg; have hnb53 := NB515_516.out; have hnc53 := NB516_515.out; have hcz54_0 := cz1 BK515; have hfz54_0 := fz1 BK515) | ((with_reducible refine gate_callee (f := 25) rfl ?_); refine gL (some 16) rfl rfl Try.func25 (by kernel_rfl) rfl #[.agg #[.slice A0_0 l0_0.length c0_0], .int .i64 a1, .int .i64 a2] rfl ?_; (with_reducible refine (impl_isRange.calls k _ _ l0_0 a1 a2 false _ ?side1 ?side2 A4.out).mono ?_); (case side1 => exact cb HR0_0 HB); (case side2 => exact HC0_0.out); rintro e w55 ⟨rfl, hb⟩; refine ⟨_, rfl, ?_⟩; replace BK515 := nb BK515 hb; replace BK516 := nb BK516 hb; replace HB := Ah (below_step (bs2 HB GE515 GE516) hb); (try clear hb); have hcz56_0 := cz1 BK516; have hfz56_0 := fz1 BK516))
  refine bodyPost_ret (results_ctt rfl _ _ gb516 25 #[.slice none 0 0] (0, 0) _ rfl (by (with_reducible repeat (first | refine blk_drewN ?_ _ | refine blk_drew ?_ | refine blk_alloc ?_ _)); refine blk_put (cs := #[.slice none 0 0]) ?_ 0 _ rfl; (with_reducible repeat (first | refine blk_drewN ?_ _ | refine blk_drew ?_ | refine blk_alloc ?_ _)); exact BK516.out) Try.underlying25 rfl (by kernel_rfl)) rfl ?_;exact ⟨_, _, er, by first | exact Kd.R_nil _ _ _ _ _ | exact Kd.N_nil _ _ _ _ _ | exact Kd.V_nil _ _ _ _ _ | exact Kd.Q_nil _ _ _ _ _ | exact Kd.S_nil _ _ _ _ _, by first | exact Kd.R_nil _ _ _ _ _ | exact Kd.N_nil _ _ _ _ _ | exact Kd.V_nil _ _ _ _ _ | exact Kd.Q_nil _ _ _ _ _ | exact Kd.S_nil _ _ _ _ _, bs2 HB GE515 GE516⟩
 subst c5;rw [if_pos rfl] at H;replace H := Option.bind_eq_some_iff.mp H;obtain ⟨t518, A60, H⟩ := H
 try dsimp only at H
 have A6 := Ah A60;clear A60
 by_cases c7 : 0 ≤ a1
 rotate_left
 ·
  rw [if_neg c7] at H;exact absurd H (by simp)
 rw [if_pos c7] at H;have c7b0 := eq_true c7;have c7b1 : decide (0 ≤ a1) = true := decide_eq_true c7;clear c7
 by_cases c8 : a1 ≤ (wrap64 (a1 + a2))
 rotate_left
 ·
  rw [if_neg c8] at H;exact absurd H (by simp)
 rw [if_pos c8] at H;have c8b0 := eq_true c8;have c8b1 : decide (a1 ≤ (wrap64 (a1 + a2))) = true := decide_eq_true c8
 by_cases c9 : (wrap64 (a1 + a2)) ≤ (t518.length : Int)
 rotate_left
 ·
  rw [if_neg c9] at H;exact absurd H (by simp)
 rw [if_pos c9] at H;have c9b0 := eq_true c9;have c9b1 : decide ((wrap64 (a1 + a2)) ≤ (t518.length : Int)) = true := decide_eq_true c9;obtain ⟨y521, hy521⟩ : ∃ y_ : List (S55), y_ = ((t518.take ((wrap64 (a1 + a2)) : Int).toNat).drop (a1 : Int).toNat) := ⟨_, rfl⟩
 replace H : ((impl_blocksIn.f k y521).bind fun t525 => ((impl_mapOf.f k (t518.take (a1 : Int).toNat ++ List.replicate y521.length z55 ++ t518.drop ((a1 : Int).toNat + y521.length))).bind fun bt529 => (if bt529.2 = true then (some (bt529.1, t525, true)) else (some (([] : List (S27)), ([] : List (S43)), false))))) = some (r1, r2, r3) := by first | (rw [hy521]; with_reducible exact H) | (have H2_ := (Option.bind_some _ _).symm.trans H; rw [hy521]; with_reducible exact H2_) | (have H2_ := (Option.bind_some _ _).symm.trans H; with_reducible exact H2_) | with_reducible exact H | (rw [hy521]; exact H) | exact H
 have Ny521 := Ah hy521;clear hy521;replace H := Option.bind_eq_some_iff.mp H;obtain ⟨t525, A100, H⟩ := H
 try dsimp only at H
 have A10 := Ah A100;clear A100;obtain ⟨y528, hy528⟩ : ∃ y_ : List (S55), y_ = (t518.take (a1 : Int).toNat ++ List.replicate y521.length z55 ++ t518.drop ((a1 : Int).toNat + y521.length)) := ⟨_, rfl⟩
 replace H : ((impl_mapOf.f k y528).bind fun bt529 => (if bt529.2 = true then (some (bt529.1, t525, true)) else (some (([] : List (S27)), ([] : List (S43)), false)))) = some (r1, r2, r3) := by first | (rw [hy528]; with_reducible exact H) | (have H2_ := (Option.bind_some _ _).symm.trans H; rw [hy528]; with_reducible exact H2_) | (have H2_ := (Option.bind_some _ _).symm.trans H; with_reducible exact H2_) | with_reducible exact H | (rw [hy528]; exact H) | exact H
 have Ny528 := Ah hy528;clear hy528;replace H := Option.bind_eq_some_iff.mp H;obtain ⟨⟨t529, t532⟩, A110, H⟩ := H
 try dsimp only at H
 have A11 := Ah A110;clear A110
 by_cases c12 : t532 = true
 rotate_left
 ·
  replace c12 := Bool.eq_false_iff.mpr c12;subst c12;rw [if_neg fne] at H;simp only [Option.some.injEq, Prod.mk.injEq] at H;obtain ⟨rfl, rfl, rfl⟩ := H
  go_enter Try.func12, Try.ntmps12
  go_wp2_with (first | ((with_reducible refine gate_dst (N := 3) rfl ?_); refine boxL 3 25 #[.slice A0_0 l0_0.length c0_0] ?_; intro gb515 hg w32 BK515 hb; have GW515 := gw hg (bs HB); have GE515 := gw hg (bs HB); replace HB := Ah (below_step (bs HB) hb); clear hb hg) | ((with_reducible refine gate_dst (N := 6) rfl ?_); refine boxL 6 25 #[.slice none 0 0] ?_; intro gb516 hg w33 BK516 hb; have GW516 := gw hg (bs1 HB GE515); have GE516 := gw hg (bs1 HB GE515); replace HB := Ah (below_step (bs1 HB GE515) hb); have NB515_516 := nn BK515 hg; have NB516_515 := nm BK515 hg; replace BK515 := nb BK515 hb; clear hb hg; have hnb34 := NB515_516.out; have hnc34 := NB516_515.out; have hcz35_0 := cz1 BK515; have hfz35_0 := fz1 BK515) | ((with_reducible refine gate_callee (f := 25) rfl ?_); refine gL (some 16) rfl rfl Try.func25 (by kernel_rfl) rfl #[.agg #[.slice A0_0 l0_0.length c0_0], .int .i64 a1, .int .i64 a2] rfl ?_; (with_reducible refine (impl_isRange.calls k _ _ l0_0 a1 a2 true _ ?side1 ?side2 A4.out).mono ?_); (case side1 => exact cb HR0_0 HB); (case side2 => exact HC0_0.out); rintro e w36 ⟨rfl, hb⟩; refine ⟨_, rfl, ?_⟩; replace BK515 := nb BK515 hb; replace BK516 := nb BK516 hb; replace HB := Ah (below_step (bs2 HB GE515 GE516) hb); (try clear hb); have hcz37_0 := cz1 BK515; have hfz37_0 := fz1 BK515) | ((with_reducible refine gate_callee (f := 17) rfl ?_); refine gL (some 20) rfl rfl Try.func17 (by kernel_rfl) rfl #[.agg #[.slice A0_0 l0_0.length c0_0]] rfl ?_; (with_reducible refine (impl_FileMap_cells.calls k _ _ l0_0 t518 _ ?side1 ?side2 A6.out).mono ?_); (case side1 => exact cb HR0_0 HB); (case side2 => exact HC0_0.out); rintro e w38 ⟨v519, rfl, ho0, hb⟩; refine ⟨_, rfl, ?_⟩; have HO520 := Ah (Kd.R_lower ho0 (below_size (bs2 HB GE515 GE516))); replace BK515 := nb BK515 hb; replace BK516 := nb BK516 hb; replace HB := Ah (below_step (bs2 HB GE515 GE516) hb); (try clear hb ho0); obtain ⟨Ao40, co40, eo40⟩ := Kd.R_slice HO520.out; subst eo40; have q39 : ((wrap64 (a1 + a2)) : Int) ≤ ((t518.length : Int) : Int) := od; obtain ⟨i039, hi039, _, hsz39, _⟩ := info_parts info55; have hroom39 : t518.length ≤ co40 := (Kd.R_reads' HO520.out).2.1; have hC39 : Kd.C k55 _ Ao40 t518.length t518 := (Kd.R_reads' HO520.out).2.2; have ql39 : (a1 : Int) ≤ ((wrap64 (a1 + a2)) : Int) := od; have q039 : (0 : Int) ≤ (a1 : Int) := od; have hcut39 := cut_mid (P := Try.prog) 52 55 .i64 .i64 Try.underlying52 hi039 3 hsz39 Ao40 t518.length co40 a1 (wrap64 (a1 + a2)) q039 ql39 q39 hroom39; have hr39 := Kd.C_mid (lo := (a1 : Int).toNat) (hi := ((wrap64 (a1 + a2)) : Int).toNat) (c := co40) hC39 (by omega) (by omega) hroom39; obtain ⟨A39, hA39⟩ : ∃ A1, A1 = (if co40 = (a1 : Int).toNat then Ao40 else (Ao40 : Option Addr).map (·.add ((a1 : Int).toNat * 3))) := ⟨_, rfl⟩; obtain ⟨c39, hc39⟩ : ∃ c1, c1 = co40 - (a1 : Int).toNat := ⟨_, rfl⟩; have hy39 : y521.length = ((wrap64 (a1 + a2)) : Int).toNat - (a1 : Int).toNat := (by rw [Ny521.out, List.length_drop, List.length_take] <;> omega); rw [show ((t518).take ((wrap64 (a1 + a2)) : Int).toNat).drop (a1 : Int).toNat = y521 from Ny521.out.symm] at hr39; replace hr39 : Kd.C k55 _ A39 y521.length y521 := (by rw [hA39]; exact hr39); rw [← hy39, ← hA39, ← hc39] at hcut39; have HR524 := Ah hr39; have HC524 := Ah (show y521.length ≤ c39 from by rw [hy39, hc39]; exact Nat.sub_le_sub_right (Nat.le_trans (by omega) hroom39) _); clear hr39 hC39 hroom39 hi039 hsz39 hc39; have KY39 := Ah hy39; have KA39 := Ah hA39; clear hy39 hA39; have KL39 := Ah (show ((wrap64 (a1 + a2)) : Int).toNat ≤ t518.length from by omega); have KM39 := Ah (show (a1 : Int).toNat ≤ ((wrap64 (a1 + a2)) : Int).toNat from by omega); replace q39 := eq_true q39) | ((with_reducible refine gate_callee (f := 26) rfl ?_); refine gL (some 27) rfl rfl Try.func26 (by kernel_rfl) rfl #[.slice A39 y521.length c39] rfl ?_; (with_reducible refine (impl_blocksIn.calls k _ _ y521 t525 _ ?side1 ?side2 A10.out).mono ?_); (case side1 => repeat (first | exact (by repeat (first | (with_reducible exact HR524.out) | (with_reducible refine Kd.C_alloc ?_ _) | (with_reducible refine Kd.C_drewN ?_ _) | (with_reducible refine Kd.C_drew ?_) | exact HR524.out)) | (with_reducible refine Kd.C_alloc ?_ _) | (with_reducible refine Kd.C_drewN ?_ _) | (with_reducible refine Kd.C_drew ?_))); (case side2 => exact HC524.out); rintro e w41 ⟨v526, rfl, ho0, hb⟩; refine ⟨_, rfl, ?_⟩; replace HO520 := nr HO520 hb; have HO527 := Ah (Kd.R_lower ho0 (below_size (bs2 HB GE515 GE516))); replace BK515 := nb BK515 hb; replace BK516 := nb BK516 hb; replace HR524 := Ah (Kd.C_below (by repeat (first | (with_reducible exact HR524.out) | (with_reducible refine Kd.C_alloc ?_ _) | (with_reducible refine Kd.C_drewN ?_ _) | (with_reducible refine Kd.C_drew ?_) | exact HR524.out)) hb); replace HB := Ah (below_step (bs2 HB GE515 GE516) hb); (try clear hb ho0)) | ((with_reducible refine gate_builtin (b := .clear) (xs := #[.tmp 33]) rfl ?_); refine Kd.R_clear k55 (w0 := w) w.heap.size rfl (.tmp 33) 52 55 rfl Try.underlying52 (.agg #[(.bool false), (.int .i64 0), (.bool false)]) 24 info55 rfl (by decide) z55 (k55_mkM _ _ _ z55 ) (n := t518.length) (c := co40) (k := (a1 : Int).toNat) (m := y521.length) rfl KA39.out (rr HO520.out) ?hkm (bs2 HB GE515 GE516) (below_size (bs2 HB GE515 GE516)) ?_; (case hkm => have h1_ := KY39.out; have h2_ := KL39.out; have h3_ := (Kd.R_reads' HO520.out).1; (try have h4_ := KM39.out); omega); intro w42 ho hb hg; rw [← Ny528.out] at ho; replace BK515 := Ah (blk_grown (bk BK515) hg (Kd.R_ne HO520.out BK515.out (by decide))); replace BK516 := Ah (blk_grown (bk BK516) hg (Kd.R_ne HO520.out BK516.out (by decide))); replace HO527 := Ah (Kd.R_over' (v := (.slice Ao40 t518.length co40)) (rr HO527.out) (Kd.R_typed HO520.out) (by decide) hg); replace HO520 := Ah (ho); replace HB := Ah (hb); clear ho hb hg) | ((with_reducible refine gate_callee (f := 18) rfl ?_); refine goesL_ (some 36) rfl rfl Try.func18 (by kernel_rfl) rfl #[.slice Ao40 y528.length co40] rfl (by (try simp only [List.map_toArray, List.map_cons, List.map_nil]); first | done | (rw [show y528.length = t518.length from (Kd.R_reads' HO520.out).1.symm] <;> rfl) | rfl | (simp only [List.length_drop, List.length_take]; rfl)) ?_; (with_reducible refine (impl_mapOf.calls k _ _ y528 t529 false _ ?side1 ?side2 A11.out).mono ?_); (case side1 => exact rc0 HO520); (case side2 => rw [show y528.length = t518.length from (Kd.R_reads' HO520.out).1.symm]; exact (Kd.R_reads' HO520.out).2.1); rintro e w44 ⟨v530, rfl, ho0, hb⟩; refine ⟨_, rfl, ?_⟩; replace HO520 := nr HO520 hb; replace HO527 := nr HO527 hb; have HO531 := Ah (Kd.R_lower ho0 (below_size (bs2 HB GE515 GE516))); replace BK515 := nb BK515 hb; replace BK516 := nb BK516 hb; replace HB := Ah (below_step (bs2 HB GE515 GE516) hb); (try clear hb ho0)) | ((with_reducible refine gate_dst (N := 11) rfl ?_); refine boxL 11 25 #[.slice none 0 0] ?_; intro gb533 hg w45 BK533 hb; replace HO520 := nr HO520 hb; replace HO527 := nr HO527 hb; replace HO531 := nr HO531 hb; have GW533 := gw hg (bs2 HB GE515 GE516); have GE533 := gw hg (bs2 HB GE515 GE516); replace HB := Ah (below_step (bs2 HB GE515 GE516) hb); have NB515_533 := nn BK515 hg; have NB533_515 := nm BK515 hg; replace BK515 := nb BK515 hb; have NB516_533 := nn BK516 hg; have NB533_516 := nm BK516 hg; replace BK516 := nb BK516 hb; clear hb hg; obtain ⟨Ao46, co46, eo46⟩ := Kd.R_slice HO531.out; subst eo46; have hnb47 := NB533_515.out; have hnc47 := NB515_533.out; have hnb48 := NB533_516.out; have hnc48 := NB516_533.out; have hcz49_0 := cz1 BK533; have hfz49_0 := fz1 BK533; have hcz50_0 := cz1 BK516; have hfz50_0 := fz1 BK516))
  refine bodyPost_ret (results_ctt rfl _ _ gb516 25 #[.slice none 0 0] (0, 0) _ rfl (by (with_reducible repeat (first | refine blk_drewN ?_ _ | refine blk_drew ?_ | refine blk_alloc ?_ _)); refine blk_put (cs := #[.slice none 0 0]) ?_ 0 _ rfl; (with_reducible repeat (first | refine blk_drewN ?_ _ | refine blk_drew ?_ | refine blk_alloc ?_ _)); refine blk_far ?_ NB516_533.out _; (with_reducible repeat (first | refine blk_drewN ?_ _ | refine blk_drew ?_ | refine blk_alloc ?_ _)); exact BK516.out) Try.underlying25 rfl (by kernel_rfl)) rfl ?_;exact ⟨_, _, er, by first | exact Kd.R_nil _ _ _ _ _ | exact Kd.N_nil _ _ _ _ _ | exact Kd.V_nil _ _ _ _ _ | exact Kd.Q_nil _ _ _ _ _ | exact Kd.S_nil _ _ _ _ _, by first | exact Kd.R_nil _ _ _ _ _ | exact Kd.N_nil _ _ _ _ _ | exact Kd.V_nil _ _ _ _ _ | exact Kd.Q_nil _ _ _ _ _ | exact Kd.S_nil _ _ _ _ _, bs3 HB GE515 GE516 GE533⟩
 subst c12;rw [if_pos rfl] at H;simp only [Option.some.injEq, Prod.mk.injEq] at H;obtain ⟨rfl, rfl, rfl⟩ := H
 go_enter Try.func12, Try.ntmps12
 go_wp2_with (first | ((with_reducible refine gate_dst (N := 3) rfl ?_); refine boxL 3 25 #[.slice A0_0 l0_0.length c0_0] ?_; intro gb515 hg w13 BK515 hb; have GW515 := gw hg (bs HB); have GE515 := gw hg (bs HB); replace HB := Ah (below_step (bs HB) hb); clear hb hg) | ((with_reducible refine gate_dst (N := 6) rfl ?_); refine boxL 6 25 #[.slice none 0 0] ?_; intro gb516 hg w14 BK516 hb; have GW516 := gw hg (bs1 HB GE515); have GE516 := gw hg (bs1 HB GE515); replace HB := Ah (below_step (bs1 HB GE515) hb); have NB515_516 := nn BK515 hg; have NB516_515 := nm BK515 hg; replace BK515 := nb BK515 hb; clear hb hg; have hnb15 := NB515_516.out; have hnc15 := NB516_515.out; have hcz16_0 := cz1 BK515; have hfz16_0 := fz1 BK515) | ((with_reducible refine gate_callee (f := 25) rfl ?_); refine gL (some 16) rfl rfl Try.func25 (by kernel_rfl) rfl #[.agg #[.slice A0_0 l0_0.length c0_0], .int .i64 a1, .int .i64 a2] rfl ?_; (with_reducible refine (impl_isRange.calls k _ _ l0_0 a1 a2 true _ ?side1 ?side2 A4.out).mono ?_); (case side1 => exact cb HR0_0 HB); (case side2 => exact HC0_0.out); rintro e w17 ⟨rfl, hb⟩; refine ⟨_, rfl, ?_⟩; replace BK515 := nb BK515 hb; replace BK516 := nb BK516 hb; replace HB := Ah (below_step (bs2 HB GE515 GE516) hb); (try clear hb); have hcz18_0 := cz1 BK515; have hfz18_0 := fz1 BK515) | ((with_reducible refine gate_callee (f := 17) rfl ?_); refine gL (some 20) rfl rfl Try.func17 (by kernel_rfl) rfl #[.agg #[.slice A0_0 l0_0.length c0_0]] rfl ?_; (with_reducible refine (impl_FileMap_cells.calls k _ _ l0_0 t518 _ ?side1 ?side2 A6.out).mono ?_); (case side1 => exact cb HR0_0 HB); (case side2 => exact HC0_0.out); rintro e w19 ⟨v519, rfl, ho0, hb⟩; refine ⟨_, rfl, ?_⟩; have HO520 := Ah (Kd.R_lower ho0 (below_size (bs2 HB GE515 GE516))); replace BK515 := nb BK515 hb; replace BK516 := nb BK516 hb; replace HB := Ah (below_step (bs2 HB GE515 GE516) hb); (try clear hb ho0); obtain ⟨Ao21, co21, eo21⟩ := Kd.R_slice HO520.out; subst eo21; have q20 : ((wrap64 (a1 + a2)) : Int) ≤ ((t518.length : Int) : Int) := od; obtain ⟨i020, hi020, _, hsz20, _⟩ := info_parts info55; have hroom20 : t518.length ≤ co21 := (Kd.R_reads' HO520.out).2.1; have hC20 : Kd.C k55 _ Ao21 t518.length t518 := (Kd.R_reads' HO520.out).2.2; have ql20 : (a1 : Int) ≤ ((wrap64 (a1 + a2)) : Int) := od; have q020 : (0 : Int) ≤ (a1 : Int) := od; have hcut20 := cut_mid (P := Try.prog) 52 55 .i64 .i64 Try.underlying52 hi020 3 hsz20 Ao21 t518.length co21 a1 (wrap64 (a1 + a2)) q020 ql20 q20 hroom20; have hr20 := Kd.C_mid (lo := (a1 : Int).toNat) (hi := ((wrap64 (a1 + a2)) : Int).toNat) (c := co21) hC20 (by omega) (by omega) hroom20; obtain ⟨A20, hA20⟩ : ∃ A1, A1 = (if co21 = (a1 : Int).toNat then Ao21 else (Ao21 : Option Addr).map (·.add ((a1 : Int).toNat * 3))) := ⟨_, rfl⟩; obtain ⟨c20, hc20⟩ : ∃ c1, c1 = co21 - (a1 : Int).toNat := ⟨_, rfl⟩; have hy20 : y521.length = ((wrap64 (a1 + a2)) : Int).toNat - (a1 : Int).toNat := (by rw [Ny521.out, List.length_drop, List.length_take] <;> omega); rw [show ((t518).take ((wrap64 (a1 + a2)) : Int).toNat).drop (a1 : Int).toNat = y521 from Ny521.out.symm] at hr20; replace hr20 : Kd.C k55 _ A20 y521.length y521 := (by rw [hA20]; exact hr20); rw [← hy20, ← hA20, ← hc20] at hcut20; have HR524 := Ah hr20; have HC524 := Ah (show y521.length ≤ c20 from by rw [hy20, hc20]; exact Nat.sub_le_sub_right (Nat.le_trans (by omega) hroom20) _); clear hr20 hC20 hroom20 hi020 hsz20 hc20; have KY20 := Ah hy20; have KA20 := Ah hA20; clear hy20 hA20; have KL20 := Ah (show ((wrap64 (a1 + a2)) : Int).toNat ≤ t518.length from by omega); have KM20 := Ah (show (a1 : Int).toNat ≤ ((wrap64 (a1 + a2)) : Int).toNat from by omega); replace q20 := eq_true q20) | ((with_reducible refine gate_callee (f := 26) rfl ?_); refine gL (some 27) rfl rfl Try.func26 (by kernel_rfl) rfl #[.slice A20 y521.length c20] rfl ?_; (with_reducible refine (impl_blocksIn.calls k _ _ y521 t525 _ ?side1 ?side2 A10.out).mono ?_); (case side1 => repeat (first | exact (by repeat (first | (with_reducible exact HR524.out) | (with_reducible refine Kd.C_alloc ?_ _) | (with_reducible refine Kd.C_drewN ?_ _) | (with_reducible refine Kd.C_drew ?_) | exact HR524.out)) | (with_reducible refine Kd.C_alloc ?_ _) | (with_reducible refine Kd.C_drewN ?_ _) | (with_reducible refine Kd.C_drew ?_))); (case side2 => exact HC524.out); rintro e w22 ⟨v526, rfl, ho0, hb⟩; refine ⟨_, rfl, ?_⟩; replace HO520 := nr HO520 hb; have HO527 := Ah (Kd.R_lower ho0 (below_size (bs2 HB GE515 GE516))); replace BK515 := nb BK515 hb; replace BK516 := nb BK516 hb; replace HR524 := Ah (Kd.C_below (by repeat (first | (with_reducible exact HR524.out) | (with_reducible refine Kd.C_alloc ?_ _) | (with_reducible refine Kd.C_drewN ?_ _) | (with_reducible refine Kd.C_drew ?_) | exact HR524.out)) hb); replace HB := Ah (below_step (bs2 HB GE515 GE516) hb); (try clear hb ho0)) | ((with_reducible refine gate_builtin (b := .clear) (xs := #[.tmp 33]) rfl ?_); refine Kd.R_clear k55 (w0 := w) w.heap.size rfl (.tmp 33) 52 55 rfl Try.underlying52 (.agg #[(.bool false), (.int .i64 0), (.bool false)]) 24 info55 rfl (by decide) z55 (k55_mkM _ _ _ z55 ) (n := t518.length) (c := co21) (k := (a1 : Int).toNat) (m := y521.length) rfl KA20.out (rr HO520.out) ?hkm (bs2 HB GE515 GE516) (below_size (bs2 HB GE515 GE516)) ?_; (case hkm => have h1_ := KY20.out; have h2_ := KL20.out; have h3_ := (Kd.R_reads' HO520.out).1; (try have h4_ := KM20.out); omega); intro w23 ho hb hg; rw [← Ny528.out] at ho; replace BK515 := Ah (blk_grown (bk BK515) hg (Kd.R_ne HO520.out BK515.out (by decide))); replace BK516 := Ah (blk_grown (bk BK516) hg (Kd.R_ne HO520.out BK516.out (by decide))); replace HO527 := Ah (Kd.R_over' (v := (.slice Ao21 t518.length co21)) (rr HO527.out) (Kd.R_typed HO520.out) (by decide) hg); replace HO520 := Ah (ho); replace HB := Ah (hb); clear ho hb hg) | ((with_reducible refine gate_callee (f := 18) rfl ?_); refine goesL_ (some 36) rfl rfl Try.func18 (by kernel_rfl) rfl #[.slice Ao21 y528.length co21] rfl (by (try simp only [List.map_toArray, List.map_cons, List.map_nil]); first | done | (rw [show y528.length = t518.length from (Kd.R_reads' HO520.out).1.symm] <;> rfl) | rfl | (simp only [List.length_drop, List.length_take]; rfl)) ?_; (with_reducible refine (impl_mapOf.calls k _ _ y528 t529 true _ ?side1 ?side2 A11.out).mono ?_); (case side1 => exact rc0 HO520); (case side2 => rw [show y528.length = t518.length from (Kd.R_reads' HO520.out).1.symm]; exact (Kd.R_reads' HO520.out).2.1); rintro e w25 ⟨v530, rfl, ho0, hb⟩; refine ⟨_, rfl, ?_⟩; replace HO520 := nr HO520 hb; replace HO527 := nr HO527 hb; have HO531 := Ah (Kd.R_lower ho0 (below_size (bs2 HB GE515 GE516))); replace BK515 := nb BK515 hb; replace BK516 := nb BK516 hb; replace HB := Ah (below_step (bs2 HB GE515 GE516) hb); (try clear hb ho0)) | ((with_reducible refine gate_dst (N := 11) rfl ?_); refine boxL 11 25 #[.slice none 0 0] ?_; intro gb533 hg w26 BK533 hb; replace HO520 := nr HO520 hb; replace HO527 := nr HO527 hb; replace HO531 := nr HO531 hb; have GW533 := gw hg (bs2 HB GE515 GE516); have GE533 := gw hg (bs2 HB GE515 GE516); replace HB := Ah (below_step (bs2 HB GE515 GE516) hb); have NB515_533 := nn BK515 hg; have NB533_515 := nm BK515 hg; replace BK515 := nb BK515 hb; have NB516_533 := nn BK516 hg; have NB533_516 := nm BK516 hg; replace BK516 := nb BK516 hb; clear hb hg; obtain ⟨Ao27, co27, eo27⟩ := Kd.R_slice HO531.out; subst eo27; have hnb28 := NB533_515.out; have hnc28 := NB515_533.out; have hnb29 := NB533_516.out; have hnc29 := NB516_533.out; have hcz30_0 := cz1 BK533; have hfz30_0 := fz1 BK533; have hcz31_0 := cz1 BK516; have hfz31_0 := fz1 BK516))
 refine bodyPost_ret (results_ctt rfl _ _ gb516 25 #[.slice Ao27 t529.length co27] (0, 0) _ rfl (by (with_reducible repeat (first | refine blk_drewN ?_ _ | refine blk_drew ?_ | refine blk_alloc ?_ _)); refine blk_put (cs := #[.slice none 0 0]) ?_ 0 _ rfl; (with_reducible repeat (first | refine blk_drewN ?_ _ | refine blk_drew ?_ | refine blk_alloc ?_ _)); refine blk_far ?_ NB516_533.out _; (with_reducible repeat (first | refine blk_drewN ?_ _ | refine blk_drew ?_ | refine blk_alloc ?_ _)); exact BK516.out) Try.underlying25 rfl (by kernel_rfl)) rfl ?_;exact ⟨_, _, er, by (with_reducible repeat (first | apply Kd.R_alloc | apply Kd.R_drewN | apply Kd.R_drew)); exact Kd.R_mono (Kd.R_far (p := ⟨gb516, 0, none⟩) (Kd.R_far (p := ⟨gb533, 0, none⟩) (Kd.R_types (Kd.R_types HO531.out BK533.out (by decide)) BK516.out (by decide)) (fun _ hk => hk.1.2) (.slice Ao27 t529.length co27)) (fun _ hk => hk.2) (.slice Ao27 t529.length co27)) (fun _ hk => trivial), by (with_reducible repeat (first | apply Kd.R_alloc | apply Kd.R_drewN | apply Kd.R_drew)); exact Kd.R_mono (Kd.R_far (p := ⟨gb516, 0, none⟩) (Kd.R_far (p := ⟨gb533, 0, none⟩) (Kd.R_types (Kd.R_types HO527.out BK533.out (by decide)) BK516.out (by decide)) (fun _ hk => hk.1.2) (.slice Ao27 t529.length co27)) (fun _ hk => hk.2) (.slice Ao27 t529.length co27)) (fun _ hk => trivial), bs3 HB GE515 GE516 GE533⟩
def laws_sameExtents.l0 : Nat → List (S43) → List (S43) → Int → Int → Option (Bool)
 | 0, _, _, _, _ => none
 | k + 1, x0, x1, x12, x13 => if x13 < x12 then (if 0 ≤ x13 then (if x13 < (x0.length : Int) then (if x13 < (x1.length : Int) then (if (!(((rd_T43 x0 x13).f0) == ((rd_T43 x1 x13).f0)) || (!(((rd_T43 x0 x13).f1) == ((rd_T43 x1 x13).f1)))) = true then (some false) else (laws_sameExtents.l0 k x0 x1 x12 (wrap64 (x13 + 1)))) else (none)) else (none)) else (none)) else (some true)
def laws_sameExtents.f (k : Nat) (l0 : List (S43)) (l1 : List (S43)) : Option (Bool) := if (l0.length : Int) = (l1.length : Int) then (laws_sameExtents.l0 k l0 l1 (l0.length : Int) 0) else (some false)
theorem laws_sameExtents.mono_l : ∀ k, (∀ y0 y1 y2 y3, LeO (laws_sameExtents.l0 k y0 y1 y2 y3) (laws_sameExtents.l0 (k + 1) y0 y1 y2 y3))
 | 0 => fun _ _ _ _ r h => by simp [laws_sameExtents.l0] at h
 | k + 1 => by
  have ih0 := laws_sameExtents.mono_l k
  ·
   intro y0 y1 y2 y3;unfold laws_sameExtents.l0
   repeat' with_reducible first|exact ih0 _ _ _ _|exact LeO.refl _|exact LeO.none _|refine LeO.ite ?_ ?_|refine LeO.bind ?_ (fun _ => ?_)
theorem laws_sameExtents.mono : ∀ a0 a1 k, LeO (laws_sameExtents.f k a0 a1) (laws_sameExtents.f (k + 1) a0 a1) := by
 intro a0 a1 k;have ih0 := laws_sameExtents.mono_l k;unfold laws_sameExtents.f
 repeat' with_reducible first|exact ih0 _ _ _ _|exact LeO.refl _|exact LeO.none _|refine LeO.ite ?_ ?_|refine LeO.bind ?_ (fun _ => ?_)
set_option maxHeartbeats 8000000 in
set_option maxRecDepth 100000 in
theorem laws_sameExtents.calls (k : Nat) (A0 : Option Addr) (c0 : Nat) (l0 : List (S43)) (A1 : Option Addr) (c1 : Nat) (l1 : List (S43)) (r : Bool) (w : World) (hr0 : Kd.C k43 w A0 l0.length l0) (hc0 : l0.length ≤ c0) (hr1 : Kd.C k43 w A1 l1.length l1) (hc1 : l1.length ≤ c1) (h : laws_sameExtents.f k l0 l1 = some r) :
  Calls Try.prog 13 #[.slice A0 l0.length c0, .slice A1 l1.length c1] w fun e w' => e = .returned (.bool r) ∧ Drawn0 w w' := by
 have hu43 := Try.underlying43;have HR0 := Ah hr0;have HC0 := Ah hc0;clear hr0 hc0;have HR1 := Ah hr1;have HC1 := Ah hc1;clear hr1 hc1;have H : (if (l0.length : Int) = (l1.length : Int) then (laws_sameExtents.l0 k l0 l1 (l0.length : Int) 0) else (some false)) = some r := h;clear h
 by_cases c3 : (l0.length : Int) = (l1.length : Int)
 rotate_left
 ·
  rw [if_neg c3] at H;have c3b0 : ((l0.length : Int) == (l1.length : Int)) = false := beq_eq_false_iff_ne.mpr c3;have c3b1 : ((l0.length : Int) != (l1.length : Int)) = true := bne_iff_ne.mpr c3
  have c3b2 : (l0.length == l1.length) = false := by first | simpa using c3 | (simp at c3 ⊢; omega)
  obtain rfl := Option.some.inj H
  go_enter Try.func13, Try.ntmps13
  go_wp2
  repeat (go_quiet (fail); try go_wp2)
  go_ret
  exact ⟨e3, by repeat (first | exact Drawn0.refl _ | apply Drawn0.step)⟩
 rw [if_pos c3] at H;have c3b0 : ((l0.length : Int) == (l1.length : Int)) = true := beq_iff_eq.mpr c3;have c3b1 : ((l0.length : Int) != (l1.length : Int)) = false := bne_eq_false_iff_eq.mpr c3
 have c3b2 : (l0.length == l1.length) = true := by first | simpa using c3 | (simp at c3 ⊢; omega)
 clear c3;have H' := Ah H;clear H
 go_enter Try.func13, Try.ntmps13
 go_wp2
 repeat (go_quiet (fail); try go_wp2)
 go_loopg [13] k (fun kq v13 w' => ∃ (x13_1 : Int), v13 = .int .i64 x13_1 ∧ Aside0 (laws_sameExtents.l0 kq l0 l1 (l0.length : Int) x13_1 = some r) ∧ Aside0 (kq ≤ k) ∧ Drawn0 w w')
 case atStart => exact ⟨(0), e3, H', ⟨Nat.le_refl _⟩, by repeat (first | exact Drawn0.refl _ | apply Drawn0.step)⟩
 case round =>
  clear H'
  try clear c1
  try clear p2
  try clear c3
  try clear c3b0
  try clear c3b1
  try clear c3b2
  obtain ⟨x13_1, rfl, HA, HK1, ⟨m1, rfl⟩⟩ := hrel
  cases gk with
  | zero => exact absurd HA.out (by simp [laws_sameExtents.l0])
  | succ k1 =>
   have H := HA.out;clear HA;simp only [laws_sameExtents.l0] at H
   by_cases c4 : x13_1 < (l0.length : Int)
   rotate_left
   ·
    rw [if_neg c4] at H;have c4b0 : decide (x13_1 < (l0.length : Int)) = false := decide_eq_false c4;clear c4;obtain rfl := Option.some.inj H
    go_wp2
    repeat (go_quiet (fail); try go_wp2)
    go_ret
    exact ⟨e3, by repeat (first | exact Drawn0.refl _ | apply Drawn0.step)⟩
   rw [if_pos c4] at H;have c4b0 : decide (x13_1 < (l0.length : Int)) = true := decide_eq_true c4;clear c4
   by_cases c5 : 0 ≤ x13_1
   rotate_left
   ·
    rw [if_neg c5] at H;exact absurd H (by simp)
   rw [if_pos c5] at H;have c5b0 : decide (0 ≤ x13_1) = true := decide_eq_true c5;clear c5
   by_cases c6 : x13_1 < (l0.length : Int)
   rotate_left
   ·
    rw [if_neg c6] at H;exact absurd H (by simp)
   rw [if_pos c6] at H;have c6b0 : decide (x13_1 < (l0.length : Int)) = true := decide_eq_true c6;clear c6
   by_cases c7 : x13_1 < (l1.length : Int)
   rotate_left
   ·
    rw [if_neg c7] at H;exact absurd H (by simp)
   rw [if_pos c7] at H;have c7b0 : decide (x13_1 < (l1.length : Int)) = true := decide_eq_true c7;clear c7
   by_cases c8 : (!(((rd_T43 l0 x13_1).f0) == ((rd_T43 l1 x13_1).f0)) || (!(((rd_T43 l0 x13_1).f1) == ((rd_T43 l1 x13_1).f1)))) = true
   ·
    rw [if_pos c8] at H;have c8b0 : (!(((rd_T43 l0 x13_1).f0) == ((rd_T43 l1 x13_1).f0)) || (!(((rd_T43 l0 x13_1).f1) == ((rd_T43 l1 x13_1).f1)))) = true := c8;clear c8;obtain rfl := Option.some.inj H;have p534 : 0 ≤ (x13_1 : Int) := od;have q534 : x13_1 < (l0.length : Int) := od;obtain ⟨ad534, e534, hx534_0, hx534_1⟩ := at_T43 HR0.out x13_1 p534 q534
    cases e534
    replace p534 := eq_true p534;replace q534 := eq_true q534;have p535 : 0 ≤ (x13_1 : Int) := od;have q535 : x13_1 < (l1.length : Int) := od;obtain ⟨ad535, e535, hx535_0, hx535_1⟩ := at_T43 HR1.out x13_1 p535 q535
    cases e535
    replace p535 := eq_true p535;replace q535 := eq_true q535
    go_wp2
    repeat (go_quiet (fail); try go_wp2)
    go_ret
    exact ⟨e3, by repeat (first | exact Drawn0.refl _ | apply Drawn0.step)⟩
   rw [if_neg c8] at H
   have c8b0 : (!(((rd_T43 l0 x13_1).f0) == ((rd_T43 l1 x13_1).f0)) || (!(((rd_T43 l0 x13_1).f1) == ((rd_T43 l1 x13_1).f1)))) = false := by simpa using c8
   clear c8;have H' := Ah H;clear H;have p534 : 0 ≤ (x13_1 : Int) := od;have q534 : x13_1 < (l0.length : Int) := od;obtain ⟨ad534, e534, hx534_0, hx534_1⟩ := at_T43 HR0.out x13_1 p534 q534
   cases e534
   replace p534 := eq_true p534;replace q534 := eq_true q534;have p535 : 0 ≤ (x13_1 : Int) := od;have q535 : x13_1 < (l1.length : Int) := od;obtain ⟨ad535, e535, hx535_0, hx535_1⟩ := at_T43 HR1.out x13_1 p535 q535
   cases e535
   replace p535 := eq_true p535;replace q535 := eq_true q535
   go_wp2
   repeat (go_quiet (fail); try go_wp2)
   go_roundg k1
   case measure => have := HK1.out; omega
   case rel => exact ⟨(wrap64 (x13_1 + 1)), e3, H', ⟨by have := HK1.out; omega⟩, by repeat (first | exact Drawn0.refl _ | apply Drawn0.step)⟩
mutual
def laws_FnMapped.j0 : Nat → Bool → Bool → List (S27) → Int → Int → Int → Bool → List (S27) → Option (Bool)
 | 0, _, _, _, _, _, _, _, _ => none
 | k + 1, x6, x60, x544000, x545000, x545001, x545002, x545003, x550000 => if x60 = true then (some false) else (if x6 = true then (laws_FnMapped.l0 k 0 x544000 x545000 x545001 x545002 x545003 x550000) else (some ((x550000.length : Int) == 0)))
def laws_FnMapped.l0 : Nat → Int → List (S27) → Int → Int → Int → Bool → List (S27) → Option (Bool)
 | 0, _, _, _, _, _, _, _ => none
 | k + 1, x9, x544000, x545000, x545001, x545002, x545003, x550000 => if x9 < 200 then ((impl_BlockAt.f k x544000 x9).bind fun bt558 => ((impl_BlockAt.f k x550000 x9).bind fun bt561 => (if bt558.2.2 = true then (laws_FnMapped.j2 k x9 bt558.1 bt558.2.1 bt561.1 bt561.2.1 (!bt561.2.2) x544000 x545000 x545001 x545002 x545003 x550000) else (laws_FnMapped.j2 k x9 bt558.1 bt558.2.1 bt561.1 bt561.2.1 true x544000 x545000 x545001 x545002 x545003 x550000)))) else ((impl_MapSize.f k x544000).bind fun bt564 => ((impl_MapSize.f k x550000).bind fun bt567 => ((impl_PunchMap.f k x550000 x545000 x545001).bind fun bt570 => (if bt564.2.2 = true then (if bt567.2.2 = true then (if bt570.2.2 = true then (if bt567.1 = (wrap64 (bt564.1 + x545001)) then (if bt567.2.1 < bt564.2.1 then (laws_FnMapped.j4 k bt570.2.1 true x545000 x545001 x545002 x545003 x550000) else ((laws_sameMaps.f k bt570.1 x544000).bind fun t578 => (laws_FnMapped.j4 k bt570.2.1 (!t578) x545000 x545001 x545002 x545003 x550000))) else (laws_FnMapped.j4 k bt570.2.1 true x545000 x545001 x545002 x545003 x550000)) else (laws_FnMapped.j4 k bt570.2.1 true x545000 x545001 x545002 x545003 x550000)) else (laws_FnMapped.j4 k bt570.2.1 true x545000 x545001 x545002 x545003 x550000)) else (laws_FnMapped.j4 k bt570.2.1 true x545000 x545001 x545002 x545003 x550000)))))
def laws_FnMapped.j2 : Nat → Int → Int → Bool → Int → Bool → Bool → List (S27) → Int → Int → Int → Bool → List (S27) → Option (Bool)
 | 0, _, _, _, _, _, _, _, _, _, _, _, _ => none
 | k + 1, x9, x10, x11, x13, x14, x90, x544000, x545000, x545001, x545002, x545003, x550000 => if x90 = true then (some false) else (if x9 ≥ x545000 then (laws_FnMapped.j3 k x9 x10 x11 x13 x14 (decide (x9 < (wrap64 (x545000 + x545001)))) x544000 x545000 x545001 x545002 x545003 x550000) else (laws_FnMapped.j3 k x9 x10 x11 x13 x14 false x544000 x545000 x545001 x545002 x545003 x550000))
def laws_FnMapped.j3 : Nat → Int → Int → Bool → Int → Bool → Bool → List (S27) → Int → Int → Int → Bool → List (S27) → Option (Bool)
 | 0, _, _, _, _, _, _, _, _, _, _, _, _ => none
 | k + 1, x9, x10, x11, x13, x14, x103, x544000, x545000, x545001, x545002, x545003, x550000 => if x103 = true then (if x10 = (-1) then (if x13 = (wrap64 ((wrap64 (x545002 + x9)) - x545000)) then (if (x14 != x545003) = true then (some false) else (laws_FnMapped.l0 k (wrap64 (x9 + 1)) x544000 x545000 x545001 x545002 x545003 x550000)) else (some false)) else (some false)) else (if x10 = x13 then (if (x11 != x14) = true then (some false) else (laws_FnMapped.l0 k (wrap64 (x9 + 1)) x544000 x545000 x545001 x545002 x545003 x550000)) else (some false))
def laws_FnMapped.j4 : Nat → List (S43) → Bool → Int → Int → Int → Bool → List (S27) → Option (Bool)
 | 0, _, _, _, _, _, _, _ => none
 | k + 1, x23, x181, x545000, x545001, x545002, x545003, x550000 => if x181 = true then (some false) else ((laws_sameExtents.f k x23 (([(⟨x545002, x545001⟩ : S43)] : List (S43)))).bind fun t582 => (if t582 = true then ((impl_GoodMap.f k x550000).bind fun t583 => (some t583)) else (some false)))
end
def laws_FnMapped.f (k : Nat) (l0 : List Int) : Option (Bool) := if (l0.length : Int) > 1048576 then (some true) else ((spec_DrawMapPiece.f k l0).bind fun bt536 => ((impl_MapPiece.f k bt536.1 bt536.2.1 bt536.2.2.1 bt536.2.2.2.1 bt536.2.2.2.2).bind fun bt545 => ((spec_MapPiece.f k bt536.1 bt536.2.1 bt536.2.2.1 bt536.2.2.2.1 bt536.2.2.2.2).bind fun bt550 => (if (bt545.2 != bt550.2) = true then (laws_FnMapped.j0 k bt545.2 true bt536.1 bt536.2.1 bt536.2.2.1 bt536.2.2.2.1 bt536.2.2.2.2 bt545.1) else ((laws_sameMaps.f k bt545.1 bt550.1).bind fun t555 => (if t555 = true then ((impl_GoodMap.f k bt536.1).bind fun t556 => ((spec_GoodMap.f k bt536.1).bind fun t557 => (laws_FnMapped.j0 k bt545.2 (t556 != t557) bt536.1 bt536.2.1 bt536.2.2.1 bt536.2.2.2.1 bt536.2.2.2.2 bt545.1))) else (laws_FnMapped.j0 k bt545.2 true bt536.1 bt536.2.1 bt536.2.2.1 bt536.2.2.2.1 bt536.2.2.2.2 bt545.1)))))))
theorem laws_FnMapped.mono_l : ∀ k, (∀ y0 y1 y2 y3 y4 y5 y6 y7, LeO (laws_FnMapped.j0 k y0 y1 y2 y3 y4 y5 y6 y7) (laws_FnMapped.j0 (k + 1) y0 y1 y2 y3 y4 y5 y6 y7)) ∧ (∀ y0 y1 y2 y3 y4 y5 y6, LeO (laws_FnMapped.l0 k y0 y1 y2 y3 y4 y5 y6) (laws_FnMapped.l0 (k + 1) y0 y1 y2 y3 y4 y5 y6)) ∧ (∀ y0 y1 y2 y3 y4 y5 y6 y7 y8 y9 y10 y11, LeO (laws_FnMapped.j2 k y0 y1 y2 y3 y4 y5 y6 y7 y8 y9 y10 y11) (laws_FnMapped.j2 (k + 1) y0 y1 y2 y3 y4 y5 y6 y7 y8 y9 y10 y11)) ∧ (∀ y0 y1 y2 y3 y4 y5 y6 y7 y8 y9 y10 y11, LeO (laws_FnMapped.j3 k y0 y1 y2 y3 y4 y5 y6 y7 y8 y9 y10 y11) (laws_FnMapped.j3 (k + 1) y0 y1 y2 y3 y4 y5 y6 y7 y8 y9 y10 y11)) ∧ (∀ y0 y1 y2 y3 y4 y5 y6, LeO (laws_FnMapped.j4 k y0 y1 y2 y3 y4 y5 y6) (laws_FnMapped.j4 (k + 1) y0 y1 y2 y3 y4 y5 y6))
 | 0 => ⟨fun _ _ _ _ _ _ _ _ r h => by simp [laws_FnMapped.j0] at h, fun _ _ _ _ _ _ _ r h => by simp [laws_FnMapped.l0] at h, fun _ _ _ _ _ _ _ _ _ _ _ _ r h => by simp [laws_FnMapped.j2] at h, fun _ _ _ _ _ _ _ _ _ _ _ _ r h => by simp [laws_FnMapped.j3] at h, fun _ _ _ _ _ _ _ r h => by simp [laws_FnMapped.j4] at h⟩
 | k + 1 => by
  obtain ⟨ih0, ih1, ih2, ih3, ih4⟩ := laws_FnMapped.mono_l k
  refine ⟨?_, ?_, ?_, ?_, ?_⟩ <;> intros <;> first | unfold laws_FnMapped.j0 | unfold laws_FnMapped.l0 | unfold laws_FnMapped.j2 | unfold laws_FnMapped.j3 | unfold laws_FnMapped.j4
  all_goals repeat' first
   | (with_reducible exact ih0 _ _ _ _ _ _ _ _)
   | (with_reducible exact ih1 _ _ _ _ _ _ _)
   | (with_reducible exact ih2 _ _ _ _ _ _ _ _ _ _ _ _)
   | (with_reducible exact ih3 _ _ _ _ _ _ _ _ _ _ _ _)
   | (with_reducible exact ih4 _ _ _ _ _ _ _)
   | (with_reducible exact impl_BlockAt.mono _ _ _)
   | (with_reducible exact impl_GoodMap.mono _ _)
   | (with_reducible exact impl_MapPiece.mono _ _ _ _ _ _)
   | (with_reducible exact impl_MapSize.mono _ _)
   | (with_reducible exact impl_PunchMap.mono _ _ _ _)
   | (with_reducible exact laws_sameExtents.mono _ _ _)
   | (with_reducible exact laws_sameMaps.mono _ _ _)
   | (with_reducible exact spec_DrawMapPiece.mono _ _)
   | (with_reducible exact spec_GoodMap.mono _ _)
   | (with_reducible exact spec_MapPiece.mono _ _ _ _ _ _)
   | (with_reducible exact LeO.refl _)
   | (with_reducible exact LeO.none _)
   | (with_reducible refine LeO.ite ?_ ?_)
   | (with_reducible refine LeO.bind ?_ (fun _ => ?_))
   | exact ih0 _ _ _ _ _ _ _ _
   | exact ih1 _ _ _ _ _ _ _
   | exact ih2 _ _ _ _ _ _ _ _ _ _ _ _
   | exact ih3 _ _ _ _ _ _ _ _ _ _ _ _
   | exact ih4 _ _ _ _ _ _ _
   | exact impl_BlockAt.mono _ _ _
   | exact impl_GoodMap.mono _ _
   | exact impl_MapPiece.mono _ _ _ _ _ _
   | exact impl_MapSize.mono _ _
   | exact impl_PunchMap.mono _ _ _ _
   | exact laws_sameExtents.mono _ _ _
   | exact laws_sameMaps.mono _ _ _
   | exact spec_DrawMapPiece.mono _ _
   | exact spec_GoodMap.mono _ _
   | exact spec_MapPiece.mono _ _ _ _ _ _
   | exact LeO.none _
   | refine LeO.ite ?_ ?_
   | refine LeO.bind ?_ (fun _ => ?_)
theorem laws_FnMapped.mono : ∀ a0 k, LeO (laws_FnMapped.f k a0) (laws_FnMapped.f (k + 1) a0) := by
 intro a0 k;obtain ⟨ih0, ih1, ih2, ih3, ih4⟩ := laws_FnMapped.mono_l k;unfold laws_FnMapped.f
 repeat' with_reducible first|exact ih0 _ _ _ _ _ _ _ _|exact ih1 _ _ _ _ _ _ _|exact ih2 _ _ _ _ _ _ _ _ _ _ _ _|exact ih3 _ _ _ _ _ _ _ _ _ _ _ _|exact ih4 _ _ _ _ _ _ _|exact impl_BlockAt.mono _ _ _|exact impl_GoodMap.mono _ _|exact impl_MapPiece.mono _ _ _ _ _ _|exact impl_MapSize.mono _ _|exact impl_PunchMap.mono _ _ _ _|exact laws_sameExtents.mono _ _ _|exact laws_sameMaps.mono _ _ _|exact spec_DrawMapPiece.mono _ _|exact spec_GoodMap.mono _ _|exact spec_MapPiece.mono _ _ _ _ _ _|exact LeO.refl _|exact LeO.none _|refine LeO.ite ?_ ?_|refine LeO.bind ?_ (fun _ => ?_)
def laws_FnMapped.T6 : Bool × List (List Nat × List Nat) := (true, [([], []), ([], []), ([0, 1], [0, 1]), ([2], [2]), ([3], [3]), ([3], [3]), ([4, 5, 3, 3], [3, 4, 5]), ([6, 3], [3, 6]), ([3, 7], [3, 7]), ([8, 6], [8]), ([9], [9]), ([10, 9, 9], [9, 10]), ([9], [9]), ([12, 11, 9], [9, 12]), ([11, 13, 9], [9, 11, 13]), ([9, 14], [9, 14])])
def laws_FnMapped.B6 : List Nat := [0, 0, 3, 7, 15, 15, 63, 127, 255, 511, 1023, 2047, 1023, 8191, 16383, 32767]
theorem laws_FnMapped.tab6 : rtab .any (opsOf Try.f3 6) = laws_FnMapped.T6 := by kernel_rfl
theorem laws_FnMapped.bits6 : waitsOk laws_FnMapped.T6.2 laws_FnMapped.B6 = true := by kernel_rfl
set_option maxHeartbeats 8000000 in
set_option maxRecDepth 100000 in
theorem laws_FnMapped.calls (k : Nat) (A0 : Option Addr) (c0 : Nat) (l0 : List Int) (r : Bool) (w : World) (hr0 : Kd.C (Kd.int .u8) w A0 l0.length l0) (hc0 : l0.length ≤ c0) (h : laws_FnMapped.f k l0 = some r) :
  Calls Try.prog 3 #[.slice A0 l0.length c0] w fun e w' => e = .returned (.bool r) ∧ Below w.heap.size w w' := by
 have hu25 := Try.underlying25;have hu27 := Try.underlying27;have hu43 := Try.underlying43;have HR0 := Ah hr0;have HC0 := Ah hc0;clear hr0 hc0;have HB := Ah (Below.refl w.heap.size w);have H : (if (l0.length : Int) > 1048576 then (some true) else ((spec_DrawMapPiece.f k l0).bind fun bt536 => ((impl_MapPiece.f k bt536.1 bt536.2.1 bt536.2.2.1 bt536.2.2.2.1 bt536.2.2.2.2).bind fun bt545 => ((spec_MapPiece.f k bt536.1 bt536.2.1 bt536.2.2.1 bt536.2.2.2.1 bt536.2.2.2.2).bind fun bt550 => (if (bt545.2 != bt550.2) = true then (laws_FnMapped.j0 k bt545.2 true bt536.1 bt536.2.1 bt536.2.2.1 bt536.2.2.2.1 bt536.2.2.2.2 bt545.1) else ((laws_sameMaps.f k bt545.1 bt550.1).bind fun t555 => (if t555 = true then ((impl_GoodMap.f k bt536.1).bind fun t556 => ((spec_GoodMap.f k bt536.1).bind fun t557 => (laws_FnMapped.j0 k bt545.2 (t556 != t557) bt536.1 bt536.2.1 bt536.2.2.1 bt536.2.2.2.1 bt536.2.2.2.2 bt545.1))) else (laws_FnMapped.j0 k bt545.2 true bt536.1 bt536.2.1 bt536.2.2.1 bt536.2.2.2.1 bt536.2.2.2.2 bt545.1)))))))) = some r := h;clear h
 by_cases c2 : (l0.length : Int) > 1048576
 ·
  rw [if_pos c2] at H;have c2b0 : decide (1048576 < (l0.length : Int)) = true := decide_eq_true c2;have c2b1 : decide (1048576 < l0.length) = true := decide_eq_true (by omega);clear c2;obtain rfl := Option.some.inj H
  go_enter Try.func3, Try.ntmps3
  go_wp2
  go_ret
  exact ⟨er, bs HB⟩
 rw [if_neg c2] at H;have c2b0 : decide (1048576 < (l0.length : Int)) = false := decide_eq_false c2;have c2b1 : decide (1048576 < l0.length) = false := decide_eq_false (by omega);clear c2;replace H := Option.bind_eq_some_iff.mp H;obtain ⟨⟨t536, t539, t540, t541, t542⟩, A30, H⟩ := H
 try dsimp only at H
 have A3 := Ah A30;clear A30;replace H := Option.bind_eq_some_iff.mp H;obtain ⟨⟨t545, t548⟩, A40, H⟩ := H
 try dsimp only at H
 have A4 := Ah A40;clear A40;replace H := Option.bind_eq_some_iff.mp H;obtain ⟨⟨t550, t553⟩, A50, H⟩ := H
 try dsimp only at H
 have A5 := Ah A50;clear A50;have HC6 := Ah H;clear H
 go_enter Try.func3, Try.ntmps3
 go_upto_region 6 with (first | ((with_reducible refine gate_callee (f := 4) rfl ?_); refine gL (some 30) rfl rfl Try.func4 (by kernel_rfl) rfl #[.slice A0 l0.length c0] rfl ?_; (with_reducible refine (spec_DrawMapPiece.calls k _ _ l0 t536 t539 t540 t541 t542 _ ?side1 ?side2 A3.out).mono ?_); (case side1 => repeat (first | exact HR0.out | (with_reducible refine Kd.C_alloc ?_ _) | (with_reducible refine Kd.C_drewN ?_ _) | (with_reducible refine Kd.C_drew ?_))); (case side2 => exact HC0.out); rintro e w7 ⟨v537, rfl, ho0, hb⟩; refine ⟨_, rfl, ?_⟩; have HO538 := Ah (Kd.R_lower ho0 (below_size (bs HB))); replace HB := Ah (below_step (bs HB) hb); (try clear hb ho0)) | ((with_reducible refine gate_dst (N := 3) rfl ?_); refine boxL 3 25 #[.slice none 0 0] ?_; intro gb543 hg w8 BK543 hb; replace HO538 := nr HO538 hb; have GW543 := gw hg (bs HB); have GE543 := gw hg (bs HB); replace HB := Ah (below_step (bs HB) hb); clear hb hg) | ((with_reducible refine gate_dst (N := 4) rfl ?_); refine boxL 4 27 #[.int .i64 0, .int .i64 0, .int .i64 0, .bool false] ?_; intro gb544 hg w9 BK544 hb; replace HO538 := Ah (Kd.R_below (Kd.R_elderB (rr HO538.out) gb544 (Nat.le_of_eq hg.symm)) hb); have GW544 := gw hg (bs1 HB GE543); have GE544 := gw hg (bs1 HB GE543); replace HB := Ah (below_step (bs1 HB GE543) hb); have NB543_544 := nn BK543 hg; have NB544_543 := nm BK543 hg; replace BK543 := nb BK543 hb; clear hb hg; obtain ⟨Ao10, co10, eo10⟩ := Kd.R_slice HO538.out; subst eo10; have hnb11 := NB543_544.out; have hnc11 := NB544_543.out; have hcz12_0 := cz1 BK543; have hfz12_0 := fz1 BK543; obtain ⟨hcz13_0, hcz13_1, hcz13_2, hcz13_3⟩ := cz4 BK544; obtain ⟨hfz13_0, hfz13_1, hfz13_2, hfz13_3⟩ := fz4 BK544) | ((with_reducible refine gate_callee (f := 5) rfl ?_); refine gL (some 36) rfl rfl Try.func5 (by kernel_rfl) rfl #[.agg #[.slice Ao10 t536.length co10], .agg #[.int .i64 t539, .int .i64 t540, .int .i64 t541, .bool t542]] rfl ?_; (with_reducible refine (impl_MapPiece.calls k _ _ t536 t539 t540 t541 t542 t545 t548 _ ?side1 ?side2 A4.out).mono ?_); (case side1 => refine (Kd.R_reads' (e := 27) (base := w.heap.size) (ok := fun k_ => (True ∧ k_ ≠ gb544)) (n := t536.length) (c := co10) ?_).2.2; exact (by (with_reducible repeat (first | apply Kd.R_alloc | apply Kd.R_drewN | apply Kd.R_drew)); exact (Kd.R_mono (Kd.R_mono (Kd.R_far (p := ⟨gb544, 3, none⟩) (Kd.R_far (p := ⟨gb544, 2, none⟩) (Kd.R_far (p := ⟨gb544, 1, none⟩) (Kd.R_far (p := ⟨gb544, 0, none⟩) (Kd.R_far (p := ⟨gb543, 0, none⟩) (Kd.R_mono (Kd.R_types HO538.out BK543.out (by decide)) (fun k_ hk => (⟨hk, hk.1.2⟩ : _ ∧ k_ ≠ gb544))) (fun _ hk => hk.1.2) (.slice Ao10 t536.length co10)) (fun _ hk => hk.2) (.int .i64 t539)) (fun _ hk => hk.2) (.int .i64 t540)) (fun _ hk => hk.2) (.int .i64 t541)) (fun _ hk => hk.2) (.bool t542)) (fun _ h_ => h_.1)) (fun _ h_ => h_.1)))); (case side2 => exact (Kd.R_reads' HO538.out).2.1); rintro e w14 ⟨v546, rfl, ho0, hb⟩; refine ⟨_, rfl, ?_⟩; have HO547 := Ah (Kd.R_lower (Kd.R_newB (Kd.R_new' ho0 (Kd.R_lt (by (with_reducible repeat (first | apply Kd.R_alloc | apply Kd.R_drewN | apply Kd.R_drew)); exact (Kd.R_mono (Kd.R_mono (Kd.R_far (p := ⟨gb544, 3, none⟩) (Kd.R_far (p := ⟨gb544, 2, none⟩) (Kd.R_far (p := ⟨gb544, 1, none⟩) (Kd.R_far (p := ⟨gb544, 0, none⟩) (Kd.R_far (p := ⟨gb543, 0, none⟩) (Kd.R_mono (Kd.R_types HO538.out BK543.out (by decide)) (fun k_ hk => (⟨hk, hk.1.2⟩ : _ ∧ k_ ≠ gb544))) (fun _ hk => hk.1.2) (.slice Ao10 t536.length co10)) (fun _ hk => hk.2) (.int .i64 t539)) (fun _ hk => hk.2) (.int .i64 t540)) (fun _ hk => hk.2) (.int .i64 t541)) (fun _ hk => hk.2) (.bool t542)) (fun _ h_ => h_.1)) (fun _ h_ => h_.1))))) (g := gb544) (o := .cells #[.int .i64 t539, .int .i64 t540, .int .i64 t541, .bool t542] 27 (0, 0)) (by (with_reducible repeat (first | refine blk_drewN ?_ _ | refine blk_drew ?_ | refine blk_alloc ?_ _)); refine blk_put (cs := #[.int .i64 t539, .int .i64 t540, .int .i64 t541, .bool false]) ?_ 3 _ rfl; (with_reducible repeat (first | refine blk_drewN ?_ _ | refine blk_drew ?_ | refine blk_alloc ?_ _)); refine blk_put (cs := #[.int .i64 t539, .int .i64 t540, .int .i64 0, .bool false]) ?_ 2 _ rfl; (with_reducible repeat (first | refine blk_drewN ?_ _ | refine blk_drew ?_ | refine blk_alloc ?_ _)); refine blk_put (cs := #[.int .i64 t539, .int .i64 0, .int .i64 0, .bool false]) ?_ 1 _ rfl; (with_reducible repeat (first | refine blk_drewN ?_ _ | refine blk_drew ?_ | refine blk_alloc ?_ _)); refine blk_put (cs := #[.int .i64 0, .int .i64 0, .int .i64 0, .bool false]) ?_ 0 _ rfl; (with_reducible repeat (first | refine blk_drewN ?_ _ | refine blk_drew ?_ | refine blk_alloc ?_ _)); refine blk_far ?_ NB544_543.out _; (with_reducible repeat (first | refine blk_drewN ?_ _ | refine blk_drew ?_ | refine blk_alloc ?_ _)); exact BK544.out)) (below_size (bs2 HB GE543 GE544))); replace HO538 := Ah (Kd.R_elder' (by (with_reducible repeat (first | apply Kd.R_alloc | apply Kd.R_drewN | apply Kd.R_drew)); exact (Kd.R_mono (Kd.R_mono (Kd.R_far (p := ⟨gb544, 3, none⟩) (Kd.R_far (p := ⟨gb544, 2, none⟩) (Kd.R_far (p := ⟨gb544, 1, none⟩) (Kd.R_far (p := ⟨gb544, 0, none⟩) (Kd.R_far (p := ⟨gb543, 0, none⟩) (Kd.R_mono (Kd.R_types HO538.out BK543.out (by decide)) (fun k_ hk => (⟨hk, hk.1.2⟩ : _ ∧ k_ ≠ gb544))) (fun _ hk => hk.1.2) (.slice Ao10 t536.length co10)) (fun _ hk => hk.2) (.int .i64 t539)) (fun _ hk => hk.2) (.int .i64 t540)) (fun _ hk => hk.2) (.int .i64 t541)) (fun _ hk => hk.2) (.bool t542)) (fun _ h_ => h_.1)) (fun _ h_ => h_.1))) (Kd.R_base ho0) hb); replace BK543 := Ah (blk_below (g := gb543) (o := .cells #[.slice Ao10 t536.length co10] 25 (0, 0)) (by (with_reducible repeat (first | refine blk_drewN ?_ _ | refine blk_drew ?_ | refine blk_alloc ?_ _)); refine blk_far ?_ NB543_544.out _; (with_reducible repeat (first | refine blk_drewN ?_ _ | refine blk_drew ?_ | refine blk_alloc ?_ _)); refine blk_far ?_ NB543_544.out _; (with_reducible repeat (first | refine blk_drewN ?_ _ | refine blk_drew ?_ | refine blk_alloc ?_ _)); refine blk_far ?_ NB543_544.out _; (with_reducible repeat (first | refine blk_drewN ?_ _ | refine blk_drew ?_ | refine blk_alloc ?_ _)); refine blk_far ?_ NB543_544.out _; (with_reducible repeat (first | refine blk_drewN ?_ _ | refine blk_drew ?_ | refine blk_alloc ?_ _)); refine blk_put (cs := #[.slice none 0 0]) ?_ 0 _ rfl; (with_reducible repeat (first | refine blk_drewN ?_ _ | refine blk_drew ?_ | refine blk_alloc ?_ _)); exact BK543.out) hb); replace BK544 := Ah (blk_below (g := gb544) (o := .cells #[.int .i64 t539, .int .i64 t540, .int .i64 t541, .bool t542] 27 (0, 0)) (by (with_reducible repeat (first | refine blk_drewN ?_ _ | refine blk_drew ?_ | refine blk_alloc ?_ _)); refine blk_put (cs := #[.int .i64 t539, .int .i64 t540, .int .i64 t541, .bool false]) ?_ 3 _ rfl; (with_reducible repeat (first | refine blk_drewN ?_ _ | refine blk_drew ?_ | refine blk_alloc ?_ _)); refine blk_put (cs := #[.int .i64 t539, .int .i64 t540, .int .i64 0, .bool false]) ?_ 2 _ rfl; (with_reducible repeat (first | refine blk_drewN ?_ _ | refine blk_drew ?_ | refine blk_alloc ?_ _)); refine blk_put (cs := #[.int .i64 t539, .int .i64 0, .int .i64 0, .bool false]) ?_ 1 _ rfl; (with_reducible repeat (first | refine blk_drewN ?_ _ | refine blk_drew ?_ | refine blk_alloc ?_ _)); refine blk_put (cs := #[.int .i64 0, .int .i64 0, .int .i64 0, .bool false]) ?_ 0 _ rfl; (with_reducible repeat (first | refine blk_drewN ?_ _ | refine blk_drew ?_ | refine blk_alloc ?_ _)); refine blk_far ?_ NB544_543.out _; (with_reducible repeat (first | refine blk_drewN ?_ _ | refine blk_drew ?_ | refine blk_alloc ?_ _)); exact BK544.out) hb); replace HB := Ah (below_step (bs2 HB GE543 GE544) hb); (try clear hb hk ho0)) | ((with_reducible refine gate_dst (N := 5) rfl ?_); refine boxL 5 25 #[.slice none 0 0] ?_; intro gb549 hg w15 BK549 hb; replace HO538 := nr HO538 hb; replace HO547 := nr HO547 hb; have GW549 := gw hg (bs2 HB GE543 GE544); have GE549 := gw hg (bs2 HB GE543 GE544); replace HB := Ah (below_step (bs2 HB GE543 GE544) hb); have NB543_549 := nn BK543 hg; have NB549_543 := nm BK543 hg; replace BK543 := nb BK543 hb; have NB544_549 := nn BK544 hg; have NB549_544 := nm BK544 hg; replace BK544 := nb BK544 hb; clear hb hg; obtain ⟨Ao16, co16, eo16⟩ := Kd.R_slice HO547.out; subst eo16; have hnb17 := NB549_543.out; have hnc17 := NB543_549.out; have hnb18 := NB549_544.out; have hnc18 := NB544_549.out; have hcz19_0 := cz1 BK549; have hfz19_0 := fz1 BK549; have hcz20_0 := cz1 BK543; have hfz20_0 := fz1 BK543; obtain ⟨hcz21_0, hcz21_1, hcz21_2, hcz21_3⟩ := cz4 BK544; obtain ⟨hfz21_0, hfz21_1, hfz21_2, hfz21_3⟩ := fz4 BK544) | ((with_reducible refine gate_callee (f := 6) rfl ?_); refine gL (some 42) rfl rfl Try.func6 (by kernel_rfl) rfl #[.agg #[.slice Ao10 t536.length co10], .agg #[.int .i64 t539, .int .i64 t540, .int .i64 t541, .bool t542]] rfl ?_; (with_reducible refine (spec_MapPiece.calls k _ _ t536 t539 t540 t541 t542 t550 t553 _ ?side1 ?side2 A5.out).mono ?_); (case side1 => exact rc HO538 BK549); (case side2 => exact (Kd.R_reads' HO538.out).2.1); rintro e w22 ⟨v551, rfl, ho0, hb⟩; refine ⟨_, rfl, ?_⟩; have HO552 := Ah (Kd.R_lower (Kd.R_newB (Kd.R_new' (Kd.R_new' ho0 (Kd.R_lt (rf HO538 BK549))) (Kd.R_lt (rf HO547 BK549))) (g := gb544) (o := .cells #[.int .i64 t539, .int .i64 t540, .int .i64 t541, .bool t542] 27 (0, 0)) (bf BK544 NB544_549)) (below_size (bs3 HB GE543 GE544 GE549))); replace HO538 := Ah (Kd.R_elder' (rf HO538 BK549) (Kd.R_base ho0) hb); replace HO547 := Ah (Kd.R_elder' (rf HO547 BK549) (Kd.R_base ho0) hb); replace BK543 := Ah (blk_below (bf BK543 NB543_549) hb); replace BK544 := Ah (blk_below (bf BK544 NB544_549) hb); replace BK549 := Ah (blk_below (g := gb549) (o := .cells #[.slice Ao16 t545.length co16] 25 (0, 0)) (by (with_reducible repeat (first | refine blk_drewN ?_ _ | refine blk_drew ?_ | refine blk_alloc ?_ _)); refine blk_put (cs := #[.slice none 0 0]) ?_ 0 _ rfl; (with_reducible repeat (first | refine blk_drewN ?_ _ | refine blk_drew ?_ | refine blk_alloc ?_ _)); exact BK549.out) hb); replace HB := Ah (below_step (bs3 HB GE543 GE544 GE549) hb); (try clear hb ho0)) | ((with_reducible refine gate_dst (N := 7) rfl ?_); refine boxL 7 25 #[.slice none 0 0] ?_; intro gb554 hg w23 BK554 hb; replace HO538 := nr HO538 hb; replace HO547 := nr HO547 hb; replace HO552 := nr HO552 hb; have GW554 := gw hg (bs3 HB GE543 GE544 GE549); have GE554 := gw hg (bs3 HB GE543 GE544 GE549); replace HB := Ah (below_step (bs3 HB GE543 GE544 GE549) hb); have NB543_554 := nn BK543 hg; have NB554_543 := nm BK543 hg; replace BK543 := nb BK543 hb; have NB544_554 := nn BK544 hg; have NB554_544 := nm BK544 hg; replace BK544 := nb BK544 hb; have NB549_554 := nn BK549 hg; have NB554_549 := nm BK549 hg; replace BK549 := nb BK549 hb; clear hb hg; obtain ⟨Ao24, co24, eo24⟩ := Kd.R_slice HO552.out; subst eo24; have hnb25 := NB554_543.out; have hnc25 := NB543_554.out; have hnb26 := NB554_544.out; have hnc26 := NB544_554.out; have hnb27 := NB554_549.out; have hnc27 := NB549_554.out; have hcz28_0 := cz1 BK554; have hfz28_0 := fz1 BK554))
 (try simp only [Act.put, List.setIfInBounds_toArray, List.set_cons_zero, List.set_cons_succ])
 go_cut [60] (fun v60 wc => ∃ (kq : Nat) (x60_5 : Bool), v60 = .bool x60_5 ∧ Aside0 (laws_FnMapped.j0 kq t548 x60_5 t536 t539 t540 t541 t542 t545 = some r) ∧ Aside0 (kq ≤ k) ∧ Aside0 (Kd.R k27 27 wc w.heap.size (fun k_ => some k_ ≠ ((.slice Ao16 t545.length co16) : Value).ownBlock ∧ some k_ ≠ ((.slice Ao24 t550.length co24) : Value).ownBlock ∧ k_ ≠ gb544) (.slice Ao10 t536.length co10) t536) ∧ Aside0 (Kd.R k27 27 wc w.heap.size (fun k_ => some k_ ≠ ((.slice Ao10 t536.length co10) : Value).ownBlock ∧ some k_ ≠ ((.slice Ao24 t550.length co24) : Value).ownBlock ∧ k_ ≠ gb544) (.slice Ao16 t545.length co16) t545) ∧ Aside0 (Kd.R k27 27 wc w.heap.size (fun k_ => some k_ ≠ ((.slice Ao10 t536.length co10) : Value).ownBlock ∧ some k_ ≠ ((.slice Ao16 t545.length co16) : Value).ownBlock ∧ k_ ≠ gb544) (.slice Ao24 t550.length co24) t550) ∧ Aside0 (wc.heap[gb543]? = some (.cells #[(.slice Ao10 t536.length co10)] 25 (0, 0))) ∧ Aside0 (wc.heap[gb544]? = some (.cells #[.int .i64 t539, .int .i64 t540, .int .i64 t541, .bool t542] 27 (0, 0))) ∧ Aside0 (wc.heap[gb549]? = some (.cells #[(.slice Ao16 t545.length co16)] 25 (0, 0))) ∧ Aside0 (wc.heap[gb554]? = some (.cells #[(.slice Ao24 t550.length co24)] 25 (0, 0))) ∧ Aside0 (Below w.heap.size w wc))
 case first =>
  have H := HC6.out;clear HC6
  by_cases c29 : (t548 != t553) = true
  ·
   rw [if_pos c29] at H;have c29b0 : (t548 != t553) = true := c29;(try (have c29b1 : decide (t548 = t553) = false := by simpa using c29));(try (have c29b2 : (t548 == t553) = false := by simpa using c29));(try (have c29b3 : ¬ (t548 = t553) := by simpa using c29));clear c29;(first | rw [c29b0] | (simp only [i64_w, i32_w]; rw [c29b0]) | (simp only [c29b2, Bool.not_false, Bool.not_true]) | skip);have H' := Ah H;clear H
   try go_wp2
   have n0_ : Aside0 (Kd.R k27 27 (w23.setCell ⟨gb554, 0, none⟩ (.slice Ao24 t550.length co24)) w.heap.size (fun k_ => some k_ ≠ (.slice Ao16 t545.length co16 : Value).ownBlock ∧ some k_ ≠ (.slice Ao24 t550.length co24 : Value).ownBlock ∧ k_ ≠ gb544) (.slice Ao10 t536.length co10) t536) := ⟨by (with_reducible repeat (first | apply Kd.R_alloc | apply Kd.R_drewN | apply Kd.R_drew)); exact Kd.R_mono (Kd.R_far (p := ⟨gb554, 0, none⟩) (Kd.R_types HO538.out BK554.out (by decide)) (fun _ hk => hk.2) (.slice Ao24 t550.length co24)) (fun _ hk => ⟨hk.1.1.2, ⟨hk.1.2, hk.1.1.1.2⟩⟩)⟩;have n1_ : Aside0 (Kd.R k27 27 (w23.setCell ⟨gb554, 0, none⟩ (.slice Ao24 t550.length co24)) w.heap.size (fun k_ => some k_ ≠ (.slice Ao10 t536.length co10 : Value).ownBlock ∧ some k_ ≠ (.slice Ao24 t550.length co24 : Value).ownBlock ∧ k_ ≠ gb544) (.slice Ao16 t545.length co16) t545) := ⟨by (with_reducible repeat (first | apply Kd.R_alloc | apply Kd.R_drewN | apply Kd.R_drew)); exact Kd.R_mono (Kd.R_far (p := ⟨gb554, 0, none⟩) (Kd.R_types HO547.out BK554.out (by decide)) (fun _ hk => hk.2) (.slice Ao24 t550.length co24)) (fun _ hk => ⟨hk.1.1.1.2, ⟨hk.1.2, hk.1.1.2⟩⟩)⟩;have n2_ : Aside0 (Kd.R k27 27 (w23.setCell ⟨gb554, 0, none⟩ (.slice Ao24 t550.length co24)) w.heap.size (fun k_ => some k_ ≠ (.slice Ao10 t536.length co10 : Value).ownBlock ∧ some k_ ≠ (.slice Ao16 t545.length co16 : Value).ownBlock ∧ k_ ≠ gb544) (.slice Ao24 t550.length co24) t550) := ⟨by (with_reducible repeat (first | apply Kd.R_alloc | apply Kd.R_drewN | apply Kd.R_drew)); exact Kd.R_mono (Kd.R_far (p := ⟨gb554, 0, none⟩) (Kd.R_types HO552.out BK554.out (by decide)) (fun _ hk => hk.2) (.slice Ao24 t550.length co24)) (fun _ hk => ⟨hk.1.1.1.2, ⟨hk.1.1.2, hk.1.2⟩⟩)⟩;have n3_ : Aside0 ((w23.setCell ⟨gb554, 0, none⟩ (.slice Ao24 t550.length co24)).heap[gb543]? = some (.cells #[.slice Ao10 t536.length co10] 25 (0, 0))) := ⟨bf BK543 NB543_554⟩;have n4_ : Aside0 ((w23.setCell ⟨gb554, 0, none⟩ (.slice Ao24 t550.length co24)).heap[gb544]? = some (.cells #[.int .i64 t539, .int .i64 t540, .int .i64 t541, .bool t542] 27 (0, 0))) := ⟨bf BK544 NB544_554⟩;have n5_ : Aside0 ((w23.setCell ⟨gb554, 0, none⟩ (.slice Ao24 t550.length co24)).heap[gb549]? = some (.cells #[.slice Ao16 t545.length co16] 25 (0, 0))) := ⟨bf BK549 NB549_554⟩;have n6_ : Aside0 ((w23.setCell ⟨gb554, 0, none⟩ (.slice Ao24 t550.length co24)).heap[gb554]? = some (.cells #[.slice Ao24 t550.length co24] 25 (0, 0))) := ⟨by (with_reducible repeat (first | refine blk_drewN ?_ _ | refine blk_drew ?_ | refine blk_alloc ?_ _)); refine blk_put (cs := #[.slice none 0 0]) ?_ 0 _ rfl; (with_reducible repeat (first | refine blk_drewN ?_ _ | refine blk_drew ?_ | refine blk_alloc ?_ _)); exact BK554.out⟩;have n7_ : Aside0 (Below w.heap.size w (w23.setCell ⟨gb554, 0, none⟩ (.slice Ao24 t550.length co24))) := ⟨bs4 HB GE543 GE544 GE549 GE554⟩;(try clear HO538);(try clear HO547);(try clear HO552);(try clear BK543);(try clear BK544);(try clear BK549);(try clear BK554);(try clear HB)
   generalize (w23.setCell ⟨gb554, 0, none⟩ (.slice Ao24 t550.length co24)) = w30 at n0_ n1_ n2_ n3_ n4_ n5_ n6_ n7_ ⊢
   have HO538 := n0_;have HO547 := n1_;have HO552 := n2_;have BK543 := n3_;have BK544 := n4_;have BK549 := n5_;have BK554 := n6_;have HB := n7_;clear n0_ n1_ n2_ n3_ n4_ n5_ n6_ n7_;have n0_ := Ah (Kd.R_drew HO538.out);have n1_ := Ah (Kd.R_drew HO547.out);have n2_ := Ah (Kd.R_drew HO552.out);have n3_ := Ah (blk_drew BK543.out);have n4_ := Ah (blk_drew BK544.out);have n5_ := Ah (blk_drew BK549.out);have n6_ := Ah (blk_drew BK554.out);have n7_ := Ah (below_drew1 HB.out);clear HO538 HO547 HO552 BK543 BK544 BK549 BK554 HB;have HO538 := n0_;have HO547 := n1_;have HO552 := n2_;have BK543 := n3_;have BK544 := n4_;have BK549 := n5_;have BK554 := n6_;have HB := n7_;clear n0_ n1_ n2_ n3_ n4_ n5_ n6_ n7_;refine start_ (n := 16) (S := fun w' => True) (ds := []) #[false, false, false, false, false, false, false, false, false, false, false, false, false, false, false, false] (by kernel_rfl) rfl rfl trivial (fun hHeld => ?_); refine with_tabW laws_FnMapped.tab6 laws_FnMapped.bits6 (fun HT_ HW_ => ?_)
   generalize w30.drew = w31 at HO538 HO547 HO552 BK543 BK544 BK549 BK554 HB hHeld ⊢
   refine pureS 0 45 HT_.out ?_;refine pureS 1 46 HT_.out ?_;refine pureS 2 47 HT_.out ?_;refine pureS 3 48 HT_.out ?_;refine pureU 4 49 HT_.out ?_;refine pureU 5 50 HT_.out ?_;refine pureU 6 51 HT_.out ?_;refine pureU 7 52 HT_.out ?_;refine pureS 8 53 HT_.out ?_;refine pureS 9 54 HT_.out ?_;refine pureU 10 55 HT_.out ?_;refine pureU 11 56 HT_.out ?_;refine pureU 12 57 HT_.out ?_;refine pureU 13 58 HT_.out ?_;refine pureU 14 59 HT_.out ?_;refine pureS 15 60 HT_.out ?_;refine done_ (done_of HT_.out (by kernel_rfl)) ?_
   try go_wp2
   go_meet
   case rel => exact ⟨_, (true), e3, H', ⟨by first | omega | exact Nat.le_refl _⟩, ⟨rr HO538.out⟩, ⟨rr HO547.out⟩, ⟨rr HO552.out⟩, ⟨bk BK543⟩, ⟨bk BK544⟩, ⟨bk BK549⟩, ⟨bk BK554⟩, ⟨bs4 HB GE543 GE544 GE549 GE554⟩⟩
  rw [if_neg c29] at H
  have c29b0 : (t548 != t553) = false := by simpa using c29
  (try (have c29b1 : decide (t548 = t553) = true := by simpa using c29));(try (have c29b2 : (t548 == t553) = true := by simpa using c29));clear c29;(first | rw [c29b0] | (simp only [i64_w, i32_w]; rw [c29b0]) | (simp only [c29b2, Bool.not_false, Bool.not_true]) | skip);replace H := Option.bind_eq_some_iff.mp H;obtain ⟨t555, A320, H⟩ := H
  try dsimp only at H
  have A32 := Ah A320;clear A320;have H_ := Ah H;clear H
  try go_wp2
  have n0_ : Aside0 (Kd.R k27 27 (w23.setCell ⟨gb554, 0, none⟩ (.slice Ao24 t550.length co24)) w.heap.size (fun k_ => some k_ ≠ (.slice Ao16 t545.length co16 : Value).ownBlock ∧ some k_ ≠ (.slice Ao24 t550.length co24 : Value).ownBlock ∧ k_ ≠ gb544) (.slice Ao10 t536.length co10) t536) := ⟨by (with_reducible repeat (first | apply Kd.R_alloc | apply Kd.R_drewN | apply Kd.R_drew)); exact Kd.R_mono (Kd.R_far (p := ⟨gb554, 0, none⟩) (Kd.R_types HO538.out BK554.out (by decide)) (fun _ hk => hk.2) (.slice Ao24 t550.length co24)) (fun _ hk => ⟨hk.1.1.2, ⟨hk.1.2, hk.1.1.1.2⟩⟩)⟩;have n1_ : Aside0 (Kd.R k27 27 (w23.setCell ⟨gb554, 0, none⟩ (.slice Ao24 t550.length co24)) w.heap.size (fun k_ => some k_ ≠ (.slice Ao10 t536.length co10 : Value).ownBlock ∧ some k_ ≠ (.slice Ao24 t550.length co24 : Value).ownBlock ∧ k_ ≠ gb544) (.slice Ao16 t545.length co16) t545) := ⟨by (with_reducible repeat (first | apply Kd.R_alloc | apply Kd.R_drewN | apply Kd.R_drew)); exact Kd.R_mono (Kd.R_far (p := ⟨gb554, 0, none⟩) (Kd.R_types HO547.out BK554.out (by decide)) (fun _ hk => hk.2) (.slice Ao24 t550.length co24)) (fun _ hk => ⟨hk.1.1.1.2, ⟨hk.1.2, hk.1.1.2⟩⟩)⟩;have n2_ : Aside0 (Kd.R k27 27 (w23.setCell ⟨gb554, 0, none⟩ (.slice Ao24 t550.length co24)) w.heap.size (fun k_ => some k_ ≠ (.slice Ao10 t536.length co10 : Value).ownBlock ∧ some k_ ≠ (.slice Ao16 t545.length co16 : Value).ownBlock ∧ k_ ≠ gb544) (.slice Ao24 t550.length co24) t550) := ⟨by (with_reducible repeat (first | apply Kd.R_alloc | apply Kd.R_drewN | apply Kd.R_drew)); exact Kd.R_mono (Kd.R_far (p := ⟨gb554, 0, none⟩) (Kd.R_types HO552.out BK554.out (by decide)) (fun _ hk => hk.2) (.slice Ao24 t550.length co24)) (fun _ hk => ⟨hk.1.1.1.2, ⟨hk.1.1.2, hk.1.2⟩⟩)⟩;have n3_ : Aside0 ((w23.setCell ⟨gb554, 0, none⟩ (.slice Ao24 t550.length co24)).heap[gb543]? = some (.cells #[.slice Ao10 t536.length co10] 25 (0, 0))) := ⟨bf BK543 NB543_554⟩;have n4_ : Aside0 ((w23.setCell ⟨gb554, 0, none⟩ (.slice Ao24 t550.length co24)).heap[gb544]? = some (.cells #[.int .i64 t539, .int .i64 t540, .int .i64 t541, .bool t542] 27 (0, 0))) := ⟨bf BK544 NB544_554⟩;have n5_ : Aside0 ((w23.setCell ⟨gb554, 0, none⟩ (.slice Ao24 t550.length co24)).heap[gb549]? = some (.cells #[.slice Ao16 t545.length co16] 25 (0, 0))) := ⟨bf BK549 NB549_554⟩;have n6_ : Aside0 ((w23.setCell ⟨gb554, 0, none⟩ (.slice Ao24 t550.length co24)).heap[gb554]? = some (.cells #[.slice Ao24 t550.length co24] 25 (0, 0))) := ⟨by (with_reducible repeat (first | refine blk_drewN ?_ _ | refine blk_drew ?_ | refine blk_alloc ?_ _)); refine blk_put (cs := #[.slice none 0 0]) ?_ 0 _ rfl; (with_reducible repeat (first | refine blk_drewN ?_ _ | refine blk_drew ?_ | refine blk_alloc ?_ _)); exact BK554.out⟩;have n7_ : Aside0 (Below w.heap.size w (w23.setCell ⟨gb554, 0, none⟩ (.slice Ao24 t550.length co24))) := ⟨bs4 HB GE543 GE544 GE549 GE554⟩;(try clear HO538);(try clear HO547);(try clear HO552);(try clear BK543);(try clear BK544);(try clear BK549);(try clear BK554);(try clear HB)
  generalize (w23.setCell ⟨gb554, 0, none⟩ (.slice Ao24 t550.length co24)) = w36 at n0_ n1_ n2_ n3_ n4_ n5_ n6_ n7_ ⊢
  have HO538 := n0_;have HO547 := n1_;have HO552 := n2_;have BK543 := n3_;have BK544 := n4_;have BK549 := n5_;have BK554 := n6_;have HB := n7_;clear n0_ n1_ n2_ n3_ n4_ n5_ n6_ n7_;have n0_ := Ah (Kd.R_drew HO538.out);have n1_ := Ah (Kd.R_drew HO547.out);have n2_ := Ah (Kd.R_drew HO552.out);have n3_ := Ah (blk_drew BK543.out);have n4_ := Ah (blk_drew BK544.out);have n5_ := Ah (blk_drew BK549.out);have n6_ := Ah (blk_drew BK554.out);have n7_ := Ah (below_drew1 HB.out);clear HO538 HO547 HO552 BK543 BK544 BK549 BK554 HB;have HO538 := n0_;have HO547 := n1_;have HO552 := n2_;have BK543 := n3_;have BK544 := n4_;have BK549 := n5_;have BK554 := n6_;have HB := n7_;clear n0_ n1_ n2_ n3_ n4_ n5_ n6_ n7_;have H := H_.out;clear H_
  by_cases c33 : t555 = true
  rotate_left
  ·
   replace c33 := Bool.eq_false_iff.mpr c33;subst c33;rw [if_neg fne] at H;have H' := Ah H;clear H;refine start_ (n := 16) (S := fun w' => w'.cell? ⟨gb549, 0, none⟩ = some (.slice Ao16 t545.length co16) ∧ w'.cell? ⟨gb554, 0, none⟩ = some (.slice Ao24 t550.length co24)) (ds := []) #[false, false, false, false, false, false, false, false, false, false, false, false, false, false, false, false] (by kernel_rfl) rfl rfl ⟨(blk_cell BK549.out 0).trans rfl, (blk_cell BK554.out 0).trans rfl⟩ (fun hHeld => ?_); refine with_tabW laws_FnMapped.tab6 laws_FnMapped.bits6 (fun HT_ HW_ => ?_)
   generalize w36.drew = w42 at HO538 HO547 HO552 BK543 BK544 BK549 BK554 HB hHeld ⊢
   refine pureS 0 45 HT_.out ?_;refine pureS 1 46 HT_.out ?_;refine pureS 2 47 HT_.out ?_;refine pureS 3 48 HT_.out ?_;refine takeS 4 49 HT_.out HW_.out hHeld (hr := by rintro w' ⟨s0, s1⟩; go_simp; with_reducible rfl) (h := ?_);refine takeS 5 50 HT_.out HW_.out hHeld (hr := by rintro w' ⟨s0, s1⟩; go_simp; with_reducible rfl) (h := ?_);refine one_ (i := 6) (N := some 51) #[true, true, true, true, true, true, true, false, false, false, false, false, false, false, false, false] rfl rfl (one_of HT_.out (by kernel_rfl)) (by decide) (fun K hK => ?_);refine goes_ Try.func7 (by kernel_rfl) rfl #[.agg #[.slice Ao16 t545.length co16], .agg #[.slice Ao24 t550.length co24]] (by rfl) rfl rfl (by (try simp only [List.map_toArray, List.map_cons, List.map_nil]); first | done | rfl | (simp only [List.length_drop, List.length_take]; rfl)) ?_
   with_reducible refine (laws_sameMaps.calls k _ _ t545 _ _ t550 false _ ?side1 ?side2 ?side3 ?side4 A32.out).mono ?_
   (case side1 => exact rc0 HO547);(case side2 => exact (Kd.R_reads' HO547.out).2.1);(case side3 => exact rc0 HO552);(case side4 => exact (Kd.R_reads' HO552.out).2.1);rintro e w43 ⟨rfl, hb⟩;refine ⟨_, rfl, ?_⟩;have n0_ := Ah (Kd.R_below (rr HO538.out) hb);have n1_ := Ah (Kd.R_below (rr HO547.out) hb);have n2_ := Ah (Kd.R_below (rr HO552.out) hb);have n3_ := Ah (bb BK543 hb);have n4_ := Ah (bb BK544 hb);have n5_ := Ah (bb BK549 hb);have n6_ := Ah (bb BK554 hb);have n7_ := Ah (below_step (bs4 HB GE543 GE544 GE549 GE554) hb);clear HO538 HO547 HO552 BK543 BK544 BK549 BK554 HB;have HO538 := n0_;have HO547 := n1_;have HO552 := n2_;have BK543 := n3_;have BK544 := n4_;have BK549 := n5_;have BK554 := n6_;have HB := n7_;clear n0_ n1_ n2_ n3_ n4_ n5_ n6_ n7_;(try clear hb);(try clear hb2);(try clear hk);(try clear hi);refine hK.out _ _ ⟨(blk_cell BK549.out 0).trans rfl, (blk_cell BK554.out 0).trans rfl⟩ (fun hHeld => ?_);clear hK K;refine norm_ (a' := ?_) ?_ ?_;rotate_left
   ·
    show Act.put _ (some 51) _ = _
    simp only [Act.put, List.setIfInBounds_toArray, List.set_cons_zero, List.set_cons_succ, i64_w, i32_w]
    rfl
   refine pureS 7 52 HT_.out ?_;refine pureS 8 53 HT_.out ?_;refine pureS 9 54 HT_.out ?_;refine pureU 10 55 HT_.out ?_;refine pureU 11 56 HT_.out ?_;refine pureU 12 57 HT_.out ?_;refine pureU 13 58 HT_.out ?_;refine pureU 14 59 HT_.out ?_;refine pureS 15 60 HT_.out ?_;refine done_ (done_of HT_.out (by kernel_rfl)) ?_
   try go_wp2
   go_meet
   case rel => exact ⟨_, (true), e3, H', ⟨by first | omega | exact Nat.le_refl _⟩, ⟨rr HO538.out⟩, ⟨rr HO547.out⟩, ⟨rr HO552.out⟩, ⟨bk BK543⟩, ⟨bk BK544⟩, ⟨bk BK549⟩, ⟨bk BK554⟩, ⟨bs4 HB GE543 GE544 GE549 GE554⟩⟩
  subst c33;rw [if_pos rfl] at H;replace H := Option.bind_eq_some_iff.mp H;obtain ⟨t556, A340, H⟩ := H
  try dsimp only at H
  have A34 := Ah A340;clear A340;replace H := Option.bind_eq_some_iff.mp H;obtain ⟨t557, A350, H⟩ := H
  try dsimp only at H
  have A35 := Ah A350;clear A350;have H' := Ah H;clear H;refine start_ (n := 16) (S := fun w' => w'.cell? ⟨gb549, 0, none⟩ = some (.slice Ao16 t545.length co16) ∧ w'.cell? ⟨gb554, 0, none⟩ = some (.slice Ao24 t550.length co24) ∧ w'.cell? ⟨gb543, 0, none⟩ = some (.slice Ao10 t536.length co10)) (ds := []) #[false, false, false, false, false, false, false, false, false, false, false, false, false, false, false, false] (by kernel_rfl) rfl rfl ⟨(blk_cell BK549.out 0).trans rfl, (blk_cell BK554.out 0).trans rfl, (blk_cell BK543.out 0).trans rfl⟩ (fun hHeld => ?_); refine with_tabW laws_FnMapped.tab6 laws_FnMapped.bits6 (fun HT_ HW_ => ?_)
  generalize w36.drew = w37 at HO538 HO547 HO552 BK543 BK544 BK549 BK554 HB hHeld ⊢
  refine pureS 0 45 HT_.out ?_;refine pureS 1 46 HT_.out ?_;refine pureS 2 47 HT_.out ?_;refine pureS 3 48 HT_.out ?_;refine takeS 4 49 HT_.out HW_.out hHeld (hr := by rintro w' ⟨s0, s1, s2⟩; go_simp; with_reducible rfl) (h := ?_);refine takeS 5 50 HT_.out HW_.out hHeld (hr := by rintro w' ⟨s0, s1, s2⟩; go_simp; with_reducible rfl) (h := ?_);refine one_ (i := 6) (N := some 51) #[true, true, true, true, true, true, true, false, false, false, false, false, false, false, false, false] rfl rfl (one_of HT_.out (by kernel_rfl)) (by decide) (fun K hK => ?_);refine goes_ Try.func7 (by kernel_rfl) rfl #[.agg #[.slice Ao16 t545.length co16], .agg #[.slice Ao24 t550.length co24]] (by rfl) rfl rfl (by (try simp only [List.map_toArray, List.map_cons, List.map_nil]); first | done | rfl | (simp only [List.length_drop, List.length_take]; rfl)) ?_
  with_reducible refine (laws_sameMaps.calls k _ _ t545 _ _ t550 true _ ?side1 ?side2 ?side3 ?side4 A32.out).mono ?_
  (case side1 => exact rc0 HO547);(case side2 => exact (Kd.R_reads' HO547.out).2.1);(case side3 => exact rc0 HO552);(case side4 => exact (Kd.R_reads' HO552.out).2.1);rintro e w38 ⟨rfl, hb⟩;refine ⟨_, rfl, ?_⟩;have n0_ := Ah (Kd.R_below (rr HO538.out) hb);have n1_ := Ah (Kd.R_below (rr HO547.out) hb);have n2_ := Ah (Kd.R_below (rr HO552.out) hb);have n3_ := Ah (bb BK543 hb);have n4_ := Ah (bb BK544 hb);have n5_ := Ah (bb BK549 hb);have n6_ := Ah (bb BK554 hb);have n7_ := Ah (below_step (bs4 HB GE543 GE544 GE549 GE554) hb);clear HO538 HO547 HO552 BK543 BK544 BK549 BK554 HB;have HO538 := n0_;have HO547 := n1_;have HO552 := n2_;have BK543 := n3_;have BK544 := n4_;have BK549 := n5_;have BK554 := n6_;have HB := n7_;clear n0_ n1_ n2_ n3_ n4_ n5_ n6_ n7_;(try clear hb);(try clear hb2);(try clear hk);(try clear hi);refine hK.out _ _ ⟨(blk_cell BK549.out 0).trans rfl, (blk_cell BK554.out 0).trans rfl, (blk_cell BK543.out 0).trans rfl⟩ (fun hHeld => ?_);clear hK K;refine norm_ (a' := ?_) ?_ ?_;rotate_left
  ·
   show Act.put _ (some 51) _ = _
   simp only [Act.put, List.setIfInBounds_toArray, List.set_cons_zero, List.set_cons_succ, i64_w, i32_w]
   rfl
  refine pureS 7 52 HT_.out ?_;refine pureS 8 53 HT_.out ?_;refine pureS 9 54 HT_.out ?_;refine takeS 10 55 HT_.out HW_.out hHeld (hr := by rintro w' ⟨s0, s1, s2⟩; go_simp; with_reducible rfl) (h := ?_);refine takeS 12 57 HT_.out HW_.out hHeld (hr := by rintro w' ⟨s0, s1, s2⟩; go_simp; with_reducible rfl) (h := ?_);refine one_ (i := 11) (N := some 56) #[true, true, true, true, true, true, true, true, true, true, true, true, true, false, false, false] rfl rfl (one_of HT_.out (by kernel_rfl)) (by decide) (fun K hK => ?_);refine goes_ Try.func8 (by kernel_rfl) rfl #[.agg #[.slice Ao10 t536.length co10]] (by rfl) rfl rfl (by (try simp only [List.map_toArray, List.map_cons, List.map_nil]); first | done | rfl | (simp only [List.length_drop, List.length_take]; rfl)) ?_
  with_reducible refine (impl_GoodMap.calls k _ _ t536 t556 _ ?side1 ?side2 A34.out).mono ?_
  (case side1 => exact rc0 HO538);(case side2 => exact (Kd.R_reads' HO538.out).2.1);rintro e w39 ⟨rfl, hb⟩;refine ⟨_, rfl, ?_⟩;have n0_ := Ah (Kd.R_below (rr HO538.out) hb);have n1_ := Ah (Kd.R_below (rr HO547.out) hb);have n2_ := Ah (Kd.R_below (rr HO552.out) hb);have n3_ := Ah (bb BK543 hb);have n4_ := Ah (bb BK544 hb);have n5_ := Ah (bb BK549 hb);have n6_ := Ah (bb BK554 hb);have n7_ := Ah (below_step (bs4 HB GE543 GE544 GE549 GE554) hb);clear HO538 HO547 HO552 BK543 BK544 BK549 BK554 HB;have HO538 := n0_;have HO547 := n1_;have HO552 := n2_;have BK543 := n3_;have BK544 := n4_;have BK549 := n5_;have BK554 := n6_;have HB := n7_;clear n0_ n1_ n2_ n3_ n4_ n5_ n6_ n7_;(try clear hb);(try clear hb2);(try clear hk);(try clear hi);refine hK.out _ _ ⟨(blk_cell BK549.out 0).trans rfl, (blk_cell BK554.out 0).trans rfl, (blk_cell BK543.out 0).trans rfl⟩ (fun hHeld => ?_);clear hK K;refine norm_ (a' := ?_) ?_ ?_;rotate_left
  ·
   show Act.put _ (some 56) _ = _
   simp only [Act.put, List.setIfInBounds_toArray, List.set_cons_zero, List.set_cons_succ, i64_w, i32_w]
   rfl
  refine one_ (i := 13) (N := some 58) #[true, true, true, true, true, true, true, true, true, true, true, true, true, true, false, false] rfl rfl (one_of HT_.out (by kernel_rfl)) (by decide) (fun K hK => ?_);refine goes_ Try.func9 (by kernel_rfl) rfl #[.agg #[.slice Ao10 t536.length co10]] (by rfl) rfl rfl (by (try simp only [List.map_toArray, List.map_cons, List.map_nil]); first | done | rfl | (simp only [List.length_drop, List.length_take]; rfl)) ?_
  with_reducible refine (spec_GoodMap.calls k _ _ t536 t557 _ ?side1 ?side2 A35.out).mono ?_
  (case side1 => exact rc0 HO538);(case side2 => exact (Kd.R_reads' HO538.out).2.1);rintro e w40 ⟨rfl, hb⟩;refine ⟨_, rfl, ?_⟩;have n0_ := Ah (Kd.R_below (rr HO538.out) hb);have n1_ := Ah (Kd.R_below (rr HO547.out) hb);have n2_ := Ah (Kd.R_below (rr HO552.out) hb);have n3_ := Ah (bb BK543 hb);have n4_ := Ah (bb BK544 hb);have n5_ := Ah (bb BK549 hb);have n6_ := Ah (bb BK554 hb);have n7_ := Ah (below_step (bs4 HB GE543 GE544 GE549 GE554) hb);clear HO538 HO547 HO552 BK543 BK544 BK549 BK554 HB;have HO538 := n0_;have HO547 := n1_;have HO552 := n2_;have BK543 := n3_;have BK544 := n4_;have BK549 := n5_;have BK554 := n6_;have HB := n7_;clear n0_ n1_ n2_ n3_ n4_ n5_ n6_ n7_;(try clear hb);(try clear hb2);(try clear hk);(try clear hi);refine hK.out _ _ ⟨(blk_cell BK549.out 0).trans rfl, (blk_cell BK554.out 0).trans rfl, (blk_cell BK543.out 0).trans rfl⟩ (fun hHeld => ?_);clear hK K;refine norm_ (a' := ?_) ?_ ?_;rotate_left
  ·
   show Act.put _ (some 58) _ = _
   simp only [Act.put, List.setIfInBounds_toArray, List.set_cons_zero, List.set_cons_succ, i64_w, i32_w]
   rfl
  refine pureS 14 59 HT_.out ?_;refine pureS 15 60 HT_.out ?_;refine done_ (done_of HT_.out (by kernel_rfl)) ?_
  try go_wp2
  go_meet
  case rel => exact ⟨_, ((t556 != t557)), e3, H', ⟨by first | omega | exact Nat.le_refl _⟩, ⟨rr HO538.out⟩, ⟨rr HO547.out⟩, ⟨rr HO552.out⟩, ⟨bk BK543⟩, ⟨bk BK544⟩, ⟨bk BK549⟩, ⟨bk BK554⟩, ⟨bs4 HB GE543 GE544 GE549 GE554⟩⟩
 case rest =>
  clear HC6
  try clear c2
  try clear p2
  try clear c3
  try clear c7
  try clear c8
  try clear c9
  try clear c29
  try clear c29b0
  try clear c29b1
  try clear c29b2
  try clear c33
  obtain ⟨kq, x60_5, rfl, HA, HJ5, HO_544000, HO_550000, HO_555000, BK543, BK544, BK549, BK554, HB⟩ := hcut
  cases kq with
  | zero => exact absurd HA.out (by simp [laws_FnMapped.j0])
  | succ kj5 =>
   have H := HA.out;clear HA;simp only [laws_FnMapped.j0] at H
   by_cases c44 : x60_5 = true
   ·
    subst c44;rw [if_pos rfl] at H;obtain rfl := Option.some.inj H
    go_wp2
    go_ret
    exact ⟨er, bs4 HB GE543 GE544 GE549 GE554⟩
   replace c44 := Bool.eq_false_iff.mpr c44;subst c44;rw [if_neg fne] at H
   by_cases c45 : t548 = true
   rotate_left
   ·
    replace c45 := Bool.eq_false_iff.mpr c45;subst c45;rw [if_neg fne] at H;obtain rfl := Option.some.inj H;have hnb169 := NB549_543.out;have hnc169 := NB543_549.out;have hnb170 := NB549_544.out;have hnc170 := NB544_549.out;have hnb171 := NB549_554.out;have hnc171 := NB554_549.out;have hcz172_0 := cz1 BK549;have hfz172_0 := fz1 BK549
    go_wp2
    go_ret
    exact ⟨er, bs4 HB GE543 GE544 GE549 GE554⟩
   subst c45;rw [if_pos rfl] at H;have H' := Ah H;clear H
   go_wp2
   go_loopg [9] kj5 (fun kq v9 w' => ∃ (x9_2 : Int), v9 = .int .i64 x9_2 ∧ Aside0 (laws_FnMapped.l0 kq x9_2 t536 t539 t540 t541 t542 t545 = some r) ∧ Aside0 (kq ≤ kj5) ∧ Aside0 (Kd.R k27 27 w' w.heap.size (fun k_ => some k_ ≠ ((.slice Ao16 t545.length co16) : Value).ownBlock ∧ some k_ ≠ ((.slice Ao24 t550.length co24) : Value).ownBlock ∧ k_ ≠ gb544) (.slice Ao10 t536.length co10) t536) ∧ Aside0 (Kd.R k27 27 w' w.heap.size (fun k_ => some k_ ≠ ((.slice Ao10 t536.length co10) : Value).ownBlock ∧ some k_ ≠ ((.slice Ao24 t550.length co24) : Value).ownBlock ∧ k_ ≠ gb544) (.slice Ao16 t545.length co16) t545) ∧ Aside0 (Kd.R k27 27 w' w.heap.size (fun k_ => some k_ ≠ ((.slice Ao10 t536.length co10) : Value).ownBlock ∧ some k_ ≠ ((.slice Ao16 t545.length co16) : Value).ownBlock ∧ k_ ≠ gb544) (.slice Ao24 t550.length co24) t550) ∧ Aside0 (w'.heap[gb543]? = some (.cells #[(.slice Ao10 t536.length co10)] 25 (0, 0))) ∧ Aside0 (w'.heap[gb544]? = some (.cells #[.int .i64 t539, .int .i64 t540, .int .i64 t541, .bool t542] 27 (0, 0))) ∧ Aside0 (w'.heap[gb549]? = some (.cells #[(.slice Ao16 t545.length co16)] 25 (0, 0))) ∧ Aside0 (w'.heap[gb554]? = some (.cells #[(.slice Ao24 t550.length co24)] 25 (0, 0))) ∧ Aside0 (Below w.heap.size w w'))
   case atStart => exact ⟨(0), e3, H', ⟨Nat.le_refl _⟩, ⟨rr HO_544000.out⟩, ⟨rr HO_550000.out⟩, ⟨rr HO_555000.out⟩, ⟨bk BK543⟩, ⟨bk BK544⟩, ⟨bk BK549⟩, ⟨bk BK554⟩, ⟨bs4 HB GE543 GE544 GE549 GE554⟩⟩
   case round =>
    clear H'
    try clear c2
    try clear p2
    try clear c3
    try clear c4
    try clear c7
    try clear c8
    try clear c9
    try clear c29
    try clear c29b0
    try clear c29b1
    try clear c29b2
    try clear c33
    try clear c44
    try clear c45
    try clear p2
    obtain ⟨x9_2, rfl, HA, HK2, HO_544000, HO_550000, HO_555000, BK543, BK544, BK549, BK554, HB⟩ := hrel
    cases gk with
    | zero => exact absurd HA.out (by simp [laws_FnMapped.l0])
    | succ k2 =>
     have H := HA.out;clear HA;simp only [laws_FnMapped.l0] at H
     by_cases c46 : x9_2 < 200
     ·
      rw [if_pos c46] at H;have c46b0 : decide (x9_2 < 200) = true := decide_eq_true c46;clear c46;replace H := Option.bind_eq_some_iff.mp H;obtain ⟨⟨t558, t559, t560⟩, A470, H⟩ := H
      try dsimp only at H
      have A47 := Ah A470;clear A470;replace H := Option.bind_eq_some_iff.mp H;obtain ⟨⟨t561, t562, t563⟩, A480, H⟩ := H
      try dsimp only at H
      have A48 := Ah A480;clear A480;have HC49 := Ah H;clear H;have hnb50 := NB543_544.out;have hnc50 := NB544_543.out;have hnb51 := NB543_549.out;have hnc51 := NB549_543.out;have hnb52 := NB543_554.out;have hnc52 := NB554_543.out;have hcz53_0 := cz1 BK543;have hfz53_0 := fz1 BK543
      go_upto_region 15 with (first | ((with_reducible refine gate_callee (f := 10) rfl ?_); refine gL (some 74) rfl rfl Try.func10 (by kernel_rfl) rfl #[.agg #[.slice Ao10 t536.length co10], .int .i64 x9_2] rfl ?_; (with_reducible refine (impl_BlockAt.calls k2 _ _ t536 x9_2 t558 t559 t560 _ ?side1 ?side2 A47.out).mono ?_); (case side1 => exact rc0 HO_544000); (case side2 => exact (Kd.R_reads' HO_544000.out).2.1); rintro e w54 ⟨rfl, hb⟩; refine ⟨_, rfl, ?_⟩; replace HO_544000 := nr HO_544000 hb; replace HO_550000 := nr HO_550000 hb; replace HO_555000 := nr HO_555000 hb; replace BK543 := nb BK543 hb; replace BK544 := nb BK544 hb; replace BK549 := nb BK549 hb; replace BK554 := nb BK554 hb; replace HB := Ah (below_step (bs4 HB GE543 GE544 GE549 GE554) hb); (try clear hb); have hnb55 := NB549_544.out; have hnc55 := NB544_549.out; have hnb56 := NB549_554.out; have hnc56 := NB554_549.out; have hcz57_0 := cz1 BK549; have hfz57_0 := fz1 BK549) | ((with_reducible refine gate_callee (f := 10) rfl ?_); refine gL (some 81) rfl rfl Try.func10 (by kernel_rfl) rfl #[.agg #[.slice Ao16 t545.length co16], .int .i64 x9_2] rfl ?_; (with_reducible refine (impl_BlockAt.calls k2 _ _ t545 x9_2 t561 t562 t563 _ ?side1 ?side2 A48.out).mono ?_); (case side1 => exact rc0 HO_550000); (case side2 => exact (Kd.R_reads' HO_550000.out).2.1); rintro e w58 ⟨rfl, hb⟩; refine ⟨_, rfl, ?_⟩; replace HO_544000 := nr HO_544000 hb; replace HO_550000 := nr HO_550000 hb; replace HO_555000 := nr HO_555000 hb; replace BK543 := nb BK543 hb; replace BK544 := nb BK544 hb; replace BK549 := nb BK549 hb; replace BK554 := nb BK554 hb; replace HB := Ah (below_step (bs4 HB GE543 GE544 GE549 GE554) hb); (try clear hb)))
      (try simp only [Act.put, List.setIfInBounds_toArray, List.set_cons_zero, List.set_cons_succ])
      go_cut [90] (fun v90 wc => ∃ (kq : Nat) (x90_48 : Bool), v90 = .bool x90_48 ∧ Aside0 (laws_FnMapped.j2 kq x9_2 t558 t559 t561 t562 x90_48 t536 t539 t540 t541 t542 t545 = some r) ∧ Aside0 (kq ≤ k2) ∧ Aside0 (Kd.R k27 27 wc w.heap.size (fun k_ => some k_ ≠ ((.slice Ao16 t545.length co16) : Value).ownBlock ∧ some k_ ≠ ((.slice Ao24 t550.length co24) : Value).ownBlock ∧ k_ ≠ gb544) (.slice Ao10 t536.length co10) t536) ∧ Aside0 (Kd.R k27 27 wc w.heap.size (fun k_ => some k_ ≠ ((.slice Ao10 t536.length co10) : Value).ownBlock ∧ some k_ ≠ ((.slice Ao24 t550.length co24) : Value).ownBlock ∧ k_ ≠ gb544) (.slice Ao16 t545.length co16) t545) ∧ Aside0 (Kd.R k27 27 wc w.heap.size (fun k_ => some k_ ≠ ((.slice Ao10 t536.length co10) : Value).ownBlock ∧ some k_ ≠ ((.slice Ao16 t545.length co16) : Value).ownBlock ∧ k_ ≠ gb544) (.slice Ao24 t550.length co24) t550) ∧ Aside0 (wc.heap[gb543]? = some (.cells #[(.slice Ao10 t536.length co10)] 25 (0, 0))) ∧ Aside0 (wc.heap[gb544]? = some (.cells #[.int .i64 t539, .int .i64 t540, .int .i64 t541, .bool t542] 27 (0, 0))) ∧ Aside0 (wc.heap[gb549]? = some (.cells #[(.slice Ao16 t545.length co16)] 25 (0, 0))) ∧ Aside0 (wc.heap[gb554]? = some (.cells #[(.slice Ao24 t550.length co24)] 25 (0, 0))) ∧ Aside0 (Below w.heap.size w wc))
      case first =>
       have H := HC49.out;clear HC49
       by_cases c59 : t560 = true
       ·
        subst c59;rw [if_pos rfl] at H;have H' := Ah H;clear H
        go_wp2
        go_meet
        case rel => exact ⟨_, (!t563), e3, H', ⟨by have := HJ5.out; have := HK2.out; first | omega | exact Nat.le_refl _⟩, ⟨rr HO_544000.out⟩, ⟨rr HO_550000.out⟩, ⟨rr HO_555000.out⟩, ⟨bk BK543⟩, ⟨bk BK544⟩, ⟨bk BK549⟩, ⟨bk BK554⟩, ⟨bs4 HB GE543 GE544 GE549 GE554⟩⟩
       replace c59 := Bool.eq_false_iff.mpr c59;subst c59;rw [if_neg fne] at H;have H' := Ah H;clear H
       go_wp2
       go_meet
       case rel => exact ⟨_, (true), e3, H', ⟨by have := HJ5.out; have := HK2.out; first | omega | exact Nat.le_refl _⟩, ⟨rr HO_544000.out⟩, ⟨rr HO_550000.out⟩, ⟨rr HO_555000.out⟩, ⟨bk BK543⟩, ⟨bk BK544⟩, ⟨bk BK549⟩, ⟨bk BK554⟩, ⟨bs4 HB GE543 GE544 GE549 GE554⟩⟩
      case rest =>
       clear HC49
       try clear c1
       try clear c2
       try clear p2
       try clear c3
       try clear c4
       try clear c5
       try clear c7
       try clear c8
       try clear c9
       try clear c10
       try clear c29
       try clear c29b0
       try clear c29b1
       try clear c29b2
       try clear c33
       try clear c44
       try clear c45
       try clear c46
       try clear c46b0
       try clear c50
       try clear c51
       try clear c52
       try clear c55
       try clear c56
       try clear c59
       try clear hcz53_0
       try clear hcz57_0
       try clear hfz53_0
       try clear hfz57_0
       try clear p2
       obtain ⟨kq, x90_48, rfl, HA, HJ48, HO_544000, HO_550000, HO_555000, BK543, BK544, BK549, BK554, HB⟩ := hcut
       cases kq with
       | zero => exact absurd HA.out (by simp [laws_FnMapped.j2])
       | succ kj48 =>
        have H := HA.out;clear HA;simp only [laws_FnMapped.j2] at H
        by_cases c60 : x90_48 = true
        ·
         subst c60;rw [if_pos rfl] at H;obtain rfl := Option.some.inj H
         go_wp2
         go_ret
         exact ⟨er, bs4 HB GE543 GE544 GE549 GE554⟩
        replace c60 := Bool.eq_false_iff.mpr c60;subst c60;rw [if_neg fne] at H;have HC61 := Ah H;clear H
        go_upto_region 17 with (fail)
        go_cut [103] (fun v103 wc => ∃ (kq : Nat) (x103_60 : Bool), v103 = .bool x103_60 ∧ Aside0 (laws_FnMapped.j3 kq x9_2 t558 t559 t561 t562 x103_60 t536 t539 t540 t541 t542 t545 = some r) ∧ Aside0 (kq ≤ kj48) ∧ Aside0 (Kd.R k27 27 wc w.heap.size (fun k_ => some k_ ≠ ((.slice Ao16 t545.length co16) : Value).ownBlock ∧ some k_ ≠ ((.slice Ao24 t550.length co24) : Value).ownBlock ∧ k_ ≠ gb544) (.slice Ao10 t536.length co10) t536) ∧ Aside0 (Kd.R k27 27 wc w.heap.size (fun k_ => some k_ ≠ ((.slice Ao10 t536.length co10) : Value).ownBlock ∧ some k_ ≠ ((.slice Ao24 t550.length co24) : Value).ownBlock ∧ k_ ≠ gb544) (.slice Ao16 t545.length co16) t545) ∧ Aside0 (Kd.R k27 27 wc w.heap.size (fun k_ => some k_ ≠ ((.slice Ao10 t536.length co10) : Value).ownBlock ∧ some k_ ≠ ((.slice Ao16 t545.length co16) : Value).ownBlock ∧ k_ ≠ gb544) (.slice Ao24 t550.length co24) t550) ∧ Aside0 (wc.heap[gb543]? = some (.cells #[(.slice Ao10 t536.length co10)] 25 (0, 0))) ∧ Aside0 (wc.heap[gb544]? = some (.cells #[.int .i64 t539, .int .i64 t540, .int .i64 t541, .bool t542] 27 (0, 0))) ∧ Aside0 (wc.heap[gb549]? = some (.cells #[(.slice Ao16 t545.length co16)] 25 (0, 0))) ∧ Aside0 (wc.heap[gb554]? = some (.cells #[(.slice Ao24 t550.length co24)] 25 (0, 0))) ∧ Aside0 (Below w.heap.size w wc))
        case first =>
         have H := HC61.out;clear HC61
         by_cases c62 : x9_2 ≥ t539
         rotate_left
         ·
          rw [if_neg c62] at H;have c62b0 : decide (t539 ≤ x9_2) = false := decide_eq_false c62;clear c62;(first | rw [c62b0] | (simp only [i64_w, i32_w]; rw [c62b0]) | (simp only [c62b2, Bool.not_false, Bool.not_true]) | skip);have H' := Ah H;clear H;have hnb67 := NB544_543.out;have hnc67 := NB543_544.out;have hnb68 := NB544_549.out;have hnc68 := NB549_544.out;have hnb69 := NB544_554.out;have hnc69 := NB554_544.out;obtain ⟨hcz70_0, hcz70_1, hcz70_2, hcz70_3⟩ := cz4 BK544;obtain ⟨hfz70_0, hfz70_1, hfz70_2, hfz70_3⟩ := fz4 BK544
          go_wp2
          go_meet
          case rel => exact ⟨_, (false), e3, H', ⟨by have := HJ5.out; have := HK2.out; have := HJ48.out; first | omega | exact Nat.le_refl _⟩, ⟨rr HO_544000.out⟩, ⟨rr HO_550000.out⟩, ⟨rr HO_555000.out⟩, ⟨bk BK543⟩, ⟨bk BK544⟩, ⟨bk BK549⟩, ⟨bk BK554⟩, ⟨bs4 HB GE543 GE544 GE549 GE554⟩⟩
         rw [if_pos c62] at H;have c62b0 : decide (t539 ≤ x9_2) = true := decide_eq_true c62;clear c62;(first | rw [c62b0] | (simp only [i64_w, i32_w]; rw [c62b0]) | (simp only [c62b2, Bool.not_false, Bool.not_true]) | skip);have H' := Ah H;clear H;have hnb63 := NB544_543.out;have hnc63 := NB543_544.out;have hnb64 := NB544_549.out;have hnc64 := NB549_544.out;have hnb65 := NB544_554.out;have hnc65 := NB554_544.out;obtain ⟨hcz66_0, hcz66_1, hcz66_2, hcz66_3⟩ := cz4 BK544;obtain ⟨hfz66_0, hfz66_1, hfz66_2, hfz66_3⟩ := fz4 BK544
         go_wp2
         go_meet
         case rel => exact ⟨_, (decide (x9_2 < (wrap64 (t539 + t540)))), e3, H', ⟨by have := HJ5.out; have := HK2.out; have := HJ48.out; first | omega | exact Nat.le_refl _⟩, ⟨rr HO_544000.out⟩, ⟨rr HO_550000.out⟩, ⟨rr HO_555000.out⟩, ⟨bk BK543⟩, ⟨bk BK544⟩, ⟨bk BK549⟩, ⟨bk BK554⟩, ⟨bs4 HB GE543 GE544 GE549 GE554⟩⟩
        case rest =>
         clear HC61
         try clear c1
         try clear c2
         try clear p2
         try clear c3
         try clear c4
         try clear c5
         try clear c6
         try clear p6
         try clear c7
         try clear c8
         try clear c9
         try clear c10
         try clear c29
         try clear c29b0
         try clear c29b1
         try clear c29b2
         try clear c33
         try clear c44
         try clear c45
         try clear c46
         try clear c46b0
         try clear c50
         try clear c51
         try clear c52
         try clear c55
         try clear c56
         try clear c59
         try clear c60
         try clear c62
         try clear c62b0
         try clear c63
         try clear c64
         try clear p64
         try clear c65
         try clear c67
         try clear c68
         try clear c69
         try clear hcz53_0
         try clear hcz57_0
         try clear hcz66_0 hcz66_1 hcz66_2 hcz66_3
         try clear hcz70_0 hcz70_1 hcz70_2 hcz70_3
         try clear hfz53_0
         try clear hfz57_0
         try clear hfz66_0 hfz66_1 hfz66_2 hfz66_3
         try clear hfz70_0 hfz70_1 hfz70_2 hfz70_3
         try clear p2
         obtain ⟨kq, x103_60, rfl, HA, HJ60, HO_544000, HO_550000, HO_555000, BK543, BK544, BK549, BK554, HB⟩ := hcut
         cases kq with
         | zero => exact absurd HA.out (by simp [laws_FnMapped.j3])
         | succ kj60 =>
          have H := HA.out;clear HA;simp only [laws_FnMapped.j3] at H
          by_cases c71 : x103_60 = true
          rotate_left
          ·
           replace c71 := Bool.eq_false_iff.mpr c71;subst c71;rw [if_neg fne] at H
           by_cases c87 : t558 = t561
           rotate_left
           ·
            rw [if_neg c87] at H;have c87b0 : (t558 == t561) = false := beq_eq_false_iff_ne.mpr c87;have c87b1 : (t558 != t561) = true := bne_iff_ne.mpr c87;obtain rfl := Option.some.inj H
            go_wp2
            go_ret
            exact ⟨er, bs4 HB GE543 GE544 GE549 GE554⟩
           rw [if_pos c87] at H;have c87b0 : (t558 == t561) = true := beq_iff_eq.mpr c87;have c87b1 : (t558 != t561) = false := bne_eq_false_iff_eq.mpr c87;clear c87
           by_cases c88 : (t559 != t562) = true
           ·
            rw [if_pos c88] at H;have c88b0 : (t559 != t562) = true := c88;(try (have c88b1 : decide (t559 = t562) = false := by simpa using c88));(try (have c88b2 : (t559 == t562) = false := by simpa using c88));(try (have c88b3 : ¬ (t559 = t562) := by simpa using c88));clear c88;obtain rfl := Option.some.inj H
            go_wp2
            go_ret
            exact ⟨er, bs4 HB GE543 GE544 GE549 GE554⟩
           rw [if_neg c88] at H
           have c88b0 : (t559 != t562) = false := by simpa using c88
           (try (have c88b1 : decide (t559 = t562) = true := by simpa using c88));(try (have c88b2 : (t559 == t562) = true := by simpa using c88));clear c88;have H' := Ah H;clear H
           go_wp2
           go_roundg kj60
           case measure => have := HJ5.out; have := HK2.out; have := HJ48.out; have := HJ60.out; omega
           case rel => exact ⟨(wrap64 (x9_2 + 1)), e3, H', ⟨by have := HJ5.out; have := HK2.out; have := HJ48.out; have := HJ60.out; omega⟩, ⟨rr HO_544000.out⟩, ⟨rr HO_550000.out⟩, ⟨rr HO_555000.out⟩, ⟨bk BK543⟩, ⟨bk BK544⟩, ⟨bk BK549⟩, ⟨bk BK554⟩, ⟨bs4 HB GE543 GE544 GE549 GE554⟩⟩
          subst c71;rw [if_pos rfl] at H
          by_cases c72 : t558 = (-1)
          rotate_left
          ·
           rw [if_neg c72] at H;have c72b0 : (t558 == (-1)) = false := beq_eq_false_iff_ne.mpr c72;have c72b1 : (t558 != (-1)) = true := bne_iff_ne.mpr c72;obtain rfl := Option.some.inj H
           go_wp2
           go_ret
           exact ⟨er, bs4 HB GE543 GE544 GE549 GE554⟩
          rw [if_pos c72] at H;have c72b0 : (t558 == (-1)) = true := beq_iff_eq.mpr c72;have c72b1 : (t558 != (-1)) = false := bne_eq_false_iff_eq.mpr c72;clear c72
          by_cases c73 : t561 = (wrap64 ((wrap64 (t541 + x9_2)) - t539))
          rotate_left
          ·
           rw [if_neg c73] at H;have c73b0 : (t561 == (wrap64 ((wrap64 (t541 + x9_2)) - t539))) = false := beq_eq_false_iff_ne.mpr c73;have c73b1 : (t561 != (wrap64 ((wrap64 (t541 + x9_2)) - t539))) = true := bne_iff_ne.mpr c73;obtain rfl := Option.some.inj H;have hnb83 := NB544_543.out;have hnc83 := NB543_544.out;have hnb84 := NB544_549.out;have hnc84 := NB549_544.out;have hnb85 := NB544_554.out;have hnc85 := NB554_544.out;obtain ⟨hcz86_0, hcz86_1, hcz86_2, hcz86_3⟩ := cz4 BK544;obtain ⟨hfz86_0, hfz86_1, hfz86_2, hfz86_3⟩ := fz4 BK544
           go_wp2
           go_ret
           exact ⟨er, bs4 HB GE543 GE544 GE549 GE554⟩
          rw [if_pos c73] at H;have c73b0 : (t561 == (wrap64 ((wrap64 (t541 + x9_2)) - t539))) = true := beq_iff_eq.mpr c73;have c73b1 : (t561 != (wrap64 ((wrap64 (t541 + x9_2)) - t539))) = false := bne_eq_false_iff_eq.mpr c73;clear c73
          by_cases c74 : (t562 != t542) = true
          ·
           rw [if_pos c74] at H;have c74b0 : (t562 != t542) = true := c74;(try (have c74b1 : decide (t562 = t542) = false := by simpa using c74));(try (have c74b2 : (t562 == t542) = false := by simpa using c74));(try (have c74b3 : ¬ (t562 = t542) := by simpa using c74));clear c74;obtain rfl := Option.some.inj H;have hnb75 := NB544_543.out;have hnc75 := NB543_544.out;have hnb76 := NB544_549.out;have hnc76 := NB549_544.out;have hnb77 := NB544_554.out;have hnc77 := NB554_544.out;obtain ⟨hcz78_0, hcz78_1, hcz78_2, hcz78_3⟩ := cz4 BK544;obtain ⟨hfz78_0, hfz78_1, hfz78_2, hfz78_3⟩ := fz4 BK544
           go_wp2
           go_ret
           exact ⟨er, bs4 HB GE543 GE544 GE549 GE554⟩
          rw [if_neg c74] at H
          have c74b0 : (t562 != t542) = false := by simpa using c74
          (try (have c74b1 : decide (t562 = t542) = true := by simpa using c74));(try (have c74b2 : (t562 == t542) = true := by simpa using c74));clear c74;have H' := Ah H;clear H;have hnb79 := NB544_543.out;have hnc79 := NB543_544.out;have hnb80 := NB544_549.out;have hnc80 := NB549_544.out;have hnb81 := NB544_554.out;have hnc81 := NB554_544.out;obtain ⟨hcz82_0, hcz82_1, hcz82_2, hcz82_3⟩ := cz4 BK544;obtain ⟨hfz82_0, hfz82_1, hfz82_2, hfz82_3⟩ := fz4 BK544
          go_wp2
          go_roundg kj60
          case measure => have := HJ5.out; have := HK2.out; have := HJ48.out; have := HJ60.out; omega
          case rel => exact ⟨(wrap64 (x9_2 + 1)), e3, H', ⟨by have := HJ5.out; have := HK2.out; have := HJ48.out; have := HJ60.out; omega⟩, ⟨rr HO_544000.out⟩, ⟨rr HO_550000.out⟩, ⟨rr HO_555000.out⟩, ⟨bk BK543⟩, ⟨bk BK544⟩, ⟨bk BK549⟩, ⟨bk BK554⟩, ⟨bs4 HB GE543 GE544 GE549 GE554⟩⟩
     rw [if_neg c46] at H;have c46b0 : decide (x9_2 < 200) = false := decide_eq_false c46;clear c46;replace H := Option.bind_eq_some_iff.mp H;obtain ⟨⟨t564, t565, t566⟩, A890, H⟩ := H
     try dsimp only at H
     have A89 := Ah A890;clear A890;replace H := Option.bind_eq_some_iff.mp H;obtain ⟨⟨t567, t568, t569⟩, A900, H⟩ := H
     try dsimp only at H
     have A90 := Ah A900;clear A900;replace H := Option.bind_eq_some_iff.mp H;obtain ⟨⟨t570, t573, t576⟩, A910, H⟩ := H
     try dsimp only at H
     have A91 := Ah A910;clear A910;have HC92 := Ah H;clear H;have hnb93 := NB543_544.out;have hnc93 := NB544_543.out;have hnb94 := NB543_549.out;have hnc94 := NB549_543.out;have hnb95 := NB543_554.out;have hnc95 := NB554_543.out;have hcz96_0 := cz1 BK543;have hfz96_0 := fz1 BK543
     go_upto_region 25 with (first | ((with_reducible refine gate_callee (f := 11) rfl ?_); refine gL (some 133) rfl rfl Try.func11 (by kernel_rfl) rfl #[.agg #[.slice Ao10 t536.length co10]] rfl ?_; (with_reducible refine (impl_MapSize.calls k2 _ _ t536 t564 t565 t566 _ ?side1 ?side2 A89.out).mono ?_); (case side1 => exact rc0 HO_544000); (case side2 => exact (Kd.R_reads' HO_544000.out).2.1); rintro e w97 ⟨rfl, hb⟩; refine ⟨_, rfl, ?_⟩; replace HO_544000 := nr HO_544000 hb; replace HO_550000 := nr HO_550000 hb; replace HO_555000 := nr HO_555000 hb; replace BK543 := nb BK543 hb; replace BK544 := nb BK544 hb; replace BK549 := nb BK549 hb; replace BK554 := nb BK554 hb; replace HB := Ah (below_step (bs4 HB GE543 GE544 GE549 GE554) hb); (try clear hb); have hnb98 := NB549_544.out; have hnc98 := NB544_549.out; have hnb99 := NB549_554.out; have hnc99 := NB554_549.out; have hcz100_0 := cz1 BK549; have hfz100_0 := fz1 BK549) | ((with_reducible refine gate_callee (f := 11) rfl ?_); refine gL (some 139) rfl rfl Try.func11 (by kernel_rfl) rfl #[.agg #[.slice Ao16 t545.length co16]] rfl ?_; (with_reducible refine (impl_MapSize.calls k2 _ _ t545 t567 t568 t569 _ ?side1 ?side2 A90.out).mono ?_); (case side1 => exact rc0 HO_550000); (case side2 => exact (Kd.R_reads' HO_550000.out).2.1); rintro e w101 ⟨rfl, hb⟩; refine ⟨_, rfl, ?_⟩; replace HO_544000 := nr HO_544000 hb; replace HO_550000 := nr HO_550000 hb; replace HO_555000 := nr HO_555000 hb; replace BK543 := nb BK543 hb; replace BK544 := nb BK544 hb; replace BK549 := nb BK549 hb; replace BK554 := nb BK554 hb; replace HB := Ah (below_step (bs4 HB GE543 GE544 GE549 GE554) hb); (try clear hb); have hcz102_0 := cz1 BK549; have hfz102_0 := fz1 BK549; have hnb103 := NB544_554.out; have hnc103 := NB554_544.out; obtain ⟨hcz104_0, hcz104_1, hcz104_2, hcz104_3⟩ := cz4 BK544; obtain ⟨hfz104_0, hfz104_1, hfz104_2, hfz104_3⟩ := fz4 BK544) | ((with_reducible refine gate_callee (f := 12) rfl ?_); refine gL (some 149) rfl rfl Try.func12 (by kernel_rfl) rfl #[.agg #[.slice Ao16 t545.length co16], .int .i64 t539, .int .i64 t540] rfl ?_; (with_reducible refine (impl_PunchMap.calls k2 _ _ t545 t539 t540 t570 t573 t576 _ ?side1 ?side2 A91.out).mono ?_); (case side1 => exact rc0 HO_550000); (case side2 => exact (Kd.R_reads' HO_550000.out).2.1); rintro e w105 ⟨v571, v574, rfl, ho0, ho1, hb⟩; refine ⟨_, rfl, ?_⟩; have HO572 := Ah (Kd.R_lower (Kd.R_newB (Kd.R_new' (Kd.R_new' (Kd.R_new' ho0 (Kd.R_lt (rr HO_544000.out))) (Kd.R_lt (rr HO_550000.out))) (Kd.R_lt (rr HO_555000.out))) (g := gb544) (o := .cells #[.int .i64 t539, .int .i64 t540, .int .i64 t541, .bool t542] 27 (0, 0)) (bk BK544)) (below_size (bs4 HB GE543 GE544 GE549 GE554))); replace HO_544000 := Ah (Kd.R_elder' (rr HO_544000.out) (Kd.R_base ho0) hb); replace HO_550000 := Ah (Kd.R_elder' (rr HO_550000.out) (Kd.R_base ho0) hb); replace HO_555000 := Ah (Kd.R_elder' (rr HO_555000.out) (Kd.R_base ho0) hb); have HO575 := Ah (Kd.R_lower ho1 (below_size (bs4 HB GE543 GE544 GE549 GE554))); replace BK543 := nb BK543 hb; replace BK544 := nb BK544 hb; replace BK549 := nb BK549 hb; replace BK554 := nb BK554 hb; replace HB := Ah (below_step (bs4 HB GE543 GE544 GE549 GE554) hb); (try clear hb ho0 ho1)) | ((with_reducible refine gate_dst (N := 22) rfl ?_); refine boxL 22 25 #[.slice none 0 0] ?_; intro gb577 hg w106 BK577 hb; replace HO_544000 := nr HO_544000 hb; replace HO_550000 := nr HO_550000 hb; replace HO_555000 := nr HO_555000 hb; replace HO572 := nr HO572 hb; replace HO575 := nr HO575 hb; have GW577 := gw hg (bs4 HB GE543 GE544 GE549 GE554); have GE577 := gw hg (bs4 HB GE543 GE544 GE549 GE554); replace HB := Ah (below_step (bs4 HB GE543 GE544 GE549 GE554) hb); have NB543_577 := nn BK543 hg; have NB577_543 := nm BK543 hg; replace BK543 := nb BK543 hb; have NB544_577 := nn BK544 hg; have NB577_544 := nm BK544 hg; replace BK544 := nb BK544 hb; have NB549_577 := nn BK549 hg; have NB577_549 := nm BK549 hg; replace BK549 := nb BK549 hb; have NB554_577 := nn BK554 hg; have NB577_554 := nm BK554 hg; replace BK554 := nb BK554 hb; clear hb hg; obtain ⟨Ao107, co107, eo107⟩ := Kd.R_slice HO572.out; subst eo107; have hnb108 := NB577_543.out; have hnc108 := NB543_577.out; have hnb109 := NB577_544.out; have hnc109 := NB544_577.out; have hnb110 := NB577_549.out; have hnc110 := NB549_577.out; have hnb111 := NB577_554.out; have hnc111 := NB554_577.out; have hcz112_0 := cz1 BK577; have hfz112_0 := fz1 BK577))
     (try simp only [Act.put, List.setIfInBounds_toArray, List.set_cons_zero, List.set_cons_succ])
     go_cut [181] (fun v181 wc => ∃ (kq : Nat) (x181_91 : Bool), v181 = .bool x181_91 ∧ Aside0 (laws_FnMapped.j4 kq t573 x181_91 t539 t540 t541 t542 t545 = some r) ∧ Aside0 (kq ≤ k2) ∧ Aside0 (Kd.R k43 43 wc w.heap.size (fun _ => True) v574 t573) ∧ Aside0 (Kd.R k27 27 wc w.heap.size (fun k_ => some k_ ≠ ((.slice Ao16 t545.length co16) : Value).ownBlock ∧ some k_ ≠ ((.slice Ao24 t550.length co24) : Value).ownBlock ∧ some k_ ≠ ((.slice Ao107 t570.length co107) : Value).ownBlock ∧ k_ ≠ gb544) (.slice Ao10 t536.length co10) t536) ∧ Aside0 (Kd.R k27 27 wc w.heap.size (fun k_ => some k_ ≠ ((.slice Ao10 t536.length co10) : Value).ownBlock ∧ some k_ ≠ ((.slice Ao24 t550.length co24) : Value).ownBlock ∧ some k_ ≠ ((.slice Ao107 t570.length co107) : Value).ownBlock ∧ k_ ≠ gb544) (.slice Ao16 t545.length co16) t545) ∧ Aside0 (Kd.R k27 27 wc w.heap.size (fun k_ => some k_ ≠ ((.slice Ao10 t536.length co10) : Value).ownBlock ∧ some k_ ≠ ((.slice Ao16 t545.length co16) : Value).ownBlock ∧ some k_ ≠ ((.slice Ao107 t570.length co107) : Value).ownBlock ∧ k_ ≠ gb544) (.slice Ao24 t550.length co24) t550) ∧ Aside0 (Kd.R k27 27 wc w.heap.size (fun k_ => some k_ ≠ ((.slice Ao10 t536.length co10) : Value).ownBlock ∧ some k_ ≠ ((.slice Ao16 t545.length co16) : Value).ownBlock ∧ some k_ ≠ ((.slice Ao24 t550.length co24) : Value).ownBlock ∧ k_ ≠ gb544) (.slice Ao107 t570.length co107) t570) ∧ Aside0 (wc.heap[gb543]? = some (.cells #[(.slice Ao10 t536.length co10)] 25 (0, 0))) ∧ Aside0 (wc.heap[gb544]? = some (.cells #[.int .i64 t539, .int .i64 t540, .int .i64 t541, .bool t542] 27 (0, 0))) ∧ Aside0 (wc.heap[gb549]? = some (.cells #[(.slice Ao16 t545.length co16)] 25 (0, 0))) ∧ Aside0 (wc.heap[gb554]? = some (.cells #[(.slice Ao24 t550.length co24)] 25 (0, 0))) ∧ Aside0 (wc.heap[gb577]? = some (.cells #[(.slice Ao107 t570.length co107)] 25 (0, 0))) ∧ Aside0 (Below w.heap.size w wc))
     case first =>
      have H := HC92.out;clear HC92
      by_cases c113 : t566 = true
      rotate_left
      ·
       replace c113 := Bool.eq_false_iff.mpr c113;subst c113;rw [if_neg fne] at H;have H' := Ah H;clear H
       go_wp2
       go_meet
       case rel => exact ⟨_, (true), e3, H', ⟨by have := HJ5.out; have := HK2.out; first | omega | exact Nat.le_refl _⟩, ⟨by (with_reducible repeat (first | apply Kd.R_alloc | apply Kd.R_drewN | apply Kd.R_drew)); exact Kd.R_mono (Kd.R_far (p := ⟨gb577, 0, none⟩) (Kd.R_types HO575.out BK577.out (by decide)) (fun _ hk => hk.2) (.slice Ao107 t570.length co107)) (fun _ hk => trivial)⟩, ⟨by (with_reducible repeat (first | apply Kd.R_alloc | apply Kd.R_drewN | apply Kd.R_drew)); exact Kd.R_mono (Kd.R_far (p := ⟨gb577, 0, none⟩) (Kd.R_types HO_544000.out BK577.out (by decide)) (fun _ hk => hk.2) (.slice Ao107 t570.length co107)) (fun _ hk => ⟨hk.1.1.1, ⟨hk.1.1.2.1, ⟨hk.1.2, hk.1.1.2.2⟩⟩⟩)⟩, ⟨by (with_reducible repeat (first | apply Kd.R_alloc | apply Kd.R_drewN | apply Kd.R_drew)); exact Kd.R_mono (Kd.R_far (p := ⟨gb577, 0, none⟩) (Kd.R_types HO_550000.out BK577.out (by decide)) (fun _ hk => hk.2) (.slice Ao107 t570.length co107)) (fun _ hk => ⟨hk.1.1.1, ⟨hk.1.1.2.1, ⟨hk.1.2, hk.1.1.2.2⟩⟩⟩)⟩, ⟨by (with_reducible repeat (first | apply Kd.R_alloc | apply Kd.R_drewN | apply Kd.R_drew)); exact Kd.R_mono (Kd.R_far (p := ⟨gb577, 0, none⟩) (Kd.R_types HO_555000.out BK577.out (by decide)) (fun _ hk => hk.2) (.slice Ao107 t570.length co107)) (fun _ hk => ⟨hk.1.1.1, ⟨hk.1.1.2.1, ⟨hk.1.2, hk.1.1.2.2⟩⟩⟩)⟩, ⟨by (with_reducible repeat (first | apply Kd.R_alloc | apply Kd.R_drewN | apply Kd.R_drew)); exact Kd.R_mono (Kd.R_far (p := ⟨gb577, 0, none⟩) (Kd.R_types HO572.out BK577.out (by decide)) (fun _ hk => hk.2) (.slice Ao107 t570.length co107)) (fun _ hk => ⟨hk.1.1.1.1.2, ⟨hk.1.1.1.2, ⟨hk.1.1.2, hk.1.2⟩⟩⟩)⟩, ⟨bf BK543 NB543_577⟩, ⟨bf BK544 NB544_577⟩, ⟨bf BK549 NB549_577⟩, ⟨bf BK554 NB554_577⟩, ⟨by (with_reducible repeat (first | refine blk_drewN ?_ _ | refine blk_drew ?_ | refine blk_alloc ?_ _)); refine blk_put (cs := #[.slice none 0 0]) ?_ 0 _ rfl; (with_reducible repeat (first | refine blk_drewN ?_ _ | refine blk_drew ?_ | refine blk_alloc ?_ _)); exact BK577.out⟩, ⟨bs5 HB GE543 GE544 GE549 GE554 GE577⟩⟩
      subst c113;rw [if_pos rfl] at H
      by_cases c114 : t569 = true
      rotate_left
      ·
       replace c114 := Bool.eq_false_iff.mpr c114;subst c114;rw [if_neg fne] at H;have H' := Ah H;clear H
       go_wp2
       go_meet
       case rel => exact ⟨_, (true), e3, H', ⟨by have := HJ5.out; have := HK2.out; first | omega | exact Nat.le_refl _⟩, ⟨by (with_reducible repeat (first | apply Kd.R_alloc | apply Kd.R_drewN | apply Kd.R_drew)); exact Kd.R_mono (Kd.R_far (p := ⟨gb577, 0, none⟩) (Kd.R_types HO575.out BK577.out (by decide)) (fun _ hk => hk.2) (.slice Ao107 t570.length co107)) (fun _ hk => trivial)⟩, ⟨by (with_reducible repeat (first | apply Kd.R_alloc | apply Kd.R_drewN | apply Kd.R_drew)); exact Kd.R_mono (Kd.R_far (p := ⟨gb577, 0, none⟩) (Kd.R_types HO_544000.out BK577.out (by decide)) (fun _ hk => hk.2) (.slice Ao107 t570.length co107)) (fun _ hk => ⟨hk.1.1.1, ⟨hk.1.1.2.1, ⟨hk.1.2, hk.1.1.2.2⟩⟩⟩)⟩, ⟨by (with_reducible repeat (first | apply Kd.R_alloc | apply Kd.R_drewN | apply Kd.R_drew)); exact Kd.R_mono (Kd.R_far (p := ⟨gb577, 0, none⟩) (Kd.R_types HO_550000.out BK577.out (by decide)) (fun _ hk => hk.2) (.slice Ao107 t570.length co107)) (fun _ hk => ⟨hk.1.1.1, ⟨hk.1.1.2.1, ⟨hk.1.2, hk.1.1.2.2⟩⟩⟩)⟩, ⟨by (with_reducible repeat (first | apply Kd.R_alloc | apply Kd.R_drewN | apply Kd.R_drew)); exact Kd.R_mono (Kd.R_far (p := ⟨gb577, 0, none⟩) (Kd.R_types HO_555000.out BK577.out (by decide)) (fun _ hk => hk.2) (.slice Ao107 t570.length co107)) (fun _ hk => ⟨hk.1.1.1, ⟨hk.1.1.2.1, ⟨hk.1.2, hk.1.1.2.2⟩⟩⟩)⟩, ⟨by (with_reducible repeat (first | apply Kd.R_alloc | apply Kd.R_drewN | apply Kd.R_drew)); exact Kd.R_mono (Kd.R_far (p := ⟨gb577, 0, none⟩) (Kd.R_types HO572.out BK577.out (by decide)) (fun _ hk => hk.2) (.slice Ao107 t570.length co107)) (fun _ hk => ⟨hk.1.1.1.1.2, ⟨hk.1.1.1.2, ⟨hk.1.1.2, hk.1.2⟩⟩⟩)⟩, ⟨bf BK543 NB543_577⟩, ⟨bf BK544 NB544_577⟩, ⟨bf BK549 NB549_577⟩, ⟨bf BK554 NB554_577⟩, ⟨by (with_reducible repeat (first | refine blk_drewN ?_ _ | refine blk_drew ?_ | refine blk_alloc ?_ _)); refine blk_put (cs := #[.slice none 0 0]) ?_ 0 _ rfl; (with_reducible repeat (first | refine blk_drewN ?_ _ | refine blk_drew ?_ | refine blk_alloc ?_ _)); exact BK577.out⟩, ⟨bs5 HB GE543 GE544 GE549 GE554 GE577⟩⟩
      subst c114;rw [if_pos rfl] at H
      by_cases c115 : t576 = true
      rotate_left
      ·
       replace c115 := Bool.eq_false_iff.mpr c115;subst c115;rw [if_neg fne] at H;have H' := Ah H;clear H
       go_wp2
       go_meet
       case rel => exact ⟨_, (true), e3, H', ⟨by have := HJ5.out; have := HK2.out; first | omega | exact Nat.le_refl _⟩, ⟨by (with_reducible repeat (first | apply Kd.R_alloc | apply Kd.R_drewN | apply Kd.R_drew)); exact Kd.R_mono (Kd.R_far (p := ⟨gb577, 0, none⟩) (Kd.R_types HO575.out BK577.out (by decide)) (fun _ hk => hk.2) (.slice Ao107 t570.length co107)) (fun _ hk => trivial)⟩, ⟨by (with_reducible repeat (first | apply Kd.R_alloc | apply Kd.R_drewN | apply Kd.R_drew)); exact Kd.R_mono (Kd.R_far (p := ⟨gb577, 0, none⟩) (Kd.R_types HO_544000.out BK577.out (by decide)) (fun _ hk => hk.2) (.slice Ao107 t570.length co107)) (fun _ hk => ⟨hk.1.1.1, ⟨hk.1.1.2.1, ⟨hk.1.2, hk.1.1.2.2⟩⟩⟩)⟩, ⟨by (with_reducible repeat (first | apply Kd.R_alloc | apply Kd.R_drewN | apply Kd.R_drew)); exact Kd.R_mono (Kd.R_far (p := ⟨gb577, 0, none⟩) (Kd.R_types HO_550000.out BK577.out (by decide)) (fun _ hk => hk.2) (.slice Ao107 t570.length co107)) (fun _ hk => ⟨hk.1.1.1, ⟨hk.1.1.2.1, ⟨hk.1.2, hk.1.1.2.2⟩⟩⟩)⟩, ⟨by (with_reducible repeat (first | apply Kd.R_alloc | apply Kd.R_drewN | apply Kd.R_drew)); exact Kd.R_mono (Kd.R_far (p := ⟨gb577, 0, none⟩) (Kd.R_types HO_555000.out BK577.out (by decide)) (fun _ hk => hk.2) (.slice Ao107 t570.length co107)) (fun _ hk => ⟨hk.1.1.1, ⟨hk.1.1.2.1, ⟨hk.1.2, hk.1.1.2.2⟩⟩⟩)⟩, ⟨by (with_reducible repeat (first | apply Kd.R_alloc | apply Kd.R_drewN | apply Kd.R_drew)); exact Kd.R_mono (Kd.R_far (p := ⟨gb577, 0, none⟩) (Kd.R_types HO572.out BK577.out (by decide)) (fun _ hk => hk.2) (.slice Ao107 t570.length co107)) (fun _ hk => ⟨hk.1.1.1.1.2, ⟨hk.1.1.1.2, ⟨hk.1.1.2, hk.1.2⟩⟩⟩)⟩, ⟨bf BK543 NB543_577⟩, ⟨bf BK544 NB544_577⟩, ⟨bf BK549 NB549_577⟩, ⟨bf BK554 NB554_577⟩, ⟨by (with_reducible repeat (first | refine blk_drewN ?_ _ | refine blk_drew ?_ | refine blk_alloc ?_ _)); refine blk_put (cs := #[.slice none 0 0]) ?_ 0 _ rfl; (with_reducible repeat (first | refine blk_drewN ?_ _ | refine blk_drew ?_ | refine blk_alloc ?_ _)); exact BK577.out⟩, ⟨bs5 HB GE543 GE544 GE549 GE554 GE577⟩⟩
      subst c115;rw [if_pos rfl] at H
      by_cases c116 : t567 = (wrap64 (t564 + t540))
      rotate_left
      ·
       rw [if_neg c116] at H;have c116b0 : (t567 == (wrap64 (t564 + t540))) = false := beq_eq_false_iff_ne.mpr c116;have c116b1 : (t567 != (wrap64 (t564 + t540))) = true := bne_iff_ne.mpr c116;(first | rw [c116b0] | (simp only [i64_w, i32_w]; rw [c116b0]) | (simp only [c116b2, Bool.not_false, Bool.not_true]) | skip);have H' := Ah H;clear H;have hnb137 := NB544_543.out;have hnc137 := NB543_544.out;have hnb138 := NB544_549.out;have hnc138 := NB549_544.out;have hnb139 := NB544_554.out;have hnc139 := NB554_544.out;have hnb140 := NB544_577.out;have hnc140 := NB577_544.out;obtain ⟨hcz141_0, hcz141_1, hcz141_2, hcz141_3⟩ := cz4 BK544;obtain ⟨hfz141_0, hfz141_1, hfz141_2, hfz141_3⟩ := fz4 BK544
       go_wp2
       go_meet
       case rel => exact ⟨_, (true), e3, H', ⟨by have := HJ5.out; have := HK2.out; first | omega | exact Nat.le_refl _⟩, ⟨by (with_reducible repeat (first | apply Kd.R_alloc | apply Kd.R_drewN | apply Kd.R_drew)); exact Kd.R_mono (Kd.R_far (p := ⟨gb577, 0, none⟩) (Kd.R_types HO575.out BK577.out (by decide)) (fun _ hk => hk.2) (.slice Ao107 t570.length co107)) (fun _ hk => trivial)⟩, ⟨by (with_reducible repeat (first | apply Kd.R_alloc | apply Kd.R_drewN | apply Kd.R_drew)); exact Kd.R_mono (Kd.R_far (p := ⟨gb577, 0, none⟩) (Kd.R_types HO_544000.out BK577.out (by decide)) (fun _ hk => hk.2) (.slice Ao107 t570.length co107)) (fun _ hk => ⟨hk.1.1.1, ⟨hk.1.1.2.1, ⟨hk.1.2, hk.1.1.2.2⟩⟩⟩)⟩, ⟨by (with_reducible repeat (first | apply Kd.R_alloc | apply Kd.R_drewN | apply Kd.R_drew)); exact Kd.R_mono (Kd.R_far (p := ⟨gb577, 0, none⟩) (Kd.R_types HO_550000.out BK577.out (by decide)) (fun _ hk => hk.2) (.slice Ao107 t570.length co107)) (fun _ hk => ⟨hk.1.1.1, ⟨hk.1.1.2.1, ⟨hk.1.2, hk.1.1.2.2⟩⟩⟩)⟩, ⟨by (with_reducible repeat (first | apply Kd.R_alloc | apply Kd.R_drewN | apply Kd.R_drew)); exact Kd.R_mono (Kd.R_far (p := ⟨gb577, 0, none⟩) (Kd.R_types HO_555000.out BK577.out (by decide)) (fun _ hk => hk.2) (.slice Ao107 t570.length co107)) (fun _ hk => ⟨hk.1.1.1, ⟨hk.1.1.2.1, ⟨hk.1.2, hk.1.1.2.2⟩⟩⟩)⟩, ⟨by (with_reducible repeat (first | apply Kd.R_alloc | apply Kd.R_drewN | apply Kd.R_drew)); exact Kd.R_mono (Kd.R_far (p := ⟨gb577, 0, none⟩) (Kd.R_types HO572.out BK577.out (by decide)) (fun _ hk => hk.2) (.slice Ao107 t570.length co107)) (fun _ hk => ⟨hk.1.1.1.1.2, ⟨hk.1.1.1.2, ⟨hk.1.1.2, hk.1.2⟩⟩⟩)⟩, ⟨bf BK543 NB543_577⟩, ⟨bf BK544 NB544_577⟩, ⟨bf BK549 NB549_577⟩, ⟨bf BK554 NB554_577⟩, ⟨by (with_reducible repeat (first | refine blk_drewN ?_ _ | refine blk_drew ?_ | refine blk_alloc ?_ _)); refine blk_put (cs := #[.slice none 0 0]) ?_ 0 _ rfl; (with_reducible repeat (first | refine blk_drewN ?_ _ | refine blk_drew ?_ | refine blk_alloc ?_ _)); exact BK577.out⟩, ⟨bs5 HB GE543 GE544 GE549 GE554 GE577⟩⟩
      rw [if_pos c116] at H;have c116b0 : (t567 == (wrap64 (t564 + t540))) = true := beq_iff_eq.mpr c116;have c116b1 : (t567 != (wrap64 (t564 + t540))) = false := bne_eq_false_iff_eq.mpr c116;clear c116;(first | rw [c116b0] | (simp only [i64_w, i32_w]; rw [c116b0]) | (simp only [c116b2, Bool.not_false, Bool.not_true]) | skip)
      by_cases c117 : t568 < t565
      ·
       rw [if_pos c117] at H;have c117b0 : decide (t568 < t565) = true := decide_eq_true c117;clear c117;have H' := Ah H;clear H;have hnb118 := NB544_543.out;have hnc118 := NB543_544.out;have hnb119 := NB544_549.out;have hnc119 := NB549_544.out;have hnb120 := NB544_554.out;have hnc120 := NB554_544.out;have hnb121 := NB544_577.out;have hnc121 := NB577_544.out;obtain ⟨hcz122_0, hcz122_1, hcz122_2, hcz122_3⟩ := cz4 BK544;obtain ⟨hfz122_0, hfz122_1, hfz122_2, hfz122_3⟩ := fz4 BK544
       go_wp2
       go_meet
       case rel => exact ⟨_, (true), e3, H', ⟨by have := HJ5.out; have := HK2.out; first | omega | exact Nat.le_refl _⟩, ⟨by (with_reducible repeat (first | apply Kd.R_alloc | apply Kd.R_drewN | apply Kd.R_drew)); exact Kd.R_mono (Kd.R_far (p := ⟨gb577, 0, none⟩) (Kd.R_types HO575.out BK577.out (by decide)) (fun _ hk => hk.2) (.slice Ao107 t570.length co107)) (fun _ hk => trivial)⟩, ⟨by (with_reducible repeat (first | apply Kd.R_alloc | apply Kd.R_drewN | apply Kd.R_drew)); exact Kd.R_mono (Kd.R_far (p := ⟨gb577, 0, none⟩) (Kd.R_types HO_544000.out BK577.out (by decide)) (fun _ hk => hk.2) (.slice Ao107 t570.length co107)) (fun _ hk => ⟨hk.1.1.1, ⟨hk.1.1.2.1, ⟨hk.1.2, hk.1.1.2.2⟩⟩⟩)⟩, ⟨by (with_reducible repeat (first | apply Kd.R_alloc | apply Kd.R_drewN | apply Kd.R_drew)); exact Kd.R_mono (Kd.R_far (p := ⟨gb577, 0, none⟩) (Kd.R_types HO_550000.out BK577.out (by decide)) (fun _ hk => hk.2) (.slice Ao107 t570.length co107)) (fun _ hk => ⟨hk.1.1.1, ⟨hk.1.1.2.1, ⟨hk.1.2, hk.1.1.2.2⟩⟩⟩)⟩, ⟨by (with_reducible repeat (first | apply Kd.R_alloc | apply Kd.R_drewN | apply Kd.R_drew)); exact Kd.R_mono (Kd.R_far (p := ⟨gb577, 0, none⟩) (Kd.R_types HO_555000.out BK577.out (by decide)) (fun _ hk => hk.2) (.slice Ao107 t570.length co107)) (fun _ hk => ⟨hk.1.1.1, ⟨hk.1.1.2.1, ⟨hk.1.2, hk.1.1.2.2⟩⟩⟩)⟩, ⟨by (with_reducible repeat (first | apply Kd.R_alloc | apply Kd.R_drewN | apply Kd.R_drew)); exact Kd.R_mono (Kd.R_far (p := ⟨gb577, 0, none⟩) (Kd.R_types HO572.out BK577.out (by decide)) (fun _ hk => hk.2) (.slice Ao107 t570.length co107)) (fun _ hk => ⟨hk.1.1.1.1.2, ⟨hk.1.1.1.2, ⟨hk.1.1.2, hk.1.2⟩⟩⟩)⟩, ⟨bf BK543 NB543_577⟩, ⟨bf BK544 NB544_577⟩, ⟨bf BK549 NB549_577⟩, ⟨bf BK554 NB554_577⟩, ⟨by (with_reducible repeat (first | refine blk_drewN ?_ _ | refine blk_drew ?_ | refine blk_alloc ?_ _)); refine blk_put (cs := #[.slice none 0 0]) ?_ 0 _ rfl; (with_reducible repeat (first | refine blk_drewN ?_ _ | refine blk_drew ?_ | refine blk_alloc ?_ _)); exact BK577.out⟩, ⟨bs5 HB GE543 GE544 GE549 GE554 GE577⟩⟩
      rw [if_neg c117] at H;have c117b0 : decide (t568 < t565) = false := decide_eq_false c117;clear c117;replace H := Option.bind_eq_some_iff.mp H;obtain ⟨t578, A1230, H⟩ := H
      try dsimp only at H
      have A123 := Ah A1230;clear A1230;have H' := Ah H;clear H;have hnb124 := NB544_543.out;have hnc124 := NB543_544.out;have hnb125 := NB544_549.out;have hnc125 := NB549_544.out;have hnb126 := NB544_554.out;have hnc126 := NB554_544.out;have hnb127 := NB544_577.out;have hnc127 := NB577_544.out;obtain ⟨hcz128_0, hcz128_1, hcz128_2, hcz128_3⟩ := cz4 BK544;obtain ⟨hfz128_0, hfz128_1, hfz128_2, hfz128_3⟩ := fz4 BK544;have hnb129 := NB577_543.out;have hnc129 := NB543_577.out;have hnb130 := NB577_549.out;have hnc130 := NB549_577.out;have hnb131 := NB577_554.out;have hnc131 := NB554_577.out;have hcz132_0 := cz1 BK577;have hfz132_0 := fz1 BK577;have hnb133 := NB543_549.out;have hnc133 := NB549_543.out;have hnb134 := NB543_554.out;have hnc134 := NB554_543.out;have hcz135_0 := cz1 BK543;have hfz135_0 := fz1 BK543
      go_wp2_with (first | (go_at_call 7; (with_reducible refine (laws_sameMaps.calls k2 _ _ t570 _ _ t536 t578 _ ?side1 ?side2 ?side3 ?side4 A123.out).mono ?_); (case side1 => exact rc HO572 BK577); (case side2 => exact (Kd.R_reads' HO572.out).2.1); (case side3 => exact rc HO_544000 BK577); (case side4 => exact (Kd.R_reads' HO_544000.out).2.1); rintro e w136 ⟨rfl, hb⟩; replace HO_544000 := nf HO_544000 BK577 hb; replace HO_550000 := nf HO_550000 BK577 hb; replace HO_555000 := nf HO_555000 BK577 hb; replace HO572 := nf HO572 BK577 hb; replace HO575 := nf HO575 BK577 hb; replace BK543 := Ah (blk_below (bf BK543 NB543_577) hb); replace BK544 := Ah (blk_below (bf BK544 NB544_577) hb); replace BK549 := Ah (blk_below (bf BK549 NB549_577) hb); replace BK554 := Ah (blk_below (bf BK554 NB554_577) hb); replace BK577 := Ah (blk_below (g := gb577) (o := .cells #[.slice Ao107 t570.length co107] 25 (0, 0)) (by (with_reducible repeat (first | refine blk_drewN ?_ _ | refine blk_drew ?_ | refine blk_alloc ?_ _)); refine blk_put (cs := #[.slice none 0 0]) ?_ 0 _ rfl; (with_reducible repeat (first | refine blk_drewN ?_ _ | refine blk_drew ?_ | refine blk_alloc ?_ _)); exact BK577.out) hb); replace HB := Ah (below_step (bs5 HB GE543 GE544 GE549 GE554 GE577) hb); (try clear hb)))
      go_meet
      case rel => exact ⟨_, (!t578), e3, H', ⟨by have := HJ5.out; have := HK2.out; first | omega | exact Nat.le_refl _⟩, ⟨rr HO575.out⟩, rm HO_544000 (fun _ hk => ⟨hk.1.1, ⟨hk.1.2.1, ⟨hk.2, hk.1.2.2⟩⟩⟩), rm HO_550000 (fun _ hk => ⟨hk.1.1, ⟨hk.1.2.1, ⟨hk.2, hk.1.2.2⟩⟩⟩), rm HO_555000 (fun _ hk => ⟨hk.1.1, ⟨hk.1.2.1, ⟨hk.2, hk.1.2.2⟩⟩⟩), rm HO572 (fun _ hk => ⟨hk.1.1.1.2, ⟨hk.1.1.2, ⟨hk.1.2, hk.2⟩⟩⟩), ⟨bk BK543⟩, ⟨bk BK544⟩, ⟨bk BK549⟩, ⟨bk BK554⟩, ⟨bk BK577⟩, ⟨bs5 HB GE543 GE544 GE549 GE554 GE577⟩⟩
     case rest =>
      clear HC92
      try clear c1
      try clear c2
      try clear p2
      try clear c3
      try clear c4
      try clear c5
      try clear c6
      try clear p6
      try clear c7
      try clear c8
      try clear c9
      try clear c10
      try clear c11
      try clear c12
      try clear c13
      try clear c14
      try clear c29
      try clear c29b0
      try clear c29b1
      try clear c29b2
      try clear c33
      try clear c44
      try clear c45
      try clear c46
      try clear c46b0
      try clear c50
      try clear c51
      try clear c52
      try clear c55
      try clear c56
      try clear c59
      try clear c60
      try clear c62
      try clear c62b0
      try clear c63
      try clear c64
      try clear p64
      try clear c65
      try clear c67
      try clear c68
      try clear c69
      try clear c71
      try clear c72
      try clear c72b0
      try clear c72b1
      try clear c73
      try clear c73b0
      try clear c73b1
      try clear c74
      try clear c74b0
      try clear c74b1
      try clear c74b2
      try clear c75
      try clear c76
      try clear c77
      try clear c79
      try clear c80
      try clear c81
      try clear c83
      try clear c84
      try clear c85
      try clear c87
      try clear c87b0
      try clear c87b1
      try clear c88
      try clear c88b0
      try clear c88b1
      try clear c88b2
      try clear c93
      try clear c94
      try clear c95
      try clear c98
      try clear c99
      try clear c103
      try clear c108
      try clear c109
      try clear c110
      try clear c111
      try clear c113
      try clear c114
      try clear c115
      try clear c116
      try clear c116b0
      try clear c116b1
      try clear c117
      try clear c117b0
      try clear c118
      try clear c119
      try clear c120
      try clear c121
      try clear c124
      try clear c125
      try clear c126
      try clear c127
      try clear c129
      try clear c130
      try clear c131
      try clear c133
      try clear c134
      try clear c137
      try clear c138
      try clear c139
      try clear c140
      try clear hcz100_0
      try clear hcz102_0
      try clear hcz104_0 hcz104_1 hcz104_2 hcz104_3
      try clear hcz112_0
      try clear hcz122_0 hcz122_1 hcz122_2 hcz122_3
      try clear hcz128_0 hcz128_1 hcz128_2 hcz128_3
      try clear hcz132_0
      try clear hcz135_0
      try clear hcz141_0 hcz141_1 hcz141_2 hcz141_3
      try clear hcz53_0
      try clear hcz57_0
      try clear hcz66_0 hcz66_1 hcz66_2 hcz66_3
      try clear hcz70_0 hcz70_1 hcz70_2 hcz70_3
      try clear hcz78_0 hcz78_1 hcz78_2 hcz78_3
      try clear hcz82_0 hcz82_1 hcz82_2 hcz82_3
      try clear hcz86_0 hcz86_1 hcz86_2 hcz86_3
      try clear hcz96_0
      try clear hfz100_0
      try clear hfz102_0
      try clear hfz104_0 hfz104_1 hfz104_2 hfz104_3
      try clear hfz112_0
      try clear hfz122_0 hfz122_1 hfz122_2 hfz122_3
      try clear hfz128_0 hfz128_1 hfz128_2 hfz128_3
      try clear hfz132_0
      try clear hfz135_0
      try clear hfz141_0 hfz141_1 hfz141_2 hfz141_3
      try clear hfz53_0
      try clear hfz57_0
      try clear hfz66_0 hfz66_1 hfz66_2 hfz66_3
      try clear hfz70_0 hfz70_1 hfz70_2 hfz70_3
      try clear hfz78_0 hfz78_1 hfz78_2 hfz78_3
      try clear hfz82_0 hfz82_1 hfz82_2 hfz82_3
      try clear hfz86_0 hfz86_1 hfz86_2 hfz86_3
      try clear hfz96_0
      try clear p2
      try clear p6
      try clear p64
      obtain ⟨kq, x181_91, rfl, HA, HJ91, HO_23, HO_544000, HO_550000, HO_555000, HO_578000, BK543, BK544, BK549, BK554, BK577, HB⟩ := hcut
      cases kq with
      | zero => exact absurd HA.out (by simp [laws_FnMapped.j4])
      | succ kj91 =>
       have H := HA.out;clear HA;simp only [laws_FnMapped.j4] at H
       by_cases c142 : x181_91 = true
       ·
        subst c142;rw [if_pos rfl] at H;obtain rfl := Option.some.inj H
        go_wp2
        go_ret
        exact ⟨er, bs5 HB GE543 GE544 GE549 GE554 GE577⟩
       replace c142 := Bool.eq_false_iff.mpr c142;subst c142;rw [if_neg fne] at H;obtain ⟨y579, hy579⟩ : ∃ y_ : List (S43), y_ = (([(⟨t541, t540⟩ : S43)] : List (S43))) := ⟨_, rfl⟩
       replace H : ((laws_sameExtents.f kj91 t573 y579).bind fun t582 => (if t582 = true then ((impl_GoodMap.f kj91 t545).bind fun t583 => (some t583)) else (some false))) = some r := by first | (rw [hy579]; with_reducible exact H) | (have H2_ := (Option.bind_some _ _).symm.trans H; rw [hy579]; with_reducible exact H2_) | (have H2_ := (Option.bind_some _ _).symm.trans H; with_reducible exact H2_) | with_reducible exact H | (rw [hy579]; exact H) | exact H
       have Ny579 := Ah hy579;clear hy579;replace H := Option.bind_eq_some_iff.mp H;obtain ⟨t582, A1430, H⟩ := H
       try dsimp only at H
       have A143 := Ah A1430;clear A1430
       by_cases c144 : t582 = true
       rotate_left
       ·
        replace c144 := Bool.eq_false_iff.mpr c144;subst c144;rw [if_neg fne] at H;obtain rfl := Option.some.inj H;have hnb160 := NB544_543.out;have hnc160 := NB543_544.out;have hnb161 := NB544_549.out;have hnc161 := NB549_544.out;have hnb162 := NB544_554.out;have hnc162 := NB554_544.out;have hnb163 := NB544_577.out;have hnc163 := NB577_544.out;obtain ⟨hcz164_0, hcz164_1, hcz164_2, hcz164_3⟩ := cz4 BK544;obtain ⟨hfz164_0, hfz164_1, hfz164_2, hfz164_3⟩ := fz4 BK544
        go_wp2_with (first | ((with_reducible refine gate_dst (N := 188) rfl ?_); refine Kd.R_lit k43 _ 43 ?hg (N := 188) ?hd (xs := ([(⟨t541, t540⟩ : S43)] : List (S43))) (inner := [.int .i64 t541, .int .i64 t540]) (ok := fun _ => True) (okp := fun _ => True) ?hr ?hp (fun _ hk => hk) trivial (Below.refl _ _) (Nat.le_refl _) (by simp) ?_; (case hd => rfl); (case hg => rfl); (case hr => first | (go_simp; done) | (go_simp; rfl)); (case hp => exact (Reps.c2 (show Kd.M k43 _ _ _ (⟨t541, t540⟩ : S43) [.int .i64 t541, .int .i64 t540] from (k43_mkM _ _ _ (⟨t541, t540⟩ : S43) )) (Reps.none _ _))); intro v580 w165 ho166 hb hg_ hnew_; clear hg_ hnew_; (first | rw [← Ny579.out] at ho166 | (simp only [Int.reduceToNat] at ho166; rw [← Ny579.out] at ho166)); replace HO_544000 := nr HO_544000 hb; replace HO_550000 := nr HO_550000 hb; replace HO_555000 := nr HO_555000 hb; replace HO_578000 := nr HO_578000 hb; have HO581 := Ah (Kd.R_lower (Kd.R_new' ho166 (Kd.R_lt (rr HO_23.out))) (below_size (bs5 HB GE543 GE544 GE549 GE554 GE577))); replace HO_23 := Ah (Kd.R_elder' (rr HO_23.out) (Kd.R_base ho166) hb); replace BK543 := nb BK543 hb; replace BK544 := nb BK544 hb; replace BK549 := nb BK549 hb; replace BK554 := nb BK554 hb; replace BK577 := nb BK577 hb; replace HB := Ah (below_step (bs5 HB GE543 GE544 GE549 GE554 GE577) hb); clear hb ho166; obtain ⟨Ao167, co167, eo167⟩ := Kd.R_slice HO_23.out; subst eo167; obtain ⟨Ao168, co168, eo168⟩ := Kd.R_slice HO581.out; subst eo168) | ((with_reducible refine gate_callee (f := 13) rfl ?_); refine gL (some 189) rfl rfl Try.func13 (by kernel_rfl) rfl #[.slice Ao167 t573.length co167, .slice Ao168 y579.length co168] rfl ?_; (with_reducible refine (laws_sameExtents.calls kj91 _ _ t573 _ _ y579 false _ ?side1 ?side2 ?side3 ?side4 A143.out).mono ?_); (case side1 => exact rc0 HO_23); (case side2 => exact (Kd.R_reads' HO_23.out).2.1); (case side3 => exact rc0 HO581); (case side4 => exact (Kd.R_reads' HO581.out).2.1); rintro e w' ⟨rfl, ⟨nd, rfl⟩⟩; refine ⟨_, rfl, ?_⟩))
        go_ret
        exact ⟨er, bs5 HB GE543 GE544 GE549 GE554 GE577⟩
       subst c144;rw [if_pos rfl] at H;replace H := Option.bind_eq_some_iff.mp H;obtain ⟨t583, A1450, H⟩ := H
       try dsimp only at H
       have A145 := Ah A1450;clear A1450;obtain rfl := Option.some.inj H;have hnb146 := NB544_543.out;have hnc146 := NB543_544.out;have hnb147 := NB544_549.out;have hnc147 := NB549_544.out;have hnb148 := NB544_554.out;have hnc148 := NB554_544.out;have hnb149 := NB544_577.out;have hnc149 := NB577_544.out;obtain ⟨hcz150_0, hcz150_1, hcz150_2, hcz150_3⟩ := cz4 BK544;obtain ⟨hfz150_0, hfz150_1, hfz150_2, hfz150_3⟩ := fz4 BK544
       go_wp2_with (first | ((with_reducible refine gate_dst (N := 188) rfl ?_); refine Kd.R_lit k43 _ 43 ?hg (N := 188) ?hd (xs := ([(⟨t541, t540⟩ : S43)] : List (S43))) (inner := [.int .i64 t541, .int .i64 t540]) (ok := fun _ => True) (okp := fun _ => True) ?hr ?hp (fun _ hk => hk) trivial (Below.refl _ _) (Nat.le_refl _) (by simp) ?_; (case hd => rfl); (case hg => rfl); (case hr => first | (go_simp; done) | (go_simp; rfl)); (case hp => exact (Reps.c2 (show Kd.M k43 _ _ _ (⟨t541, t540⟩ : S43) [.int .i64 t541, .int .i64 t540] from (k43_mkM _ _ _ (⟨t541, t540⟩ : S43) )) (Reps.none _ _))); intro v580 w151 ho152 hb hg_ hnew_; clear hg_ hnew_; (first | rw [← Ny579.out] at ho152 | (simp only [Int.reduceToNat] at ho152; rw [← Ny579.out] at ho152)); replace HO_544000 := nr HO_544000 hb; replace HO_550000 := nr HO_550000 hb; replace HO_555000 := nr HO_555000 hb; replace HO_578000 := nr HO_578000 hb; have HO581 := Ah (Kd.R_lower (Kd.R_new' ho152 (Kd.R_lt (rr HO_23.out))) (below_size (bs5 HB GE543 GE544 GE549 GE554 GE577))); replace HO_23 := Ah (Kd.R_elder' (rr HO_23.out) (Kd.R_base ho152) hb); replace BK543 := nb BK543 hb; replace BK544 := nb BK544 hb; replace BK549 := nb BK549 hb; replace BK554 := nb BK554 hb; replace BK577 := nb BK577 hb; replace HB := Ah (below_step (bs5 HB GE543 GE544 GE549 GE554 GE577) hb); clear hb ho152; obtain ⟨Ao153, co153, eo153⟩ := Kd.R_slice HO_23.out; subst eo153; obtain ⟨Ao154, co154, eo154⟩ := Kd.R_slice HO581.out; subst eo154) | ((with_reducible refine gate_callee (f := 13) rfl ?_); refine gL (some 189) rfl rfl Try.func13 (by kernel_rfl) rfl #[.slice Ao153 t573.length co153, .slice Ao154 y579.length co154] rfl ?_; (with_reducible refine (laws_sameExtents.calls kj91 _ _ t573 _ _ y579 true _ ?side1 ?side2 ?side3 ?side4 A143.out).mono ?_); (case side1 => exact rc0 HO_23); (case side2 => exact (Kd.R_reads' HO_23.out).2.1); (case side3 => exact rc0 HO581); (case side4 => exact (Kd.R_reads' HO581.out).2.1); rintro e w' ⟨rfl, ⟨nd, rfl⟩⟩; refine ⟨_, rfl, ?_⟩; have hnb155 := NB549_543.out; have hnc155 := NB543_549.out; have hnb156 := NB549_554.out; have hnc156 := NB554_549.out; have hnb157 := NB549_577.out; have hnc157 := NB577_549.out; have hcz158_0 := cz1 BK549; have hfz158_0 := fz1 BK549) | (go_at_call 8; (with_reducible refine (impl_GoodMap.calls kj91 _ _ t545 t583 _ ?side1 ?side2 A145.out).mono ?_); (case side1 => exact rc0 HO_550000); (case side2 => exact (Kd.R_reads' HO_550000.out).2.1); rintro e w159 ⟨rfl, hb⟩; replace HO_23 := nr HO_23 hb; replace HO_544000 := nr HO_544000 hb; replace HO_550000 := nr HO_550000 hb; replace HO_555000 := nr HO_555000 hb; replace HO_578000 := nr HO_578000 hb; replace HO581 := nr HO581 hb; replace BK543 := nb BK543 hb; replace BK544 := nb BK544 hb; replace BK549 := nb BK549 hb; replace BK554 := nb BK554 hb; replace BK577 := nb BK577 hb; replace HB := Ah (below_step (bs5 HB GE543 GE544 GE549 GE554 GE577) hb); (try clear hb)))
       go_ret
       exact ⟨er, bs5 HB GE543 GE544 GE549 GE554 GE577⟩
def laws_FnMapped.Pure : Prop := ∀ (l0 : List Int), (l0.length ≤ maxLen ∧ ∀ y0 ∈ l0, (Lit.int .u8 y0).wf = true) → ∃ k, laws_FnMapped.f k l0 = some true
end Go.Proofs.Ytebhdnihmkndlaa.G
