-- Printed by a program of this session (drive.py, by way of the kit's print). Not trusted: Lean checks it.
import Derived.Test.YtebhdnihmkndlaaG0
import Derived.Test.YtebhdnihmkndlaaG1
import Derived.Test.YtebhdnihmkndlaaG5
namespace Go.Proofs.Ytebhdnihmkndlaa.G
open Go.RowKit Go.Proofs.YtebhdnihmkndlaaW.PrintWords Go.Proofs.YtebhdnihmkndlaaW.PrintLast Go.Proofs.YtebhdnihmkndlaaW.PrintMore
attribute [local go_sem] max2_int min2_int max_two min_two max_three min_three max_four min_four
set_option linter.unusedVariables false
set_option linter.unusedSimpArgs false
attribute [local go_sem high] eqA27
mutual
def impl_GoodMap.l0 : Nat → List Bool → List (S27) → Int → Int → List (S27) → Option (Bool)
 | 0, _, _, _, _, _ => none
 | k + 1, x3, x13, x14, x15, x419000 => if x15 < x14 then (if 0 ≤ x15 then (if x15 < (x13.length : Int) then ((impl_isPiece.f ((rd_T27 x13 x15).f0) ((rd_T27 x13 x15).f1) ((rd_T27 x13 x15).f2) ((rd_T27 x13 x15).f3)).bind fun t424 => (if t424 = true then (if x15 > 0 then (if 0 ≤ (wrap64 (x15 - 1)) then (if (wrap64 (x15 - 1)) < (x419000.length : Int) then (if ((rd_T27 x13 x15).f0) < (wrap64 (((rd_T27 x419000 (wrap64 (x15 - 1))).f0) + ((rd_T27 x419000 (wrap64 (x15 - 1))).f1))) then (impl_GoodMap.j1 k x3 x13 x14 x15 true x419000 ((rd_T27 x13 x15).f0) ((rd_T27 x13 x15).f1) ((rd_T27 x13 x15).f2) ((rd_T27 x13 x15).f3)) else ((impl_continues.f ((rd_T27 x419000 (wrap64 (x15 - 1))).f0) ((rd_T27 x419000 (wrap64 (x15 - 1))).f1) ((rd_T27 x419000 (wrap64 (x15 - 1))).f2) ((rd_T27 x419000 (wrap64 (x15 - 1))).f3) ((rd_T27 x13 x15).f0) ((rd_T27 x13 x15).f1) ((rd_T27 x13 x15).f2) ((rd_T27 x13 x15).f3)).bind fun t428 => (impl_GoodMap.j1 k x3 x13 x14 x15 t428 x419000 ((rd_T27 x13 x15).f0) ((rd_T27 x13 x15).f1) ((rd_T27 x13 x15).f2) ((rd_T27 x13 x15).f3)))) else (none)) else (none)) else (impl_GoodMap.j1 k x3 x13 x14 x15 false x419000 ((rd_T27 x13 x15).f0) ((rd_T27 x13 x15).f1) ((rd_T27 x13 x15).f2) ((rd_T27 x13 x15).f3))) else (some false))) else (none)) else (none)) else (some true)
def impl_GoodMap.j1 : Nat → List Bool → List (S27) → Int → Int → Bool → List (S27) → Int → Int → Int → Bool → Option (Bool)
 | 0, _, _, _, _, _, _, _, _, _, _ => none
 | k + 1, x3, x13, x14, x15, x54, x419000, x424000, x424001, x424002, x424003 => if x54 = true then (some false) else (impl_GoodMap.l1 k x3 x13 x14 x15 x424001 0 x419000 x424000 x424001 x424002 x424003)
def impl_GoodMap.l1 : Nat → List Bool → List (S27) → Int → Int → Int → Int → List (S27) → Int → Int → Int → Bool → Option (Bool)
 | 0, _, _, _, _, _, _, _, _, _, _, _ => none
 | k + 1, x3, x13, x14, x15, x56, x57, x419000, x424000, x424001, x424002, x424003 => if x57 < x56 then (if 0 ≤ (wrap64 (x424002 + x57)) then (if (wrap64 (x424002 + x57)) < (x3.length : Int) then (if rdOf false x3 (wrap64 (x424002 + x57)) = true then (some false) else (impl_GoodMap.l1 k (x3.set ((wrap64 (x424002 + x57)) : Int).toNat true) x13 x14 x15 x56 (wrap64 (x57 + 1)) x419000 x424000 x424001 x424002 x424003)) else (none)) else (none)) else (impl_GoodMap.l0 k x3 x13 x14 (wrap64 (x15 + 1)) x419000)
end
def impl_GoodMap.f (k : Nat) (l0_0 : List (S27)) : Option (Bool) := if (l0_0.length : Int) > 40 then (some false) else (if 400 ≤ 281474976710656 then (impl_GoodMap.l0 k (List.replicate 400 false) l0_0 (l0_0.length : Int) 0 l0_0) else (none))
theorem impl_GoodMap.mono_l : ∀ k, (∀ y0 y1 y2 y3 y4, LeO (impl_GoodMap.l0 k y0 y1 y2 y3 y4) (impl_GoodMap.l0 (k + 1) y0 y1 y2 y3 y4)) ∧ (∀ y0 y1 y2 y3 y4 y5 y6 y7 y8 y9, LeO (impl_GoodMap.j1 k y0 y1 y2 y3 y4 y5 y6 y7 y8 y9) (impl_GoodMap.j1 (k + 1) y0 y1 y2 y3 y4 y5 y6 y7 y8 y9)) ∧ (∀ y0 y1 y2 y3 y4 y5 y6 y7 y8 y9 y10, LeO (impl_GoodMap.l1 k y0 y1 y2 y3 y4 y5 y6 y7 y8 y9 y10) (impl_GoodMap.l1 (k + 1) y0 y1 y2 y3 y4 y5 y6 y7 y8 y9 y10))
 | 0 => ⟨fun _ _ _ _ _ r h => by simp [impl_GoodMap.l0] at h, fun _ _ _ _ _ _ _ _ _ _ r h => by simp [impl_GoodMap.j1] at h, fun _ _ _ _ _ _ _ _ _ _ _ r h => by simp [impl_GoodMap.l1] at h⟩
 | k + 1 => by
  obtain ⟨ih0, ih1, ih2⟩ := impl_GoodMap.mono_l k
  refine ⟨?_, ?_, ?_⟩ <;> intros <;> first | unfold impl_GoodMap.l0 | unfold impl_GoodMap.j1 | unfold impl_GoodMap.l1
  all_goals repeat' first
   | (with_reducible exact ih0 _ _ _ _ _)
   | (with_reducible exact ih1 _ _ _ _ _ _ _ _ _ _)
   | (with_reducible exact ih2 _ _ _ _ _ _ _ _ _ _ _)
   | (with_reducible exact LeO.refl _)
   | (with_reducible exact LeO.none _)
   | (with_reducible refine LeO.ite ?_ ?_)
   | (with_reducible refine LeO.bind ?_ (fun _ => ?_))
   | exact ih0 _ _ _ _ _
   | exact ih1 _ _ _ _ _ _ _ _ _ _
   | exact ih2 _ _ _ _ _ _ _ _ _ _ _
   | exact LeO.none _
   | refine LeO.ite ?_ ?_
   | refine LeO.bind ?_ (fun _ => ?_)
theorem impl_GoodMap.mono : ∀ a0 k, LeO (impl_GoodMap.f k a0) (impl_GoodMap.f (k + 1) a0) := by
 intro a0 k;obtain ⟨ih0, ih1, ih2⟩ := impl_GoodMap.mono_l k;unfold impl_GoodMap.f
 repeat' with_reducible first|exact ih0 _ _ _ _ _|exact ih1 _ _ _ _ _ _ _ _ _ _|exact ih2 _ _ _ _ _ _ _ _ _ _ _|exact LeO.refl _|exact LeO.none _|refine LeO.ite ?_ ?_|refine LeO.bind ?_ (fun _ => ?_)
def impl_GoodMap.T9 : Bool × List (List Nat × List Nat) := (true, [([], []), ([0], [0]), ([1], [1]), ([2], [2]), ([3, 2], [2, 3]), ([2], [2]), ([5, 2], [2, 5]), ([2], [2]), ([7, 2], [2, 7]), ([6, 8, 2], [2, 6, 8]), ([9, 2], [2, 9]), ([10, 2], [2, 10]), ([2], [2]), ([12, 2], [2, 12]), ([2], [2]), ([14, 2], [2, 14]), ([13, 15, 2], [2, 13, 15]), ([16, 2], [2, 16]), ([17, 2], [2, 17]), ([11, 18, 2], [2, 11, 18]), ([4, 19, 2], [2, 4, 19]), ([20, 2, 2], [2, 20]), ([21], [21]), ([22, 21], [21, 22]), ([21], [21]), ([24, 21], [21, 24]), ([23, 25, 21], [21, 23, 25]), ([26, 21], [21, 26]), ([21], [21]), ([27, 28, 21, 21], [21, 27, 28]), ([21, 29, 2], [2, 21, 29]), ([2, 30], [2, 30])])
def impl_GoodMap.B9 : List Nat := [0, 1, 3, 7, 15, 7, 39, 7, 135, 487, 999, 2023, 7, 4103, 7, 16391, 61447, 126983, 258055, 524263, 1048575, 2097151, 4194303, 8388607, 4194303, 20971519, 67108863, 134217727, 4194303, 536870911, 1073741823, 2147483647]
theorem impl_GoodMap.tab9 : rtab .any (opsOf Try.f8 9) = impl_GoodMap.T9 := by kernel_rfl
theorem impl_GoodMap.bits9 : waitsOk impl_GoodMap.T9.2 impl_GoodMap.B9 = true := by kernel_rfl
set_option maxHeartbeats 8000000 in
set_option maxRecDepth 100000 in
theorem impl_GoodMap.calls (k : Nat) (A0_0 : Option Addr) (c0_0 : Nat) (l0_0 : List (S27)) (r : Bool) (w : World) (hr0_0 : Kd.C k27 w A0_0 l0_0.length l0_0) (hc0_0 : l0_0.length ≤ c0_0) (h : impl_GoodMap.f k l0_0 = some r) :
  Calls Try.prog 8 #[.agg #[.slice A0_0 l0_0.length c0_0]] w fun e w' => e = .returned (.bool r) ∧ Below w.heap.size w w' := by
 have hu25 := Try.underlying25;have hu27 := Try.underlying27;have HR0_0 := Ah hr0_0;have HC0_0 := Ah hc0_0;clear hr0_0 hc0_0;have HB := Ah (Below.refl w.heap.size w);have H : (if (l0_0.length : Int) > 40 then (some false) else (if 400 ≤ 281474976710656 then (impl_GoodMap.l0 k (List.replicate 400 false) l0_0 (l0_0.length : Int) 0 l0_0) else (none))) = some r := h;clear h
 by_cases c2 : (l0_0.length : Int) > 40
 ·
  rw [if_pos c2] at H;have c2b0 : decide (40 < (l0_0.length : Int)) = true := decide_eq_true c2;have c2b1 : decide (40 < l0_0.length) = true := decide_eq_true (by omega);clear c2;obtain rfl := Option.some.inj H
  go_enter Try.func8, Try.ntmps8
  go_wp2_with (first | ((with_reducible refine gate_dst (N := 1) rfl ?_); refine boxL 1 25 #[.slice A0_0 l0_0.length c0_0] ?_; intro gb418 hg w3 BK418 hb; have GW418 := gw hg (bs HB); have GE418 := gw hg (bs HB); replace HB := Ah (below_step (bs HB) hb); clear hb hg; have hcz4_0 := cz1 BK418; have hfz4_0 := fz1 BK418))
  go_ret
  exact ⟨er, bs1 HB GE418⟩
 rw [if_neg c2] at H;have c2b0 : decide (40 < (l0_0.length : Int)) = false := decide_eq_false c2;have c2b1 : decide (40 < l0_0.length) = false := decide_eq_false (by omega);clear c2
 by_cases c5 : 400 ≤ 281474976710656
 rotate_left
 ·
  rw [if_neg c5] at H;exact absurd H (by simp)
 rw [if_pos c5] at H;have c5b0 := eq_true c5;have c5b1 : decide (400 ≤ 281474976710656) = true := decide_eq_true c5;clear c5;obtain ⟨y419, hy419⟩ : ∃ y_ : List Bool, y_ = (List.replicate 400 false) := ⟨_, rfl⟩
 replace H : (impl_GoodMap.l0 k y419 l0_0 (l0_0.length : Int) 0 l0_0) = some r := by first | (rw [hy419]; with_reducible exact H) | (have H2_ := (Option.bind_some _ _).symm.trans H; rw [hy419]; with_reducible exact H2_) | (have H2_ := (Option.bind_some _ _).symm.trans H; with_reducible exact H2_) | with_reducible exact H | (rw [hy419]; exact H) | exact H
 have Ny419 := Ah hy419;clear hy419;have H' := Ah H;clear H
 go_enter Try.func8, Try.ntmps8
 go_wp2_with (first | ((with_reducible refine gate_dst (N := 1) rfl ?_); refine boxL 1 25 #[.slice A0_0 l0_0.length c0_0] ?_; intro gb418 hg w6 BK418 hb; have GW418 := gw hg (bs HB); have GE418 := gw hg (bs HB); replace HB := Ah (below_step (bs HB) hb); clear hb hg; have hcz7_0 := cz1 BK418; have hfz7_0 := fz1 BK418) | ((with_reducible refine gate_dst (N := 11) rfl ?_); refine Kd.R_make Kd.bool _ 4 rfl (N := 11) rfl 59 _ _ rfl 400 rfl rfl Try.underlying59 (.bool false) 1 info4 rfl (by decide) (by omega) false (ok := fun _ => True) (okp := fun _ => True) rfl (fun _ hk => hk) trivial (by omega) (by omega) (Below.refl _ _) (Nat.le_refl _) ?_; intro v420 w8 ho9 hb hg_ hnew_; clear hg_ hnew_; (first | rw [← Ny419.out] at ho9 | (simp only [Int.reduceToNat] at ho9; rw [← Ny419.out] at ho9)); have HO421 := Ah (Kd.R_lower ho9 (below_size (bs1 HB GE418))); replace BK418 := nb BK418 hb; replace HB := Ah (below_step (bs1 HB GE418) hb); clear hb ho9; have hcz10_0 := cz1 BK418; have hfz10_0 := fz1 BK418))
 go_loopg [15] k (fun kq v15 w' => ∃ (x3_1 : List Bool) (x15_1 : Int), v15 = .int .i64 x15_1 ∧ Aside0 (impl_GoodMap.l0 kq x3_1 l0_0 (l0_0.length : Int) x15_1 l0_0 = some r) ∧ Aside0 (kq ≤ k) ∧ Aside0 (Kd.R Kd.bool 4 w' w.heap.size (fun _ => True) v420 x3_1) ∧ Aside0 (w'.heap[gb418]? = some (.cells #[(.slice A0_0 l0_0.length c0_0)] 25 (0, 0))) ∧ Aside0 (Below w.heap.size w w'))
 case atStart => exact ⟨(y419), (0), e3, H', ⟨Nat.le_refl _⟩, ⟨rr HO421.out⟩, ⟨bk BK418⟩, ⟨bs1 HB GE418⟩⟩
 case round =>
  clear H'
  try clear c2
  try clear c2b0
  try clear c2b1
  try clear p2
  try clear c5
  try clear c5b0
  try clear c5b1
  try clear c8
  try clear hcz10_0
  try clear hcz4_0
  try clear hcz7_0
  try clear hfz10_0
  try clear hfz4_0
  try clear hfz7_0
  obtain ⟨x3_1, x15_1, rfl, HA, HK1, HO_3, BK418, HB⟩ := hrel
  cases gk with
  | zero => exact absurd HA.out (by simp [impl_GoodMap.l0])
  | succ k1 =>
   have H := HA.out;clear HA;simp only [impl_GoodMap.l0] at H
   by_cases c11 : x15_1 < (l0_0.length : Int)
   rotate_left
   ·
    rw [if_neg c11] at H;have c11b0 : decide (x15_1 < (l0_0.length : Int)) = false := decide_eq_false c11;clear c11;obtain rfl := Option.some.inj H
    go_wp2
    go_ret
    exact ⟨er, bs1 HB GE418⟩
   rw [if_pos c11] at H;have c11b0 : decide (x15_1 < (l0_0.length : Int)) = true := decide_eq_true c11;clear c11
   by_cases c12 : 0 ≤ x15_1
   rotate_left
   ·
    rw [if_neg c12] at H;exact absurd H (by simp)
   rw [if_pos c12] at H;have c12b0 : decide (0 ≤ x15_1) = true := decide_eq_true c12;clear c12
   by_cases c13 : x15_1 < (l0_0.length : Int)
   rotate_left
   ·
    rw [if_neg c13] at H;exact absurd H (by simp)
   rw [if_pos c13] at H;have c13b0 : decide (x15_1 < (l0_0.length : Int)) = true := decide_eq_true c13;clear c13;replace H := Option.bind_eq_some_iff.mp H;obtain ⟨t424, A140, H⟩ := H
   try dsimp only at H
   have A14 := Ah A140;clear A140
   by_cases c15 : t424 = true
   rotate_left
   ·
    replace c15 := Bool.eq_false_iff.mpr c15;subst c15;rw [if_neg fne] at H;obtain rfl := Option.some.inj H;have p422 : 0 ≤ (x15_1 : Int) := od;have q422 : x15_1 < (l0_0.length : Int) := od;obtain ⟨ad422, e422, hx422_0, hx422_1, hx422_2, hx422_3⟩ := at_T27 HR0_0.out x15_1 p422 q422
    cases e422
    replace hx422_0 := (HB.out.cell (World.block_lt_of_cell? w _ hx422_0)).trans hx422_0;replace hx422_1 := (HB.out.cell (World.block_lt_of_cell? w _ hx422_1)).trans hx422_1;replace hx422_2 := (HB.out.cell (World.block_lt_of_cell? w _ hx422_2)).trans hx422_2;replace hx422_3 := (HB.out.cell (World.block_lt_of_cell? w _ hx422_3)).trans hx422_3;replace p422 := eq_true p422;replace q422 := eq_true q422
    go_wp2_with (first | ((with_reducible refine gate_dst (N := 5) rfl ?_); refine boxL 5 27 #[.int .i64 0, .int .i64 0, .int .i64 0, .bool false] ?_; intro gb423 hg w49 BK423 hb; replace HO_3 := nr HO_3 hb; have GW423 := gw hg (bs1 HB GE418); have GE423 := gw hg (bs1 HB GE418); replace HB := Ah (below_step (bs1 HB GE418) hb); have NB418_423 := nn BK418 hg; have NB423_418 := nm BK418 hg; replace BK418 := nb BK418 hb; clear hb hg; have hnb50 := NB423_418.out; have hnc50 := NB418_423.out; obtain ⟨hcz51_0, hcz51_1, hcz51_2, hcz51_3⟩ := cz4 BK423; obtain ⟨hfz51_0, hfz51_1, hfz51_2, hfz51_3⟩ := fz4 BK423) | ((with_reducible refine gate_callee (f := 16) rfl ?_); refine gL (some 21) rfl rfl Try.func16 (by kernel_rfl) rfl #[.agg #[.int .i64 ((rd_T27 l0_0 x15_1).f0), .int .i64 ((rd_T27 l0_0 x15_1).f1), .int .i64 ((rd_T27 l0_0 x15_1).f2), .bool ((rd_T27 l0_0 x15_1).f3)]] rfl ?_; (with_reducible refine (impl_isPiece.calls ((rd_T27 l0_0 x15_1).f0) ((rd_T27 l0_0 x15_1).f1) ((rd_T27 l0_0 x15_1).f2) ((rd_T27 l0_0 x15_1).f3) false _ A14.out).mono ?_); rintro e w52 ⟨rfl, hb⟩; refine ⟨_, rfl, ?_⟩; replace HO_3 := Ah (Kd.R_below (by (with_reducible repeat (first | apply Kd.R_alloc | apply Kd.R_drewN | apply Kd.R_drew)); exact (Kd.R_mono (Kd.R_far (p := ⟨gb423, 3, none⟩) (Kd.R_far (p := ⟨gb423, 2, none⟩) (Kd.R_far (p := ⟨gb423, 1, none⟩) (Kd.R_far (p := ⟨gb423, 0, none⟩) (Kd.R_types HO_3.out BK423.out (by decide)) (fun _ hk => hk.2) (.int .i64 ((rd_T27 l0_0 x15_1).f0))) (fun _ hk => hk.2) (.int .i64 ((rd_T27 l0_0 x15_1).f1))) (fun _ hk => hk.2) (.int .i64 ((rd_T27 l0_0 x15_1).f2))) (fun _ hk => hk.2) (.bool ((rd_T27 l0_0 x15_1).f3))) (fun _ h_ => h_.1))) hb); replace BK418 := Ah (blk_below (bf BK418 NB418_423) hb); replace BK423 := Ah (blk_below (g := gb423) (o := .cells #[.int .i64 ((rd_T27 l0_0 x15_1).f0), .int .i64 ((rd_T27 l0_0 x15_1).f1), .int .i64 ((rd_T27 l0_0 x15_1).f2), .bool ((rd_T27 l0_0 x15_1).f3)] 27 (0, 0)) (by (with_reducible repeat (first | refine blk_drewN ?_ _ | refine blk_drew ?_ | refine blk_alloc ?_ _)); refine blk_put (cs := #[.int .i64 ((rd_T27 l0_0 x15_1).f0), .int .i64 ((rd_T27 l0_0 x15_1).f1), .int .i64 ((rd_T27 l0_0 x15_1).f2), .bool false]) ?_ 3 _ rfl; (with_reducible repeat (first | refine blk_drewN ?_ _ | refine blk_drew ?_ | refine blk_alloc ?_ _)); refine blk_put (cs := #[.int .i64 ((rd_T27 l0_0 x15_1).f0), .int .i64 ((rd_T27 l0_0 x15_1).f1), .int .i64 0, .bool false]) ?_ 2 _ rfl; (with_reducible repeat (first | refine blk_drewN ?_ _ | refine blk_drew ?_ | refine blk_alloc ?_ _)); refine blk_put (cs := #[.int .i64 ((rd_T27 l0_0 x15_1).f0), .int .i64 0, .int .i64 0, .bool false]) ?_ 1 _ rfl; (with_reducible repeat (first | refine blk_drewN ?_ _ | refine blk_drew ?_ | refine blk_alloc ?_ _)); refine blk_put (cs := #[.int .i64 0, .int .i64 0, .int .i64 0, .bool false]) ?_ 0 _ rfl; (with_reducible repeat (first | refine blk_drewN ?_ _ | refine blk_drew ?_ | refine blk_alloc ?_ _)); exact BK423.out) hb); replace HB := Ah (below_step (bs2 HB GE418 GE423) hb); (try clear hb hk)))
    go_ret
    exact ⟨er, bs2 HB GE418 GE423⟩
   subst c15;rw [if_pos rfl] at H;have HC16 := Ah H;clear H;have p422 : 0 ≤ (x15_1 : Int) := od;have q422 : x15_1 < (l0_0.length : Int) := od;obtain ⟨ad422, e422, hx422_0, hx422_1, hx422_2, hx422_3⟩ := at_T27 HR0_0.out x15_1 p422 q422
   cases e422
   replace hx422_0 := (HB.out.cell (World.block_lt_of_cell? w _ hx422_0)).trans hx422_0;replace hx422_1 := (HB.out.cell (World.block_lt_of_cell? w _ hx422_1)).trans hx422_1;replace hx422_2 := (HB.out.cell (World.block_lt_of_cell? w _ hx422_2)).trans hx422_2;replace hx422_3 := (HB.out.cell (World.block_lt_of_cell? w _ hx422_3)).trans hx422_3;replace p422 := eq_true p422;replace q422 := eq_true q422
   go_upto_region 9 with (first | ((with_reducible refine gate_dst (N := 5) rfl ?_); refine boxL 5 27 #[.int .i64 0, .int .i64 0, .int .i64 0, .bool false] ?_; intro gb423 hg w17 BK423 hb; replace HO_3 := nr HO_3 hb; have GW423 := gw hg (bs1 HB GE418); have GE423 := gw hg (bs1 HB GE418); replace HB := Ah (below_step (bs1 HB GE418) hb); have NB418_423 := nn BK418 hg; have NB423_418 := nm BK418 hg; replace BK418 := nb BK418 hb; clear hb hg; have hnb18 := NB423_418.out; have hnc18 := NB418_423.out; obtain ⟨hcz19_0, hcz19_1, hcz19_2, hcz19_3⟩ := cz4 BK423; obtain ⟨hfz19_0, hfz19_1, hfz19_2, hfz19_3⟩ := fz4 BK423) | ((with_reducible refine gate_callee (f := 16) rfl ?_); refine gL (some 21) rfl rfl Try.func16 (by kernel_rfl) rfl #[.agg #[.int .i64 ((rd_T27 l0_0 x15_1).f0), .int .i64 ((rd_T27 l0_0 x15_1).f1), .int .i64 ((rd_T27 l0_0 x15_1).f2), .bool ((rd_T27 l0_0 x15_1).f3)]] rfl ?_; (with_reducible refine (impl_isPiece.calls ((rd_T27 l0_0 x15_1).f0) ((rd_T27 l0_0 x15_1).f1) ((rd_T27 l0_0 x15_1).f2) ((rd_T27 l0_0 x15_1).f3) true _ A14.out).mono ?_); rintro e w20 ⟨rfl, hb⟩; refine ⟨_, rfl, ?_⟩; replace HO_3 := Ah (Kd.R_below (by (with_reducible repeat (first | apply Kd.R_alloc | apply Kd.R_drewN | apply Kd.R_drew)); exact (Kd.R_mono (Kd.R_far (p := ⟨gb423, 3, none⟩) (Kd.R_far (p := ⟨gb423, 2, none⟩) (Kd.R_far (p := ⟨gb423, 1, none⟩) (Kd.R_far (p := ⟨gb423, 0, none⟩) (Kd.R_types HO_3.out BK423.out (by decide)) (fun _ hk => hk.2) (.int .i64 ((rd_T27 l0_0 x15_1).f0))) (fun _ hk => hk.2) (.int .i64 ((rd_T27 l0_0 x15_1).f1))) (fun _ hk => hk.2) (.int .i64 ((rd_T27 l0_0 x15_1).f2))) (fun _ hk => hk.2) (.bool ((rd_T27 l0_0 x15_1).f3))) (fun _ h_ => h_.1))) hb); replace BK418 := Ah (blk_below (bf BK418 NB418_423) hb); replace BK423 := Ah (blk_below (g := gb423) (o := .cells #[.int .i64 ((rd_T27 l0_0 x15_1).f0), .int .i64 ((rd_T27 l0_0 x15_1).f1), .int .i64 ((rd_T27 l0_0 x15_1).f2), .bool ((rd_T27 l0_0 x15_1).f3)] 27 (0, 0)) (by (with_reducible repeat (first | refine blk_drewN ?_ _ | refine blk_drew ?_ | refine blk_alloc ?_ _)); refine blk_put (cs := #[.int .i64 ((rd_T27 l0_0 x15_1).f0), .int .i64 ((rd_T27 l0_0 x15_1).f1), .int .i64 ((rd_T27 l0_0 x15_1).f2), .bool false]) ?_ 3 _ rfl; (with_reducible repeat (first | refine blk_drewN ?_ _ | refine blk_drew ?_ | refine blk_alloc ?_ _)); refine blk_put (cs := #[.int .i64 ((rd_T27 l0_0 x15_1).f0), .int .i64 ((rd_T27 l0_0 x15_1).f1), .int .i64 0, .bool false]) ?_ 2 _ rfl; (with_reducible repeat (first | refine blk_drewN ?_ _ | refine blk_drew ?_ | refine blk_alloc ?_ _)); refine blk_put (cs := #[.int .i64 ((rd_T27 l0_0 x15_1).f0), .int .i64 0, .int .i64 0, .bool false]) ?_ 1 _ rfl; (with_reducible repeat (first | refine blk_drewN ?_ _ | refine blk_drew ?_ | refine blk_alloc ?_ _)); refine blk_put (cs := #[.int .i64 0, .int .i64 0, .int .i64 0, .bool false]) ?_ 0 _ rfl; (with_reducible repeat (first | refine blk_drewN ?_ _ | refine blk_drew ?_ | refine blk_alloc ?_ _)); exact BK423.out) hb); replace HB := Ah (below_step (bs2 HB GE418 GE423) hb); (try clear hb hk)))
   (try simp only [Act.put, List.setIfInBounds_toArray, List.set_cons_zero, List.set_cons_succ])
   go_cut [54] (fun v54 wc => ∃ (kq : Nat) (x54_15 : Bool), v54 = .bool x54_15 ∧ Aside0 (impl_GoodMap.j1 kq x3_1 l0_0 (l0_0.length : Int) x15_1 x54_15 l0_0 ((rd_T27 l0_0 x15_1).f0) ((rd_T27 l0_0 x15_1).f1) ((rd_T27 l0_0 x15_1).f2) ((rd_T27 l0_0 x15_1).f3) = some r) ∧ Aside0 (kq ≤ k1) ∧ Aside0 (Kd.R Kd.bool 4 wc w.heap.size (fun _ => True) v420 x3_1) ∧ Aside0 (wc.heap[gb418]? = some (.cells #[(.slice (some ad422) l0_0.length c0_0)] 25 (0, 0))) ∧ Aside0 (wc.heap[gb423]? = some (.cells #[.int .i64 ((rd_T27 l0_0 x15_1).f0), .int .i64 ((rd_T27 l0_0 x15_1).f1), .int .i64 ((rd_T27 l0_0 x15_1).f2), .bool ((rd_T27 l0_0 x15_1).f3)] 27 (0, 0))) ∧ Aside0 (Below w.heap.size w wc))
   case first =>
    have H := HC16.out;clear HC16
    by_cases c21 : x15_1 > 0
    rotate_left
    ·
     rw [if_neg c21] at H;have c21b0 : decide (0 < x15_1) = false := decide_eq_false c21;clear c21;(first | rw [c21b0] | (simp only [i64_w, i32_w]; rw [c21b0]) | (simp only [c21b2, Bool.not_false, Bool.not_true]) | skip);have H' := Ah H;clear H
     try go_wp2
     have n0_ := Ah (Kd.R_drew HO_3.out);have n1_ := Ah (blk_drew BK418.out);have n2_ := Ah (blk_drew BK423.out);have n3_ := Ah (below_drew1 HB.out);clear HO_3 BK418 BK423 HB;have HO_3 := n0_;have BK418 := n1_;have BK423 := n2_;have HB := n3_;clear n0_ n1_ n2_ n3_;refine start_ (n := 32) (S := fun w' => True) (ds := []) #[false, false, false, false, false, false, false, false, false, false, false, false, false, false, false, false, false, false, false, false, false, false, false, false, false, false, false, false, false, false, false, false] (by kernel_rfl) rfl rfl trivial (fun hHeld => ?_); refine with_tabW impl_GoodMap.tab9 impl_GoodMap.bits9 (fun HT_ HW_ => ?_)
     generalize w20.drew = w30 at HO_3 BK418 BK423 HB hHeld ⊢
     refine pureS 0 23 HT_.out ?_;refine pureS 1 24 HT_.out ?_;refine pureS 2 25 HT_.out ?_;refine pureU 3 26 HT_.out ?_;refine pureU 4 27 HT_.out ?_;refine pureU 5 28 HT_.out ?_;refine pureU 6 29 HT_.out ?_;refine pureU 7 30 HT_.out ?_;refine pureU 8 31 HT_.out ?_;refine pureU 9 32 HT_.out ?_;refine pureU 10 33 HT_.out ?_;refine pureU 11 34 HT_.out ?_;refine pureU 12 35 HT_.out ?_;refine pureU 13 36 HT_.out ?_;refine pureU 14 37 HT_.out ?_;refine pureU 15 38 HT_.out ?_;refine pureU 16 39 HT_.out ?_;refine pureU 17 40 HT_.out ?_;refine pureU 18 41 HT_.out ?_;refine pureU 19 42 HT_.out ?_;refine pureU 20 43 HT_.out ?_;refine pureU 21 44 HT_.out ?_;refine pureU 22 45 HT_.out ?_;refine pureU 23 46 HT_.out ?_;refine pureU 24 47 HT_.out ?_;refine pureU 25 48 HT_.out ?_;refine pureU 26 49 HT_.out ?_;refine pureU 27 50 HT_.out ?_;refine pureU 28 51 HT_.out ?_;refine pureU 29 52 HT_.out ?_;refine pureU 30 53 HT_.out ?_;refine pureS 31 54 HT_.out ?_;refine done_ (done_of HT_.out (by kernel_rfl)) ?_
     try go_wp2
     go_meet
     case rel => exact ⟨_, (false), e3, H', ⟨by have := HK1.out; first | omega | exact Nat.le_refl _⟩, ⟨rr HO_3.out⟩, ⟨bk BK418⟩, ⟨bk BK423⟩, ⟨bs2 HB GE418 GE423⟩⟩
    rw [if_pos c21] at H;have c21b0 : decide (0 < x15_1) = true := decide_eq_true c21;clear c21;(first | rw [c21b0] | (simp only [i64_w, i32_w]; rw [c21b0]) | (simp only [c21b2, Bool.not_false, Bool.not_true]) | skip);obtain ⟨ji22, hji22⟩ : ∃ j_ : Int, (wrap64 (x15_1 - 1)) = j_ := ⟨_, rfl⟩
    replace H : (if 0 ≤ (ji22) then (if (ji22) < (l0_0.length : Int) then (if ((rd_T27 l0_0 x15_1).f0) < (wrap64 (((rd_T27 l0_0 (ji22)).f0) + ((rd_T27 l0_0 (ji22)).f1))) then (impl_GoodMap.j1 k1 x3_1 l0_0 (l0_0.length : Int) x15_1 true l0_0 ((rd_T27 l0_0 x15_1).f0) ((rd_T27 l0_0 x15_1).f1) ((rd_T27 l0_0 x15_1).f2) ((rd_T27 l0_0 x15_1).f3)) else ((impl_continues.f ((rd_T27 l0_0 (ji22)).f0) ((rd_T27 l0_0 (ji22)).f1) ((rd_T27 l0_0 (ji22)).f2) ((rd_T27 l0_0 (ji22)).f3) ((rd_T27 l0_0 x15_1).f0) ((rd_T27 l0_0 x15_1).f1) ((rd_T27 l0_0 x15_1).f2) ((rd_T27 l0_0 x15_1).f3)).bind fun t428 => (impl_GoodMap.j1 k1 x3_1 l0_0 (l0_0.length : Int) x15_1 t428 l0_0 ((rd_T27 l0_0 x15_1).f0) ((rd_T27 l0_0 x15_1).f1) ((rd_T27 l0_0 x15_1).f2) ((rd_T27 l0_0 x15_1).f3)))) else (none)) else (none)) = some r := by first | (rw [hji22] at H; exact H) | (simp only [hji22] at H ⊢; exact H)
    have hji22w : (IntKind.i64.wrap (x15_1 - 1)) = ji22 := (i64_w _).trans hji22
    by_cases c23 : 0 ≤ (ji22)
    rotate_left
    ·
     rw [if_neg c23] at H;exact absurd H (by simp)
    rw [if_pos c23] at H;have c23b0 : decide (0 ≤ (ji22)) = true := decide_eq_true c23;clear c23
    by_cases c24 : (ji22) < (l0_0.length : Int)
    rotate_left
    ·
     rw [if_neg c24] at H;exact absurd H (by simp)
    rw [if_pos c24] at H;have c24b0 : decide ((ji22) < (l0_0.length : Int)) = true := decide_eq_true c24;clear c24
    by_cases c25 : ((rd_T27 l0_0 x15_1).f0) < (wrap64 (((rd_T27 l0_0 (ji22)).f0) + ((rd_T27 l0_0 (ji22)).f1)))
    ·
     rw [if_pos c25] at H;have c25b0 : decide (((rd_T27 l0_0 x15_1).f0) < (wrap64 (((rd_T27 l0_0 (ji22)).f0) + ((rd_T27 l0_0 (ji22)).f1)))) = true := decide_eq_true c25;clear c25;have H' := Ah H;clear H
     try go_wp2
     have n0_ := Ah (Kd.R_drew HO_3.out);have n1_ := Ah (blk_drew BK418.out);have n2_ := Ah (blk_drew BK423.out);have n3_ := Ah (below_drew1 HB.out);clear HO_3 BK418 BK423 HB;have HO_3 := n0_;have BK418 := n1_;have BK423 := n2_;have HB := n3_;clear n0_ n1_ n2_ n3_;have p425 : 0 ≤ ((ji22) : Int) := od;have q425 : (ji22) < (l0_0.length : Int) := od;obtain ⟨ad425, e425, hx425_0, hx425_1, hx425_2, hx425_3⟩ := at_T27 HR0_0.out (ji22) p425 q425;have hw425_3 := hx425_3;have hw425_2 := hx425_2;have hw425_1 := hx425_1;have hw425_0 := hx425_0;obtain rfl : ad422 = ad425 := (by injection e425);replace hx425_0 := (HB.out.cell (World.block_lt_of_cell? w _ hx425_0)).trans hx425_0;replace hx425_1 := (HB.out.cell (World.block_lt_of_cell? w _ hx425_1)).trans hx425_1;replace hx425_2 := (HB.out.cell (World.block_lt_of_cell? w _ hx425_2)).trans hx425_2;replace hx425_3 := (HB.out.cell (World.block_lt_of_cell? w _ hx425_3)).trans hx425_3;replace p425 := eq_true p425;replace q425 := eq_true q425;have p426 : 0 ≤ ((ji22) : Int) := od;have q426 : (ji22) < (l0_0.length : Int) := od;obtain ⟨ad426, e426, hx426_0, hx426_1, hx426_2, hx426_3⟩ := at_T27 HR0_0.out (ji22) p426 q426;have hw426_3 := hx426_3;have hw426_2 := hx426_2;have hw426_1 := hx426_1;have hw426_0 := hx426_0;obtain rfl : ad422 = ad426 := (by injection e426);replace hx426_0 := (HB.out.cell (World.block_lt_of_cell? w _ hx426_0)).trans hx426_0;replace hx426_1 := (HB.out.cell (World.block_lt_of_cell? w _ hx426_1)).trans hx426_1;replace hx426_2 := (HB.out.cell (World.block_lt_of_cell? w _ hx426_2)).trans hx426_2;replace hx426_3 := (HB.out.cell (World.block_lt_of_cell? w _ hx426_3)).trans hx426_3;replace p426 := eq_true p426;replace q426 := eq_true q426;refine start_ (n := 32) (S := fun w' => w'.cell? ⟨gb423, 0, none⟩ = some (.int .i64 ((rd_T27 l0_0 x15_1).f0)) ∧ w'.cell? ⟨gb423, 1, none⟩ = some (.int .i64 ((rd_T27 l0_0 x15_1).f1)) ∧ w'.cell? ⟨gb423, 2, none⟩ = some (.int .i64 ((rd_T27 l0_0 x15_1).f2)) ∧ w'.cell? ⟨gb423, 3, none⟩ = some (.bool ((rd_T27 l0_0 x15_1).f3)) ∧ w'.cell? ⟨gb418, 0, none⟩ = some (.slice (some ad422) l0_0.length c0_0) ∧ w'.cell? (ad422.add (((ji22)).toNat * 4)) = some (.int .i64 ((rd_T27 l0_0 (ji22)).f0)) ∧ w'.cell? ⟨(ad422.add (((ji22)).toNat * 4)).block, (ad422.add (((ji22)).toNat * 4)).off + 1, none⟩ = some (.int .i64 ((rd_T27 l0_0 (ji22)).f1)) ∧ w'.cell? ⟨(ad422.add (((ji22)).toNat * 4)).block, (ad422.add (((ji22)).toNat * 4)).off + 2, none⟩ = some (.int .i64 ((rd_T27 l0_0 (ji22)).f2)) ∧ w'.cell? ⟨(ad422.add (((ji22)).toNat * 4)).block, (ad422.add (((ji22)).toNat * 4)).off + 3, none⟩ = some (.bool ((rd_T27 l0_0 (ji22)).f3)) ∧ w'.cell? (ad422.add (((ji22)).toNat * 4)) = some (.int .i64 ((rd_T27 l0_0 (ji22)).f0)) ∧ w'.cell? ⟨(ad422.add (((ji22)).toNat * 4)).block, (ad422.add (((ji22)).toNat * 4)).off + 1, none⟩ = some (.int .i64 ((rd_T27 l0_0 (ji22)).f1)) ∧ w'.cell? ⟨(ad422.add (((ji22)).toNat * 4)).block, (ad422.add (((ji22)).toNat * 4)).off + 2, none⟩ = some (.int .i64 ((rd_T27 l0_0 (ji22)).f2)) ∧ w'.cell? ⟨(ad422.add (((ji22)).toNat * 4)).block, (ad422.add (((ji22)).toNat * 4)).off + 3, none⟩ = some (.bool ((rd_T27 l0_0 (ji22)).f3))) (ds := []) #[false, false, false, false, false, false, false, false, false, false, false, false, false, false, false, false, false, false, false, false, false, false, false, false, false, false, false, false, false, false, false, false] (by kernel_rfl) rfl rfl ⟨(blk_cell BK423.out 0).trans rfl, (blk_cell BK423.out 1).trans rfl, (blk_cell BK423.out 2).trans rfl, (blk_cell BK423.out 3).trans rfl, (blk_cell BK418.out 0).trans rfl, ((HB.out.cell (World.block_lt_of_cell? w _ hw425_0)).trans hw425_0), ((HB.out.cell (World.block_lt_of_cell? w _ hw425_1)).trans hw425_1), ((HB.out.cell (World.block_lt_of_cell? w _ hw425_2)).trans hw425_2), ((HB.out.cell (World.block_lt_of_cell? w _ hw425_3)).trans hw425_3), ((HB.out.cell (World.block_lt_of_cell? w _ hw426_0)).trans hw426_0), ((HB.out.cell (World.block_lt_of_cell? w _ hw426_1)).trans hw426_1), ((HB.out.cell (World.block_lt_of_cell? w _ hw426_2)).trans hw426_2), ((HB.out.cell (World.block_lt_of_cell? w _ hw426_3)).trans hw426_3)⟩ (fun hHeld => ?_); refine with_tabW impl_GoodMap.tab9 impl_GoodMap.bits9 (fun HT_ HW_ => ?_)
     generalize w20.drew = w26 at HO_3 BK418 BK423 HB hx425_0 hx425_1 hx425_2 hx425_3 hx426_0 hx426_1 hx426_2 hx426_3 hHeld ⊢
     refine pureS 0 23 HT_.out ?_;refine pureS 1 24 HT_.out ?_;refine pureS 2 25 HT_.out ?_;refine pureS 3 26 HT_.out ?_;refine pureS 5 28 HT_.out ?_;refine pureS 7 30 HT_.out ?_;refine pureS 8 31 HT_.out ?_;refine pureS 12 35 HT_.out ?_;refine pureS 14 37 HT_.out ?_;refine pureS 15 38 HT_.out ?_;refine takeS 4 27 HT_.out HW_.out hHeld (hr := by rintro w' ⟨s0, s1, s2, s3, s4, s5, s6, s7, s8, s9, s10, s11, s12⟩; go_simp; with_reducible rfl) (h := ?_);refine takeS 6 29 HT_.out HW_.out hHeld (hr := by rintro w' ⟨s0, s1, s2, s3, s4, s5, s6, s7, s8, s9, s10, s11, s12⟩; go_simp; with_reducible rfl) (h := ?_);refine pureS 9 32 HT_.out ?_;refine pureS 10 33 HT_.out ?_;refine takeS 11 34 HT_.out HW_.out hHeld (hr := by rintro w' ⟨s0, s1, s2, s3, s4, s5, s6, s7, s8, s9, s10, s11, s12⟩; go_simp; with_reducible rfl) (h := ?_);refine takeS 13 36 HT_.out HW_.out hHeld (hr := by rintro w' ⟨s0, s1, s2, s3, s4, s5, s6, s7, s8, s9, s10, s11, s12⟩; go_simp; with_reducible rfl) (h := ?_);refine pureS 16 39 HT_.out ?_;refine pureS 17 40 HT_.out ?_;refine takeS 18 41 HT_.out HW_.out hHeld (hr := by rintro w' ⟨s0, s1, s2, s3, s4, s5, s6, s7, s8, s9, s10, s11, s12⟩; go_simp; with_reducible rfl) (h := ?_);refine pureS 19 42 HT_.out ?_;refine pureS 20 43 HT_.out ?_;refine pureS 21 44 HT_.out ?_;refine pureU 22 45 HT_.out ?_;refine pureU 23 46 HT_.out ?_;refine pureU 24 47 HT_.out ?_;refine pureU 25 48 HT_.out ?_;refine pureU 26 49 HT_.out ?_;refine pureU 27 50 HT_.out ?_;refine pureU 28 51 HT_.out ?_;refine pureU 29 52 HT_.out ?_;refine pureS 30 53 HT_.out ?_;refine pureS 31 54 HT_.out ?_;refine done_ (done_of HT_.out (by kernel_rfl)) ?_
     try go_wp2
     go_meet
     case rel => exact ⟨_, (true), e3, H', ⟨by have := HK1.out; first | omega | exact Nat.le_refl _⟩, ⟨rr HO_3.out⟩, ⟨bk BK418⟩, ⟨bk BK423⟩, ⟨bs2 HB GE418 GE423⟩⟩
    rw [if_neg c25] at H;have c25b0 : decide (((rd_T27 l0_0 x15_1).f0) < (wrap64 (((rd_T27 l0_0 (ji22)).f0) + ((rd_T27 l0_0 (ji22)).f1)))) = false := decide_eq_false c25;clear c25;replace H := Option.bind_eq_some_iff.mp H;obtain ⟨t428, A270, H⟩ := H
    try dsimp only at H
    have A27 := Ah A270;clear A270;have H' := Ah H;clear H
    try go_wp2
    have n0_ := Ah (Kd.R_drew HO_3.out);have n1_ := Ah (blk_drew BK418.out);have n2_ := Ah (blk_drew BK423.out);have n3_ := Ah (below_drew1 HB.out);clear HO_3 BK418 BK423 HB;have HO_3 := n0_;have BK418 := n1_;have BK423 := n2_;have HB := n3_;clear n0_ n1_ n2_ n3_;have p425 : 0 ≤ ((ji22) : Int) := od;have q425 : (ji22) < (l0_0.length : Int) := od;obtain ⟨ad425, e425, hx425_0, hx425_1, hx425_2, hx425_3⟩ := at_T27 HR0_0.out (ji22) p425 q425;have hw425_3 := hx425_3;have hw425_2 := hx425_2;have hw425_1 := hx425_1;have hw425_0 := hx425_0;obtain rfl : ad422 = ad425 := (by injection e425);replace hx425_0 := (HB.out.cell (World.block_lt_of_cell? w _ hx425_0)).trans hx425_0;replace hx425_1 := (HB.out.cell (World.block_lt_of_cell? w _ hx425_1)).trans hx425_1;replace hx425_2 := (HB.out.cell (World.block_lt_of_cell? w _ hx425_2)).trans hx425_2;replace hx425_3 := (HB.out.cell (World.block_lt_of_cell? w _ hx425_3)).trans hx425_3;replace p425 := eq_true p425;replace q425 := eq_true q425;have p426 : 0 ≤ ((ji22) : Int) := od;have q426 : (ji22) < (l0_0.length : Int) := od;obtain ⟨ad426, e426, hx426_0, hx426_1, hx426_2, hx426_3⟩ := at_T27 HR0_0.out (ji22) p426 q426;have hw426_3 := hx426_3;have hw426_2 := hx426_2;have hw426_1 := hx426_1;have hw426_0 := hx426_0;obtain rfl : ad422 = ad426 := (by injection e426);replace hx426_0 := (HB.out.cell (World.block_lt_of_cell? w _ hx426_0)).trans hx426_0;replace hx426_1 := (HB.out.cell (World.block_lt_of_cell? w _ hx426_1)).trans hx426_1;replace hx426_2 := (HB.out.cell (World.block_lt_of_cell? w _ hx426_2)).trans hx426_2;replace hx426_3 := (HB.out.cell (World.block_lt_of_cell? w _ hx426_3)).trans hx426_3;replace p426 := eq_true p426;replace q426 := eq_true q426;have p427 : 0 ≤ ((ji22) : Int) := od;have q427 : (ji22) < (l0_0.length : Int) := od;obtain ⟨ad427, e427, hx427_0, hx427_1, hx427_2, hx427_3⟩ := at_T27 HR0_0.out (ji22) p427 q427;have hw427_3 := hx427_3;have hw427_2 := hx427_2;have hw427_1 := hx427_1;have hw427_0 := hx427_0;obtain rfl : ad422 = ad427 := (by injection e427);replace hx427_0 := (HB.out.cell (World.block_lt_of_cell? w _ hx427_0)).trans hx427_0;replace hx427_1 := (HB.out.cell (World.block_lt_of_cell? w _ hx427_1)).trans hx427_1;replace hx427_2 := (HB.out.cell (World.block_lt_of_cell? w _ hx427_2)).trans hx427_2;replace hx427_3 := (HB.out.cell (World.block_lt_of_cell? w _ hx427_3)).trans hx427_3;replace p427 := eq_true p427;replace q427 := eq_true q427;refine start_ (n := 32) (S := fun w' => w'.cell? ⟨gb423, 0, none⟩ = some (.int .i64 ((rd_T27 l0_0 x15_1).f0)) ∧ w'.cell? ⟨gb423, 1, none⟩ = some (.int .i64 ((rd_T27 l0_0 x15_1).f1)) ∧ w'.cell? ⟨gb423, 2, none⟩ = some (.int .i64 ((rd_T27 l0_0 x15_1).f2)) ∧ w'.cell? ⟨gb423, 3, none⟩ = some (.bool ((rd_T27 l0_0 x15_1).f3)) ∧ w'.cell? ⟨gb418, 0, none⟩ = some (.slice (some ad422) l0_0.length c0_0) ∧ w'.cell? (ad422.add (((ji22)).toNat * 4)) = some (.int .i64 ((rd_T27 l0_0 (ji22)).f0)) ∧ w'.cell? ⟨(ad422.add (((ji22)).toNat * 4)).block, (ad422.add (((ji22)).toNat * 4)).off + 1, none⟩ = some (.int .i64 ((rd_T27 l0_0 (ji22)).f1)) ∧ w'.cell? ⟨(ad422.add (((ji22)).toNat * 4)).block, (ad422.add (((ji22)).toNat * 4)).off + 2, none⟩ = some (.int .i64 ((rd_T27 l0_0 (ji22)).f2)) ∧ w'.cell? ⟨(ad422.add (((ji22)).toNat * 4)).block, (ad422.add (((ji22)).toNat * 4)).off + 3, none⟩ = some (.bool ((rd_T27 l0_0 (ji22)).f3)) ∧ w'.cell? (ad422.add (((ji22)).toNat * 4)) = some (.int .i64 ((rd_T27 l0_0 (ji22)).f0)) ∧ w'.cell? ⟨(ad422.add (((ji22)).toNat * 4)).block, (ad422.add (((ji22)).toNat * 4)).off + 1, none⟩ = some (.int .i64 ((rd_T27 l0_0 (ji22)).f1)) ∧ w'.cell? ⟨(ad422.add (((ji22)).toNat * 4)).block, (ad422.add (((ji22)).toNat * 4)).off + 2, none⟩ = some (.int .i64 ((rd_T27 l0_0 (ji22)).f2)) ∧ w'.cell? ⟨(ad422.add (((ji22)).toNat * 4)).block, (ad422.add (((ji22)).toNat * 4)).off + 3, none⟩ = some (.bool ((rd_T27 l0_0 (ji22)).f3)) ∧ w'.cell? (ad422.add (((ji22)).toNat * 4)) = some (.int .i64 ((rd_T27 l0_0 (ji22)).f0)) ∧ w'.cell? ⟨(ad422.add (((ji22)).toNat * 4)).block, (ad422.add (((ji22)).toNat * 4)).off + 1, none⟩ = some (.int .i64 ((rd_T27 l0_0 (ji22)).f1)) ∧ w'.cell? ⟨(ad422.add (((ji22)).toNat * 4)).block, (ad422.add (((ji22)).toNat * 4)).off + 2, none⟩ = some (.int .i64 ((rd_T27 l0_0 (ji22)).f2)) ∧ w'.cell? ⟨(ad422.add (((ji22)).toNat * 4)).block, (ad422.add (((ji22)).toNat * 4)).off + 3, none⟩ = some (.bool ((rd_T27 l0_0 (ji22)).f3))) (ds := []) #[false, false, false, false, false, false, false, false, false, false, false, false, false, false, false, false, false, false, false, false, false, false, false, false, false, false, false, false, false, false, false, false] (by kernel_rfl) rfl rfl ⟨(blk_cell BK423.out 0).trans rfl, (blk_cell BK423.out 1).trans rfl, (blk_cell BK423.out 2).trans rfl, (blk_cell BK423.out 3).trans rfl, (blk_cell BK418.out 0).trans rfl, ((HB.out.cell (World.block_lt_of_cell? w _ hw425_0)).trans hw425_0), ((HB.out.cell (World.block_lt_of_cell? w _ hw425_1)).trans hw425_1), ((HB.out.cell (World.block_lt_of_cell? w _ hw425_2)).trans hw425_2), ((HB.out.cell (World.block_lt_of_cell? w _ hw425_3)).trans hw425_3), ((HB.out.cell (World.block_lt_of_cell? w _ hw426_0)).trans hw426_0), ((HB.out.cell (World.block_lt_of_cell? w _ hw426_1)).trans hw426_1), ((HB.out.cell (World.block_lt_of_cell? w _ hw426_2)).trans hw426_2), ((HB.out.cell (World.block_lt_of_cell? w _ hw426_3)).trans hw426_3), ((HB.out.cell (World.block_lt_of_cell? w _ hw427_0)).trans hw427_0), ((HB.out.cell (World.block_lt_of_cell? w _ hw427_1)).trans hw427_1), ((HB.out.cell (World.block_lt_of_cell? w _ hw427_2)).trans hw427_2), ((HB.out.cell (World.block_lt_of_cell? w _ hw427_3)).trans hw427_3)⟩ (fun hHeld => ?_); refine with_tabW impl_GoodMap.tab9 impl_GoodMap.bits9 (fun HT_ HW_ => ?_)
    generalize w20.drew = w28 at HO_3 BK418 BK423 HB hx425_0 hx425_1 hx425_2 hx425_3 hx426_0 hx426_1 hx426_2 hx426_3 hx427_0 hx427_1 hx427_2 hx427_3 hHeld ⊢
    refine pureS 0 23 HT_.out ?_;refine pureS 1 24 HT_.out ?_;refine pureS 2 25 HT_.out ?_;refine pureS 3 26 HT_.out ?_;refine pureS 5 28 HT_.out ?_;refine pureS 7 30 HT_.out ?_;refine pureS 8 31 HT_.out ?_;refine pureS 12 35 HT_.out ?_;refine pureS 14 37 HT_.out ?_;refine pureS 15 38 HT_.out ?_;refine takeS 4 27 HT_.out HW_.out hHeld (hr := by rintro w' ⟨s0, s1, s2, s3, s4, s5, s6, s7, s8, s9, s10, s11, s12, s13, s14, s15, s16⟩; go_simp; with_reducible rfl) (h := ?_);refine takeS 6 29 HT_.out HW_.out hHeld (hr := by rintro w' ⟨s0, s1, s2, s3, s4, s5, s6, s7, s8, s9, s10, s11, s12, s13, s14, s15, s16⟩; go_simp; with_reducible rfl) (h := ?_);refine pureS 9 32 HT_.out ?_;refine pureS 10 33 HT_.out ?_;refine takeS 11 34 HT_.out HW_.out hHeld (hr := by rintro w' ⟨s0, s1, s2, s3, s4, s5, s6, s7, s8, s9, s10, s11, s12, s13, s14, s15, s16⟩; go_simp; with_reducible rfl) (h := ?_);refine takeS 13 36 HT_.out HW_.out hHeld (hr := by rintro w' ⟨s0, s1, s2, s3, s4, s5, s6, s7, s8, s9, s10, s11, s12, s13, s14, s15, s16⟩; go_simp; with_reducible rfl) (h := ?_);refine pureS 16 39 HT_.out ?_;refine pureS 17 40 HT_.out ?_;refine takeS 18 41 HT_.out HW_.out hHeld (hr := by rintro w' ⟨s0, s1, s2, s3, s4, s5, s6, s7, s8, s9, s10, s11, s12, s13, s14, s15, s16⟩; go_simp; with_reducible rfl) (h := ?_);refine pureS 19 42 HT_.out ?_;refine pureS 20 43 HT_.out ?_;refine pureS 21 44 HT_.out ?_;refine pureS 22 45 HT_.out ?_;refine pureS 24 47 HT_.out ?_;refine pureS 25 48 HT_.out ?_;refine takeS 23 46 HT_.out HW_.out hHeld (hr := by rintro w' ⟨s0, s1, s2, s3, s4, s5, s6, s7, s8, s9, s10, s11, s12, s13, s14, s15, s16⟩; go_simp; with_reducible rfl) (h := ?_);refine pureS 26 49 HT_.out ?_;refine takeS 27 50 HT_.out HW_.out hHeld (hr := by rintro w' ⟨s0, s1, s2, s3, s4, s5, s6, s7, s8, s9, s10, s11, s12, s13, s14, s15, s16⟩; go_simp; with_reducible rfl) (h := ?_);refine takeS 28 51 HT_.out HW_.out hHeld (hr := by rintro w' ⟨s0, s1, s2, s3, s4, s5, s6, s7, s8, s9, s10, s11, s12, s13, s14, s15, s16⟩; go_simp; with_reducible rfl) (h := ?_);refine one_ (i := 29) (N := some 52) #[true, true, true, true, true, true, true, true, true, true, true, true, true, true, true, true, true, true, true, true, true, true, true, true, true, true, true, true, true, true, false, false] rfl rfl (one_of HT_.out (by kernel_rfl)) (by decide) (fun K hK => ?_);refine goes_ Try.func22 (by kernel_rfl) rfl #[.agg #[.int .i64 ((rd_T27 l0_0 (ji22)).f0), .int .i64 ((rd_T27 l0_0 (ji22)).f1), .int .i64 ((rd_T27 l0_0 (ji22)).f2), .bool ((rd_T27 l0_0 (ji22)).f3)], .agg #[.int .i64 ((rd_T27 l0_0 x15_1).f0), .int .i64 ((rd_T27 l0_0 x15_1).f1), .int .i64 ((rd_T27 l0_0 x15_1).f2), .bool ((rd_T27 l0_0 x15_1).f3)]] (by rfl) rfl rfl (by (try simp only [List.map_toArray, List.map_cons, List.map_nil]); first | done | (simp only [hji22]; rfl) | rfl | (simp only [List.length_drop, List.length_take]; rfl)) ?_
    with_reducible refine (impl_continues.calls ((rd_T27 l0_0 (ji22)).f0) ((rd_T27 l0_0 (ji22)).f1) ((rd_T27 l0_0 (ji22)).f2) ((rd_T27 l0_0 (ji22)).f3) ((rd_T27 l0_0 x15_1).f0) ((rd_T27 l0_0 x15_1).f1) ((rd_T27 l0_0 x15_1).f2) ((rd_T27 l0_0 x15_1).f3) t428 _ A27.out).mono ?_
    rintro e w29 ⟨rfl, hb⟩;refine ⟨_, rfl, ?_⟩;have n0_ := Ah (Kd.R_below (rr HO_3.out) hb);have n1_ := Ah (bb BK418 hb);have n2_ := Ah (bb BK423 hb);have n3_ := Ah (below_step (bs2 HB GE418 GE423) hb);clear HO_3 BK418 BK423 HB;have HO_3 := n0_;have BK418 := n1_;have BK423 := n2_;have HB := n3_;clear n0_ n1_ n2_ n3_;(try clear hb);(try clear hb2);(try clear hk);(try clear hi);refine hK.out _ _ ⟨(blk_cell BK423.out 0).trans rfl, (blk_cell BK423.out 1).trans rfl, (blk_cell BK423.out 2).trans rfl, (blk_cell BK423.out 3).trans rfl, (blk_cell BK418.out 0).trans rfl, ((HB.out.cell (World.block_lt_of_cell? w _ hw425_0)).trans hw425_0), ((HB.out.cell (World.block_lt_of_cell? w _ hw425_1)).trans hw425_1), ((HB.out.cell (World.block_lt_of_cell? w _ hw425_2)).trans hw425_2), ((HB.out.cell (World.block_lt_of_cell? w _ hw425_3)).trans hw425_3), ((HB.out.cell (World.block_lt_of_cell? w _ hw426_0)).trans hw426_0), ((HB.out.cell (World.block_lt_of_cell? w _ hw426_1)).trans hw426_1), ((HB.out.cell (World.block_lt_of_cell? w _ hw426_2)).trans hw426_2), ((HB.out.cell (World.block_lt_of_cell? w _ hw426_3)).trans hw426_3), ((HB.out.cell (World.block_lt_of_cell? w _ hw427_0)).trans hw427_0), ((HB.out.cell (World.block_lt_of_cell? w _ hw427_1)).trans hw427_1), ((HB.out.cell (World.block_lt_of_cell? w _ hw427_2)).trans hw427_2), ((HB.out.cell (World.block_lt_of_cell? w _ hw427_3)).trans hw427_3)⟩ (fun hHeld => ?_);clear hK K;refine norm_ (a' := ?_) ?_ ?_;rotate_left
    ·
     show Act.put _ (some 52) _ = _
     simp only [Act.put, List.setIfInBounds_toArray, List.set_cons_zero, List.set_cons_succ, i64_w, i32_w]
     rfl
    refine pureS 30 53 HT_.out ?_;refine pureS 31 54 HT_.out ?_;refine done_ (done_of HT_.out (by kernel_rfl)) ?_
    try go_wp2
    go_meet
    case rel => exact ⟨_, (t428), e3, H', ⟨by have := HK1.out; first | omega | exact Nat.le_refl _⟩, ⟨rr HO_3.out⟩, ⟨bk BK418⟩, ⟨bk BK423⟩, ⟨bs2 HB GE418 GE423⟩⟩
   case rest =>
    clear HC16
    try clear c2
    try clear p2
    try clear p4
    try clear q4
    try clear hx4
    try clear p6
    try clear c21
    try clear c21b0
    try clear c22
    try clear c23
    try clear c24
    try clear c25
    try clear c25b0
    try clear hx425_0
    try clear hx425_1
    try clear hx425_2
    try clear hx425_3
    try clear hx426_0
    try clear hx426_1
    try clear hx426_2
    try clear hx426_3
    try clear hx427_0
    try clear hx427_1
    try clear hx427_2
    try clear hx427_3
    try clear p425
    try clear p426
    try clear p427
    try clear q425
    try clear q426
    try clear q427
    obtain ⟨kq, x54_15, rfl, HA, HJ15, HO_3, BK418, BK423, HB⟩ := hcut
    cases kq with
    | zero => exact absurd HA.out (by simp [impl_GoodMap.j1])
    | succ kj15 =>
     have H := HA.out;clear HA;simp only [impl_GoodMap.j1] at H
     by_cases c31 : x54_15 = true
     ·
      subst c31;rw [if_pos rfl] at H;obtain rfl := Option.some.inj H
      go_wp2
      go_ret
      exact ⟨er, bs2 HB GE418 GE423⟩
     replace c31 := Bool.eq_false_iff.mpr c31;subst c31;rw [if_neg fne] at H;have H' := Ah H;clear H;have hnb32 := NB423_418.out;have hnc32 := NB418_423.out;obtain ⟨hcz33_0, hcz33_1, hcz33_2, hcz33_3⟩ := cz4 BK423;obtain ⟨hfz33_0, hfz33_1, hfz33_2, hfz33_3⟩ := fz4 BK423
     go_wp2
     go_loopg [57] kj15 (fun kq v57 w' => ∃ (x3_3 : List Bool) (x57_3 : Int), v57 = .int .i64 x57_3 ∧ Aside0 (impl_GoodMap.l1 kq x3_3 l0_0 (l0_0.length : Int) x15_1 ((rd_T27 l0_0 x15_1).f1) x57_3 l0_0 ((rd_T27 l0_0 x15_1).f0) ((rd_T27 l0_0 x15_1).f1) ((rd_T27 l0_0 x15_1).f2) ((rd_T27 l0_0 x15_1).f3) = some r) ∧ Aside0 (kq ≤ kj15) ∧ Aside0 (Kd.R Kd.bool 4 w' w.heap.size (fun _ => True) v420 x3_3) ∧ Aside0 (w'.heap[gb418]? = some (.cells #[(.slice (some ad422) l0_0.length c0_0)] 25 (0, 0))) ∧ Aside0 (w'.heap[gb423]? = some (.cells #[.int .i64 ((rd_T27 l0_0 x15_1).f0), .int .i64 ((rd_T27 l0_0 x15_1).f1), .int .i64 ((rd_T27 l0_0 x15_1).f2), .bool ((rd_T27 l0_0 x15_1).f3)] 27 (0, 0))) ∧ Aside0 (Below w.heap.size w w'))
     case atStart => exact ⟨(x3_1), (0), e3, H', ⟨Nat.le_refl _⟩, ⟨rr HO_3.out⟩, ⟨bk BK418⟩, ⟨bk BK423⟩, ⟨bs2 HB GE418 GE423⟩⟩
     case round =>
      clear H'
      try clear c2
      try clear p2
      try clear c3
      try clear p4
      try clear q4
      try clear hx4
      try clear p6
      try clear c21
      try clear c21b0
      try clear c22
      try clear c23
      try clear c24
      try clear c25
      try clear c25b0
      try clear c31
      try clear c32
      try clear hcz33_0 hcz33_1 hcz33_2 hcz33_3
      try clear hfz33_0 hfz33_1 hfz33_2 hfz33_3
      try clear hx425_0
      try clear hx425_1
      try clear hx425_2
      try clear hx425_3
      try clear hx426_0
      try clear hx426_1
      try clear hx426_2
      try clear hx426_3
      try clear hx427_0
      try clear hx427_1
      try clear hx427_2
      try clear hx427_3
      try clear p2
      try clear p4
      try clear p425
      try clear p426
      try clear p427
      try clear p6
      try clear q4
      try clear q425
      try clear q426
      try clear q427
      obtain ⟨x3_3, x57_3, rfl, HA, HK3, HO_3, BK418, BK423, HB⟩ := hrel
      cases gk with
      | zero => exact absurd HA.out (by simp [impl_GoodMap.l1])
      | succ k3 =>
       have H := HA.out;clear HA;simp only [impl_GoodMap.l1] at H
       by_cases c34 : x57_3 < ((rd_T27 l0_0 x15_1).f1)
       rotate_left
       ·
        rw [if_neg c34] at H;have c34b0 : decide (x57_3 < ((rd_T27 l0_0 x15_1).f1)) = false := decide_eq_false c34;clear c34;have H' := Ah H;clear H
        go_wp2
        go_roundg k3
        case measure => have := HK1.out; have := HJ15.out; have := HK3.out; omega
        case rel => exact ⟨(x3_3), (wrap64 (x15_1 + 1)), e3, H', ⟨by have := HK1.out; have := HJ15.out; have := HK3.out; omega⟩, ⟨rr HO_3.out⟩, ⟨bk BK418⟩, ⟨bs2 HB GE418 GE423⟩⟩
       rw [if_pos c34] at H;have c34b0 : decide (x57_3 < ((rd_T27 l0_0 x15_1).f1)) = true := decide_eq_true c34;clear c34;obtain ⟨ji35, hji35⟩ : ∃ j_ : Int, (wrap64 (((rd_T27 l0_0 x15_1).f2) + x57_3)) = j_ := ⟨_, rfl⟩
       replace H : (if 0 ≤ (ji35) then (if (ji35) < (x3_3.length : Int) then (if rdOf false x3_3 (ji35) = true then (some false) else (impl_GoodMap.l1 k3 (x3_3.set ((ji35) : Int).toNat true) l0_0 (l0_0.length : Int) x15_1 ((rd_T27 l0_0 x15_1).f1) (wrap64 (x57_3 + 1)) l0_0 ((rd_T27 l0_0 x15_1).f0) ((rd_T27 l0_0 x15_1).f1) ((rd_T27 l0_0 x15_1).f2) ((rd_T27 l0_0 x15_1).f3))) else (none)) else (none)) = some r := by first | (rw [hji35] at H; exact H) | (simp only [hji35] at H ⊢; exact H)
       have hji35w : (IntKind.i64.wrap (((rd_T27 l0_0 x15_1).f2) + x57_3)) = ji35 := (i64_w _).trans hji35
       by_cases c36 : 0 ≤ (ji35)
       rotate_left
       ·
        rw [if_neg c36] at H;exact absurd H (by simp)
       rw [if_pos c36] at H;have c36b0 : decide (0 ≤ (ji35)) = true := decide_eq_true c36;clear c36
       by_cases c37 : (ji35) < (x3_3.length : Int)
       rotate_left
       ·
        rw [if_neg c37] at H;exact absurd H (by simp)
       rw [if_pos c37] at H;have c37b0 : decide ((ji35) < (x3_3.length : Int)) = true := decide_eq_true c37;clear c37;obtain ⟨bq38, hbq38⟩ : ∃ b_ : Bool, b_ = (rdOf false x3_3 (ji35)) := ⟨_, rfl⟩
       replace H : (if bq38 = true then (some false) else (impl_GoodMap.l1 k3 (x3_3.set ((ji35) : Int).toNat true) l0_0 (l0_0.length : Int) x15_1 ((rd_T27 l0_0 x15_1).f1) (wrap64 (x57_3 + 1)) l0_0 ((rd_T27 l0_0 x15_1).f0) ((rd_T27 l0_0 x15_1).f1) ((rd_T27 l0_0 x15_1).f2) ((rd_T27 l0_0 x15_1).f3))) = some r := by rw [← hbq38] at H; exact H
       have Nbq38 := Ah hbq38;clear hbq38
       by_cases c39 : bq38 = true
       ·
        subst c39;rw [if_pos rfl] at H;obtain rfl := Option.some.inj H;have hnb40 := NB423_418.out;have hnc40 := NB418_423.out;obtain ⟨hcz41_0, hcz41_1, hcz41_2, hcz41_3⟩ := cz4 BK423;obtain ⟨hfz41_0, hfz41_1, hfz41_2, hfz41_3⟩ := fz4 BK423;obtain ⟨Ao42, co42, eo42⟩ := Kd.R_slice HO_3.out;subst eo42;have p429 : 0 ≤ ((ji35) : Int) := od;have q429 : (ji35) < (x3_3.length : Int) := od;obtain ⟨ad429, e429, hx429_0⟩ := Kd.at_bool (Kd.R_reads' HO_3.out).2.2 (ji35) p429 q429;(try rw [← Nbq38.out] at hx429_0)
        cases e429
        replace p429 := eq_true p429;replace q429 := eq_true q429
        go_wp2
        go_ret
        exact ⟨by first | rfl | (simp [errW_none, errW_some] <;> rfl) | (simp only [← hji35]; first | rfl | (simp [errW_none, errW_some] <;> rfl)) | (simp [*, errW_none, errW_some] <;> rfl), bs2 HB GE418 GE423⟩
       replace c39 := Bool.eq_false_iff.mpr c39;subst c39;rw [if_neg fne] at H;obtain ⟨y430, hy430⟩ : ∃ y_ : List Bool, y_ = (x3_3.set ((ji35) : Int).toNat true) := ⟨_, rfl⟩
       replace H : (impl_GoodMap.l1 k3 y430 l0_0 (l0_0.length : Int) x15_1 ((rd_T27 l0_0 x15_1).f1) (wrap64 (x57_3 + 1)) l0_0 ((rd_T27 l0_0 x15_1).f0) ((rd_T27 l0_0 x15_1).f1) ((rd_T27 l0_0 x15_1).f2) ((rd_T27 l0_0 x15_1).f3)) = some r := by first | (rw [hy430]; with_reducible exact H) | (have H2_ := (Option.bind_some _ _).symm.trans H; rw [hy430]; with_reducible exact H2_) | (have H2_ := (Option.bind_some _ _).symm.trans H; with_reducible exact H2_) | with_reducible exact H | (rw [hy430]; exact H) | exact H
       have Ny430 := Ah hy430;clear hy430;have H' := Ah H;clear H;have hnb44 := NB423_418.out;have hnc44 := NB418_423.out;obtain ⟨hcz45_0, hcz45_1, hcz45_2, hcz45_3⟩ := cz4 BK423;obtain ⟨hfz45_0, hfz45_1, hfz45_2, hfz45_3⟩ := fz4 BK423;obtain ⟨Ao46, co46, eo46⟩ := Kd.R_slice HO_3.out;subst eo46;have p429 : 0 ≤ ((ji35) : Int) := od;have q429 : (ji35) < (x3_3.length : Int) := od;obtain ⟨ad429, e429, hx429_0⟩ := Kd.at_bool (Kd.R_reads' HO_3.out).2.2 (ji35) p429 q429;(try rw [← Nbq38.out] at hx429_0)
       cases e429
       replace p429 := eq_true p429;replace q429 := eq_true q429;have p43 : 0 ≤ ((ji35) : Int) := od;have q43 : ((ji35) : Int) < ((x3_3.length : Int) : Int) := od;obtain ⟨go43, co43, eo43, gb43, gl43, cl43, HG43⟩ := Kd.R_form HO_3.out (by omega);(first | cases eo43 | (injection eo43 with ea_ en_ ec_; (first | subst ea_ | (injection ea_ with ea_; subst ea_)); subst ec_; clear en_));have GB43 := Ah gb43;have GG43 := Ah HG43;clear gb43 gl43 HG43;(first | simp only [add_plain] at hx429_0 | skip);obtain ⟨hx43_0, hf43_0⟩ := Kd.R_celln false HO_3.out ((ji35) : Int) p43 q43;replace p43 := eq_true p43;replace q43 := eq_true q43;have HP47 := Kd.R_putg HO_3.out ((ji35) : Int) true
       go_wp2_with (first | ((with_reducible refine gate_store (t := 4) (p := 72) rfl ?_); refine store_event (t := 4) (p := 72) (v := ?vo_w48) (w1 := (wr.setCell ⟨go43, ((ji35) : Int).toNat, none⟩ (.bool true))) ?hg ?ho ?hn ?hr ?_; (case ho => rfl); (case hg => rfl); (case hn => rfl); (case hr => first | (go_simp; done) | (go_simp; rfl)); intro w48 hw; have hg : wr.grownBy w48 (some go43) := (by rw [hw]; exact HP47.2); have hp_ : Kd.R Kd.bool 4 w48 w.heap.size (fun _ => True) (.slice (some ⟨go43, 0, none⟩) x3_3.length co46) y430 := (by rw [hw, Ny430.out]; exact HP47.1); clear HP47; replace BK418 := Ah (blk_grown (bk BK418) hg (Kd.R_ne HO_3.out BK418.out (by decide))); replace BK423 := Ah (blk_grown (bk BK423) hg (Kd.R_ne HO_3.out BK423.out (by decide))); replace HO_3 := Ah (hp_); replace HB := Ah ((by rw [hw]; exact below_set (HB.out) GB43.out : Below w.heap.size w w48)); clear hg hw hp_))
       go_roundg k3
       case measure => have := HK1.out; have := HJ15.out; have := HK3.out; omega
       case rel => exact ⟨(y430), (wrap64 (x57_3 + 1)), e3, H', ⟨by have := HK1.out; have := HJ15.out; have := HK3.out; omega⟩, ⟨rr HO_3.out⟩, ⟨bk BK418⟩, ⟨bk BK423⟩, ⟨bs2 HB GE418 GE423⟩⟩
mutual
def impl_FileMap_cells.l0 : Nat → List (S55) → List (S27) → Int → Int → Option ((List (S55)))
 | 0, _, _, _, _ => none
 | k + 1, x3, x9, x10, x11 => if x11 < x10 then (if 0 ≤ x11 then (if x11 < (x9.length : Int) then (impl_FileMap_cells.l1 k x3 x9 x10 x11 ((rd_T27 x9 x11).f1) 0 ((rd_T27 x9 x11).f0) ((rd_T27 x9 x11).f1) ((rd_T27 x9 x11).f2) ((rd_T27 x9 x11).f3)) else (none)) else (none)) else (some x3)
def impl_FileMap_cells.l1 : Nat → List (S55) → List (S27) → Int → Int → Int → Int → Int → Int → Int → Bool → Option ((List (S55)))
 | 0, _, _, _, _, _, _, _, _, _, _ => none
 | k + 1, x3, x9, x10, x11, x16, x17, x437000, x437001, x437002, x437003 => if x17 < x16 then (if 0 ≤ (wrap64 (x437000 + x17)) then (if (wrap64 (x437000 + x17)) < (x3.length : Int) then (impl_FileMap_cells.l1 k (x3.set ((wrap64 (x437000 + x17)) : Int).toNat (⟨true, wrap64 (x437002 + x17), x437003⟩ : S55)) x9 x10 x11 x16 (wrap64 (x17 + 1)) x437000 x437001 x437002 x437003) else (none)) else (none)) else (impl_FileMap_cells.l0 k x3 x9 x10 (wrap64 (x11 + 1)))
end
def impl_FileMap_cells.f (k : Nat) (l0_0 : List (S27)) : Option ((List (S55))) := if 200 ≤ 11728124029610 then (impl_FileMap_cells.l0 k (List.replicate 200 z55) l0_0 (l0_0.length : Int) 0) else (none)
theorem impl_FileMap_cells.mono_l : ∀ k, (∀ y0 y1 y2 y3, LeO (impl_FileMap_cells.l0 k y0 y1 y2 y3) (impl_FileMap_cells.l0 (k + 1) y0 y1 y2 y3)) ∧ (∀ y0 y1 y2 y3 y4 y5 y6 y7 y8 y9, LeO (impl_FileMap_cells.l1 k y0 y1 y2 y3 y4 y5 y6 y7 y8 y9) (impl_FileMap_cells.l1 (k + 1) y0 y1 y2 y3 y4 y5 y6 y7 y8 y9))
 | 0 => ⟨fun _ _ _ _ r h => by simp [impl_FileMap_cells.l0] at h, fun _ _ _ _ _ _ _ _ _ _ r h => by simp [impl_FileMap_cells.l1] at h⟩
 | k + 1 => by
  obtain ⟨ih0, ih1⟩ := impl_FileMap_cells.mono_l k
  refine ⟨?_, ?_⟩ <;> intros <;> first | unfold impl_FileMap_cells.l0 | unfold impl_FileMap_cells.l1
  all_goals repeat' first
   | (with_reducible exact ih0 _ _ _ _)
   | (with_reducible exact ih1 _ _ _ _ _ _ _ _ _ _)
   | (with_reducible exact LeO.refl _)
   | (with_reducible exact LeO.none _)
   | (with_reducible refine LeO.ite ?_ ?_)
   | (with_reducible refine LeO.bind ?_ (fun _ => ?_))
   | exact ih0 _ _ _ _
   | exact ih1 _ _ _ _ _ _ _ _ _ _
   | exact LeO.none _
   | refine LeO.ite ?_ ?_
   | refine LeO.bind ?_ (fun _ => ?_)
theorem impl_FileMap_cells.mono : ∀ a0 k, LeO (impl_FileMap_cells.f k a0) (impl_FileMap_cells.f (k + 1) a0) := by
 intro a0 k;obtain ⟨ih0, ih1⟩ := impl_FileMap_cells.mono_l k;unfold impl_FileMap_cells.f
 repeat' with_reducible first|exact ih0 _ _ _ _|exact ih1 _ _ _ _ _ _ _ _ _ _|exact LeO.refl _|exact LeO.none _|refine LeO.ite ?_ ?_|refine LeO.bind ?_ (fun _ => ?_)
set_option maxHeartbeats 8000000 in
set_option maxRecDepth 100000 in
theorem impl_FileMap_cells.calls (k : Nat) (A0_0 : Option Addr) (c0_0 : Nat) (l0_0 : List (S27)) (r : List (S55)) (w : World) (hr0_0 : Kd.C k27 w A0_0 l0_0.length l0_0) (hc0_0 : l0_0.length ≤ c0_0) (h : impl_FileMap_cells.f k l0_0 = some r) :
  Calls Try.prog 17 #[.agg #[.slice A0_0 l0_0.length c0_0]] w fun e w' => ∃ v0_ : Value, e = .returned (v0_) ∧ Kd.R k55 55 w' w.heap.size (fun _ => True) v0_ r ∧ Below w.heap.size w w' := by
 have hu25 := Try.underlying25;have hu27 := Try.underlying27;have hu55 := Try.underlying55;have HR0_0 := Ah hr0_0;have HC0_0 := Ah hc0_0;clear hr0_0 hc0_0;have HB := Ah (Below.refl w.heap.size w);have H : (if 200 ≤ 11728124029610 then (impl_FileMap_cells.l0 k (List.replicate 200 z55) l0_0 (l0_0.length : Int) 0) else (none)) = some r := h;clear h
 by_cases c2 : 200 ≤ 11728124029610
 rotate_left
 ·
  rw [if_neg c2] at H;exact absurd H (by simp)
 rw [if_pos c2] at H;have c2b0 := eq_true c2;have c2b1 : decide (200 ≤ 11728124029610) = true := decide_eq_true c2;clear c2;obtain ⟨y432, hy432⟩ : ∃ y_ : List (S55), y_ = (List.replicate 200 z55) := ⟨_, rfl⟩
 replace H : (impl_FileMap_cells.l0 k y432 l0_0 (l0_0.length : Int) 0) = some r := by first | (rw [hy432]; with_reducible exact H) | (have H2_ := (Option.bind_some _ _).symm.trans H; rw [hy432]; with_reducible exact H2_) | (have H2_ := (Option.bind_some _ _).symm.trans H; with_reducible exact H2_) | with_reducible exact H | (rw [hy432]; exact H) | exact H
 have Ny432 := Ah hy432;clear hy432;have H' := Ah H;clear H
 go_enter Try.func17, Try.ntmps17
 go_wp2_with (first | ((with_reducible refine gate_dst (N := 1) rfl ?_); refine boxL 1 25 #[.slice A0_0 l0_0.length c0_0] ?_; intro gb431 hg w3 BK431 hb; have GW431 := gw hg (bs HB); have GE431 := gw hg (bs HB); replace HB := Ah (below_step (bs HB) hb); clear hb hg) | ((with_reducible refine gate_dst (N := 7) rfl ?_); refine Kd.R_make k55 _ 55 rfl (N := 7) rfl 52 _ _ rfl 200 rfl rfl Try.underlying52 (.agg #[(.bool false), (.int .i64 0), (.bool false)]) 24 info55 rfl (by decide) (by omega) z55 (ok := fun _ => True) (okp := fun _ => True) (k55_mkM _ _ _ z55 ) (fun _ hk => hk) trivial (by omega) (by omega) (Below.refl _ _) (Nat.le_refl _) ?_; intro v433 w4 ho5 hb hg_ hnew_; clear hg_ hnew_; (first | rw [← Ny432.out] at ho5 | (simp only [Int.reduceToNat] at ho5; rw [← Ny432.out] at ho5)); have HO434 := Ah (Kd.R_lower ho5 (below_size (bs1 HB GE431))); replace BK431 := nb BK431 hb; replace HB := Ah (below_step (bs1 HB GE431) hb); clear hb ho5; have hcz6_0 := cz1 BK431; have hfz6_0 := fz1 BK431))
 go_loopg [11] k (fun kq v11 w' => ∃ (x3_1 : List (S55)) (x11_1 : Int), v11 = .int .i64 x11_1 ∧ Aside0 (impl_FileMap_cells.l0 kq x3_1 l0_0 (l0_0.length : Int) x11_1 = some r) ∧ Aside0 (kq ≤ k) ∧ Aside0 (Kd.R k55 55 w' w.heap.size (fun _ => True) v433 x3_1) ∧ Aside0 (w'.heap[gb431]? = some (.cells #[(.slice A0_0 l0_0.length c0_0)] 25 (0, 0))) ∧ Aside0 (Below w.heap.size w w'))
 case atStart => exact ⟨(y432), (0), e3, H', ⟨Nat.le_refl _⟩, ⟨rr HO434.out⟩, ⟨bk BK431⟩, ⟨bs1 HB GE431⟩⟩
 case round =>
  clear H'
  try clear c1
  try clear c2
  try clear c2b0
  try clear c2b1
  try clear p2
  try clear hcz6_0
  try clear hfz6_0
  obtain ⟨x3_1, x11_1, rfl, HA, HK1, HO_3, BK431, HB⟩ := hrel
  cases gk with
  | zero => exact absurd HA.out (by simp [impl_FileMap_cells.l0])
  | succ k1 =>
   have H := HA.out;clear HA;simp only [impl_FileMap_cells.l0] at H
   by_cases c7 : x11_1 < (l0_0.length : Int)
   rotate_left
   ·
    rw [if_neg c7] at H;have c7b0 : decide (x11_1 < (l0_0.length : Int)) = false := decide_eq_false c7;clear c7;obtain rfl := Option.some.inj H
    go_wp2
    go_ret
    exact ⟨_, er, by (with_reducible repeat (first | apply Kd.R_alloc | apply Kd.R_drewN | apply Kd.R_drew)); exact HO_3.out, bs1 HB GE431⟩
   rw [if_pos c7] at H;have c7b0 : decide (x11_1 < (l0_0.length : Int)) = true := decide_eq_true c7;clear c7
   by_cases c8 : 0 ≤ x11_1
   rotate_left
   ·
    rw [if_neg c8] at H;exact absurd H (by simp)
   rw [if_pos c8] at H;have c8b0 : decide (0 ≤ x11_1) = true := decide_eq_true c8;clear c8
   by_cases c9 : x11_1 < (l0_0.length : Int)
   rotate_left
   ·
    rw [if_neg c9] at H;exact absurd H (by simp)
   rw [if_pos c9] at H;have c9b0 : decide (x11_1 < (l0_0.length : Int)) = true := decide_eq_true c9;clear c9;have H' := Ah H;clear H;have p435 : 0 ≤ (x11_1 : Int) := od;have q435 : x11_1 < (l0_0.length : Int) := od;obtain ⟨ad435, e435, hx435_0, hx435_1, hx435_2, hx435_3⟩ := at_T27 HR0_0.out x11_1 p435 q435
   cases e435
   replace hx435_0 := (HB.out.cell (World.block_lt_of_cell? w _ hx435_0)).trans hx435_0;replace hx435_1 := (HB.out.cell (World.block_lt_of_cell? w _ hx435_1)).trans hx435_1;replace hx435_2 := (HB.out.cell (World.block_lt_of_cell? w _ hx435_2)).trans hx435_2;replace hx435_3 := (HB.out.cell (World.block_lt_of_cell? w _ hx435_3)).trans hx435_3;replace p435 := eq_true p435;replace q435 := eq_true q435
   go_wp2_with (first | ((with_reducible refine gate_dst (N := 5) rfl ?_); refine boxL 5 27 #[.int .i64 0, .int .i64 0, .int .i64 0, .bool false] ?_; intro gb436 hg w10 BK436 hb; replace HO_3 := nr HO_3 hb; have GW436 := gw hg (bs1 HB GE431); have GE436 := gw hg (bs1 HB GE431); replace HB := Ah (below_step (bs1 HB GE431) hb); have NB431_436 := nn BK431 hg; have NB436_431 := nm BK431 hg; replace BK431 := nb BK431 hb; clear hb hg; have hnb11 := NB436_431.out; have hnc11 := NB431_436.out; obtain ⟨hcz12_0, hcz12_1, hcz12_2, hcz12_3⟩ := cz4 BK436; obtain ⟨hfz12_0, hfz12_1, hfz12_2, hfz12_3⟩ := fz4 BK436))
   go_loopg [17] k1 (fun kq v17 w' => ∃ (x3_2 : List (S55)) (x17_2 : Int), v17 = .int .i64 x17_2 ∧ Aside0 (impl_FileMap_cells.l1 kq x3_2 l0_0 (l0_0.length : Int) x11_1 ((rd_T27 l0_0 x11_1).f1) x17_2 ((rd_T27 l0_0 x11_1).f0) ((rd_T27 l0_0 x11_1).f1) ((rd_T27 l0_0 x11_1).f2) ((rd_T27 l0_0 x11_1).f3) = some r) ∧ Aside0 (kq ≤ k1) ∧ Aside0 (Kd.R k55 55 w' w.heap.size (fun _ => True) v433 x3_2) ∧ Aside0 (w'.heap[gb431]? = some (.cells #[(.slice (some ad435) l0_0.length c0_0)] 25 (0, 0))) ∧ Aside0 (w'.heap[gb436]? = some (.cells #[.int .i64 ((rd_T27 l0_0 x11_1).f0), .int .i64 ((rd_T27 l0_0 x11_1).f1), .int .i64 ((rd_T27 l0_0 x11_1).f2), .bool ((rd_T27 l0_0 x11_1).f3)] 27 (0, 0))) ∧ Aside0 (Below w.heap.size w w'))
   case atStart => exact ⟨(x3_1), (0), e3, H', ⟨Nat.le_refl _⟩, ⟨by (with_reducible repeat (first | apply Kd.R_alloc | apply Kd.R_drewN | apply Kd.R_drew)); exact Kd.R_mono (Kd.R_far (p := ⟨gb436, 3, none⟩) (Kd.R_far (p := ⟨gb436, 2, none⟩) (Kd.R_far (p := ⟨gb436, 1, none⟩) (Kd.R_far (p := ⟨gb436, 0, none⟩) (Kd.R_types HO_3.out BK436.out (by decide)) (fun _ hk => hk.2) (.int .i64 ((rd_T27 l0_0 x11_1).f0))) (fun _ hk => hk.2) (.int .i64 ((rd_T27 l0_0 x11_1).f1))) (fun _ hk => hk.2) (.int .i64 ((rd_T27 l0_0 x11_1).f2))) (fun _ hk => hk.2) (.bool ((rd_T27 l0_0 x11_1).f3))) (fun _ hk => trivial)⟩, ⟨bf BK431 NB431_436⟩, ⟨by (with_reducible repeat (first | refine blk_drewN ?_ _ | refine blk_drew ?_ | refine blk_alloc ?_ _)); refine blk_put (cs := #[.int .i64 ((rd_T27 l0_0 x11_1).f0), .int .i64 ((rd_T27 l0_0 x11_1).f1), .int .i64 ((rd_T27 l0_0 x11_1).f2), .bool false]) ?_ 3 _ rfl; (with_reducible repeat (first | refine blk_drewN ?_ _ | refine blk_drew ?_ | refine blk_alloc ?_ _)); refine blk_put (cs := #[.int .i64 ((rd_T27 l0_0 x11_1).f0), .int .i64 ((rd_T27 l0_0 x11_1).f1), .int .i64 0, .bool false]) ?_ 2 _ rfl; (with_reducible repeat (first | refine blk_drewN ?_ _ | refine blk_drew ?_ | refine blk_alloc ?_ _)); refine blk_put (cs := #[.int .i64 ((rd_T27 l0_0 x11_1).f0), .int .i64 0, .int .i64 0, .bool false]) ?_ 1 _ rfl; (with_reducible repeat (first | refine blk_drewN ?_ _ | refine blk_drew ?_ | refine blk_alloc ?_ _)); refine blk_put (cs := #[.int .i64 0, .int .i64 0, .int .i64 0, .bool false]) ?_ 0 _ rfl; (with_reducible repeat (first | refine blk_drewN ?_ _ | refine blk_drew ?_ | refine blk_alloc ?_ _)); exact BK436.out⟩, ⟨bs2 HB GE431 GE436⟩⟩
   case round =>
    clear H'
    try clear c1
    try clear c2
    try clear c2b0
    try clear c2b1
    try clear p2
    try clear p4
    try clear q4
    try clear hx4
    try clear c7
    try clear c7b0
    try clear c8
    try clear c8b0
    try clear c9
    try clear c9b0
    try clear c11
    try clear hcz12_0 hcz12_1 hcz12_2 hcz12_3
    try clear hcz6_0
    try clear hfz12_0 hfz12_1 hfz12_2 hfz12_3
    try clear hfz6_0
    try clear hx435_0
    try clear hx435_1
    try clear hx435_2
    try clear hx435_3
    try clear p2
    try clear p435
    try clear q435
    obtain ⟨x3_2, x17_2, rfl, HA, HK2, HO_3, BK431, BK436, HB⟩ := hrel
    cases gk with
    | zero => exact absurd HA.out (by simp [impl_FileMap_cells.l1])
    | succ k2 =>
     have H := HA.out;clear HA;simp only [impl_FileMap_cells.l1] at H
     by_cases c13 : x17_2 < ((rd_T27 l0_0 x11_1).f1)
     rotate_left
     ·
      rw [if_neg c13] at H;have c13b0 : decide (x17_2 < ((rd_T27 l0_0 x11_1).f1)) = false := decide_eq_false c13;clear c13;have H' := Ah H;clear H
      go_wp2
      go_roundg k2
      case measure => have := HK1.out; have := HK2.out; omega
      case rel => exact ⟨(x3_2), (wrap64 (x11_1 + 1)), e3, H', ⟨by have := HK1.out; have := HK2.out; omega⟩, ⟨rr HO_3.out⟩, ⟨bk BK431⟩, ⟨bs2 HB GE431 GE436⟩⟩
     rw [if_pos c13] at H;have c13b0 : decide (x17_2 < ((rd_T27 l0_0 x11_1).f1)) = true := decide_eq_true c13;clear c13;obtain ⟨ji14, hji14⟩ : ∃ j_ : Int, (wrap64 (((rd_T27 l0_0 x11_1).f0) + x17_2)) = j_ := ⟨_, rfl⟩
     replace H : (if 0 ≤ (ji14) then (if (ji14) < (x3_2.length : Int) then (impl_FileMap_cells.l1 k2 (x3_2.set ((ji14) : Int).toNat (⟨true, wrap64 (((rd_T27 l0_0 x11_1).f2) + x17_2), ((rd_T27 l0_0 x11_1).f3)⟩ : S55)) l0_0 (l0_0.length : Int) x11_1 ((rd_T27 l0_0 x11_1).f1) (wrap64 (x17_2 + 1)) ((rd_T27 l0_0 x11_1).f0) ((rd_T27 l0_0 x11_1).f1) ((rd_T27 l0_0 x11_1).f2) ((rd_T27 l0_0 x11_1).f3)) else (none)) else (none)) = some r := by first | (rw [hji14] at H; exact H) | (simp only [hji14] at H ⊢; exact H)
     have hji14w : (IntKind.i64.wrap (((rd_T27 l0_0 x11_1).f0) + x17_2)) = ji14 := (i64_w _).trans hji14
     by_cases c15 : 0 ≤ (ji14)
     rotate_left
     ·
      rw [if_neg c15] at H;exact absurd H (by simp)
     rw [if_pos c15] at H;have c15b0 : decide (0 ≤ (ji14)) = true := decide_eq_true c15;clear c15
     by_cases c16 : (ji14) < (x3_2.length : Int)
     rotate_left
     ·
      rw [if_neg c16] at H;exact absurd H (by simp)
     rw [if_pos c16] at H;have c16b0 : decide ((ji14) < (x3_2.length : Int)) = true := decide_eq_true c16;clear c16;obtain ⟨y437, hy437⟩ : ∃ y_ : List (S55), y_ = (x3_2.set ((ji14) : Int).toNat (⟨true, wrap64 (((rd_T27 l0_0 x11_1).f2) + x17_2), ((rd_T27 l0_0 x11_1).f3)⟩ : S55)) := ⟨_, rfl⟩
     replace H : (impl_FileMap_cells.l1 k2 y437 l0_0 (l0_0.length : Int) x11_1 ((rd_T27 l0_0 x11_1).f1) (wrap64 (x17_2 + 1)) ((rd_T27 l0_0 x11_1).f0) ((rd_T27 l0_0 x11_1).f1) ((rd_T27 l0_0 x11_1).f2) ((rd_T27 l0_0 x11_1).f3)) = some r := by first | (rw [hy437]; with_reducible exact H) | (have H2_ := (Option.bind_some _ _).symm.trans H; rw [hy437]; with_reducible exact H2_) | (have H2_ := (Option.bind_some _ _).symm.trans H; with_reducible exact H2_) | with_reducible exact H | (rw [hy437]; exact H) | exact H
     have Ny437 := Ah hy437;clear hy437;have H' := Ah H;clear H;have hnb18 := NB436_431.out;have hnc18 := NB431_436.out;obtain ⟨hcz19_0, hcz19_1, hcz19_2, hcz19_3⟩ := cz4 BK436;obtain ⟨hfz19_0, hfz19_1, hfz19_2, hfz19_3⟩ := fz4 BK436;have p17 : 0 ≤ ((ji14) : Int) := od;have q17 : ((ji14) : Int) < ((x3_2.length : Int) : Int) := od;obtain ⟨go17, co17, eo17, gb17, gl17, cl17, HG17⟩ := Kd.R_form HO_3.out (by omega);(first | cases eo17 | (injection eo17 with ea_ en_ ec_; (first | subst ea_ | (injection ea_ with ea_; subst ea_)); subst ec_; clear en_));have GB17 := Ah gb17;have GG17 := Ah HG17;clear gb17 gl17 HG17;obtain ⟨ce17, hcl17, hM17, hcc17, hfr17⟩ := Kd.R_elem HO_3.out z55 ((ji14) : Int) p17 q17;obtain rfl := k55_openM hM17;have hx17_0 : wr.cell? ⟨go17, ((ji14) : Int).toNat * 3, none⟩ = some (.bool ((rd_T55 x3_2 (ji14)).f0)) := hcc17 0 _ rfl;have hx17_1 : wr.cell? ⟨go17, ((ji14) : Int).toNat * 3 + 1, none⟩ = some (.int .i64 ((rd_T55 x3_2 (ji14)).f1)) := hcc17 1 _ rfl;have hx17_2 : wr.cell? ⟨go17, ((ji14) : Int).toNat * 3 + 2, none⟩ = some (.bool ((rd_T55 x3_2 (ji14)).f2)) := hcc17 2 _ rfl;have hf17_0 : wr.frozen? ⟨go17, ((ji14) : Int).toNat * 3, none⟩ = false := hfr17 0;have hf17_1 : wr.frozen? ⟨go17, ((ji14) : Int).toNat * 3 + 1, none⟩ = false := hfr17 1;have hf17_2 : wr.frozen? ⟨go17, ((ji14) : Int).toNat * 3 + 2, none⟩ = false := hfr17 2;clear hcl17 hcc17 hfr17 hM17;replace p17 := eq_true p17;replace q17 := eq_true q17;have HX20 := Ah (show Kd.R k55 55 wr w.heap.size (fun _ => True) (.slice (some ⟨go17, 0, none⟩) x3_2.length co17) x3_2 from (rr HO_3.out));obtain ⟨ce20, hcl20, hM20, hcc20, hfr20⟩ := Kd.R_elem HX20.out z55 ((ji14) : Int) (od) (by have h_ : ((ji14) : Int) < ((x3_2.length : Int) : Int) := od; first | exact h_ | (have e_ := (Kd.R_reads' HO_3.out).1; omega) | simpa using h_);obtain rfl := k55_openM hM20;have HP20 := Kd.R_seg HX20.out ((ji14) : Int) (od) (by have h_ : ((ji14) : Int) < ((x3_2.length : Int) : Int) := od; first | exact h_ | (have e_ := (Kd.R_reads' HO_3.out).1; omega) | simpa using h_) (seg := [.bool true, .int .i64 (wrap64 (((rd_T27 l0_0 x11_1).f2) + x17_2)), .bool ((rd_T27 l0_0 x11_1).f3)]) (j := 0) hcl20 hcc20 (show 3 ≤ 3 from by decide) (x' := (⟨true, wrap64 (((rd_T27 l0_0 x11_1).f2) + x17_2), ((rd_T27 l0_0 x11_1).f3)⟩ : S55)) (k55_mkM _ _ _ (⟨true, wrap64 (((rd_T27 l0_0 x11_1).f2) + x17_2), ((rd_T27 l0_0 x11_1).f3)⟩ : S55) ) (fun _ hk => hk);have hx20_0 := hcc20 0 _ rfl;(try simp only [show (k55).sz = 3 from rfl, Nat.mul_one, Nat.add_zero] at hx20_0);have hf20_0 := hfr20 0;(try simp only [show (k55).sz = 3 from rfl, Nat.mul_one, Nat.add_zero] at hf20_0);have hx20_1 := hcc20 1 _ rfl;(try simp only [show (k55).sz = 3 from rfl, Nat.mul_one, Nat.add_zero] at hx20_1);have hf20_1 := hfr20 1;(try simp only [show (k55).sz = 3 from rfl, Nat.mul_one, Nat.add_zero] at hf20_1);have hx20_2 := hcc20 2 _ rfl;(try simp only [show (k55).sz = 3 from rfl, Nat.mul_one, Nat.add_zero] at hx20_2);have hf20_2 := hfr20 2;(try simp only [show (k55).sz = 3 from rfl, Nat.mul_one, Nat.add_zero] at hf20_2);clear hcl20 hcc20 hfr20 hM20
     go_wp2_with (first | ((with_reducible refine gate_store (t := 55) (p := 32) rfl ?_); refine store_event (t := 55) (p := 32) (v := ?vo_w21) (w1 := (((wr.setCell ⟨go17, ((ji14) : Int).toNat * 3, none⟩ (.bool true)).setCell ⟨go17, ((ji14) : Int).toNat * 3 + 1, none⟩ (.int .i64 (wrap64 (((rd_T27 l0_0 x11_1).f2) + x17_2)))).setCell ⟨go17, ((ji14) : Int).toNat * 3 + 2, none⟩ (.bool ((rd_T27 l0_0 x11_1).f3)))) ?hg ?ho ?hn ?hr ?_; (case ho => rfl); (case hg => rfl); (case hn => rfl); (case hr => first | (go_simp; done) | (go_simp; rfl)); intro w21 hw; have hg : wr.grownBy w21 (some go17) := (by rw [hw]; exact HP20.2); have hp_ : Kd.R k55 55 w21 w.heap.size (fun _ => True) (.slice (some ⟨go17, 0, none⟩) x3_2.length co17) y437 := (by rw [hw, Ny437.out]; exact HP20.1); clear HP20; replace BK431 := Ah (blk_grown (bk BK431) hg (Kd.R_ne HO_3.out BK431.out (by decide))); replace BK436 := Ah (blk_grown (bk BK436) hg (Kd.R_ne HO_3.out BK436.out (by decide))); replace HO_3 := Ah (hp_); replace HB := Ah ((by rw [hw]; exact below_set (below_set (below_set (HB.out) GB17.out) GB17.out) GB17.out : Below w.heap.size w w21)); clear hg hw hp_))
     go_roundg k2
     case measure => have := HK1.out; have := HK2.out; omega
     case rel => exact ⟨(y437), (wrap64 (x17_2 + 1)), e3, H', ⟨by have := HK1.out; have := HK2.out; omega⟩, ⟨rr HO_3.out⟩, ⟨bk BK431⟩, ⟨bk BK436⟩, ⟨bs2 HB GE431 GE436⟩⟩
def impl_mapOf.l0 : Nat → List (S55) → Int → Int → List (S27) → Option ((List (S27)) × Bool)
 | 0, _, _, _, _ => none
 | k + 1, x10, x11, x12, x440000 => if x12 < x11 then (if 0 ≤ x12 then (if x12 < (x10.length : Int) then (if ((rd_T55 x10 x12).f0 = true) then (if (wrap64 ((x440000.length : Int) - 1)) ≥ 0 then (if 0 ≤ (wrap64 ((x440000.length : Int) - 1)) then (if (wrap64 ((x440000.length : Int) - 1)) < (x440000.length : Int) then ((impl_continues.f ((rd_T27 x440000 (wrap64 ((x440000.length : Int) - 1))).f0) ((rd_T27 x440000 (wrap64 ((x440000.length : Int) - 1))).f1) ((rd_T27 x440000 (wrap64 ((x440000.length : Int) - 1))).f2) ((rd_T27 x440000 (wrap64 ((x440000.length : Int) - 1))).f3) x12 1 ((rd_T55 x10 x12).f1) ((rd_T55 x10 x12).f2)).bind fun t445 => (if t445 = true then (impl_mapOf.l0 k x10 x11 (wrap64 (x12 + 1)) (x440000.set ((wrap64 ((x440000.length : Int) - 1)) : Int).toNat (⟨(rd_T27 x440000 (wrap64 ((x440000.length : Int) - 1))).f0, wrap64 (((rd_T27 x440000 (wrap64 ((x440000.length : Int) - 1))).f1) + 1), (rd_T27 x440000 (wrap64 ((x440000.length : Int) - 1))).f2, (rd_T27 x440000 (wrap64 ((x440000.length : Int) - 1))).f3⟩ : S27))) else (if x440000.length < 4398046511104 then (impl_mapOf.l0 k x10 x11 (wrap64 (x12 + 1)) (x440000 ++ [(⟨x12, 1, (rd_T55 x10 x12).f1, (rd_T55 x10 x12).f2⟩ : S27)])) else (none)))) else (none)) else (none)) else (if x440000.length < 4398046511104 then (impl_mapOf.l0 k x10 x11 (wrap64 (x12 + 1)) (x440000 ++ [(⟨x12, 1, (rd_T55 x10 x12).f1, (rd_T55 x10 x12).f2⟩ : S27)])) else (none))) else (impl_mapOf.l0 k x10 x11 (wrap64 (x12 + 1)) x440000)) else (none)) else (none)) else ((impl_GoodMap.f k x440000).bind fun t440 => (if t440 = true then (some (x440000, true)) else (some (([] : List (S27)), false))))
def impl_mapOf.f (k : Nat) (l0 : List (S55)) : Option ((List (S27)) × Bool) := impl_mapOf.l0 k l0 (l0.length : Int) 0 ([] : List (S27))
theorem impl_mapOf.mono_l : ∀ k, (∀ y0 y1 y2 y3, LeO (impl_mapOf.l0 k y0 y1 y2 y3) (impl_mapOf.l0 (k + 1) y0 y1 y2 y3))
 | 0 => fun _ _ _ _ r h => by simp [impl_mapOf.l0] at h
 | k + 1 => by
  have ih0 := impl_mapOf.mono_l k
  ·
   intro y0 y1 y2 y3;unfold impl_mapOf.l0
   repeat' with_reducible first|exact ih0 _ _ _ _|exact impl_GoodMap.mono _ _|exact LeO.refl _|exact LeO.none _|refine LeO.ite ?_ ?_|refine LeO.bind ?_ (fun _ => ?_)
theorem impl_mapOf.mono : ∀ a0 k, LeO (impl_mapOf.f k a0) (impl_mapOf.f (k + 1) a0) := by
 intro a0 k;have ih0 := impl_mapOf.mono_l k;unfold impl_mapOf.f
 repeat' with_reducible first|exact ih0 _ _ _ _|exact impl_GoodMap.mono _ _|exact LeO.refl _|exact LeO.none _|refine LeO.ite ?_ ?_|refine LeO.bind ?_ (fun _ => ?_)
def impl_mapOf.T8 : Bool × List (List Nat × List Nat) := (true, [([], []), ([0], [0]), ([1], [1]), ([2], [2]), ([3, 2], [2, 3]), ([2], [2]), ([4, 5, 2], [2, 4, 5]), ([6, 2], [2, 6]), ([2], [2]), ([7, 8, 2, 2], [2, 7, 8]), ([2, 9], [2, 9])])
def impl_mapOf.B8 : List Nat := [0, 1, 3, 7, 15, 7, 63, 127, 7, 511, 1023]
theorem impl_mapOf.tab8 : rtab .any (opsOf Try.f18 8) = impl_mapOf.T8 := by kernel_rfl
theorem impl_mapOf.bits8 : waitsOk impl_mapOf.T8.2 impl_mapOf.B8 = true := by kernel_rfl
set_option maxHeartbeats 8000000 in
set_option maxRecDepth 100000 in
theorem impl_mapOf.calls (k : Nat) (A0 : Option Addr) (c0 : Nat) (l0 : List (S55)) (r1 : List (S27)) (r2 : Bool) (w : World) (hr0 : Kd.C k55 w A0 l0.length l0) (hc0 : l0.length ≤ c0) (h : impl_mapOf.f k l0 = some (r1, r2)) :
  Calls Try.prog 18 #[.slice A0 l0.length c0] w fun e w' => ∃ v0_ : Value, e = .returned (.tuple #[.agg #[v0_], .bool r2]) ∧ Kd.R k27 27 w' w.heap.size (fun _ => True) v0_ r1 ∧ Below w.heap.size w w' := by
 have hu25 := Try.underlying25;have hu55 := Try.underlying55;have hu27 := Try.underlying27;have HR0 := Ah hr0;have HC0 := Ah hc0;clear hr0 hc0;have HB := Ah (Below.refl w.heap.size w);have H : (impl_mapOf.l0 k l0 (l0.length : Int) 0 ([] : List (S27))) = some (r1, r2) := h;clear h;have H' := Ah H;clear H
 go_enter Try.func18, Try.ntmps18
 go_wp2_with (first | ((with_reducible refine gate_dst (N := 2) rfl ?_); refine boxL 2 25 #[.slice none 0 0] ?_; intro gb438 hg w2 BK438 hb; have GW438 := gw hg (bs HB); have GE438 := gw hg (bs HB); replace HB := Ah (below_step (bs HB) hb); clear hb hg) | ((with_reducible refine gate_dst (N := 4) rfl ?_); refine boxL 4 25 #[.slice none 0 0] ?_; intro gb439 hg w3 BK439 hb; have GW439 := gw hg (bs1 HB GE438); have GE439 := gw hg (bs1 HB GE438); replace HB := Ah (below_step (bs1 HB GE438) hb); have NB438_439 := nn BK438 hg; have NB439_438 := nm BK438 hg; replace BK438 := nb BK438 hb; clear hb hg; have hnb4 := NB439_438.out; have hnc4 := NB438_439.out; have hcz5_0 := cz1 BK439; have hfz5_0 := fz1 BK439))
 go_loopg [12] k (fun kq v12 w' => ∃ (x12_1 : Int) (x440000_1 : List (S27)) (u440000 : Value), v12 = .int .i64 x12_1 ∧ Aside0 (impl_mapOf.l0 kq l0 (l0.length : Int) x12_1 x440000_1 = some (r1, r2)) ∧ Aside0 (kq ≤ k) ∧ Aside0 (Kd.R k27 27 w' w.heap.size (fun _ => True) u440000 x440000_1) ∧ Aside0 (w'.heap[gb438]? = some (.cells #[(.slice none 0 0)] 25 (0, 0))) ∧ Aside0 (w'.heap[gb439]? = some (.cells #[u440000] 25 (0, 0))) ∧ Aside0 (Below w.heap.size w w'))
 case atStart => exact ⟨(0), (([] : List (S27))), (.slice none 0 0), e3, H', ⟨Nat.le_refl _⟩, ⟨by first | exact Kd.R_nil _ _ _ _ _ | exact Kd.N_nil _ _ _ _ _ | exact Kd.V_nil _ _ _ _ _ | exact Kd.Q_nil _ _ _ _ _ | exact Kd.S_nil _ _ _ _ _⟩, ⟨bf BK438 NB438_439⟩, ⟨by (with_reducible repeat (first | refine blk_drewN ?_ _ | refine blk_drew ?_ | refine blk_alloc ?_ _)); refine blk_put (cs := #[.slice none 0 0]) ?_ 0 _ rfl; (with_reducible repeat (first | refine blk_drewN ?_ _ | refine blk_drew ?_ | refine blk_alloc ?_ _)); exact BK439.out⟩, ⟨bs2 HB GE438 GE439⟩⟩
 case round =>
  clear H'
  try clear c1
  try clear p2
  try clear c4
  try clear hcz5_0
  try clear hfz5_0
  obtain ⟨x12_1, x440000_1, u440000, rfl, HA, HK1, HO_440000, BK438, BK439, HB⟩ := hrel
  cases gk with
  | zero => exact absurd HA.out (by simp [impl_mapOf.l0])
  | succ k1 =>
   have H := HA.out;clear HA;simp only [impl_mapOf.l0] at H
   by_cases c6 : x12_1 < (l0.length : Int)
   rotate_left
   ·
    rw [if_neg c6] at H;have c6b0 : decide (x12_1 < (l0.length : Int)) = false := decide_eq_false c6;clear c6;replace H := Option.bind_eq_some_iff.mp H;obtain ⟨t440, A810, H⟩ := H
    try dsimp only at H
    have A81 := Ah A810;clear A810
    by_cases c82 : t440 = true
    rotate_left
    ·
     replace c82 := Bool.eq_false_iff.mpr c82;subst c82;rw [if_neg fne] at H;simp only [Option.some.injEq, Prod.mk.injEq] at H;obtain ⟨rfl, rfl⟩ := H;have hnb89 := NB439_438.out;have hnc89 := NB438_439.out;have hcz90_0 := cz1 BK439;have hfz90_0 := fz1 BK439;obtain ⟨Ao91, co91, eo91⟩ := Kd.R_slice HO_440000.out;subst eo91
     go_wp2_with (first | ((with_reducible refine gate_callee (f := 8) rfl ?_); refine gL (some 58) rfl rfl Try.func8 (by kernel_rfl) rfl #[.agg #[.slice Ao91 x440000_1.length co91]] rfl ?_; (with_reducible refine (impl_GoodMap.calls k1 _ _ x440000_1 false _ ?side1 ?side2 A81.out).mono ?_); (case side1 => exact rc0 HO_440000); (case side2 => exact (Kd.R_reads' HO_440000.out).2.1); rintro e w92 ⟨rfl, hb⟩; refine ⟨_, rfl, ?_⟩; replace HO_440000 := nr HO_440000 hb; replace BK438 := nb BK438 hb; replace BK439 := nb BK439 hb; replace HB := Ah (below_step (bs2 HB GE438 GE439) hb); (try clear hb); have hcz93_0 := cz1 BK438; have hfz93_0 := fz1 BK438))
     refine bodyPost_ret (results_ct rfl _ _ gb438 25 #[.slice none 0 0] (0, 0) _ rfl (by (with_reducible repeat (first | refine blk_drewN ?_ _ | refine blk_drew ?_ | refine blk_alloc ?_ _)); refine blk_put (cs := #[.slice none 0 0]) ?_ 0 _ rfl; (with_reducible repeat (first | refine blk_drewN ?_ _ | refine blk_drew ?_ | refine blk_alloc ?_ _)); exact BK438.out) Try.underlying25 rfl (by kernel_rfl)) rfl ?_;exact ⟨_, er, by first | exact Kd.R_nil _ _ _ _ _ | exact Kd.N_nil _ _ _ _ _ | exact Kd.V_nil _ _ _ _ _ | exact Kd.Q_nil _ _ _ _ _ | exact Kd.S_nil _ _ _ _ _, bs2 HB GE438 GE439⟩
    subst c82;rw [if_pos rfl] at H;simp only [Option.some.injEq, Prod.mk.injEq] at H;obtain ⟨rfl, rfl⟩ := H;have hnb83 := NB439_438.out;have hnc83 := NB438_439.out;have hcz84_0 := cz1 BK439;have hfz84_0 := fz1 BK439;obtain ⟨Ao85, co85, eo85⟩ := Kd.R_slice HO_440000.out;subst eo85
    go_wp2_with (first | ((with_reducible refine gate_callee (f := 8) rfl ?_); refine gL (some 58) rfl rfl Try.func8 (by kernel_rfl) rfl #[.agg #[.slice Ao85 x440000_1.length co85]] rfl ?_; (with_reducible refine (impl_GoodMap.calls k1 _ _ x440000_1 true _ ?side1 ?side2 A81.out).mono ?_); (case side1 => exact rc0 HO_440000); (case side2 => exact (Kd.R_reads' HO_440000.out).2.1); rintro e w86 ⟨rfl, hb⟩; refine ⟨_, rfl, ?_⟩; replace HO_440000 := nr HO_440000 hb; replace BK438 := nb BK438 hb; replace BK439 := nb BK439 hb; replace HB := Ah (below_step (bs2 HB GE438 GE439) hb); (try clear hb); have hcz87_0 := cz1 BK439; have hfz87_0 := fz1 BK439; have hcz88_0 := cz1 BK438; have hfz88_0 := fz1 BK438))
    refine bodyPost_ret (results_ct rfl _ _ gb438 25 #[.slice Ao85 x440000_1.length co85] (0, 0) _ rfl (by (with_reducible repeat (first | refine blk_drewN ?_ _ | refine blk_drew ?_ | refine blk_alloc ?_ _)); refine blk_put (cs := #[.slice none 0 0]) ?_ 0 _ rfl; (with_reducible repeat (first | refine blk_drewN ?_ _ | refine blk_drew ?_ | refine blk_alloc ?_ _)); exact BK438.out) Try.underlying25 rfl (by kernel_rfl)) rfl ?_;exact ⟨_, er, by (with_reducible repeat (first | apply Kd.R_alloc | apply Kd.R_drewN | apply Kd.R_drew)); exact Kd.R_mono (Kd.R_far (p := ⟨gb438, 0, none⟩) (Kd.R_types HO_440000.out BK438.out (by decide)) (fun _ hk => hk.2) (.slice Ao85 x440000_1.length co85)) (fun _ hk => trivial), bs2 HB GE438 GE439⟩
   rw [if_pos c6] at H;have c6b0 : decide (x12_1 < (l0.length : Int)) = true := decide_eq_true c6;clear c6
   by_cases c7 : 0 ≤ x12_1
   rotate_left
   ·
    rw [if_neg c7] at H;exact absurd H (by simp)
   rw [if_pos c7] at H;have c7b0 : decide (0 ≤ x12_1) = true := decide_eq_true c7;clear c7
   by_cases c8 : x12_1 < (l0.length : Int)
   rotate_left
   ·
    rw [if_neg c8] at H;exact absurd H (by simp)
   rw [if_pos c8] at H;have c8b0 : decide (x12_1 < (l0.length : Int)) = true := decide_eq_true c8;clear c8;obtain ⟨bq9, hbq9⟩ : ∃ b_ : Bool, b_ = ((rd_T55 l0 x12_1).f0) := ⟨_, rfl⟩
   replace H : (if (bq9 = true) then (if (wrap64 ((x440000_1.length : Int) - 1)) ≥ 0 then (if 0 ≤ (wrap64 ((x440000_1.length : Int) - 1)) then (if (wrap64 ((x440000_1.length : Int) - 1)) < (x440000_1.length : Int) then ((impl_continues.f ((rd_T27 x440000_1 (wrap64 ((x440000_1.length : Int) - 1))).f0) ((rd_T27 x440000_1 (wrap64 ((x440000_1.length : Int) - 1))).f1) ((rd_T27 x440000_1 (wrap64 ((x440000_1.length : Int) - 1))).f2) ((rd_T27 x440000_1 (wrap64 ((x440000_1.length : Int) - 1))).f3) x12_1 1 ((rd_T55 l0 x12_1).f1) ((rd_T55 l0 x12_1).f2)).bind fun t445 => (if t445 = true then (impl_mapOf.l0 k1 l0 (l0.length : Int) (wrap64 (x12_1 + 1)) (x440000_1.set ((wrap64 ((x440000_1.length : Int) - 1)) : Int).toNat (⟨(rd_T27 x440000_1 (wrap64 ((x440000_1.length : Int) - 1))).f0, wrap64 (((rd_T27 x440000_1 (wrap64 ((x440000_1.length : Int) - 1))).f1) + 1), (rd_T27 x440000_1 (wrap64 ((x440000_1.length : Int) - 1))).f2, (rd_T27 x440000_1 (wrap64 ((x440000_1.length : Int) - 1))).f3⟩ : S27))) else (if x440000_1.length < 4398046511104 then (impl_mapOf.l0 k1 l0 (l0.length : Int) (wrap64 (x12_1 + 1)) (x440000_1 ++ [(⟨x12_1, 1, (rd_T55 l0 x12_1).f1, (rd_T55 l0 x12_1).f2⟩ : S27)])) else (none)))) else (none)) else (none)) else (if x440000_1.length < 4398046511104 then (impl_mapOf.l0 k1 l0 (l0.length : Int) (wrap64 (x12_1 + 1)) (x440000_1 ++ [(⟨x12_1, 1, (rd_T55 l0 x12_1).f1, (rd_T55 l0 x12_1).f2⟩ : S27)])) else (none))) else (impl_mapOf.l0 k1 l0 (l0.length : Int) (wrap64 (x12_1 + 1)) x440000_1)) = some (r1, r2) := by rw [← hbq9] at H; exact H
   have Nbq9 := Ah hbq9;clear hbq9
   by_cases c10 : (bq9 = true)
   rotate_left
   ·
    replace c10 := Bool.eq_false_iff.mpr c10;subst c10;rw [if_neg fne] at H;have H' := Ah H;clear H;have p441 : 0 ≤ (x12_1 : Int) := od;have q441 : x12_1 < (l0.length : Int) := od;obtain ⟨ad441, e441, hx441_0, hx441_1, hx441_2⟩ := at_T55 HR0.out x12_1 p441 q441;(try rw [← Nbq9.out] at hx441_0);(try rw [← Nbq9.out] at hx441_2)
    cases e441
    replace hx441_0 := (HB.out.cell (World.block_lt_of_cell? w _ hx441_0)).trans hx441_0;replace hx441_1 := (HB.out.cell (World.block_lt_of_cell? w _ hx441_1)).trans hx441_1;replace hx441_2 := (HB.out.cell (World.block_lt_of_cell? w _ hx441_2)).trans hx441_2;replace p441 := eq_true p441;replace q441 := eq_true q441
    go_wp2_with (first | ((with_reducible refine gate_dst (N := 6) rfl ?_); refine boxL 6 55 #[.bool false, .int .i64 0, .bool false] ?_; intro gb442 hg w77 BK442 hb; replace HO_440000 := nr HO_440000 hb; have GW442 := gw hg (bs2 HB GE438 GE439); have GE442 := gw hg (bs2 HB GE438 GE439); replace HB := Ah (below_step (bs2 HB GE438 GE439) hb); have NB438_442 := nn BK438 hg; have NB442_438 := nm BK438 hg; replace BK438 := nb BK438 hb; have NB439_442 := nn BK439 hg; have NB442_439 := nm BK439 hg; replace BK439 := nb BK439 hb; clear hb hg; have hnb78 := NB442_438.out; have hnc78 := NB438_442.out; have hnb79 := NB442_439.out; have hnc79 := NB439_442.out; obtain ⟨hcz80_0, hcz80_1, hcz80_2⟩ := cz3 BK442; obtain ⟨hfz80_0, hfz80_1, hfz80_2⟩ := fz3 BK442))
    go_roundg k1
    case measure => have := HK1.out; omega
    case rel => exact ⟨(wrap64 (x12_1 + 1)), (x440000_1), (u440000), e3, H', ⟨by have := HK1.out; omega⟩, ⟨by (with_reducible repeat (first | apply Kd.R_alloc | apply Kd.R_drewN | apply Kd.R_drew)); exact Kd.R_mono (Kd.R_far (p := ⟨gb442, 2, none⟩) (Kd.R_far (p := ⟨gb442, 1, none⟩) (Kd.R_far (p := ⟨gb442, 0, none⟩) (Kd.R_types HO_440000.out BK442.out (by decide)) (fun _ hk => hk.2) (.bool false)) (fun _ hk => hk.2) (.int .i64 ((rd_T55 l0 x12_1).f1))) (fun _ hk => hk.2) (.bool ((rd_T55 l0 x12_1).f2))) (fun _ hk => trivial)⟩, ⟨bf BK438 NB438_442⟩, ⟨bf BK439 NB439_442⟩, ⟨bs3 HB GE438 GE439 GE442⟩⟩
   subst c10;rw [if_pos rfl] at H
   by_cases c11 : (wrap64 ((x440000_1.length : Int) - 1)) ≥ 0
   rotate_left
   ·
    rw [if_neg c11] at H;have c11b0 : decide (0 ≤ (wrap64 ((x440000_1.length : Int) - 1))) = false := decide_eq_false c11;clear c11
    by_cases c57 : x440000_1.length < 4398046511104
    rotate_left
    ·
     rw [if_neg c57] at H;exact absurd H (by simp)
    rw [if_pos c57] at H;have LMc57 := Ah c57;clear c57;obtain ⟨y451, hy451⟩ : ∃ y_ : List (S27), y_ = (x440000_1 ++ [(⟨x12_1, 1, (rd_T55 l0 x12_1).f1, (rd_T55 l0 x12_1).f2⟩ : S27)]) := ⟨_, rfl⟩
    replace H : (impl_mapOf.l0 k1 l0 (l0.length : Int) (wrap64 (x12_1 + 1)) y451) = some (r1, r2) := by first | (rw [hy451]; with_reducible exact H) | (have H2_ := (Option.bind_some _ _).symm.trans H; rw [hy451]; with_reducible exact H2_) | (have H2_ := (Option.bind_some _ _).symm.trans H; with_reducible exact H2_) | with_reducible exact H | (rw [hy451]; exact H) | exact H
    have Ny451 := Ah hy451;clear hy451;have H' := Ah H;clear H;have p441 : 0 ≤ (x12_1 : Int) := od;have q441 : x12_1 < (l0.length : Int) := od;obtain ⟨ad441, e441, hx441_0, hx441_1, hx441_2⟩ := at_T55 HR0.out x12_1 p441 q441;(try rw [← Nbq9.out] at hx441_0);(try rw [← Nbq9.out] at hx441_2)
    cases e441
    replace hx441_0 := (HB.out.cell (World.block_lt_of_cell? w _ hx441_0)).trans hx441_0;replace hx441_1 := (HB.out.cell (World.block_lt_of_cell? w _ hx441_1)).trans hx441_1;replace hx441_2 := (HB.out.cell (World.block_lt_of_cell? w _ hx441_2)).trans hx441_2;replace p441 := eq_true p441;replace q441 := eq_true q441
    try go_wp2_with (first | ((with_reducible refine gate_dst (N := 6) rfl ?_); refine boxL 6 55 #[.bool false, .int .i64 0, .bool false] ?_; intro gb442 hg w58 BK442 hb; replace HO_440000 := nr HO_440000 hb; have GW442 := gw hg (bs2 HB GE438 GE439); have GE442 := gw hg (bs2 HB GE438 GE439); replace HB := Ah (below_step (bs2 HB GE438 GE439) hb); have NB438_442 := nn BK438 hg; have NB442_438 := nm BK438 hg; replace BK438 := nb BK438 hb; have NB439_442 := nn BK439 hg; have NB442_439 := nm BK439 hg; replace BK439 := nb BK439 hb; clear hb hg; have hnb59 := NB442_438.out; have hnc59 := NB438_442.out; have hnb60 := NB442_439.out; have hnc60 := NB439_442.out; obtain ⟨hcz61_0, hcz61_1, hcz61_2⟩ := cz3 BK442; obtain ⟨hfz61_0, hfz61_1, hfz61_2⟩ := fz3 BK442) | ((with_reducible refine gate_dst (N := 7) rfl ?_); refine boxL 7 27 #[.int .i64 0, .int .i64 0, .int .i64 0, .bool false] ?_; intro gb443 hg w62 BK443 hb; replace HO_440000 := Ah (Kd.R_below (Kd.R_elderB (by (with_reducible repeat (first | apply Kd.R_alloc | apply Kd.R_drewN | apply Kd.R_drew)); exact (Kd.R_mono (Kd.R_far (p := ⟨gb442, 2, none⟩) (Kd.R_far (p := ⟨gb442, 1, none⟩) (Kd.R_far (p := ⟨gb442, 0, none⟩) (Kd.R_types HO_440000.out BK442.out (by decide)) (fun _ hk => hk.2) (.bool true)) (fun _ hk => hk.2) (.int .i64 ((rd_T55 l0 x12_1).f1))) (fun _ hk => hk.2) (.bool ((rd_T55 l0 x12_1).f2))) (fun _ h_ => h_.1))) gb443 (Nat.le_of_eq hg.symm)) hb); have GW443 := gw hg (bs3 HB GE438 GE439 GE442); have GE443 := gw hg (bs3 HB GE438 GE439 GE442); replace HB := Ah (below_step (bs3 HB GE438 GE439 GE442) hb); have NB438_443 := Ah ((by rw [hg]; exact Nat.ne_of_lt (blk_lt (g := gb438) (o := .cells #[.slice none 0 0] 25 (0, 0)) (bf BK438 NB438_442)) : gb438 ≠ gb443)); have NB443_438 := Ah ((by rw [hg]; exact Nat.ne_of_gt (blk_lt (g := gb438) (o := .cells #[.slice none 0 0] 25 (0, 0)) (bf BK438 NB438_442)) : gb443 ≠ gb438)); replace BK438 := Ah (blk_below (bf BK438 NB438_442) hb); have NB439_443 := Ah ((by rw [hg]; exact Nat.ne_of_lt (blk_lt (g := gb439) (o := .cells #[u440000] 25 (0, 0)) (bf BK439 NB439_442)) : gb439 ≠ gb443)); have NB443_439 := Ah ((by rw [hg]; exact Nat.ne_of_gt (blk_lt (g := gb439) (o := .cells #[u440000] 25 (0, 0)) (bf BK439 NB439_442)) : gb443 ≠ gb439)); replace BK439 := Ah (blk_below (bf BK439 NB439_442) hb); have NB442_443 := Ah ((bnz BK442 hg : gb442 ≠ gb443)); have NB443_442 := Ah ((bmz BK442 hg : gb443 ≠ gb442)); replace BK442 := Ah (blk_below (g := gb442) (o := .cells #[.bool true, .int .i64 ((rd_T55 l0 x12_1).f1), .bool ((rd_T55 l0 x12_1).f2)] 55 (0, 0)) (by (with_reducible repeat (first | refine blk_drewN ?_ _ | refine blk_drew ?_ | refine blk_alloc ?_ _)); refine blk_put (cs := #[.bool true, .int .i64 ((rd_T55 l0 x12_1).f1), .bool false]) ?_ 2 _ rfl; (with_reducible repeat (first | refine blk_drewN ?_ _ | refine blk_drew ?_ | refine blk_alloc ?_ _)); refine blk_put (cs := #[.bool true, .int .i64 0, .bool false]) ?_ 1 _ rfl; (with_reducible repeat (first | refine blk_drewN ?_ _ | refine blk_drew ?_ | refine blk_alloc ?_ _)); refine blk_put (cs := #[.bool false, .int .i64 0, .bool false]) ?_ 0 _ rfl; (with_reducible repeat (first | refine blk_drewN ?_ _ | refine blk_drew ?_ | refine blk_alloc ?_ _)); exact BK442.out) hb); clear hb hg; have hnb63 := NB443_438.out; have hnc63 := NB438_443.out; have hnb64 := NB443_439.out; have hnc64 := NB439_443.out; have hnb65 := NB443_442.out; have hnc65 := NB442_443.out; obtain ⟨hcz66_0, hcz66_1, hcz66_2, hcz66_3⟩ := cz4 BK443; obtain ⟨hfz66_0, hfz66_1, hfz66_2, hfz66_3⟩ := fz4 BK443; have hnb67 := NB439_438.out; have hnc67 := NB438_439.out; have hcz68_0 := cz1 BK439; have hfz68_0 := fz1 BK439; obtain ⟨Ao69, co69, eo69⟩ := Kd.R_slice HO_440000.out; subst eo69))
    have n0_ : Aside0 (Kd.R k27 27 ((((w62.setCell ⟨gb443, 0, none⟩ (.int .i64 x12_1)).setCell ⟨gb443, 1, none⟩ (.int .i64 1)).setCell ⟨gb443, 2, none⟩ (.int .i64 ((rd_T55 l0 x12_1).f1))).setCell ⟨gb443, 3, none⟩ (.bool ((rd_T55 l0 x12_1).f2))) w.heap.size (fun k_ => k_ ≠ gb443) (.slice Ao69 x440000_1.length co69) x440000_1) := ⟨by (with_reducible repeat (first | apply Kd.R_alloc | apply Kd.R_drewN | apply Kd.R_drew)); exact Kd.R_mono (Kd.R_far (p := ⟨gb443, 3, none⟩) (Kd.R_far (p := ⟨gb443, 2, none⟩) (Kd.R_far (p := ⟨gb443, 1, none⟩) (Kd.R_far (p := ⟨gb443, 0, none⟩) (Kd.R_mono HO_440000.out (fun k_ hk => (⟨hk, hk.2⟩ : _ ∧ k_ ≠ gb443))) (fun _ hk => hk.2) (.int .i64 x12_1)) (fun _ hk => hk.2) (.int .i64 1)) (fun _ hk => hk.2) (.int .i64 ((rd_T55 l0 x12_1).f1))) (fun _ hk => hk.2) (.bool ((rd_T55 l0 x12_1).f2))) (fun _ hk => hk.1.2)⟩;have n1_ : Aside0 (((((w62.setCell ⟨gb443, 0, none⟩ (.int .i64 x12_1)).setCell ⟨gb443, 1, none⟩ (.int .i64 1)).setCell ⟨gb443, 2, none⟩ (.int .i64 ((rd_T55 l0 x12_1).f1))).setCell ⟨gb443, 3, none⟩ (.bool ((rd_T55 l0 x12_1).f2))).heap[gb438]? = some (.cells #[.slice none 0 0] 25 (0, 0))) := ⟨bf BK438 NB438_443⟩;have n2_ : Aside0 (((((w62.setCell ⟨gb443, 0, none⟩ (.int .i64 x12_1)).setCell ⟨gb443, 1, none⟩ (.int .i64 1)).setCell ⟨gb443, 2, none⟩ (.int .i64 ((rd_T55 l0 x12_1).f1))).setCell ⟨gb443, 3, none⟩ (.bool ((rd_T55 l0 x12_1).f2))).heap[gb439]? = some (.cells #[.slice Ao69 x440000_1.length co69] 25 (0, 0))) := ⟨bf BK439 NB439_443⟩;have n3_ : Aside0 (((((w62.setCell ⟨gb443, 0, none⟩ (.int .i64 x12_1)).setCell ⟨gb443, 1, none⟩ (.int .i64 1)).setCell ⟨gb443, 2, none⟩ (.int .i64 ((rd_T55 l0 x12_1).f1))).setCell ⟨gb443, 3, none⟩ (.bool ((rd_T55 l0 x12_1).f2))).heap[gb442]? = some (.cells #[.bool true, .int .i64 ((rd_T55 l0 x12_1).f1), .bool ((rd_T55 l0 x12_1).f2)] 55 (0, 0))) := ⟨bf BK442 NB442_443⟩;have n4_ : Aside0 (((((w62.setCell ⟨gb443, 0, none⟩ (.int .i64 x12_1)).setCell ⟨gb443, 1, none⟩ (.int .i64 1)).setCell ⟨gb443, 2, none⟩ (.int .i64 ((rd_T55 l0 x12_1).f1))).setCell ⟨gb443, 3, none⟩ (.bool ((rd_T55 l0 x12_1).f2))).heap[gb443]? = some (.cells #[.int .i64 x12_1, .int .i64 1, .int .i64 ((rd_T55 l0 x12_1).f1), .bool ((rd_T55 l0 x12_1).f2)] 27 (0, 0))) := ⟨by (with_reducible repeat (first | refine blk_drewN ?_ _ | refine blk_drew ?_ | refine blk_alloc ?_ _)); refine blk_put (cs := #[.int .i64 x12_1, .int .i64 1, .int .i64 ((rd_T55 l0 x12_1).f1), .bool false]) ?_ 3 _ rfl; (with_reducible repeat (first | refine blk_drewN ?_ _ | refine blk_drew ?_ | refine blk_alloc ?_ _)); refine blk_put (cs := #[.int .i64 x12_1, .int .i64 1, .int .i64 0, .bool false]) ?_ 2 _ rfl; (with_reducible repeat (first | refine blk_drewN ?_ _ | refine blk_drew ?_ | refine blk_alloc ?_ _)); refine blk_put (cs := #[.int .i64 x12_1, .int .i64 0, .int .i64 0, .bool false]) ?_ 1 _ rfl; (with_reducible repeat (first | refine blk_drewN ?_ _ | refine blk_drew ?_ | refine blk_alloc ?_ _)); refine blk_put (cs := #[.int .i64 0, .int .i64 0, .int .i64 0, .bool false]) ?_ 0 _ rfl; (with_reducible repeat (first | refine blk_drewN ?_ _ | refine blk_drew ?_ | refine blk_alloc ?_ _)); exact BK443.out⟩;have n5_ : Aside0 (Below w.heap.size w ((((w62.setCell ⟨gb443, 0, none⟩ (.int .i64 x12_1)).setCell ⟨gb443, 1, none⟩ (.int .i64 1)).setCell ⟨gb443, 2, none⟩ (.int .i64 ((rd_T55 l0 x12_1).f1))).setCell ⟨gb443, 3, none⟩ (.bool ((rd_T55 l0 x12_1).f2)))) := ⟨bs4 HB GE438 GE439 GE442 GE443⟩;(try clear HO_440000);(try clear BK438);(try clear BK439);(try clear BK442);(try clear BK443);(try clear HB)
    generalize ((((w62.setCell ⟨gb443, 0, none⟩ (.int .i64 x12_1)).setCell ⟨gb443, 1, none⟩ (.int .i64 1)).setCell ⟨gb443, 2, none⟩ (.int .i64 ((rd_T55 l0 x12_1).f1))).setCell ⟨gb443, 3, none⟩ (.bool ((rd_T55 l0 x12_1).f2))) = w70 at n0_ n1_ n2_ n3_ n4_ n5_ ⊢
    have HO_440000 := n0_;have BK438 := n1_;have BK439 := n2_;have BK442 := n3_;have BK443 := n4_;have HB := n5_;clear n0_ n1_ n2_ n3_ n4_ n5_;have n0_ := Ah (Kd.R_drew HO_440000.out);have n1_ := Ah (blk_drew BK438.out);have n2_ := Ah (blk_drew BK439.out);have n3_ := Ah (blk_drew BK442.out);have n4_ := Ah (blk_drew BK443.out);have n5_ := Ah (below_drew1 HB.out);clear HO_440000 BK438 BK439 BK442 BK443 HB;have HO_440000 := n0_;have BK438 := n1_;have BK439 := n2_;have BK442 := n3_;have BK443 := n4_;have HB := n5_;clear n0_ n1_ n2_ n3_ n4_ n5_;refine start_ (n := 11) (S := fun w' => True) (ds := []) #[false, false, false, false, false, false, false, false, false, false, false] (by kernel_rfl) rfl rfl trivial (fun hHeld => ?_); refine with_tabW impl_mapOf.tab8 impl_mapOf.bits8 (fun HT_ HW_ => ?_)
    generalize w70.drew = w71 at HO_440000 BK438 BK439 BK442 BK443 HB hHeld ⊢
    refine pureS 0 30 HT_.out ?_;refine pureS 1 31 HT_.out ?_;refine pureS 2 32 HT_.out ?_;refine pureU 3 33 HT_.out ?_;refine pureU 4 34 HT_.out ?_;refine pureU 5 35 HT_.out ?_;refine pureU 6 36 HT_.out ?_;refine pureU 7 37 HT_.out ?_;refine pureU 8 38 HT_.out ?_;refine pureU 9 39 HT_.out ?_;refine pureS 10 40 HT_.out ?_;refine done_ (done_of HT_.out (by kernel_rfl)) ?_;have hcz72_0 := cz1 BK439;have hfz72_0 := fz1 BK439;obtain ⟨hcz73_0, hcz73_1, hcz73_2, hcz73_3⟩ := cz4 BK443;obtain ⟨hfz73_0, hfz73_1, hfz73_2, hfz73_3⟩ := fz4 BK443
    try go_wp2_with (first | ((with_reducible refine gate_builtin (b := .append) (xs := #[.tmp 51, .tmp 53]) rfl ?_); at_builtin; refine Kd.R_append k27 (w0 := w) w.heap.size rfl (.tmp 51) (.tmp 53) 23 27 (.agg #[(.int .i64 0), (.int .i64 0), (.int .i64 0), (.bool false)]) 32 rfl Try.underlying23 info27 rfl (by decide) (by omega) (.slice Ao69 x440000_1.length co69) x440000_1 (⟨x12_1, 1, (rd_T55 l0 x12_1).f1, (rd_T55 l0 x12_1).f2⟩ : S27) [.int .i64 x12_1, .int .i64 1, .int .i64 ((rd_T55 l0 x12_1).f1), .bool ((rd_T55 l0 x12_1).f2)] (fun k_ => k_ ≠ gb443) (fun _ => False) rfl rfl ?aP (fun _ hk => hk.elim) ?aF ?aO ?aB ?aS ?aL ?_; (case aP => exact k27_mkM _ _ _ (⟨x12_1, 1, (rd_T55 l0 x12_1).f1, (rd_T55 l0 x12_1).f2⟩ : S27)); (case aB => exact (bs4 HB GE438 GE439 GE442 GE443)); (case aF => exact (fun k_ hk => Kd.freshB (bk BK443) k_ hk)); (case aO => exact (rr HO_440000.out)); (case aS => exact (below_size (bs4 HB GE438 GE439 GE442 GE443))); (case aL => have := LMc57.out; omega); intro v452 w74 ho hb hg hat; rw [← Ny451.out] at ho; replace BK438 := Ah (blk_grown (bk BK438) hg (Kd.R_ne HO_440000.out BK438.out (by decide))); replace BK439 := Ah (blk_grown (bk BK439) hg (Kd.R_ne HO_440000.out BK439.out (by decide))); replace BK442 := Ah (blk_grown (bk BK442) hg (Kd.R_ne HO_440000.out BK442.out (by decide))); replace BK443 := Ah (blk_grown (bk BK443) hg (Kd.R_away HO_440000.out (fun _ hk => hk))); replace HB := Ah (hb); have HO453 := Ah (ho); clear HO_440000; clear ho hb hg hat; obtain ⟨Ao75, co75, eo75⟩ := Kd.R_slice HO453.out; subst eo75; have hcz76_0 := cz1 BK439; have hfz76_0 := fz1 BK439))
    go_roundg k1
    case measure => have := HK1.out; omega
    case rel => exact ⟨(wrap64 (x12_1 + 1)), (y451), (.slice Ao75 y451.length co75), e3, H', ⟨by have := HK1.out; omega⟩, ⟨by (with_reducible repeat (first | apply Kd.R_alloc | apply Kd.R_drewN | apply Kd.R_drew)); exact Kd.R_mono (Kd.R_far (p := ⟨gb439, 0, none⟩) (Kd.R_types HO453.out BK439.out (by decide)) (fun _ hk => hk.2) (.slice Ao75 y451.length co75)) (fun _ hk => trivial)⟩, ⟨bf BK438 NB438_439⟩, ⟨by (with_reducible repeat (first | refine blk_drewN ?_ _ | refine blk_drew ?_ | refine blk_alloc ?_ _)); refine blk_put (cs := #[.slice Ao69 x440000_1.length co69]) ?_ 0 _ rfl; (with_reducible repeat (first | refine blk_drewN ?_ _ | refine blk_drew ?_ | refine blk_alloc ?_ _)); exact BK439.out⟩, ⟨bs4 HB GE438 GE439 GE442 GE443⟩⟩
   rw [if_pos c11] at H;have c11b0 : decide (0 ≤ (wrap64 ((x440000_1.length : Int) - 1))) = true := decide_eq_true c11;clear c11;obtain ⟨ji12, hji12⟩ : ∃ j_ : Int, (wrap64 ((x440000_1.length : Int) - 1)) = j_ := ⟨_, rfl⟩
   replace H : (if 0 ≤ (ji12) then (if (ji12) < (x440000_1.length : Int) then ((impl_continues.f ((rd_T27 x440000_1 (ji12)).f0) ((rd_T27 x440000_1 (ji12)).f1) ((rd_T27 x440000_1 (ji12)).f2) ((rd_T27 x440000_1 (ji12)).f3) x12_1 1 ((rd_T55 l0 x12_1).f1) ((rd_T55 l0 x12_1).f2)).bind fun t445 => (if t445 = true then (impl_mapOf.l0 k1 l0 (l0.length : Int) (wrap64 (x12_1 + 1)) (x440000_1.set ((ji12) : Int).toNat (⟨(rd_T27 x440000_1 (ji12)).f0, wrap64 (((rd_T27 x440000_1 (ji12)).f1) + 1), (rd_T27 x440000_1 (ji12)).f2, (rd_T27 x440000_1 (ji12)).f3⟩ : S27))) else (if x440000_1.length < 4398046511104 then (impl_mapOf.l0 k1 l0 (l0.length : Int) (wrap64 (x12_1 + 1)) (x440000_1 ++ [(⟨x12_1, 1, (rd_T55 l0 x12_1).f1, (rd_T55 l0 x12_1).f2⟩ : S27)])) else (none)))) else (none)) else (none)) = some (r1, r2) := by first | (rw [hji12] at H; exact H) | (simp only [hji12] at H ⊢; exact H)
   (try rw [hji12] at c11b0);have hji12w : (IntKind.i64.wrap ((x440000_1.length : Int) - 1)) = ji12 := (i64_w _).trans hji12
   by_cases c13 : 0 ≤ (ji12)
   rotate_left
   ·
    rw [if_neg c13] at H;exact absurd H (by simp)
   rw [if_pos c13] at H;have c13b0 : decide (0 ≤ (ji12)) = true := decide_eq_true c13;clear c13
   by_cases c14 : (ji12) < (x440000_1.length : Int)
   rotate_left
   ·
    rw [if_neg c14] at H;exact absurd H (by simp)
   rw [if_pos c14] at H;have c14b0 : decide ((ji12) < (x440000_1.length : Int)) = true := decide_eq_true c14;clear c14;replace H := Option.bind_eq_some_iff.mp H;obtain ⟨t445, A150, H⟩ := H
   try dsimp only at H
   have A15 := Ah A150;clear A150
   by_cases c16 : t445 = true
   rotate_left
   ·
    replace c16 := Bool.eq_false_iff.mpr c16;subst c16;rw [if_neg fne] at H
    by_cases c36 : x440000_1.length < 4398046511104
    rotate_left
    ·
     rw [if_neg c36] at H;exact absurd H (by simp)
    rw [if_pos c36] at H;have LMc36 := Ah c36;clear c36;obtain ⟨y448, hy448⟩ : ∃ y_ : List (S27), y_ = (x440000_1 ++ [(⟨x12_1, 1, (rd_T55 l0 x12_1).f1, (rd_T55 l0 x12_1).f2⟩ : S27)]) := ⟨_, rfl⟩
    replace H : (impl_mapOf.l0 k1 l0 (l0.length : Int) (wrap64 (x12_1 + 1)) y448) = some (r1, r2) := by first | (rw [hy448]; with_reducible exact H) | (have H2_ := (Option.bind_some _ _).symm.trans H; rw [hy448]; with_reducible exact H2_) | (have H2_ := (Option.bind_some _ _).symm.trans H; with_reducible exact H2_) | with_reducible exact H | (rw [hy448]; exact H) | exact H
    have Ny448 := Ah hy448;clear hy448;have H' := Ah H;clear H;have p441 : 0 ≤ (x12_1 : Int) := od;have q441 : x12_1 < (l0.length : Int) := od;obtain ⟨ad441, e441, hx441_0, hx441_1, hx441_2⟩ := at_T55 HR0.out x12_1 p441 q441;(try rw [← Nbq9.out] at hx441_0);(try rw [← Nbq9.out] at hx441_2)
    cases e441
    replace hx441_0 := (HB.out.cell (World.block_lt_of_cell? w _ hx441_0)).trans hx441_0;replace hx441_1 := (HB.out.cell (World.block_lt_of_cell? w _ hx441_1)).trans hx441_1;replace hx441_2 := (HB.out.cell (World.block_lt_of_cell? w _ hx441_2)).trans hx441_2;replace p441 := eq_true p441;replace q441 := eq_true q441
    try go_wp2_with (first | ((with_reducible refine gate_dst (N := 6) rfl ?_); refine boxL 6 55 #[.bool false, .int .i64 0, .bool false] ?_; intro gb442 hg w37 BK442 hb; replace HO_440000 := nr HO_440000 hb; have GW442 := gw hg (bs2 HB GE438 GE439); have GE442 := gw hg (bs2 HB GE438 GE439); replace HB := Ah (below_step (bs2 HB GE438 GE439) hb); have NB438_442 := nn BK438 hg; have NB442_438 := nm BK438 hg; replace BK438 := nb BK438 hb; have NB439_442 := nn BK439 hg; have NB442_439 := nm BK439 hg; replace BK439 := nb BK439 hb; clear hb hg; have hnb38 := NB442_438.out; have hnc38 := NB438_442.out; have hnb39 := NB442_439.out; have hnc39 := NB439_442.out; obtain ⟨hcz40_0, hcz40_1, hcz40_2⟩ := cz3 BK442; obtain ⟨hfz40_0, hfz40_1, hfz40_2⟩ := fz3 BK442) | ((with_reducible refine gate_dst (N := 7) rfl ?_); refine boxL 7 27 #[.int .i64 0, .int .i64 0, .int .i64 0, .bool false] ?_; intro gb443 hg w41 BK443 hb; replace HO_440000 := Ah (Kd.R_below (Kd.R_elderB (by (with_reducible repeat (first | apply Kd.R_alloc | apply Kd.R_drewN | apply Kd.R_drew)); exact (Kd.R_mono (Kd.R_far (p := ⟨gb442, 2, none⟩) (Kd.R_far (p := ⟨gb442, 1, none⟩) (Kd.R_far (p := ⟨gb442, 0, none⟩) (Kd.R_types HO_440000.out BK442.out (by decide)) (fun _ hk => hk.2) (.bool true)) (fun _ hk => hk.2) (.int .i64 ((rd_T55 l0 x12_1).f1))) (fun _ hk => hk.2) (.bool ((rd_T55 l0 x12_1).f2))) (fun _ h_ => h_.1))) gb443 (Nat.le_of_eq hg.symm)) hb); have GW443 := gw hg (bs3 HB GE438 GE439 GE442); have GE443 := gw hg (bs3 HB GE438 GE439 GE442); replace HB := Ah (below_step (bs3 HB GE438 GE439 GE442) hb); have NB438_443 := Ah ((by rw [hg]; exact Nat.ne_of_lt (blk_lt (g := gb438) (o := .cells #[.slice none 0 0] 25 (0, 0)) (bf BK438 NB438_442)) : gb438 ≠ gb443)); have NB443_438 := Ah ((by rw [hg]; exact Nat.ne_of_gt (blk_lt (g := gb438) (o := .cells #[.slice none 0 0] 25 (0, 0)) (bf BK438 NB438_442)) : gb443 ≠ gb438)); replace BK438 := Ah (blk_below (bf BK438 NB438_442) hb); have NB439_443 := Ah ((by rw [hg]; exact Nat.ne_of_lt (blk_lt (g := gb439) (o := .cells #[u440000] 25 (0, 0)) (bf BK439 NB439_442)) : gb439 ≠ gb443)); have NB443_439 := Ah ((by rw [hg]; exact Nat.ne_of_gt (blk_lt (g := gb439) (o := .cells #[u440000] 25 (0, 0)) (bf BK439 NB439_442)) : gb443 ≠ gb439)); replace BK439 := Ah (blk_below (bf BK439 NB439_442) hb); have NB442_443 := Ah ((bnz BK442 hg : gb442 ≠ gb443)); have NB443_442 := Ah ((bmz BK442 hg : gb443 ≠ gb442)); replace BK442 := Ah (blk_below (g := gb442) (o := .cells #[.bool true, .int .i64 ((rd_T55 l0 x12_1).f1), .bool ((rd_T55 l0 x12_1).f2)] 55 (0, 0)) (by (with_reducible repeat (first | refine blk_drewN ?_ _ | refine blk_drew ?_ | refine blk_alloc ?_ _)); refine blk_put (cs := #[.bool true, .int .i64 ((rd_T55 l0 x12_1).f1), .bool false]) ?_ 2 _ rfl; (with_reducible repeat (first | refine blk_drewN ?_ _ | refine blk_drew ?_ | refine blk_alloc ?_ _)); refine blk_put (cs := #[.bool true, .int .i64 0, .bool false]) ?_ 1 _ rfl; (with_reducible repeat (first | refine blk_drewN ?_ _ | refine blk_drew ?_ | refine blk_alloc ?_ _)); refine blk_put (cs := #[.bool false, .int .i64 0, .bool false]) ?_ 0 _ rfl; (with_reducible repeat (first | refine blk_drewN ?_ _ | refine blk_drew ?_ | refine blk_alloc ?_ _)); exact BK442.out) hb); clear hb hg; have hnb42 := NB443_438.out; have hnc42 := NB438_443.out; have hnb43 := NB443_439.out; have hnc43 := NB439_443.out; have hnb44 := NB443_442.out; have hnc44 := NB442_443.out; obtain ⟨hcz45_0, hcz45_1, hcz45_2, hcz45_3⟩ := cz4 BK443; obtain ⟨hfz45_0, hfz45_1, hfz45_2, hfz45_3⟩ := fz4 BK443; have hnb46 := NB439_438.out; have hnc46 := NB438_439.out; have hcz47_0 := cz1 BK439; have hfz47_0 := fz1 BK439; obtain ⟨Ao48, co48, eo48⟩ := Kd.R_slice HO_440000.out; subst eo48))
    have n0_ : Aside0 (Kd.R k27 27 ((((w41.setCell ⟨gb443, 0, none⟩ (.int .i64 x12_1)).setCell ⟨gb443, 1, none⟩ (.int .i64 1)).setCell ⟨gb443, 2, none⟩ (.int .i64 ((rd_T55 l0 x12_1).f1))).setCell ⟨gb443, 3, none⟩ (.bool ((rd_T55 l0 x12_1).f2))) w.heap.size (fun k_ => k_ ≠ gb443) (.slice Ao48 x440000_1.length co48) x440000_1) := ⟨by (with_reducible repeat (first | apply Kd.R_alloc | apply Kd.R_drewN | apply Kd.R_drew)); exact Kd.R_mono (Kd.R_far (p := ⟨gb443, 3, none⟩) (Kd.R_far (p := ⟨gb443, 2, none⟩) (Kd.R_far (p := ⟨gb443, 1, none⟩) (Kd.R_far (p := ⟨gb443, 0, none⟩) (Kd.R_mono HO_440000.out (fun k_ hk => (⟨hk, hk.2⟩ : _ ∧ k_ ≠ gb443))) (fun _ hk => hk.2) (.int .i64 x12_1)) (fun _ hk => hk.2) (.int .i64 1)) (fun _ hk => hk.2) (.int .i64 ((rd_T55 l0 x12_1).f1))) (fun _ hk => hk.2) (.bool ((rd_T55 l0 x12_1).f2))) (fun _ hk => hk.1.2)⟩;have n1_ : Aside0 (((((w41.setCell ⟨gb443, 0, none⟩ (.int .i64 x12_1)).setCell ⟨gb443, 1, none⟩ (.int .i64 1)).setCell ⟨gb443, 2, none⟩ (.int .i64 ((rd_T55 l0 x12_1).f1))).setCell ⟨gb443, 3, none⟩ (.bool ((rd_T55 l0 x12_1).f2))).heap[gb438]? = some (.cells #[.slice none 0 0] 25 (0, 0))) := ⟨bf BK438 NB438_443⟩;have n2_ : Aside0 (((((w41.setCell ⟨gb443, 0, none⟩ (.int .i64 x12_1)).setCell ⟨gb443, 1, none⟩ (.int .i64 1)).setCell ⟨gb443, 2, none⟩ (.int .i64 ((rd_T55 l0 x12_1).f1))).setCell ⟨gb443, 3, none⟩ (.bool ((rd_T55 l0 x12_1).f2))).heap[gb439]? = some (.cells #[.slice Ao48 x440000_1.length co48] 25 (0, 0))) := ⟨bf BK439 NB439_443⟩;have n3_ : Aside0 (((((w41.setCell ⟨gb443, 0, none⟩ (.int .i64 x12_1)).setCell ⟨gb443, 1, none⟩ (.int .i64 1)).setCell ⟨gb443, 2, none⟩ (.int .i64 ((rd_T55 l0 x12_1).f1))).setCell ⟨gb443, 3, none⟩ (.bool ((rd_T55 l0 x12_1).f2))).heap[gb442]? = some (.cells #[.bool true, .int .i64 ((rd_T55 l0 x12_1).f1), .bool ((rd_T55 l0 x12_1).f2)] 55 (0, 0))) := ⟨bf BK442 NB442_443⟩;have n4_ : Aside0 (((((w41.setCell ⟨gb443, 0, none⟩ (.int .i64 x12_1)).setCell ⟨gb443, 1, none⟩ (.int .i64 1)).setCell ⟨gb443, 2, none⟩ (.int .i64 ((rd_T55 l0 x12_1).f1))).setCell ⟨gb443, 3, none⟩ (.bool ((rd_T55 l0 x12_1).f2))).heap[gb443]? = some (.cells #[.int .i64 x12_1, .int .i64 1, .int .i64 ((rd_T55 l0 x12_1).f1), .bool ((rd_T55 l0 x12_1).f2)] 27 (0, 0))) := ⟨by (with_reducible repeat (first | refine blk_drewN ?_ _ | refine blk_drew ?_ | refine blk_alloc ?_ _)); refine blk_put (cs := #[.int .i64 x12_1, .int .i64 1, .int .i64 ((rd_T55 l0 x12_1).f1), .bool false]) ?_ 3 _ rfl; (with_reducible repeat (first | refine blk_drewN ?_ _ | refine blk_drew ?_ | refine blk_alloc ?_ _)); refine blk_put (cs := #[.int .i64 x12_1, .int .i64 1, .int .i64 0, .bool false]) ?_ 2 _ rfl; (with_reducible repeat (first | refine blk_drewN ?_ _ | refine blk_drew ?_ | refine blk_alloc ?_ _)); refine blk_put (cs := #[.int .i64 x12_1, .int .i64 0, .int .i64 0, .bool false]) ?_ 1 _ rfl; (with_reducible repeat (first | refine blk_drewN ?_ _ | refine blk_drew ?_ | refine blk_alloc ?_ _)); refine blk_put (cs := #[.int .i64 0, .int .i64 0, .int .i64 0, .bool false]) ?_ 0 _ rfl; (with_reducible repeat (first | refine blk_drewN ?_ _ | refine blk_drew ?_ | refine blk_alloc ?_ _)); exact BK443.out⟩;have n5_ : Aside0 (Below w.heap.size w ((((w41.setCell ⟨gb443, 0, none⟩ (.int .i64 x12_1)).setCell ⟨gb443, 1, none⟩ (.int .i64 1)).setCell ⟨gb443, 2, none⟩ (.int .i64 ((rd_T55 l0 x12_1).f1))).setCell ⟨gb443, 3, none⟩ (.bool ((rd_T55 l0 x12_1).f2)))) := ⟨bs4 HB GE438 GE439 GE442 GE443⟩;(try clear HO_440000);(try clear BK438);(try clear BK439);(try clear BK442);(try clear BK443);(try clear HB)
    generalize ((((w41.setCell ⟨gb443, 0, none⟩ (.int .i64 x12_1)).setCell ⟨gb443, 1, none⟩ (.int .i64 1)).setCell ⟨gb443, 2, none⟩ (.int .i64 ((rd_T55 l0 x12_1).f1))).setCell ⟨gb443, 3, none⟩ (.bool ((rd_T55 l0 x12_1).f2))) = w49 at n0_ n1_ n2_ n3_ n4_ n5_ ⊢
    have HO_440000 := n0_;have BK438 := n1_;have BK439 := n2_;have BK442 := n3_;have BK443 := n4_;have HB := n5_;clear n0_ n1_ n2_ n3_ n4_ n5_;have n0_ := Ah (Kd.R_drew HO_440000.out);have n1_ := Ah (blk_drew BK438.out);have n2_ := Ah (blk_drew BK439.out);have n3_ := Ah (blk_drew BK442.out);have n4_ := Ah (blk_drew BK443.out);have n5_ := Ah (below_drew1 HB.out);clear HO_440000 BK438 BK439 BK442 BK443 HB;have HO_440000 := n0_;have BK438 := n1_;have BK439 := n2_;have BK442 := n3_;have BK443 := n4_;have HB := n5_;clear n0_ n1_ n2_ n3_ n4_ n5_;have p444 : 0 ≤ ((ji12) : Int) := od;have q444 : (ji12) < (x440000_1.length : Int) := od;obtain ⟨ad444, e444, hx444_0, hx444_1, hx444_2, hx444_3⟩ := at_T27 (Kd.R_reads' HO_440000.out).2.2 (ji12) p444 q444;(try rw [← Nbq9.out] at hx444_3)
    cases e444
    replace p444 := eq_true p444;replace q444 := eq_true q444;refine start_ (n := 11) (S := fun w' => w'.cell? ⟨gb439, 0, none⟩ = some (.slice (some ad444) x440000_1.length co48) ∧ w'.cell? ⟨gb443, 0, none⟩ = some (.int .i64 x12_1) ∧ w'.cell? ⟨gb443, 1, none⟩ = some (.int .i64 1) ∧ w'.cell? ⟨gb443, 2, none⟩ = some (.int .i64 ((rd_T55 l0 x12_1).f1)) ∧ w'.cell? ⟨gb443, 3, none⟩ = some (.bool ((rd_T55 l0 x12_1).f2)) ∧ w'.cell? (ad444.add (((ji12)).toNat * 4)) = some (.int .i64 ((rd_T27 x440000_1 (ji12)).f0)) ∧ w'.cell? ⟨(ad444.add (((ji12)).toNat * 4)).block, (ad444.add (((ji12)).toNat * 4)).off + 1, none⟩ = some (.int .i64 ((rd_T27 x440000_1 (ji12)).f1)) ∧ w'.cell? ⟨(ad444.add (((ji12)).toNat * 4)).block, (ad444.add (((ji12)).toNat * 4)).off + 2, none⟩ = some (.int .i64 ((rd_T27 x440000_1 (ji12)).f2)) ∧ w'.cell? ⟨(ad444.add (((ji12)).toNat * 4)).block, (ad444.add (((ji12)).toNat * 4)).off + 3, none⟩ = some (.bool ((rd_T27 x440000_1 (ji12)).f3))) (ds := []) #[false, false, false, false, false, false, false, false, false, false, false] (by kernel_rfl) rfl rfl ⟨(blk_cell BK439.out 0).trans rfl, (blk_cell BK443.out 0).trans rfl, (blk_cell BK443.out 1).trans rfl, (blk_cell BK443.out 2).trans rfl, (blk_cell BK443.out 3).trans rfl, hx444_0, hx444_1, hx444_2, hx444_3⟩ (fun hHeld => ?_); refine with_tabW impl_mapOf.tab8 impl_mapOf.bits8 (fun HT_ HW_ => ?_)
    generalize w49.drew = w50 at HO_440000 BK438 BK439 BK442 BK443 HB hx444_0 hx444_1 hx444_2 hx444_3 hHeld ⊢
    refine pureS 0 30 HT_.out ?_;refine pureS 1 31 HT_.out ?_;refine pureS 2 32 HT_.out ?_;refine pureS 3 33 HT_.out ?_;refine pureS 5 35 HT_.out ?_;refine takeS 4 34 HT_.out HW_.out hHeld (hr := by rintro w' ⟨s0, s1, s2, s3, s4, s5, s6, s7, s8⟩; go_simp; with_reducible rfl) (h := ?_);refine pureS 6 36 HT_.out ?_;refine takeS 7 37 HT_.out HW_.out hHeld (hr := by rintro w' ⟨s0, s1, s2, s3, s4, s5, s6, s7, s8⟩; go_simp; with_reducible rfl) (h := ?_);refine takeS 8 38 HT_.out HW_.out hHeld (hr := by rintro w' ⟨s0, s1, s2, s3, s4, s5, s6, s7, s8⟩; go_simp; with_reducible rfl) (h := ?_);refine one_ (i := 9) (N := some 39) #[true, true, true, true, true, true, true, true, true, true, false] rfl rfl (one_of HT_.out (by kernel_rfl)) (by decide) (fun K hK => ?_);refine goes_ Try.func22 (by kernel_rfl) rfl #[.agg #[.int .i64 ((rd_T27 x440000_1 (ji12)).f0), .int .i64 ((rd_T27 x440000_1 (ji12)).f1), .int .i64 ((rd_T27 x440000_1 (ji12)).f2), .bool ((rd_T27 x440000_1 (ji12)).f3)], .agg #[.int .i64 x12_1, .int .i64 1, .int .i64 ((rd_T55 l0 x12_1).f1), .bool ((rd_T55 l0 x12_1).f2)]] (by rfl) rfl rfl (by (try simp only [List.map_toArray, List.map_cons, List.map_nil]); first | done | (simp only [hji12]; rfl) | rfl | (simp only [List.length_drop, List.length_take]; rfl)) ?_
    with_reducible refine (impl_continues.calls ((rd_T27 x440000_1 (ji12)).f0) ((rd_T27 x440000_1 (ji12)).f1) ((rd_T27 x440000_1 (ji12)).f2) ((rd_T27 x440000_1 (ji12)).f3) x12_1 1 ((rd_T55 l0 x12_1).f1) ((rd_T55 l0 x12_1).f2) false _ A15.out).mono ?_
    rintro e w51 ⟨rfl, hb⟩;have HS5_ := (hb.cell (World.block_lt_of_cell? _ _ (hHeld.2.2.2.2.2.1))).trans (hHeld.2.2.2.2.2.1);have HS6_ := (hb.cell (World.block_lt_of_cell? _ _ (hHeld.2.2.2.2.2.2.1))).trans (hHeld.2.2.2.2.2.2.1);have HS7_ := (hb.cell (World.block_lt_of_cell? _ _ (hHeld.2.2.2.2.2.2.2.1))).trans (hHeld.2.2.2.2.2.2.2.1);have HS8_ := (hb.cell (World.block_lt_of_cell? _ _ (hHeld.2.2.2.2.2.2.2.2))).trans (hHeld.2.2.2.2.2.2.2.2);refine ⟨_, rfl, ?_⟩;have n0_ := Ah (Kd.R_below (rr HO_440000.out) hb);have n1_ := Ah (bb BK438 hb);have n2_ := Ah (bb BK439 hb);have n3_ := Ah (bb BK442 hb);have n4_ := Ah (bb BK443 hb);have n5_ := Ah (below_step (bs4 HB GE438 GE439 GE442 GE443) hb);clear HO_440000 BK438 BK439 BK442 BK443 HB;have HO_440000 := n0_;have BK438 := n1_;have BK439 := n2_;have BK442 := n3_;have BK443 := n4_;have HB := n5_;clear n0_ n1_ n2_ n3_ n4_ n5_;(try clear hb);(try clear hb2);(try clear hk);(try clear hi);refine hK.out _ _ ⟨(blk_cell BK439.out 0).trans rfl, (blk_cell BK443.out 0).trans rfl, (blk_cell BK443.out 1).trans rfl, (blk_cell BK443.out 2).trans rfl, (blk_cell BK443.out 3).trans rfl, HS5_, HS6_, HS7_, HS8_⟩ (fun hHeld => ?_);clear hK K;refine norm_ (a' := ?_) ?_ ?_;rotate_left
    ·
     show Act.put _ (some 39) _ = _
     simp only [Act.put, List.setIfInBounds_toArray, List.set_cons_zero, List.set_cons_succ, i64_w, i32_w]
     rfl
    refine pureS 10 40 HT_.out ?_;refine done_ (done_of HT_.out (by kernel_rfl)) ?_;have hcz52_0 := cz1 BK439;have hfz52_0 := fz1 BK439;obtain ⟨hcz53_0, hcz53_1, hcz53_2, hcz53_3⟩ := cz4 BK443;obtain ⟨hfz53_0, hfz53_1, hfz53_2, hfz53_3⟩ := fz4 BK443
    try go_wp2_with (first | ((with_reducible refine gate_builtin (b := .append) (xs := #[.tmp 51, .tmp 53]) rfl ?_); at_builtin; refine Kd.R_append k27 (w0 := w) w.heap.size rfl (.tmp 51) (.tmp 53) 23 27 (.agg #[(.int .i64 0), (.int .i64 0), (.int .i64 0), (.bool false)]) 32 rfl Try.underlying23 info27 rfl (by decide) (by omega) (.slice (some ad444) x440000_1.length co48) x440000_1 (⟨x12_1, 1, (rd_T55 l0 x12_1).f1, (rd_T55 l0 x12_1).f2⟩ : S27) [.int .i64 x12_1, .int .i64 1, .int .i64 ((rd_T55 l0 x12_1).f1), .bool ((rd_T55 l0 x12_1).f2)] (fun k_ => k_ ≠ gb443) (fun _ => False) rfl rfl ?aP (fun _ hk => hk.elim) ?aF ?aO ?aB ?aS ?aL ?_; (case aP => exact k27_mkM _ _ _ (⟨x12_1, 1, (rd_T55 l0 x12_1).f1, (rd_T55 l0 x12_1).f2⟩ : S27)); (case aB => exact (bs4 HB GE438 GE439 GE442 GE443)); (case aF => exact (fun k_ hk => Kd.freshB (bk BK443) k_ hk)); (case aO => exact (rr HO_440000.out)); (case aS => exact (below_size (bs4 HB GE438 GE439 GE442 GE443))); (case aL => have := LMc36.out; omega); intro v449 w54 ho hb hg hat; rw [← Ny448.out] at ho; replace BK438 := Ah (blk_grown (bk BK438) hg (Kd.R_ne HO_440000.out BK438.out (by decide))); replace BK439 := Ah (blk_grown (bk BK439) hg (Kd.R_ne HO_440000.out BK439.out (by decide))); replace BK442 := Ah (blk_grown (bk BK442) hg (Kd.R_ne HO_440000.out BK442.out (by decide))); replace BK443 := Ah (blk_grown (bk BK443) hg (Kd.R_away HO_440000.out (fun _ hk => hk))); replace HB := Ah (hb); have HO450 := Ah (ho); clear HO_440000; clear ho hb hg hat; obtain ⟨Ao55, co55, eo55⟩ := Kd.R_slice HO450.out; subst eo55; have hcz56_0 := cz1 BK439; have hfz56_0 := fz1 BK439))
    go_roundg k1
    case measure => have := HK1.out; omega
    case rel => exact ⟨(wrap64 (x12_1 + 1)), (y448), (.slice Ao55 y448.length co55), e3, H', ⟨by have := HK1.out; omega⟩, ⟨by (with_reducible repeat (first | apply Kd.R_alloc | apply Kd.R_drewN | apply Kd.R_drew)); exact Kd.R_mono (Kd.R_far (p := ⟨gb439, 0, none⟩) (Kd.R_types HO450.out BK439.out (by decide)) (fun _ hk => hk.2) (.slice Ao55 y448.length co55)) (fun _ hk => trivial)⟩, ⟨bf BK438 NB438_439⟩, ⟨by (with_reducible repeat (first | refine blk_drewN ?_ _ | refine blk_drew ?_ | refine blk_alloc ?_ _)); refine blk_put (cs := #[.slice (some ad444) x440000_1.length co48]) ?_ 0 _ rfl; (with_reducible repeat (first | refine blk_drewN ?_ _ | refine blk_drew ?_ | refine blk_alloc ?_ _)); exact BK439.out⟩, ⟨bs4 HB GE438 GE439 GE442 GE443⟩⟩
   subst c16;rw [if_pos rfl] at H;obtain ⟨y447, hy447⟩ : ∃ y_ : List (S27), y_ = (x440000_1.set ((ji12) : Int).toNat (⟨(rd_T27 x440000_1 (ji12)).f0, wrap64 (((rd_T27 x440000_1 (ji12)).f1) + 1), (rd_T27 x440000_1 (ji12)).f2, (rd_T27 x440000_1 (ji12)).f3⟩ : S27)) := ⟨_, rfl⟩
   replace H : (impl_mapOf.l0 k1 l0 (l0.length : Int) (wrap64 (x12_1 + 1)) y447) = some (r1, r2) := by first | (rw [hy447]; with_reducible exact H) | (have H2_ := (Option.bind_some _ _).symm.trans H; rw [hy447]; with_reducible exact H2_) | (have H2_ := (Option.bind_some _ _).symm.trans H; with_reducible exact H2_) | with_reducible exact H | (rw [hy447]; exact H) | exact H
   have Ny447 := Ah hy447;clear hy447;have H' := Ah H;clear H;have p441 : 0 ≤ (x12_1 : Int) := od;have q441 : x12_1 < (l0.length : Int) := od;obtain ⟨ad441, e441, hx441_0, hx441_1, hx441_2⟩ := at_T55 HR0.out x12_1 p441 q441;(try rw [← Nbq9.out] at hx441_0);(try rw [← Nbq9.out] at hx441_2)
   cases e441
   replace hx441_0 := (HB.out.cell (World.block_lt_of_cell? w _ hx441_0)).trans hx441_0;replace hx441_1 := (HB.out.cell (World.block_lt_of_cell? w _ hx441_1)).trans hx441_1;replace hx441_2 := (HB.out.cell (World.block_lt_of_cell? w _ hx441_2)).trans hx441_2;replace p441 := eq_true p441;replace q441 := eq_true q441
   try go_wp2_with (first | ((with_reducible refine gate_dst (N := 6) rfl ?_); refine boxL 6 55 #[.bool false, .int .i64 0, .bool false] ?_; intro gb442 hg w18 BK442 hb; replace HO_440000 := nr HO_440000 hb; have GW442 := gw hg (bs2 HB GE438 GE439); have GE442 := gw hg (bs2 HB GE438 GE439); replace HB := Ah (below_step (bs2 HB GE438 GE439) hb); have NB438_442 := nn BK438 hg; have NB442_438 := nm BK438 hg; replace BK438 := nb BK438 hb; have NB439_442 := nn BK439 hg; have NB442_439 := nm BK439 hg; replace BK439 := nb BK439 hb; clear hb hg; have hnb19 := NB442_438.out; have hnc19 := NB438_442.out; have hnb20 := NB442_439.out; have hnc20 := NB439_442.out; obtain ⟨hcz21_0, hcz21_1, hcz21_2⟩ := cz3 BK442; obtain ⟨hfz21_0, hfz21_1, hfz21_2⟩ := fz3 BK442) | ((with_reducible refine gate_dst (N := 7) rfl ?_); refine boxL 7 27 #[.int .i64 0, .int .i64 0, .int .i64 0, .bool false] ?_; intro gb443 hg w22 BK443 hb; replace HO_440000 := Ah (Kd.R_below (Kd.R_elderB (by (with_reducible repeat (first | apply Kd.R_alloc | apply Kd.R_drewN | apply Kd.R_drew)); exact (Kd.R_mono (Kd.R_far (p := ⟨gb442, 2, none⟩) (Kd.R_far (p := ⟨gb442, 1, none⟩) (Kd.R_far (p := ⟨gb442, 0, none⟩) (Kd.R_types HO_440000.out BK442.out (by decide)) (fun _ hk => hk.2) (.bool true)) (fun _ hk => hk.2) (.int .i64 ((rd_T55 l0 x12_1).f1))) (fun _ hk => hk.2) (.bool ((rd_T55 l0 x12_1).f2))) (fun _ h_ => h_.1))) gb443 (Nat.le_of_eq hg.symm)) hb); have GW443 := gw hg (bs3 HB GE438 GE439 GE442); have GE443 := gw hg (bs3 HB GE438 GE439 GE442); replace HB := Ah (below_step (bs3 HB GE438 GE439 GE442) hb); have NB438_443 := Ah ((by rw [hg]; exact Nat.ne_of_lt (blk_lt (g := gb438) (o := .cells #[.slice none 0 0] 25 (0, 0)) (bf BK438 NB438_442)) : gb438 ≠ gb443)); have NB443_438 := Ah ((by rw [hg]; exact Nat.ne_of_gt (blk_lt (g := gb438) (o := .cells #[.slice none 0 0] 25 (0, 0)) (bf BK438 NB438_442)) : gb443 ≠ gb438)); replace BK438 := Ah (blk_below (bf BK438 NB438_442) hb); have NB439_443 := Ah ((by rw [hg]; exact Nat.ne_of_lt (blk_lt (g := gb439) (o := .cells #[u440000] 25 (0, 0)) (bf BK439 NB439_442)) : gb439 ≠ gb443)); have NB443_439 := Ah ((by rw [hg]; exact Nat.ne_of_gt (blk_lt (g := gb439) (o := .cells #[u440000] 25 (0, 0)) (bf BK439 NB439_442)) : gb443 ≠ gb439)); replace BK439 := Ah (blk_below (bf BK439 NB439_442) hb); have NB442_443 := Ah ((bnz BK442 hg : gb442 ≠ gb443)); have NB443_442 := Ah ((bmz BK442 hg : gb443 ≠ gb442)); replace BK442 := Ah (blk_below (g := gb442) (o := .cells #[.bool true, .int .i64 ((rd_T55 l0 x12_1).f1), .bool ((rd_T55 l0 x12_1).f2)] 55 (0, 0)) (by (with_reducible repeat (first | refine blk_drewN ?_ _ | refine blk_drew ?_ | refine blk_alloc ?_ _)); refine blk_put (cs := #[.bool true, .int .i64 ((rd_T55 l0 x12_1).f1), .bool false]) ?_ 2 _ rfl; (with_reducible repeat (first | refine blk_drewN ?_ _ | refine blk_drew ?_ | refine blk_alloc ?_ _)); refine blk_put (cs := #[.bool true, .int .i64 0, .bool false]) ?_ 1 _ rfl; (with_reducible repeat (first | refine blk_drewN ?_ _ | refine blk_drew ?_ | refine blk_alloc ?_ _)); refine blk_put (cs := #[.bool false, .int .i64 0, .bool false]) ?_ 0 _ rfl; (with_reducible repeat (first | refine blk_drewN ?_ _ | refine blk_drew ?_ | refine blk_alloc ?_ _)); exact BK442.out) hb); clear hb hg; have hnb23 := NB443_438.out; have hnc23 := NB438_443.out; have hnb24 := NB443_439.out; have hnc24 := NB439_443.out; have hnb25 := NB443_442.out; have hnc25 := NB442_443.out; obtain ⟨hcz26_0, hcz26_1, hcz26_2, hcz26_3⟩ := cz4 BK443; obtain ⟨hfz26_0, hfz26_1, hfz26_2, hfz26_3⟩ := fz4 BK443; have hnb27 := NB439_438.out; have hnc27 := NB438_439.out; have hcz28_0 := cz1 BK439; have hfz28_0 := fz1 BK439; obtain ⟨Ao29, co29, eo29⟩ := Kd.R_slice HO_440000.out; subst eo29))
   have n0_ : Aside0 (Kd.R k27 27 ((((w22.setCell ⟨gb443, 0, none⟩ (.int .i64 x12_1)).setCell ⟨gb443, 1, none⟩ (.int .i64 1)).setCell ⟨gb443, 2, none⟩ (.int .i64 ((rd_T55 l0 x12_1).f1))).setCell ⟨gb443, 3, none⟩ (.bool ((rd_T55 l0 x12_1).f2))) w.heap.size (fun k_ => k_ ≠ gb443) (.slice Ao29 x440000_1.length co29) x440000_1) := ⟨by (with_reducible repeat (first | apply Kd.R_alloc | apply Kd.R_drewN | apply Kd.R_drew)); exact Kd.R_mono (Kd.R_far (p := ⟨gb443, 3, none⟩) (Kd.R_far (p := ⟨gb443, 2, none⟩) (Kd.R_far (p := ⟨gb443, 1, none⟩) (Kd.R_far (p := ⟨gb443, 0, none⟩) (Kd.R_mono HO_440000.out (fun k_ hk => (⟨hk, hk.2⟩ : _ ∧ k_ ≠ gb443))) (fun _ hk => hk.2) (.int .i64 x12_1)) (fun _ hk => hk.2) (.int .i64 1)) (fun _ hk => hk.2) (.int .i64 ((rd_T55 l0 x12_1).f1))) (fun _ hk => hk.2) (.bool ((rd_T55 l0 x12_1).f2))) (fun _ hk => hk.1.2)⟩;have n1_ : Aside0 (((((w22.setCell ⟨gb443, 0, none⟩ (.int .i64 x12_1)).setCell ⟨gb443, 1, none⟩ (.int .i64 1)).setCell ⟨gb443, 2, none⟩ (.int .i64 ((rd_T55 l0 x12_1).f1))).setCell ⟨gb443, 3, none⟩ (.bool ((rd_T55 l0 x12_1).f2))).heap[gb438]? = some (.cells #[.slice none 0 0] 25 (0, 0))) := ⟨bf BK438 NB438_443⟩;have n2_ : Aside0 (((((w22.setCell ⟨gb443, 0, none⟩ (.int .i64 x12_1)).setCell ⟨gb443, 1, none⟩ (.int .i64 1)).setCell ⟨gb443, 2, none⟩ (.int .i64 ((rd_T55 l0 x12_1).f1))).setCell ⟨gb443, 3, none⟩ (.bool ((rd_T55 l0 x12_1).f2))).heap[gb439]? = some (.cells #[.slice Ao29 x440000_1.length co29] 25 (0, 0))) := ⟨bf BK439 NB439_443⟩;have n3_ : Aside0 (((((w22.setCell ⟨gb443, 0, none⟩ (.int .i64 x12_1)).setCell ⟨gb443, 1, none⟩ (.int .i64 1)).setCell ⟨gb443, 2, none⟩ (.int .i64 ((rd_T55 l0 x12_1).f1))).setCell ⟨gb443, 3, none⟩ (.bool ((rd_T55 l0 x12_1).f2))).heap[gb442]? = some (.cells #[.bool true, .int .i64 ((rd_T55 l0 x12_1).f1), .bool ((rd_T55 l0 x12_1).f2)] 55 (0, 0))) := ⟨bf BK442 NB442_443⟩;have n4_ : Aside0 (((((w22.setCell ⟨gb443, 0, none⟩ (.int .i64 x12_1)).setCell ⟨gb443, 1, none⟩ (.int .i64 1)).setCell ⟨gb443, 2, none⟩ (.int .i64 ((rd_T55 l0 x12_1).f1))).setCell ⟨gb443, 3, none⟩ (.bool ((rd_T55 l0 x12_1).f2))).heap[gb443]? = some (.cells #[.int .i64 x12_1, .int .i64 1, .int .i64 ((rd_T55 l0 x12_1).f1), .bool ((rd_T55 l0 x12_1).f2)] 27 (0, 0))) := ⟨by (with_reducible repeat (first | refine blk_drewN ?_ _ | refine blk_drew ?_ | refine blk_alloc ?_ _)); refine blk_put (cs := #[.int .i64 x12_1, .int .i64 1, .int .i64 ((rd_T55 l0 x12_1).f1), .bool false]) ?_ 3 _ rfl; (with_reducible repeat (first | refine blk_drewN ?_ _ | refine blk_drew ?_ | refine blk_alloc ?_ _)); refine blk_put (cs := #[.int .i64 x12_1, .int .i64 1, .int .i64 0, .bool false]) ?_ 2 _ rfl; (with_reducible repeat (first | refine blk_drewN ?_ _ | refine blk_drew ?_ | refine blk_alloc ?_ _)); refine blk_put (cs := #[.int .i64 x12_1, .int .i64 0, .int .i64 0, .bool false]) ?_ 1 _ rfl; (with_reducible repeat (first | refine blk_drewN ?_ _ | refine blk_drew ?_ | refine blk_alloc ?_ _)); refine blk_put (cs := #[.int .i64 0, .int .i64 0, .int .i64 0, .bool false]) ?_ 0 _ rfl; (with_reducible repeat (first | refine blk_drewN ?_ _ | refine blk_drew ?_ | refine blk_alloc ?_ _)); exact BK443.out⟩;have n5_ : Aside0 (Below w.heap.size w ((((w22.setCell ⟨gb443, 0, none⟩ (.int .i64 x12_1)).setCell ⟨gb443, 1, none⟩ (.int .i64 1)).setCell ⟨gb443, 2, none⟩ (.int .i64 ((rd_T55 l0 x12_1).f1))).setCell ⟨gb443, 3, none⟩ (.bool ((rd_T55 l0 x12_1).f2)))) := ⟨bs4 HB GE438 GE439 GE442 GE443⟩;(try clear HO_440000);(try clear BK438);(try clear BK439);(try clear BK442);(try clear BK443);(try clear HB)
   generalize ((((w22.setCell ⟨gb443, 0, none⟩ (.int .i64 x12_1)).setCell ⟨gb443, 1, none⟩ (.int .i64 1)).setCell ⟨gb443, 2, none⟩ (.int .i64 ((rd_T55 l0 x12_1).f1))).setCell ⟨gb443, 3, none⟩ (.bool ((rd_T55 l0 x12_1).f2))) = w30 at n0_ n1_ n2_ n3_ n4_ n5_ ⊢
   have HO_440000 := n0_;have BK438 := n1_;have BK439 := n2_;have BK442 := n3_;have BK443 := n4_;have HB := n5_;clear n0_ n1_ n2_ n3_ n4_ n5_;have n0_ := Ah (Kd.R_drew HO_440000.out);have n1_ := Ah (blk_drew BK438.out);have n2_ := Ah (blk_drew BK439.out);have n3_ := Ah (blk_drew BK442.out);have n4_ := Ah (blk_drew BK443.out);have n5_ := Ah (below_drew1 HB.out);clear HO_440000 BK438 BK439 BK442 BK443 HB;have HO_440000 := n0_;have BK438 := n1_;have BK439 := n2_;have BK442 := n3_;have BK443 := n4_;have HB := n5_;clear n0_ n1_ n2_ n3_ n4_ n5_;have p444 : 0 ≤ ((ji12) : Int) := od;have q444 : (ji12) < (x440000_1.length : Int) := od;obtain ⟨ad444, e444, hx444_0, hx444_1, hx444_2, hx444_3⟩ := at_T27 (Kd.R_reads' HO_440000.out).2.2 (ji12) p444 q444;(try rw [← Nbq9.out] at hx444_3)
   cases e444
   replace p444 := eq_true p444;replace q444 := eq_true q444;refine start_ (n := 11) (S := fun w' => w'.cell? ⟨gb439, 0, none⟩ = some (.slice (some ad444) x440000_1.length co29) ∧ w'.cell? ⟨gb443, 0, none⟩ = some (.int .i64 x12_1) ∧ w'.cell? ⟨gb443, 1, none⟩ = some (.int .i64 1) ∧ w'.cell? ⟨gb443, 2, none⟩ = some (.int .i64 ((rd_T55 l0 x12_1).f1)) ∧ w'.cell? ⟨gb443, 3, none⟩ = some (.bool ((rd_T55 l0 x12_1).f2)) ∧ w'.cell? (ad444.add (((ji12)).toNat * 4)) = some (.int .i64 ((rd_T27 x440000_1 (ji12)).f0)) ∧ w'.cell? ⟨(ad444.add (((ji12)).toNat * 4)).block, (ad444.add (((ji12)).toNat * 4)).off + 1, none⟩ = some (.int .i64 ((rd_T27 x440000_1 (ji12)).f1)) ∧ w'.cell? ⟨(ad444.add (((ji12)).toNat * 4)).block, (ad444.add (((ji12)).toNat * 4)).off + 2, none⟩ = some (.int .i64 ((rd_T27 x440000_1 (ji12)).f2)) ∧ w'.cell? ⟨(ad444.add (((ji12)).toNat * 4)).block, (ad444.add (((ji12)).toNat * 4)).off + 3, none⟩ = some (.bool ((rd_T27 x440000_1 (ji12)).f3))) (ds := []) #[false, false, false, false, false, false, false, false, false, false, false] (by kernel_rfl) rfl rfl ⟨(blk_cell BK439.out 0).trans rfl, (blk_cell BK443.out 0).trans rfl, (blk_cell BK443.out 1).trans rfl, (blk_cell BK443.out 2).trans rfl, (blk_cell BK443.out 3).trans rfl, hx444_0, hx444_1, hx444_2, hx444_3⟩ (fun hHeld => ?_); refine with_tabW impl_mapOf.tab8 impl_mapOf.bits8 (fun HT_ HW_ => ?_)
   generalize w30.drew = w31 at HO_440000 BK438 BK439 BK442 BK443 HB hx444_0 hx444_1 hx444_2 hx444_3 hHeld ⊢
   refine pureS 0 30 HT_.out ?_;refine pureS 1 31 HT_.out ?_;refine pureS 2 32 HT_.out ?_;refine pureS 3 33 HT_.out ?_;refine pureS 5 35 HT_.out ?_;refine takeS 4 34 HT_.out HW_.out hHeld (hr := by rintro w' ⟨s0, s1, s2, s3, s4, s5, s6, s7, s8⟩; go_simp; with_reducible rfl) (h := ?_);refine pureS 6 36 HT_.out ?_;refine takeS 7 37 HT_.out HW_.out hHeld (hr := by rintro w' ⟨s0, s1, s2, s3, s4, s5, s6, s7, s8⟩; go_simp; with_reducible rfl) (h := ?_);refine takeS 8 38 HT_.out HW_.out hHeld (hr := by rintro w' ⟨s0, s1, s2, s3, s4, s5, s6, s7, s8⟩; go_simp; with_reducible rfl) (h := ?_);refine one_ (i := 9) (N := some 39) #[true, true, true, true, true, true, true, true, true, true, false] rfl rfl (one_of HT_.out (by kernel_rfl)) (by decide) (fun K hK => ?_);refine goes_ Try.func22 (by kernel_rfl) rfl #[.agg #[.int .i64 ((rd_T27 x440000_1 (ji12)).f0), .int .i64 ((rd_T27 x440000_1 (ji12)).f1), .int .i64 ((rd_T27 x440000_1 (ji12)).f2), .bool ((rd_T27 x440000_1 (ji12)).f3)], .agg #[.int .i64 x12_1, .int .i64 1, .int .i64 ((rd_T55 l0 x12_1).f1), .bool ((rd_T55 l0 x12_1).f2)]] (by rfl) rfl rfl (by (try simp only [List.map_toArray, List.map_cons, List.map_nil]); first | done | (simp only [hji12]; rfl) | rfl | (simp only [List.length_drop, List.length_take]; rfl)) ?_
   with_reducible refine (impl_continues.calls ((rd_T27 x440000_1 (ji12)).f0) ((rd_T27 x440000_1 (ji12)).f1) ((rd_T27 x440000_1 (ji12)).f2) ((rd_T27 x440000_1 (ji12)).f3) x12_1 1 ((rd_T55 l0 x12_1).f1) ((rd_T55 l0 x12_1).f2) true _ A15.out).mono ?_
   rintro e w32 ⟨rfl, hb⟩;have HS5_ := (hb.cell (World.block_lt_of_cell? _ _ (hHeld.2.2.2.2.2.1))).trans (hHeld.2.2.2.2.2.1);have HS6_ := (hb.cell (World.block_lt_of_cell? _ _ (hHeld.2.2.2.2.2.2.1))).trans (hHeld.2.2.2.2.2.2.1);have HS7_ := (hb.cell (World.block_lt_of_cell? _ _ (hHeld.2.2.2.2.2.2.2.1))).trans (hHeld.2.2.2.2.2.2.2.1);have HS8_ := (hb.cell (World.block_lt_of_cell? _ _ (hHeld.2.2.2.2.2.2.2.2))).trans (hHeld.2.2.2.2.2.2.2.2);refine ⟨_, rfl, ?_⟩;have n0_ := Ah (Kd.R_below (rr HO_440000.out) hb);have n1_ := Ah (bb BK438 hb);have n2_ := Ah (bb BK439 hb);have n3_ := Ah (bb BK442 hb);have n4_ := Ah (bb BK443 hb);have n5_ := Ah (below_step (bs4 HB GE438 GE439 GE442 GE443) hb);clear HO_440000 BK438 BK439 BK442 BK443 HB;have HO_440000 := n0_;have BK438 := n1_;have BK439 := n2_;have BK442 := n3_;have BK443 := n4_;have HB := n5_;clear n0_ n1_ n2_ n3_ n4_ n5_;(try clear hb);(try clear hb2);(try clear hk);(try clear hi);refine hK.out _ _ ⟨(blk_cell BK439.out 0).trans rfl, (blk_cell BK443.out 0).trans rfl, (blk_cell BK443.out 1).trans rfl, (blk_cell BK443.out 2).trans rfl, (blk_cell BK443.out 3).trans rfl, HS5_, HS6_, HS7_, HS8_⟩ (fun hHeld => ?_);clear hK K;refine norm_ (a' := ?_) ?_ ?_;rotate_left
   ·
    show Act.put _ (some 39) _ = _
    simp only [Act.put, List.setIfInBounds_toArray, List.set_cons_zero, List.set_cons_succ, i64_w, i32_w]
    rfl
   refine pureS 10 40 HT_.out ?_;refine done_ (done_of HT_.out (by kernel_rfl)) ?_;have hcz33_0 := cz1 BK439;have hfz33_0 := fz1 BK439;have p446 : 0 ≤ ((ji12) : Int) := od;have q446 : (ji12) < (x440000_1.length : Int) := od;obtain ⟨ad446, e446, hx446_0, hx446_1, hx446_2, hx446_3⟩ := at_T27 (Kd.R_reads' HO_440000.out).2.2 (ji12) p446 q446;(try rw [← Nbq9.out] at hx446_3);obtain rfl : ad444 = ad446 := (by injection e446);replace p446 := eq_true p446;replace q446 := eq_true q446;have p17 : 0 ≤ ((ji12) : Int) := od;have q17 : ((ji12) : Int) < ((x440000_1.length : Int) : Int) := od;obtain ⟨go17, co17, eo17, gb17, gl17, cl17, HG17⟩ := Kd.R_form HO_440000.out (by omega);(first | cases eo17 | (injection eo17 with ea_ en_ ec_; (first | subst ea_ | (injection ea_ with ea_; subst ea_)); subst ec_; clear en_));have GB17 := Ah gb17;have GG17 := Ah HG17;clear gb17 gl17 HG17;(first | simp only [add_plain] at hx444_0 | skip);(first | simp only [add_plain] at hx444_1 | skip);(first | simp only [add_plain] at hx444_2 | skip);(first | simp only [add_plain] at hx444_3 | skip);(first | simp only [add_plain] at hx446_0 | skip);(first | simp only [add_plain] at hx446_1 | skip);(first | simp only [add_plain] at hx446_2 | skip);(first | simp only [add_plain] at hx446_3 | skip);obtain ⟨ce17, hcl17, hM17, hcc17, hfr17⟩ := Kd.R_elem HO_440000.out z27 ((ji12) : Int) p17 q17;obtain rfl := k27_openM hM17;have hx17_0 : w32.cell? ⟨go17, ((ji12) : Int).toNat * 4, none⟩ = some (.int .i64 ((rd_T27 x440000_1 (ji12)).f0)) := hcc17 0 _ rfl;have hx17_1 : w32.cell? ⟨go17, ((ji12) : Int).toNat * 4 + 1, none⟩ = some (.int .i64 ((rd_T27 x440000_1 (ji12)).f1)) := hcc17 1 _ rfl;have hx17_2 : w32.cell? ⟨go17, ((ji12) : Int).toNat * 4 + 2, none⟩ = some (.int .i64 ((rd_T27 x440000_1 (ji12)).f2)) := hcc17 2 _ rfl;have hx17_3 : w32.cell? ⟨go17, ((ji12) : Int).toNat * 4 + 3, none⟩ = some (.bool ((rd_T27 x440000_1 (ji12)).f3)) := hcc17 3 _ rfl;have hf17_0 : w32.frozen? ⟨go17, ((ji12) : Int).toNat * 4, none⟩ = false := hfr17 0;have hf17_1 : w32.frozen? ⟨go17, ((ji12) : Int).toNat * 4 + 1, none⟩ = false := hfr17 1;have hf17_2 : w32.frozen? ⟨go17, ((ji12) : Int).toNat * 4 + 2, none⟩ = false := hfr17 2;have hf17_3 : w32.frozen? ⟨go17, ((ji12) : Int).toNat * 4 + 3, none⟩ = false := hfr17 3;clear hcl17 hcc17 hfr17 hM17;replace p17 := eq_true p17;replace q17 := eq_true q17;have HX34 := Ah (show Kd.R k27 27 w32 w.heap.size (fun k_ => k_ ≠ gb443) (.slice (some ⟨go17, 0, none⟩) x440000_1.length co29) x440000_1 from (rr HO_440000.out));obtain ⟨ce34, hcl34, hM34, hcc34, hfr34⟩ := Kd.R_elem HX34.out z27 ((ji12) : Int) (od) (by have h_ : ((ji12) : Int) < ((x440000_1.length : Int) : Int) := od; first | exact h_ | (have e_ := (Kd.R_reads' HO_440000.out).1; omega) | simpa using h_);obtain rfl := k27_openM hM34;have HP34 := Kd.R_seg HX34.out ((ji12) : Int) (od) (by have h_ : ((ji12) : Int) < ((x440000_1.length : Int) : Int) := od; first | exact h_ | (have e_ := (Kd.R_reads' HO_440000.out).1; omega) | simpa using h_) (seg := [.int .i64 (wrap64 (((rd_T27 x440000_1 (ji12)).f1) + 1))]) (j := 1) hcl34 hcc34 (show 2 ≤ 4 from by decide) (x' := (⟨(rd_T27 x440000_1 (ji12)).f0, wrap64 (((rd_T27 x440000_1 (ji12)).f1) + 1), (rd_T27 x440000_1 (ji12)).f2, (rd_T27 x440000_1 (ji12)).f3⟩ : S27)) (k27_mkM _ _ _ (⟨(rd_T27 x440000_1 (ji12)).f0, wrap64 (((rd_T27 x440000_1 (ji12)).f1) + 1), (rd_T27 x440000_1 (ji12)).f2, (rd_T27 x440000_1 (ji12)).f3⟩ : S27) ) (fun _ hk => hk);have hx34_1 := hcc34 1 _ rfl;(try simp only [show (k27).sz = 4 from rfl, Nat.mul_one, Nat.add_zero] at hx34_1);have hf34_1 := hfr34 1;(try simp only [show (k27).sz = 4 from rfl, Nat.mul_one, Nat.add_zero] at hf34_1);clear hcl34 hcc34 hfr34 hM34
   try go_wp2_with (first | ((with_reducible refine gate_store (t := 3) (p := 49) rfl ?_); refine store_event (t := 3) (p := 49) (v := ?vo_w35) (w1 := (w32.setCell ⟨go17, ((ji12) : Int).toNat * 4 + 1, none⟩ (.int .i64 (wrap64 (((rd_T27 x440000_1 (ji12)).f1) + 1))))) ?hg ?ho ?hn ?hr ?_; (case ho => rfl); (case hg => rfl); (case hn => rfl); (case hr => first | (go_simp; done) | (go_simp; rfl)); intro w35 hw; have hg : w32.grownBy w35 (some go17) := (by rw [hw]; exact HP34.2); have hp_ : Kd.R k27 27 w35 w.heap.size (fun k_ => k_ ≠ gb443) (.slice (some ⟨go17, 0, none⟩) x440000_1.length co29) y447 := (by rw [hw, Ny447.out]; exact HP34.1); clear HP34; replace BK438 := Ah (blk_grown (bk BK438) hg (Kd.R_ne HO_440000.out BK438.out (by decide))); replace BK439 := Ah (blk_grown (bk BK439) hg (Kd.R_ne HO_440000.out BK439.out (by decide))); replace BK442 := Ah (blk_grown (bk BK442) hg (Kd.R_ne HO_440000.out BK442.out (by decide))); replace BK443 := Ah (blk_grown (bk BK443) hg (Kd.R_away HO_440000.out (fun _ hk => hk))); replace HO_440000 := Ah (hp_); replace HB := Ah ((by rw [hw]; exact below_set (HB.out) GB17.out : Below w.heap.size w w35)); clear hg hw hp_))
   go_roundg k1
   case measure => have := HK1.out; omega
   case rel => exact ⟨(wrap64 (x12_1 + 1)), (y447), (.slice (some ⟨go17, 0, none⟩) x440000_1.length co29), e3, H', ⟨by have := HK1.out; omega⟩, rm HO_440000 (fun _ hk => trivial), ⟨bk BK438⟩, ⟨bk BK439⟩, ⟨bs4 HB GE438 GE439 GE442 GE443⟩⟩
mutual
def impl_MapPiece.j0 : Nat → Bool → List (S27) → Int → Int → Int → Bool → Option ((List (S27)) × Bool)
 | 0, _, _, _, _, _, _ => none
 | k + 1, x15, x455000, x456000, x456001, x456002, x456003 => if x15 = true then (some (([] : List (S27)), false)) else ((impl_FileMap_cells.f k x455000).bind fun t459 => (impl_MapPiece.l0 k t459 x456001 0 x456000 x456001 x456002 x456003))
def impl_MapPiece.l0 : Nat → List (S55) → Int → Int → Int → Int → Int → Bool → Option ((List (S27)) × Bool)
 | 0, _, _, _, _, _, _, _ => none
 | k + 1, x6, x20, x21, x456000, x456001, x456002, x456003 => if x21 < x20 then (if 0 ≤ (wrap64 (x456000 + x21)) then (if (wrap64 (x456000 + x21)) < (x6.length : Int) then (if (rd_T55 x6 (wrap64 (x456000 + x21))).f0 = true then (some (([] : List (S27)), false)) else (impl_MapPiece.l0 k (x6.set ((wrap64 (x456000 + x21)) : Int).toNat (⟨true, wrap64 (x456002 + x21), x456003⟩ : S55)) x20 (wrap64 (x21 + 1)) x456000 x456001 x456002 x456003)) else (none)) else (none)) else ((impl_mapOf.f k x6).bind fun bt464 => (some (bt464.1, bt464.2)))
end
def impl_MapPiece.f (k : Nat) (l0_0 : List (S27)) (a1_0 : Int) (a1_1 : Int) (a1_2 : Int) (a1_3 : Bool) : Option ((List (S27)) × Bool) := (impl_GoodMap.f k l0_0).bind fun t457 => (if t457 = true then ((impl_isPiece.f a1_0 a1_1 a1_2 a1_3).bind fun t458 => (impl_MapPiece.j0 k (!t458) l0_0 a1_0 a1_1 a1_2 a1_3)) else (impl_MapPiece.j0 k true l0_0 a1_0 a1_1 a1_2 a1_3))
theorem impl_MapPiece.mono_l : ∀ k, (∀ y0 y1 y2 y3 y4 y5, LeO (impl_MapPiece.j0 k y0 y1 y2 y3 y4 y5) (impl_MapPiece.j0 (k + 1) y0 y1 y2 y3 y4 y5)) ∧ (∀ y0 y1 y2 y3 y4 y5 y6, LeO (impl_MapPiece.l0 k y0 y1 y2 y3 y4 y5 y6) (impl_MapPiece.l0 (k + 1) y0 y1 y2 y3 y4 y5 y6))
 | 0 => ⟨fun _ _ _ _ _ _ r h => by simp [impl_MapPiece.j0] at h, fun _ _ _ _ _ _ _ r h => by simp [impl_MapPiece.l0] at h⟩
 | k + 1 => by
  obtain ⟨ih0, ih1⟩ := impl_MapPiece.mono_l k
  refine ⟨?_, ?_⟩ <;> intros <;> first | unfold impl_MapPiece.j0 | unfold impl_MapPiece.l0
  all_goals repeat' first
   | (with_reducible exact ih0 _ _ _ _ _ _)
   | (with_reducible exact ih1 _ _ _ _ _ _ _)
   | (with_reducible exact impl_FileMap_cells.mono _ _)
   | (with_reducible exact impl_GoodMap.mono _ _)
   | (with_reducible exact impl_mapOf.mono _ _)
   | (with_reducible exact LeO.refl _)
   | (with_reducible exact LeO.none _)
   | (with_reducible refine LeO.ite ?_ ?_)
   | (with_reducible refine LeO.bind ?_ (fun _ => ?_))
   | exact ih0 _ _ _ _ _ _
   | exact ih1 _ _ _ _ _ _ _
   | exact impl_FileMap_cells.mono _ _
   | exact impl_GoodMap.mono _ _
   | exact impl_mapOf.mono _ _
   | exact LeO.none _
   | refine LeO.ite ?_ ?_
   | refine LeO.bind ?_ (fun _ => ?_)
theorem impl_MapPiece.mono : ∀ a0 a1 a2 a3 a4 k, LeO (impl_MapPiece.f k a0 a1 a2 a3 a4) (impl_MapPiece.f (k + 1) a0 a1 a2 a3 a4) := by
 intro a0 a1 a2 a3 a4 k;obtain ⟨ih0, ih1⟩ := impl_MapPiece.mono_l k;unfold impl_MapPiece.f
 repeat' with_reducible first|exact ih0 _ _ _ _ _ _|exact ih1 _ _ _ _ _ _ _|exact impl_FileMap_cells.mono _ _|exact impl_GoodMap.mono _ _|exact impl_mapOf.mono _ _|exact LeO.refl _|exact LeO.none _|refine LeO.ite ?_ ?_|refine LeO.bind ?_ (fun _ => ?_)
set_option maxHeartbeats 8000000 in
set_option maxRecDepth 100000 in
theorem impl_MapPiece.calls (k : Nat) (A0_0 : Option Addr) (c0_0 : Nat) (l0_0 : List (S27)) (a1_0 : Int) (a1_1 : Int) (a1_2 : Int) (a1_3 : Bool) (r1 : List (S27)) (r2 : Bool) (w : World) (hr0_0 : Kd.C k27 w A0_0 l0_0.length l0_0) (hc0_0 : l0_0.length ≤ c0_0) (h : impl_MapPiece.f k l0_0 a1_0 a1_1 a1_2 a1_3 = some (r1, r2)) :
  Calls Try.prog 5 #[.agg #[.slice A0_0 l0_0.length c0_0], .agg #[.int .i64 a1_0, .int .i64 a1_1, .int .i64 a1_2, .bool a1_3]] w fun e w' => ∃ v0_ : Value, e = .returned (.tuple #[.agg #[v0_], .bool r2]) ∧ Kd.R k27 27 w' w.heap.size (fun _ => True) v0_ r1 ∧ Below w.heap.size w w' := by
 have hu25 := Try.underlying25;have hu27 := Try.underlying27;have hu55 := Try.underlying55;have HR0_0 := Ah hr0_0;have HC0_0 := Ah hc0_0;clear hr0_0 hc0_0;have HB := Ah (Below.refl w.heap.size w);have H : ((impl_GoodMap.f k l0_0).bind fun t457 => (if t457 = true then ((impl_isPiece.f a1_0 a1_1 a1_2 a1_3).bind fun t458 => (impl_MapPiece.j0 k (!t458) l0_0 a1_0 a1_1 a1_2 a1_3)) else (impl_MapPiece.j0 k true l0_0 a1_0 a1_1 a1_2 a1_3))) = some (r1, r2) := h;clear h;have HC3 := Ah H;clear H
 go_enter Try.func5, Try.ntmps5
 go_upto_region 1 with (first | ((with_reducible refine gate_dst (N := 2) rfl ?_); refine boxL 2 25 #[.slice A0_0 l0_0.length c0_0] ?_; intro gb454 hg w4 BK454 hb; have GW454 := gw hg (bs HB); have GE454 := gw hg (bs HB); replace HB := Ah (below_step (bs HB) hb); clear hb hg) | ((with_reducible refine gate_dst (N := 3) rfl ?_); refine boxL 3 27 #[.int .i64 a1_0, .int .i64 a1_1, .int .i64 a1_2, .bool a1_3] ?_; intro gb455 hg w5 BK455 hb; have GW455 := gw hg (bs1 HB GE454); have GE455 := gw hg (bs1 HB GE454); replace HB := Ah (below_step (bs1 HB GE454) hb); have NB454_455 := nn BK454 hg; have NB455_454 := nm BK454 hg; replace BK454 := nb BK454 hb; clear hb hg) | ((with_reducible refine gate_dst (N := 4) rfl ?_); refine boxL 4 25 #[.slice none 0 0] ?_; intro gb456 hg w6 BK456 hb; have GW456 := gw hg (bs2 HB GE454 GE455); have GE456 := gw hg (bs2 HB GE454 GE455); replace HB := Ah (below_step (bs2 HB GE454 GE455) hb); have NB454_456 := nn BK454 hg; have NB456_454 := nm BK454 hg; replace BK454 := nb BK454 hb; have NB455_456 := nn BK455 hg; have NB456_455 := nm BK455 hg; replace BK455 := nb BK455 hb; clear hb hg))
 (try simp only [Act.put, List.setIfInBounds_toArray, List.set_cons_zero, List.set_cons_succ])
 go_cut [15] (fun v15 wc => ∃ (kq : Nat) (x15_2 : Bool), v15 = .bool x15_2 ∧ Aside0 (impl_MapPiece.j0 kq x15_2 l0_0 a1_0 a1_1 a1_2 a1_3 = some (r1, r2)) ∧ Aside0 (kq ≤ k) ∧ Aside0 (wc.heap[gb454]? = some (.cells #[(.slice A0_0 l0_0.length c0_0)] 25 (0, 0))) ∧ Aside0 (wc.heap[gb455]? = some (.cells #[.int .i64 a1_0, .int .i64 a1_1, .int .i64 a1_2, .bool a1_3] 27 (0, 0))) ∧ Aside0 (wc.heap[gb456]? = some (.cells #[(.slice none 0 0)] 25 (0, 0))) ∧ Aside0 (Below w.heap.size w wc))
 case first =>
  have H := HC3.out;clear HC3;replace H := Option.bind_eq_some_iff.mp H;obtain ⟨t457, A70, H⟩ := H
  try dsimp only at H
  have A7 := Ah A70;clear A70
  by_cases c8 : t457 = true
  rotate_left
  ·
   replace c8 := Bool.eq_false_iff.mpr c8;subst c8;rw [if_neg fne] at H;have H' := Ah H;clear H;have hnb17 := NB454_455.out;have hnc17 := NB455_454.out;have hnb18 := NB454_456.out;have hnc18 := NB456_454.out;have hcz19_0 := cz1 BK454;have hfz19_0 := fz1 BK454
   go_wp2_with (first | ((with_reducible refine gate_callee (f := 8) rfl ?_); refine gL (some 9) rfl rfl Try.func8 (by kernel_rfl) rfl #[.agg #[.slice A0_0 l0_0.length c0_0]] rfl ?_; (with_reducible refine (impl_GoodMap.calls k _ _ l0_0 false _ ?side1 ?side2 A7.out).mono ?_); (case side1 => exact cb HR0_0 HB); (case side2 => exact HC0_0.out); rintro e w20 ⟨rfl, hb⟩; refine ⟨_, rfl, ?_⟩; replace BK454 := nb BK454 hb; replace BK455 := nb BK455 hb; replace BK456 := nb BK456 hb; replace HB := Ah (below_step (bs3 HB GE454 GE455 GE456) hb); (try clear hb)))
   go_meet
   case rel => exact ⟨_, (true), e3, H', ⟨by first | omega | exact Nat.le_refl _⟩, ⟨bk BK454⟩, ⟨bk BK455⟩, ⟨bk BK456⟩, ⟨bs3 HB GE454 GE455 GE456⟩⟩
  subst c8;rw [if_pos rfl] at H;replace H := Option.bind_eq_some_iff.mp H;obtain ⟨t458, A90, H⟩ := H
  try dsimp only at H
  have A9 := Ah A90;clear A90;have H' := Ah H;clear H;have hnb10 := NB454_455.out;have hnc10 := NB455_454.out;have hnb11 := NB454_456.out;have hnc11 := NB456_454.out;have hcz12_0 := cz1 BK454;have hfz12_0 := fz1 BK454
  go_wp2_with (first | ((with_reducible refine gate_callee (f := 8) rfl ?_); refine gL (some 9) rfl rfl Try.func8 (by kernel_rfl) rfl #[.agg #[.slice A0_0 l0_0.length c0_0]] rfl ?_; (with_reducible refine (impl_GoodMap.calls k _ _ l0_0 true _ ?side1 ?side2 A7.out).mono ?_); (case side1 => exact cb HR0_0 HB); (case side2 => exact HC0_0.out); rintro e w13 ⟨rfl, hb⟩; refine ⟨_, rfl, ?_⟩; replace BK454 := nb BK454 hb; replace BK455 := nb BK455 hb; replace BK456 := nb BK456 hb; replace HB := Ah (below_step (bs3 HB GE454 GE455 GE456) hb); (try clear hb); have hnb14 := NB455_456.out; have hnc14 := NB456_455.out; obtain ⟨hcz15_0, hcz15_1, hcz15_2, hcz15_3⟩ := cz4 BK455; obtain ⟨hfz15_0, hfz15_1, hfz15_2, hfz15_3⟩ := fz4 BK455) | (go_at_call 16; (with_reducible refine (impl_isPiece.calls a1_0 a1_1 a1_2 a1_3 t458 _ A9.out).mono ?_); rintro e w16 ⟨rfl, hb⟩; replace BK454 := nb BK454 hb; replace BK455 := nb BK455 hb; replace BK456 := nb BK456 hb; replace HB := Ah (below_step (bs3 HB GE454 GE455 GE456) hb); (try clear hb)))
  go_meet
  case rel => exact ⟨_, (!t458), e3, H', ⟨by first | omega | exact Nat.le_refl _⟩, ⟨bk BK454⟩, ⟨bk BK455⟩, ⟨bk BK456⟩, ⟨bs3 HB GE454 GE455 GE456⟩⟩
 case rest =>
  clear HC3
  try clear c1
  try clear p2
  try clear c5
  try clear c8
  try clear c10
  try clear c11
  try clear c14
  try clear c17
  try clear c18
  try clear hcz12_0
  try clear hcz15_0 hcz15_1 hcz15_2 hcz15_3
  try clear hcz19_0
  try clear hfz12_0
  try clear hfz15_0 hfz15_1 hfz15_2 hfz15_3
  try clear hfz19_0
  obtain ⟨kq, x15_2, rfl, HA, HJ2, BK454, BK455, BK456, HB⟩ := hcut
  cases kq with
  | zero => exact absurd HA.out (by simp [impl_MapPiece.j0])
  | succ kj2 =>
   have H := HA.out;clear HA;simp only [impl_MapPiece.j0] at H
   by_cases c21 : x15_2 = true
   ·
    subst c21;rw [if_pos rfl] at H;simp only [Option.some.injEq, Prod.mk.injEq] at H;obtain ⟨rfl, rfl⟩ := H;have hnb22 := NB456_454.out;have hnc22 := NB454_456.out;have hnb23 := NB456_455.out;have hnc23 := NB455_456.out;have hcz24_0 := cz1 BK456;have hfz24_0 := fz1 BK456
    go_wp2
    refine bodyPost_ret (results_ct rfl _ _ gb456 25 #[.slice none 0 0] (0, 0) _ rfl (by (with_reducible repeat (first | refine blk_drewN ?_ _ | refine blk_drew ?_ | refine blk_alloc ?_ _)); refine blk_put (cs := #[.slice none 0 0]) ?_ 0 _ rfl; (with_reducible repeat (first | refine blk_drewN ?_ _ | refine blk_drew ?_ | refine blk_alloc ?_ _)); exact BK456.out) Try.underlying25 rfl (by kernel_rfl)) rfl ?_;exact ⟨_, er, by first | exact Kd.R_nil _ _ _ _ _ | exact Kd.N_nil _ _ _ _ _ | exact Kd.V_nil _ _ _ _ _ | exact Kd.Q_nil _ _ _ _ _ | exact Kd.S_nil _ _ _ _ _, bs3 HB GE454 GE455 GE456⟩
   replace c21 := Bool.eq_false_iff.mpr c21;subst c21;rw [if_neg fne] at H;replace H := Option.bind_eq_some_iff.mp H;obtain ⟨t459, A250, H⟩ := H
   try dsimp only at H
   have A25 := Ah A250;clear A250;have H' := Ah H;clear H;have hnb26 := NB454_455.out;have hnc26 := NB455_454.out;have hnb27 := NB454_456.out;have hnc27 := NB456_454.out;have hcz28_0 := cz1 BK454;have hfz28_0 := fz1 BK454
   go_wp2_with (first | ((with_reducible refine gate_callee (f := 17) rfl ?_); refine gL (some 18) rfl rfl Try.func17 (by kernel_rfl) rfl #[.agg #[.slice A0_0 l0_0.length c0_0]] rfl ?_; (with_reducible refine (impl_FileMap_cells.calls kj2 _ _ l0_0 t459 _ ?side1 ?side2 A25.out).mono ?_); (case side1 => exact cb HR0_0 HB); (case side2 => exact HC0_0.out); rintro e w29 ⟨v460, rfl, ho0, hb⟩; refine ⟨_, rfl, ?_⟩; have HO461 := Ah (Kd.R_lower ho0 (below_size (bs3 HB GE454 GE455 GE456))); replace BK454 := nb BK454 hb; replace BK455 := nb BK455 hb; replace BK456 := nb BK456 hb; replace HB := Ah (below_step (bs3 HB GE454 GE455 GE456) hb); (try clear hb ho0); have hnb30 := NB455_456.out; have hnc30 := NB456_455.out; obtain ⟨hcz31_0, hcz31_1, hcz31_2, hcz31_3⟩ := cz4 BK455; obtain ⟨hfz31_0, hfz31_1, hfz31_2, hfz31_3⟩ := fz4 BK455))
   go_loopg [21] kj2 (fun kq v21 w' => ∃ (x6_2 : List (S55)) (x21_2 : Int), v21 = .int .i64 x21_2 ∧ Aside0 (impl_MapPiece.l0 kq x6_2 a1_1 x21_2 a1_0 a1_1 a1_2 a1_3 = some (r1, r2)) ∧ Aside0 (kq ≤ kj2) ∧ Aside0 (Kd.R k55 55 w' w.heap.size (fun _ => True) v460 x6_2) ∧ Aside0 (w'.heap[gb454]? = some (.cells #[(.slice A0_0 l0_0.length c0_0)] 25 (0, 0))) ∧ Aside0 (w'.heap[gb455]? = some (.cells #[.int .i64 a1_0, .int .i64 a1_1, .int .i64 a1_2, .bool a1_3] 27 (0, 0))) ∧ Aside0 (w'.heap[gb456]? = some (.cells #[(.slice none 0 0)] 25 (0, 0))) ∧ Aside0 (Below w.heap.size w w'))
   case atStart => exact ⟨(t459), (0), e3, H', ⟨Nat.le_refl _⟩, ⟨rr HO461.out⟩, ⟨bk BK454⟩, ⟨bk BK455⟩, ⟨bk BK456⟩, ⟨bs3 HB GE454 GE455 GE456⟩⟩
   case round =>
    clear H'
    try clear c1
    try clear c2
    try clear p2
    try clear c3
    try clear c5
    try clear c8
    try clear c10
    try clear c11
    try clear c14
    try clear c17
    try clear c18
    try clear c21
    try clear c22
    try clear c23
    try clear c26
    try clear c27
    try clear c30
    try clear hcz12_0
    try clear hcz15_0 hcz15_1 hcz15_2 hcz15_3
    try clear hcz19_0
    try clear hcz24_0
    try clear hcz28_0
    try clear hcz31_0 hcz31_1 hcz31_2 hcz31_3
    try clear hfz12_0
    try clear hfz15_0 hfz15_1 hfz15_2 hfz15_3
    try clear hfz19_0
    try clear hfz24_0
    try clear hfz28_0
    try clear hfz31_0 hfz31_1 hfz31_2 hfz31_3
    try clear p2
    obtain ⟨x6_2, x21_2, rfl, HA, HK2, HO_6, BK454, BK455, BK456, HB⟩ := hrel
    cases gk with
    | zero => exact absurd HA.out (by simp [impl_MapPiece.l0])
    | succ k2 =>
     have H := HA.out;clear HA;simp only [impl_MapPiece.l0] at H
     by_cases c32 : x21_2 < a1_1
     rotate_left
     ·
      rw [if_neg c32] at H;have c32b0 : decide (x21_2 < a1_1) = false := decide_eq_false c32;clear c32;replace H := Option.bind_eq_some_iff.mp H;obtain ⟨⟨t464, t467⟩, A510, H⟩ := H
      try dsimp only at H
      have A51 := Ah A510;clear A510;simp only [Option.some.injEq, Prod.mk.injEq] at H;obtain ⟨rfl, rfl⟩ := H;obtain ⟨Ao52, co52, eo52⟩ := Kd.R_slice HO_6.out;subst eo52
      go_wp2_with (first | ((with_reducible refine gate_callee (f := 18) rfl ?_); refine gL (some 48) rfl rfl Try.func18 (by kernel_rfl) rfl #[.slice Ao52 x6_2.length co52] rfl ?_; (with_reducible refine (impl_mapOf.calls k2 _ _ x6_2 t464 t467 _ ?side1 ?side2 A51.out).mono ?_); (case side1 => exact rc0 HO_6); (case side2 => exact (Kd.R_reads' HO_6.out).2.1); rintro e w53 ⟨v465, rfl, ho0, hb⟩; refine ⟨_, rfl, ?_⟩; replace HO_6 := nr HO_6 hb; have HO466 := Ah (Kd.R_lower (Kd.R_newB ho0 (g := gb455) (o := .cells #[.int .i64 a1_0, .int .i64 a1_1, .int .i64 a1_2, .bool a1_3] 27 (0, 0)) (bk BK455)) (below_size (bs3 HB GE454 GE455 GE456))); replace BK454 := nb BK454 hb; replace BK455 := nb BK455 hb; replace BK456 := nb BK456 hb; replace HB := Ah (below_step (bs3 HB GE454 GE455 GE456) hb); (try clear hb ho0); obtain ⟨Ao54, co54, eo54⟩ := Kd.R_slice HO466.out; subst eo54; have hnb55 := NB456_454.out; have hnc55 := NB454_456.out; have hnb56 := NB456_455.out; have hnc56 := NB455_456.out; have hcz57_0 := cz1 BK456; have hfz57_0 := fz1 BK456))
      refine bodyPost_ret (results_ct rfl _ _ gb456 25 #[.slice Ao54 t464.length co54] (0, 0) _ rfl (by (with_reducible repeat (first | refine blk_drewN ?_ _ | refine blk_drew ?_ | refine blk_alloc ?_ _)); refine blk_put (cs := #[.slice none 0 0]) ?_ 0 _ rfl; (with_reducible repeat (first | refine blk_drewN ?_ _ | refine blk_drew ?_ | refine blk_alloc ?_ _)); exact BK456.out) Try.underlying25 rfl (by kernel_rfl)) rfl ?_;exact ⟨_, er, by (with_reducible repeat (first | apply Kd.R_alloc | apply Kd.R_drewN | apply Kd.R_drew)); exact Kd.R_mono (Kd.R_far (p := ⟨gb456, 0, none⟩) (Kd.R_types HO466.out BK456.out (by decide)) (fun _ hk => hk.2) (.slice Ao54 t464.length co54)) (fun _ hk => trivial), bs3 HB GE454 GE455 GE456⟩
     rw [if_pos c32] at H;have c32b0 : decide (x21_2 < a1_1) = true := decide_eq_true c32;clear c32;obtain ⟨ji33, hji33⟩ : ∃ j_ : Int, (wrap64 (a1_0 + x21_2)) = j_ := ⟨_, rfl⟩
     replace H : (if 0 ≤ (ji33) then (if (ji33) < (x6_2.length : Int) then (if (rd_T55 x6_2 (ji33)).f0 = true then (some (([] : List (S27)), false)) else (impl_MapPiece.l0 k2 (x6_2.set ((ji33) : Int).toNat (⟨true, wrap64 (a1_2 + x21_2), a1_3⟩ : S55)) a1_1 (wrap64 (x21_2 + 1)) a1_0 a1_1 a1_2 a1_3)) else (none)) else (none)) = some (r1, r2) := by first | (rw [hji33] at H; exact H) | (simp only [hji33] at H ⊢; exact H)
     have hji33w : (IntKind.i64.wrap (a1_0 + x21_2)) = ji33 := (i64_w _).trans hji33
     by_cases c34 : 0 ≤ (ji33)
     rotate_left
     ·
      rw [if_neg c34] at H;exact absurd H (by simp)
     rw [if_pos c34] at H;have c34b0 : decide (0 ≤ (ji33)) = true := decide_eq_true c34;clear c34
     by_cases c35 : (ji33) < (x6_2.length : Int)
     rotate_left
     ·
      rw [if_neg c35] at H;exact absurd H (by simp)
     rw [if_pos c35] at H;have c35b0 : decide ((ji33) < (x6_2.length : Int)) = true := decide_eq_true c35;clear c35;obtain ⟨bq36, hbq36⟩ : ∃ b_ : Bool, b_ = ((rd_T55 x6_2 (ji33)).f0) := ⟨_, rfl⟩
     replace H : (if bq36 = true then (some (([] : List (S27)), false)) else (impl_MapPiece.l0 k2 (x6_2.set ((ji33) : Int).toNat (⟨true, wrap64 (a1_2 + x21_2), a1_3⟩ : S55)) a1_1 (wrap64 (x21_2 + 1)) a1_0 a1_1 a1_2 a1_3)) = some (r1, r2) := by rw [← hbq36] at H; exact H
     have Nbq36 := Ah hbq36;clear hbq36
     by_cases c37 : bq36 = true
     ·
      subst c37;rw [if_pos rfl] at H;simp only [Option.some.injEq, Prod.mk.injEq] at H;obtain ⟨rfl, rfl⟩ := H;have hnb38 := NB455_454.out;have hnc38 := NB454_455.out;have hnb39 := NB455_456.out;have hnc39 := NB456_455.out;obtain ⟨hcz40_0, hcz40_1, hcz40_2, hcz40_3⟩ := cz4 BK455;obtain ⟨hfz40_0, hfz40_1, hfz40_2, hfz40_3⟩ := fz4 BK455;obtain ⟨Ao41, co41, eo41⟩ := Kd.R_slice HO_6.out;subst eo41;have p462 : 0 ≤ ((ji33) : Int) := od;have q462 : (ji33) < (x6_2.length : Int) := od;obtain ⟨ad462, e462, hx462_0, hx462_1, hx462_2⟩ := at_T55 (Kd.R_reads' HO_6.out).2.2 (ji33) p462 q462;(try rw [← Nbq36.out] at hx462_0);(try rw [← Nbq36.out] at hx462_2)
      cases e462
      replace p462 := eq_true p462;replace q462 := eq_true q462;have hnb42 := NB456_454.out;have hnc42 := NB454_456.out;have hcz43_0 := cz1 BK456;have hfz43_0 := fz1 BK456
      go_wp2
      refine bodyPost_ret (results_ct rfl _ _ gb456 25 #[.slice none 0 0] (0, 0) _ rfl (by (with_reducible repeat (first | refine blk_drewN ?_ _ | refine blk_drew ?_ | refine blk_alloc ?_ _)); refine blk_put (cs := #[.slice none 0 0]) ?_ 0 _ rfl; (with_reducible repeat (first | refine blk_drewN ?_ _ | refine blk_drew ?_ | refine blk_alloc ?_ _)); exact BK456.out) Try.underlying25 rfl (by kernel_rfl)) rfl ?_;exact ⟨_, by first | rfl | (simp [errW_none, errW_some] <;> rfl) | (simp only [← hji33]; first | rfl | (simp [errW_none, errW_some] <;> rfl)) | (simp [*, errW_none, errW_some] <;> rfl), by first | exact Kd.R_nil _ _ _ _ _ | exact Kd.N_nil _ _ _ _ _ | exact Kd.V_nil _ _ _ _ _ | exact Kd.Q_nil _ _ _ _ _ | exact Kd.S_nil _ _ _ _ _, bs3 HB GE454 GE455 GE456⟩
     replace c37 := Bool.eq_false_iff.mpr c37;subst c37;rw [if_neg fne] at H;obtain ⟨y463, hy463⟩ : ∃ y_ : List (S55), y_ = (x6_2.set ((ji33) : Int).toNat (⟨true, wrap64 (a1_2 + x21_2), a1_3⟩ : S55)) := ⟨_, rfl⟩
     replace H : (impl_MapPiece.l0 k2 y463 a1_1 (wrap64 (x21_2 + 1)) a1_0 a1_1 a1_2 a1_3) = some (r1, r2) := by first | (rw [hy463]; with_reducible exact H) | (have H2_ := (Option.bind_some _ _).symm.trans H; rw [hy463]; with_reducible exact H2_) | (have H2_ := (Option.bind_some _ _).symm.trans H; with_reducible exact H2_) | with_reducible exact H | (rw [hy463]; exact H) | exact H
     have Ny463 := Ah hy463;clear hy463;have H' := Ah H;clear H;have hnb45 := NB455_454.out;have hnc45 := NB454_455.out;have hnb46 := NB455_456.out;have hnc46 := NB456_455.out;obtain ⟨hcz47_0, hcz47_1, hcz47_2, hcz47_3⟩ := cz4 BK455;obtain ⟨hfz47_0, hfz47_1, hfz47_2, hfz47_3⟩ := fz4 BK455;obtain ⟨Ao48, co48, eo48⟩ := Kd.R_slice HO_6.out;subst eo48;have p462 : 0 ≤ ((ji33) : Int) := od;have q462 : (ji33) < (x6_2.length : Int) := od;obtain ⟨ad462, e462, hx462_0, hx462_1, hx462_2⟩ := at_T55 (Kd.R_reads' HO_6.out).2.2 (ji33) p462 q462;(try rw [← Nbq36.out] at hx462_0);(try rw [← Nbq36.out] at hx462_2)
     cases e462
     replace p462 := eq_true p462;replace q462 := eq_true q462;have p44 : 0 ≤ ((ji33) : Int) := od;have q44 : ((ji33) : Int) < ((x6_2.length : Int) : Int) := od;obtain ⟨go44, co44, eo44, gb44, gl44, cl44, HG44⟩ := Kd.R_form HO_6.out (by omega);(first | cases eo44 | (injection eo44 with ea_ en_ ec_; (first | subst ea_ | (injection ea_ with ea_; subst ea_)); subst ec_; clear en_));have GB44 := Ah gb44;have GG44 := Ah HG44;clear gb44 gl44 HG44;(first | simp only [add_plain] at hx462_0 | skip);(first | simp only [add_plain] at hx462_1 | skip);(first | simp only [add_plain] at hx462_2 | skip);obtain ⟨ce44, hcl44, hM44, hcc44, hfr44⟩ := Kd.R_elem HO_6.out z55 ((ji33) : Int) p44 q44;obtain rfl := k55_openM hM44;have hx44_0 : wr.cell? ⟨go44, ((ji33) : Int).toNat * 3, none⟩ = some (.bool ((rd_T55 x6_2 (ji33)).f0)) := hcc44 0 _ rfl;have hx44_1 : wr.cell? ⟨go44, ((ji33) : Int).toNat * 3 + 1, none⟩ = some (.int .i64 ((rd_T55 x6_2 (ji33)).f1)) := hcc44 1 _ rfl;have hx44_2 : wr.cell? ⟨go44, ((ji33) : Int).toNat * 3 + 2, none⟩ = some (.bool ((rd_T55 x6_2 (ji33)).f2)) := hcc44 2 _ rfl;have hf44_0 : wr.frozen? ⟨go44, ((ji33) : Int).toNat * 3, none⟩ = false := hfr44 0;have hf44_1 : wr.frozen? ⟨go44, ((ji33) : Int).toNat * 3 + 1, none⟩ = false := hfr44 1;have hf44_2 : wr.frozen? ⟨go44, ((ji33) : Int).toNat * 3 + 2, none⟩ = false := hfr44 2;clear hcl44 hcc44 hfr44 hM44;replace p44 := eq_true p44;replace q44 := eq_true q44;have HX49 := Ah (show Kd.R k55 55 wr w.heap.size (fun _ => True) (.slice (some ⟨go44, 0, none⟩) x6_2.length co48) x6_2 from (rr HO_6.out));obtain ⟨ce49, hcl49, hM49, hcc49, hfr49⟩ := Kd.R_elem HX49.out z55 ((ji33) : Int) (od) (by have h_ : ((ji33) : Int) < ((x6_2.length : Int) : Int) := od; first | exact h_ | (have e_ := (Kd.R_reads' HO_6.out).1; omega) | simpa using h_);obtain rfl := k55_openM hM49;have HP49 := Kd.R_seg HX49.out ((ji33) : Int) (od) (by have h_ : ((ji33) : Int) < ((x6_2.length : Int) : Int) := od; first | exact h_ | (have e_ := (Kd.R_reads' HO_6.out).1; omega) | simpa using h_) (seg := [.bool true, .int .i64 (wrap64 (a1_2 + x21_2)), .bool a1_3]) (j := 0) hcl49 hcc49 (show 3 ≤ 3 from by decide) (x' := (⟨true, wrap64 (a1_2 + x21_2), a1_3⟩ : S55)) (k55_mkM _ _ _ (⟨true, wrap64 (a1_2 + x21_2), a1_3⟩ : S55) ) (fun _ hk => hk);have hx49_0 := hcc49 0 _ rfl;(try simp only [show (k55).sz = 3 from rfl, Nat.mul_one, Nat.add_zero] at hx49_0);have hf49_0 := hfr49 0;(try simp only [show (k55).sz = 3 from rfl, Nat.mul_one, Nat.add_zero] at hf49_0);have hx49_1 := hcc49 1 _ rfl;(try simp only [show (k55).sz = 3 from rfl, Nat.mul_one, Nat.add_zero] at hx49_1);have hf49_1 := hfr49 1;(try simp only [show (k55).sz = 3 from rfl, Nat.mul_one, Nat.add_zero] at hf49_1);have hx49_2 := hcc49 2 _ rfl;(try simp only [show (k55).sz = 3 from rfl, Nat.mul_one, Nat.add_zero] at hx49_2);have hf49_2 := hfr49 2;(try simp only [show (k55).sz = 3 from rfl, Nat.mul_one, Nat.add_zero] at hf49_2);clear hcl49 hcc49 hfr49 hM49
     go_wp2_with (first | ((with_reducible refine gate_store (t := 55) (p := 45) rfl ?_); refine store_event (t := 55) (p := 45) (v := ?vo_w50) (w1 := (((wr.setCell ⟨go44, ((ji33) : Int).toNat * 3, none⟩ (.bool true)).setCell ⟨go44, ((ji33) : Int).toNat * 3 + 1, none⟩ (.int .i64 (wrap64 (a1_2 + x21_2)))).setCell ⟨go44, ((ji33) : Int).toNat * 3 + 2, none⟩ (.bool a1_3))) ?hg ?ho ?hn ?hr ?_; (case ho => rfl); (case hg => rfl); (case hn => rfl); (case hr => first | (go_simp; done) | (go_simp; rfl)); intro w50 hw; have hg : wr.grownBy w50 (some go44) := (by rw [hw]; exact HP49.2); have hp_ : Kd.R k55 55 w50 w.heap.size (fun _ => True) (.slice (some ⟨go44, 0, none⟩) x6_2.length co48) y463 := (by rw [hw, Ny463.out]; exact HP49.1); clear HP49; replace BK454 := Ah (blk_grown (bk BK454) hg (Kd.R_ne HO_6.out BK454.out (by decide))); replace BK455 := Ah (blk_grown (bk BK455) hg (Kd.R_ne HO_6.out BK455.out (by decide))); replace BK456 := Ah (blk_grown (bk BK456) hg (Kd.R_ne HO_6.out BK456.out (by decide))); replace HO_6 := Ah (hp_); replace HB := Ah ((by rw [hw]; exact below_set (below_set (below_set (HB.out) GB44.out) GB44.out) GB44.out : Below w.heap.size w w50)); clear hg hw hp_))
     go_roundg k2
     case measure => have := HJ2.out; have := HK2.out; omega
     case rel => exact ⟨(y463), (wrap64 (x21_2 + 1)), e3, H', ⟨by have := HJ2.out; have := HK2.out; omega⟩, ⟨rr HO_6.out⟩, ⟨bk BK454⟩, ⟨bk BK455⟩, ⟨bk BK456⟩, ⟨bs3 HB GE454 GE455 GE456⟩⟩
def laws_sameMaps.l0 : Nat → Int → Int → List (S27) → List (S27) → Option (Bool)
 | 0, _, _, _, _ => none
 | k + 1, x15, x16, x469000, x470000 => if x16 < x15 then (if 0 ≤ x16 then (if x16 < (x469000.length : Int) then (if x16 < (x470000.length : Int) then (if (!(((rd_T27 x469000 x16).f0) == ((rd_T27 x470000 x16).f0)) || (!(((rd_T27 x469000 x16).f1) == ((rd_T27 x470000 x16).f1)) || (!(((rd_T27 x469000 x16).f2) == ((rd_T27 x470000 x16).f2)) || (!(((rd_T27 x469000 x16).f3) == ((rd_T27 x470000 x16).f3)))))) = true then (some false) else (laws_sameMaps.l0 k x15 (wrap64 (x16 + 1)) x469000 x470000)) else (none)) else (none)) else (none)) else (some true)
def laws_sameMaps.f (k : Nat) (l0_0 : List (S27)) (l1_0 : List (S27)) : Option (Bool) := if (l0_0.length : Int) = (l1_0.length : Int) then (laws_sameMaps.l0 k (l0_0.length : Int) 0 l0_0 l1_0) else (some false)
theorem laws_sameMaps.mono_l : ∀ k, (∀ y0 y1 y2 y3, LeO (laws_sameMaps.l0 k y0 y1 y2 y3) (laws_sameMaps.l0 (k + 1) y0 y1 y2 y3))
 | 0 => fun _ _ _ _ r h => by simp [laws_sameMaps.l0] at h
 | k + 1 => by
  have ih0 := laws_sameMaps.mono_l k
  ·
   intro y0 y1 y2 y3;unfold laws_sameMaps.l0
   repeat' with_reducible first|exact ih0 _ _ _ _|exact LeO.refl _|exact LeO.none _|refine LeO.ite ?_ ?_|refine LeO.bind ?_ (fun _ => ?_)
theorem laws_sameMaps.mono : ∀ a0 a1 k, LeO (laws_sameMaps.f k a0 a1) (laws_sameMaps.f (k + 1) a0 a1) := by
 intro a0 a1 k;have ih0 := laws_sameMaps.mono_l k;unfold laws_sameMaps.f
 repeat' with_reducible first|exact ih0 _ _ _ _|exact LeO.refl _|exact LeO.none _|refine LeO.ite ?_ ?_|refine LeO.bind ?_ (fun _ => ?_)
set_option maxHeartbeats 8000000 in
set_option maxRecDepth 100000 in
theorem laws_sameMaps.calls (k : Nat) (A0_0 : Option Addr) (c0_0 : Nat) (l0_0 : List (S27)) (A1_0 : Option Addr) (c1_0 : Nat) (l1_0 : List (S27)) (r : Bool) (w : World) (hr0_0 : Kd.C k27 w A0_0 l0_0.length l0_0) (hc0_0 : l0_0.length ≤ c0_0) (hr1_0 : Kd.C k27 w A1_0 l1_0.length l1_0) (hc1_0 : l1_0.length ≤ c1_0) (h : laws_sameMaps.f k l0_0 l1_0 = some r) :
  Calls Try.prog 7 #[.agg #[.slice A0_0 l0_0.length c0_0], .agg #[.slice A1_0 l1_0.length c1_0]] w fun e w' => e = .returned (.bool r) ∧ Below w.heap.size w w' := by
 have hu25 := Try.underlying25;have hu27 := Try.underlying27;have HR0_0 := Ah hr0_0;have HC0_0 := Ah hc0_0;clear hr0_0 hc0_0;have HR1_0 := Ah hr1_0;have HC1_0 := Ah hc1_0;clear hr1_0 hc1_0;have HB := Ah (Below.refl w.heap.size w);have H : (if (l0_0.length : Int) = (l1_0.length : Int) then (laws_sameMaps.l0 k (l0_0.length : Int) 0 l0_0 l1_0) else (some false)) = some r := h;clear h
 by_cases c3 : (l0_0.length : Int) = (l1_0.length : Int)
 rotate_left
 ·
  rw [if_neg c3] at H;have c3b0 : ((l0_0.length : Int) == (l1_0.length : Int)) = false := beq_eq_false_iff_ne.mpr c3;have c3b1 : ((l0_0.length : Int) != (l1_0.length : Int)) = true := bne_iff_ne.mpr c3
  have c3b2 : (l0_0.length == l1_0.length) = false := by first | simpa using c3 | (simp at c3 ⊢; omega)
  obtain rfl := Option.some.inj H
  go_enter Try.func7, Try.ntmps7
  go_wp2_with (first | ((with_reducible refine gate_dst (N := 2) rfl ?_); refine boxL 2 25 #[.slice A0_0 l0_0.length c0_0] ?_; intro gb468 hg w20 BK468 hb; have GW468 := gw hg (bs HB); have GE468 := gw hg (bs HB); replace HB := Ah (below_step (bs HB) hb); clear hb hg) | ((with_reducible refine gate_dst (N := 3) rfl ?_); refine boxL 3 25 #[.slice A1_0 l1_0.length c1_0] ?_; intro gb469 hg w21 BK469 hb; have GW469 := gw hg (bs1 HB GE468); have GE469 := gw hg (bs1 HB GE468); replace HB := Ah (below_step (bs1 HB GE468) hb); have NB468_469 := nn BK468 hg; have NB469_468 := nm BK468 hg; replace BK468 := nb BK468 hb; clear hb hg; have hnb22 := NB468_469.out; have hnc22 := NB469_468.out; have hcz23_0 := cz1 BK468; have hfz23_0 := fz1 BK468; have hcz24_0 := cz1 BK469; have hfz24_0 := fz1 BK469))
  repeat (go_quiet (first | ((with_reducible refine gate_dst (N := 2) rfl ?_); refine boxL 2 25 #[.slice A0_0 l0_0.length c0_0] ?_; intro gb468 hg w20 BK468 hb; have GW468 := gw hg (bs HB); have GE468 := gw hg (bs HB); replace HB := Ah (below_step (bs HB) hb); clear hb hg) | ((with_reducible refine gate_dst (N := 3) rfl ?_); refine boxL 3 25 #[.slice A1_0 l1_0.length c1_0] ?_; intro gb469 hg w21 BK469 hb; have GW469 := gw hg (bs1 HB GE468); have GE469 := gw hg (bs1 HB GE468); replace HB := Ah (below_step (bs1 HB GE468) hb); have NB468_469 := nn BK468 hg; have NB469_468 := nm BK468 hg; replace BK468 := nb BK468 hb; clear hb hg; have hnb22 := NB468_469.out; have hnc22 := NB469_468.out; have hcz23_0 := cz1 BK468; have hfz23_0 := fz1 BK468; have hcz24_0 := cz1 BK469; have hfz24_0 := fz1 BK469)); try go_wp2_with (first | ((with_reducible refine gate_dst (N := 2) rfl ?_); refine boxL 2 25 #[.slice A0_0 l0_0.length c0_0] ?_; intro gb468 hg w20 BK468 hb; have GW468 := gw hg (bs HB); have GE468 := gw hg (bs HB); replace HB := Ah (below_step (bs HB) hb); clear hb hg) | ((with_reducible refine gate_dst (N := 3) rfl ?_); refine boxL 3 25 #[.slice A1_0 l1_0.length c1_0] ?_; intro gb469 hg w21 BK469 hb; have GW469 := gw hg (bs1 HB GE468); have GE469 := gw hg (bs1 HB GE468); replace HB := Ah (below_step (bs1 HB GE468) hb); have NB468_469 := nn BK468 hg; have NB469_468 := nm BK468 hg; replace BK468 := nb BK468 hb; clear hb hg; have hnb22 := NB468_469.out; have hnc22 := NB469_468.out; have hcz23_0 := cz1 BK468; have hfz23_0 := fz1 BK468; have hcz24_0 := cz1 BK469; have hfz24_0 := fz1 BK469)))
  go_ret
  exact ⟨er, bs2 HB GE468 GE469⟩
 rw [if_pos c3] at H;have c3b0 : ((l0_0.length : Int) == (l1_0.length : Int)) = true := beq_iff_eq.mpr c3;have c3b1 : ((l0_0.length : Int) != (l1_0.length : Int)) = false := bne_eq_false_iff_eq.mpr c3
 have c3b2 : (l0_0.length == l1_0.length) = true := by first | simpa using c3 | (simp at c3 ⊢; omega)
 clear c3;have H' := Ah H;clear H
 go_enter Try.func7, Try.ntmps7
 go_wp2_with (first | ((with_reducible refine gate_dst (N := 2) rfl ?_); refine boxL 2 25 #[.slice A0_0 l0_0.length c0_0] ?_; intro gb468 hg w4 BK468 hb; have GW468 := gw hg (bs HB); have GE468 := gw hg (bs HB); replace HB := Ah (below_step (bs HB) hb); clear hb hg) | ((with_reducible refine gate_dst (N := 3) rfl ?_); refine boxL 3 25 #[.slice A1_0 l1_0.length c1_0] ?_; intro gb469 hg w5 BK469 hb; have GW469 := gw hg (bs1 HB GE468); have GE469 := gw hg (bs1 HB GE468); replace HB := Ah (below_step (bs1 HB GE468) hb); have NB468_469 := nn BK468 hg; have NB469_468 := nm BK468 hg; replace BK468 := nb BK468 hb; clear hb hg; have hnb6 := NB468_469.out; have hnc6 := NB469_468.out; have hcz7_0 := cz1 BK468; have hfz7_0 := fz1 BK468; have hcz8_0 := cz1 BK469; have hfz8_0 := fz1 BK469))
 repeat (go_quiet (first | ((with_reducible refine gate_dst (N := 2) rfl ?_); refine boxL 2 25 #[.slice A0_0 l0_0.length c0_0] ?_; intro gb468 hg w4 BK468 hb; have GW468 := gw hg (bs HB); have GE468 := gw hg (bs HB); replace HB := Ah (below_step (bs HB) hb); clear hb hg) | ((with_reducible refine gate_dst (N := 3) rfl ?_); refine boxL 3 25 #[.slice A1_0 l1_0.length c1_0] ?_; intro gb469 hg w5 BK469 hb; have GW469 := gw hg (bs1 HB GE468); have GE469 := gw hg (bs1 HB GE468); replace HB := Ah (below_step (bs1 HB GE468) hb); have NB468_469 := nn BK468 hg; have NB469_468 := nm BK468 hg; replace BK468 := nb BK468 hb; clear hb hg; have hnb6 := NB468_469.out; have hnc6 := NB469_468.out; have hcz7_0 := cz1 BK468; have hfz7_0 := fz1 BK468; have hcz8_0 := cz1 BK469; have hfz8_0 := fz1 BK469)); try go_wp2_with (first | ((with_reducible refine gate_dst (N := 2) rfl ?_); refine boxL 2 25 #[.slice A0_0 l0_0.length c0_0] ?_; intro gb468 hg w4 BK468 hb; have GW468 := gw hg (bs HB); have GE468 := gw hg (bs HB); replace HB := Ah (below_step (bs HB) hb); clear hb hg) | ((with_reducible refine gate_dst (N := 3) rfl ?_); refine boxL 3 25 #[.slice A1_0 l1_0.length c1_0] ?_; intro gb469 hg w5 BK469 hb; have GW469 := gw hg (bs1 HB GE468); have GE469 := gw hg (bs1 HB GE468); replace HB := Ah (below_step (bs1 HB GE468) hb); have NB468_469 := nn BK468 hg; have NB469_468 := nm BK468 hg; replace BK468 := nb BK468 hb; clear hb hg; have hnb6 := NB468_469.out; have hnc6 := NB469_468.out; have hcz7_0 := cz1 BK468; have hfz7_0 := fz1 BK468; have hcz8_0 := cz1 BK469; have hfz8_0 := fz1 BK469)))
 go_loopg [16] k (fun kq v16 w' => ∃ (x16_1 : Int), v16 = .int .i64 x16_1 ∧ Aside0 (laws_sameMaps.l0 kq (l0_0.length : Int) x16_1 l0_0 l1_0 = some r) ∧ Aside0 (kq ≤ k) ∧ Aside0 (w'.heap[gb468]? = some (.cells #[(.slice A0_0 l0_0.length c0_0)] 25 (0, 0))) ∧ Aside0 (w'.heap[gb469]? = some (.cells #[(.slice A1_0 l1_0.length c1_0)] 25 (0, 0))) ∧ Aside0 (Below w.heap.size w w'))
 case atStart => exact ⟨(0), e3, H', ⟨Nat.le_refl _⟩, ⟨bk BK468⟩, ⟨bk BK469⟩, ⟨bs2 HB GE468 GE469⟩⟩
 case round =>
  clear H'
  try clear c1
  try clear p2
  try clear c3
  try clear c3b0
  try clear c3b1
  try clear c3b2
  try clear c6
  try clear c7
  try clear hcz7_0
  try clear hcz8_0
  try clear hfz7_0
  try clear hfz8_0
  obtain ⟨x16_1, rfl, HA, HK1, BK468, BK469, HB⟩ := hrel
  cases gk with
  | zero => exact absurd HA.out (by simp [laws_sameMaps.l0])
  | succ k1 =>
   have H := HA.out;clear HA;simp only [laws_sameMaps.l0] at H
   by_cases c9 : x16_1 < (l0_0.length : Int)
   rotate_left
   ·
    rw [if_neg c9] at H;have c9b0 : decide (x16_1 < (l0_0.length : Int)) = false := decide_eq_false c9;clear c9;obtain rfl := Option.some.inj H
    go_wp2
    repeat (go_quiet (fail); try go_wp2)
    go_ret
    exact ⟨er, bs2 HB GE468 GE469⟩
   rw [if_pos c9] at H;have c9b0 : decide (x16_1 < (l0_0.length : Int)) = true := decide_eq_true c9;clear c9
   by_cases c10 : 0 ≤ x16_1
   rotate_left
   ·
    rw [if_neg c10] at H;exact absurd H (by simp)
   rw [if_pos c10] at H;have c10b0 : decide (0 ≤ x16_1) = true := decide_eq_true c10;clear c10
   by_cases c11 : x16_1 < (l0_0.length : Int)
   rotate_left
   ·
    rw [if_neg c11] at H;exact absurd H (by simp)
   rw [if_pos c11] at H;have c11b0 : decide (x16_1 < (l0_0.length : Int)) = true := decide_eq_true c11;clear c11
   by_cases c12 : x16_1 < (l1_0.length : Int)
   rotate_left
   ·
    rw [if_neg c12] at H;exact absurd H (by simp)
   rw [if_pos c12] at H;have c12b0 : decide (x16_1 < (l1_0.length : Int)) = true := decide_eq_true c12;clear c12
   by_cases c13 : (!(((rd_T27 l0_0 x16_1).f0) == ((rd_T27 l1_0 x16_1).f0)) || (!(((rd_T27 l0_0 x16_1).f1) == ((rd_T27 l1_0 x16_1).f1)) || (!(((rd_T27 l0_0 x16_1).f2) == ((rd_T27 l1_0 x16_1).f2)) || (!(((rd_T27 l0_0 x16_1).f3) == ((rd_T27 l1_0 x16_1).f3)))))) = true
   ·
    rw [if_pos c13] at H;have c13b0 : (!(((rd_T27 l0_0 x16_1).f0) == ((rd_T27 l1_0 x16_1).f0)) || (!(((rd_T27 l0_0 x16_1).f1) == ((rd_T27 l1_0 x16_1).f1)) || (!(((rd_T27 l0_0 x16_1).f2) == ((rd_T27 l1_0 x16_1).f2)) || (!(((rd_T27 l0_0 x16_1).f3) == ((rd_T27 l1_0 x16_1).f3)))))) = true := c13;clear c13;obtain rfl := Option.some.inj H;have hnb14 := NB468_469.out;have hnc14 := NB469_468.out;have hcz15_0 := cz1 BK468;have hfz15_0 := fz1 BK468;have p470 : 0 ≤ (x16_1 : Int) := od;have q470 : x16_1 < (l0_0.length : Int) := od;obtain ⟨ad470, e470, hx470_0, hx470_1, hx470_2, hx470_3⟩ := at_T27 HR0_0.out x16_1 p470 q470
    cases e470
    replace hx470_0 := (HB.out.cell (World.block_lt_of_cell? w _ hx470_0)).trans hx470_0;replace hx470_1 := (HB.out.cell (World.block_lt_of_cell? w _ hx470_1)).trans hx470_1;replace hx470_2 := (HB.out.cell (World.block_lt_of_cell? w _ hx470_2)).trans hx470_2;replace hx470_3 := (HB.out.cell (World.block_lt_of_cell? w _ hx470_3)).trans hx470_3;replace p470 := eq_true p470;replace q470 := eq_true q470;have hcz16_0 := cz1 BK469;have hfz16_0 := fz1 BK469;have p471 : 0 ≤ (x16_1 : Int) := od;have q471 : x16_1 < (l1_0.length : Int) := od;obtain ⟨ad471, e471, hx471_0, hx471_1, hx471_2, hx471_3⟩ := at_T27 HR1_0.out x16_1 p471 q471
    cases e471
    replace hx471_0 := (HB.out.cell (World.block_lt_of_cell? w _ hx471_0)).trans hx471_0;replace hx471_1 := (HB.out.cell (World.block_lt_of_cell? w _ hx471_1)).trans hx471_1;replace hx471_2 := (HB.out.cell (World.block_lt_of_cell? w _ hx471_2)).trans hx471_2;replace hx471_3 := (HB.out.cell (World.block_lt_of_cell? w _ hx471_3)).trans hx471_3;replace p471 := eq_true p471;replace q471 := eq_true q471
    go_wp2
    repeat (go_quiet (fail); try go_wp2)
    go_ret
    exact ⟨er, bs2 HB GE468 GE469⟩
   rw [if_neg c13] at H
   have c13b0 : (!(((rd_T27 l0_0 x16_1).f0) == ((rd_T27 l1_0 x16_1).f0)) || (!(((rd_T27 l0_0 x16_1).f1) == ((rd_T27 l1_0 x16_1).f1)) || (!(((rd_T27 l0_0 x16_1).f2) == ((rd_T27 l1_0 x16_1).f2)) || (!(((rd_T27 l0_0 x16_1).f3) == ((rd_T27 l1_0 x16_1).f3)))))) = false := by simpa using c13
   clear c13;have H' := Ah H;clear H;have hnb17 := NB468_469.out;have hnc17 := NB469_468.out;have hcz18_0 := cz1 BK468;have hfz18_0 := fz1 BK468;have p470 : 0 ≤ (x16_1 : Int) := od;have q470 : x16_1 < (l0_0.length : Int) := od;obtain ⟨ad470, e470, hx470_0, hx470_1, hx470_2, hx470_3⟩ := at_T27 HR0_0.out x16_1 p470 q470
   cases e470
   replace hx470_0 := (HB.out.cell (World.block_lt_of_cell? w _ hx470_0)).trans hx470_0;replace hx470_1 := (HB.out.cell (World.block_lt_of_cell? w _ hx470_1)).trans hx470_1;replace hx470_2 := (HB.out.cell (World.block_lt_of_cell? w _ hx470_2)).trans hx470_2;replace hx470_3 := (HB.out.cell (World.block_lt_of_cell? w _ hx470_3)).trans hx470_3;replace p470 := eq_true p470;replace q470 := eq_true q470;have hcz19_0 := cz1 BK469;have hfz19_0 := fz1 BK469;have p471 : 0 ≤ (x16_1 : Int) := od;have q471 : x16_1 < (l1_0.length : Int) := od;obtain ⟨ad471, e471, hx471_0, hx471_1, hx471_2, hx471_3⟩ := at_T27 HR1_0.out x16_1 p471 q471
   cases e471
   replace hx471_0 := (HB.out.cell (World.block_lt_of_cell? w _ hx471_0)).trans hx471_0;replace hx471_1 := (HB.out.cell (World.block_lt_of_cell? w _ hx471_1)).trans hx471_1;replace hx471_2 := (HB.out.cell (World.block_lt_of_cell? w _ hx471_2)).trans hx471_2;replace hx471_3 := (HB.out.cell (World.block_lt_of_cell? w _ hx471_3)).trans hx471_3;replace p471 := eq_true p471;replace q471 := eq_true q471
   go_wp2
   repeat (go_quiet (fail); try go_wp2)
   go_roundg k1
   case measure => have := HK1.out; omega
   case rel => exact ⟨(wrap64 (x16_1 + 1)), e3, H', ⟨by have := HK1.out; omega⟩, ⟨bk BK468⟩, ⟨bk BK469⟩, ⟨bs2 HB GE468 GE469⟩⟩
def impl_BlockAt.j0 : Nat → Int → Bool → List (S27) → Option (Int × Bool × Bool)
 | 0, _, _, _ => none
 | k + 1, x1, x15, x473000 => if x15 = true then (some (0, false, false)) else ((impl_FileMap_cells.f k x473000).bind fun t475 => (if 0 ≤ x1 then (if x1 < (t475.length : Int) then (if ((rd_T55 t475 x1).f0 = true) then (some ((rd_T55 t475 x1).f1, (rd_T55 t475 x1).f2, true)) else (some ((-1), false, true))) else (none)) else (none)))
def impl_BlockAt.f (k : Nat) (l0_0 : List (S27)) (a1 : Int) : Option (Int × Bool × Bool) := (impl_GoodMap.f k l0_0).bind fun t473 => (if t473 = true then ((impl_within.f a1 0 199).bind fun t474 => (impl_BlockAt.j0 k a1 (!t474) l0_0)) else (impl_BlockAt.j0 k a1 true l0_0))
theorem impl_BlockAt.mono_l : ∀ k, (∀ y0 y1 y2, LeO (impl_BlockAt.j0 k y0 y1 y2) (impl_BlockAt.j0 (k + 1) y0 y1 y2))
 | 0 => fun _ _ _ r h => by simp [impl_BlockAt.j0] at h
 | k + 1 => by
  have ih0 := impl_BlockAt.mono_l k
  ·
   intro y0 y1 y2;unfold impl_BlockAt.j0
   repeat' with_reducible first|exact ih0 _ _ _|exact impl_FileMap_cells.mono _ _|exact impl_GoodMap.mono _ _|exact LeO.refl _|exact LeO.none _|refine LeO.ite ?_ ?_|refine LeO.bind ?_ (fun _ => ?_)
theorem impl_BlockAt.mono : ∀ a0 a1 k, LeO (impl_BlockAt.f k a0 a1) (impl_BlockAt.f (k + 1) a0 a1) := by
 intro a0 a1 k;have ih0 := impl_BlockAt.mono_l k;unfold impl_BlockAt.f
 repeat' with_reducible first|exact ih0 _ _ _|exact impl_FileMap_cells.mono _ _|exact impl_GoodMap.mono _ _|exact LeO.refl _|exact LeO.none _|refine LeO.ite ?_ ?_|refine LeO.bind ?_ (fun _ => ?_)
set_option maxHeartbeats 8000000 in
set_option maxRecDepth 100000 in
theorem impl_BlockAt.calls (k : Nat) (A0_0 : Option Addr) (c0_0 : Nat) (l0_0 : List (S27)) (a1 : Int) (r1 : Int) (r2 : Bool) (r3 : Bool) (w : World) (hr0_0 : Kd.C k27 w A0_0 l0_0.length l0_0) (hc0_0 : l0_0.length ≤ c0_0) (h : impl_BlockAt.f k l0_0 a1 = some (r1, r2, r3)) :
  Calls Try.prog 10 #[.agg #[.slice A0_0 l0_0.length c0_0], .int .i64 a1] w fun e w' => e = .returned (.tuple #[.int .i64 r1, .bool r2, .bool r3]) ∧ Below w.heap.size w w' := by
 have hu25 := Try.underlying25;have hu55 := Try.underlying55;have HR0_0 := Ah hr0_0;have HC0_0 := Ah hc0_0;clear hr0_0 hc0_0;have HB := Ah (Below.refl w.heap.size w);have H : ((impl_GoodMap.f k l0_0).bind fun t473 => (if t473 = true then ((impl_within.f a1 0 199).bind fun t474 => (impl_BlockAt.j0 k a1 (!t474) l0_0)) else (impl_BlockAt.j0 k a1 true l0_0))) = some (r1, r2, r3) := h;clear h;have HC3 := Ah H;clear H
 go_enter Try.func10, Try.ntmps10
 go_upto_region 1 with (first | ((with_reducible refine gate_dst (N := 2) rfl ?_); refine boxL 2 25 #[.slice A0_0 l0_0.length c0_0] ?_; intro gb472 hg w4 BK472 hb; have GW472 := gw hg (bs HB); have GE472 := gw hg (bs HB); replace HB := Ah (below_step (bs HB) hb); clear hb hg))
 repeat (go_quiet (first | ((with_reducible refine gate_dst (N := 2) rfl ?_); refine boxL 2 25 #[.slice A0_0 l0_0.length c0_0] ?_; intro gb472 hg w4 BK472 hb; have GW472 := gw hg (bs HB); have GE472 := gw hg (bs HB); replace HB := Ah (below_step (bs HB) hb); clear hb hg)); go_upto_region 1 with (first | ((with_reducible refine gate_dst (N := 2) rfl ?_); refine boxL 2 25 #[.slice A0_0 l0_0.length c0_0] ?_; intro gb472 hg w4 BK472 hb; have GW472 := gw hg (bs HB); have GE472 := gw hg (bs HB); replace HB := Ah (below_step (bs HB) hb); clear hb hg)))
 (try simp only [Act.put, List.setIfInBounds_toArray, List.set_cons_zero, List.set_cons_succ])
 go_cut [15] (fun v15 wc => ∃ (kq : Nat) (x15_2 : Bool), v15 = .bool x15_2 ∧ Aside0 (impl_BlockAt.j0 kq a1 x15_2 l0_0 = some (r1, r2, r3)) ∧ Aside0 (kq ≤ k) ∧ Aside0 (wc.heap[gb472]? = some (.cells #[(.slice A0_0 l0_0.length c0_0)] 25 (0, 0))) ∧ Aside0 (Below w.heap.size w wc))
 case first =>
  have H := HC3.out;clear HC3;replace H := Option.bind_eq_some_iff.mp H;obtain ⟨t473, A50, H⟩ := H
  try dsimp only at H
  have A5 := Ah A50;clear A50
  by_cases c6 : t473 = true
  ·
   subst c6;rw [if_pos rfl] at H;replace H := Option.bind_eq_some_iff.mp H;obtain ⟨t474, A70, H⟩ := H
   try dsimp only at H
   have A7 := Ah A70;clear A70;have H' := Ah H;clear H;have hcz8_0 := cz1 BK472;have hfz8_0 := fz1 BK472
   go_wp2_with (first | (go_at_call 8; (with_reducible refine (impl_GoodMap.calls k _ _ l0_0 true _ ?side1 ?side2 A5.out).mono ?_); (case side1 => exact cb HR0_0 HB); (case side2 => exact HC0_0.out); rintro e w9 ⟨rfl, hb⟩; replace BK472 := nb BK472 hb; replace HB := Ah (below_step (bs1 HB GE472) hb); (try clear hb)) | (go_at_call 24; (with_reducible refine (impl_within.calls a1 0 199 t474 _ A7.out).mono ?_); rintro e w' ⟨rfl, ⟨nd, rfl⟩⟩; (try first | exact ⟨rfl, _, World.drewN_drewN _ _ _⟩ | exact ⟨rfl, _, Eq.trans (World.drewN_drewN _ _ _) (congrArg (World.drewN _) (Nat.add_assoc _ _ _))⟩)))
   repeat (go_quiet (first | (go_at_call 8; (with_reducible refine (impl_GoodMap.calls k _ _ l0_0 true _ ?side1 ?side2 A5.out).mono ?_); (case side1 => exact cb HR0_0 HB); (case side2 => exact HC0_0.out); rintro e w9 ⟨rfl, hb⟩; replace BK472 := nb BK472 hb; replace HB := Ah (below_step (bs1 HB GE472) hb); (try clear hb)) | (go_at_call 24; (with_reducible refine (impl_within.calls a1 0 199 t474 _ A7.out).mono ?_); rintro e w' ⟨rfl, ⟨nd, rfl⟩⟩; (try first | exact ⟨rfl, _, World.drewN_drewN _ _ _⟩ | exact ⟨rfl, _, Eq.trans (World.drewN_drewN _ _ _) (congrArg (World.drewN _) (Nat.add_assoc _ _ _))⟩))); try go_wp2_with (first | (go_at_call 8; (with_reducible refine (impl_GoodMap.calls k _ _ l0_0 true _ ?side1 ?side2 A5.out).mono ?_); (case side1 => exact cb HR0_0 HB); (case side2 => exact HC0_0.out); rintro e w9 ⟨rfl, hb⟩; replace BK472 := nb BK472 hb; replace HB := Ah (below_step (bs1 HB GE472) hb); (try clear hb)) | (go_at_call 24; (with_reducible refine (impl_within.calls a1 0 199 t474 _ A7.out).mono ?_); rintro e w' ⟨rfl, ⟨nd, rfl⟩⟩; (try first | exact ⟨rfl, _, World.drewN_drewN _ _ _⟩ | exact ⟨rfl, _, Eq.trans (World.drewN_drewN _ _ _) (congrArg (World.drewN _) (Nat.add_assoc _ _ _))⟩))))
   go_meet
   case rel => exact ⟨_, (!t474), e3, H', ⟨by first | omega | exact Nat.le_refl _⟩, ⟨bk BK472⟩, ⟨bs1 HB GE472⟩⟩
  ·
   replace c6 := Bool.eq_false_iff.mpr c6;subst c6;rw [if_neg fne] at H;have H' := Ah H;clear H;have hcz10_0 := cz1 BK472;have hfz10_0 := fz1 BK472
   go_wp2_with (first | (go_at_call 8; (with_reducible refine (impl_GoodMap.calls k _ _ l0_0 false _ ?side1 ?side2 A5.out).mono ?_); (case side1 => exact cb HR0_0 HB); (case side2 => exact HC0_0.out); rintro e w11 ⟨rfl, hb⟩; replace BK472 := nb BK472 hb; replace HB := Ah (below_step (bs1 HB GE472) hb); (try clear hb)))
   repeat (go_quiet (first | (go_at_call 8; (with_reducible refine (impl_GoodMap.calls k _ _ l0_0 false _ ?side1 ?side2 A5.out).mono ?_); (case side1 => exact cb HR0_0 HB); (case side2 => exact HC0_0.out); rintro e w11 ⟨rfl, hb⟩; replace BK472 := nb BK472 hb; replace HB := Ah (below_step (bs1 HB GE472) hb); (try clear hb))); try go_wp2_with (first | (go_at_call 8; (with_reducible refine (impl_GoodMap.calls k _ _ l0_0 false _ ?side1 ?side2 A5.out).mono ?_); (case side1 => exact cb HR0_0 HB); (case side2 => exact HC0_0.out); rintro e w11 ⟨rfl, hb⟩; replace BK472 := nb BK472 hb; replace HB := Ah (below_step (bs1 HB GE472) hb); (try clear hb))))
   go_meet
   case rel => exact ⟨_, (true), e3, H', ⟨by first | omega | exact Nat.le_refl _⟩, ⟨bk BK472⟩, ⟨bs1 HB GE472⟩⟩
 case rest =>
  clear HC3
  try clear c1
  try clear p2
  try clear c6
  try clear c10
  try clear hcz10_0
  try clear hcz8_0
  try clear hfz10_0
  try clear hfz8_0
  obtain ⟨kq, x15_2, rfl, HA, HJ2, BK472, HB⟩ := hcut
  cases kq with
  | zero => exact absurd HA.out (by simp [impl_BlockAt.j0])
  | succ kj2 =>
   have H := HA.out;clear HA;simp only [impl_BlockAt.j0] at H
   by_cases c12 : x15_2 = true
   ·
    subst c12;rw [if_pos rfl] at H;simp only [Option.some.injEq, Prod.mk.injEq] at H;obtain ⟨rfl, rfl, rfl⟩ := H
    go_wp2
    repeat (go_quiet (fail); try go_wp2)
    go_ret3
    exact ⟨er, bs1 HB GE472⟩
   ·
    replace c12 := Bool.eq_false_iff.mpr c12;subst c12;rw [if_neg fne] at H;replace H := Option.bind_eq_some_iff.mp H;obtain ⟨t475, A130, H⟩ := H
    try dsimp only at H
    have A13 := Ah A130;clear A130
    by_cases c14 : 0 ≤ a1
    ·
     rw [if_pos c14] at H;have c14b0 : decide (0 ≤ a1) = true := decide_eq_true c14;clear c14
     by_cases c15 : a1 < (t475.length : Int)
     ·
      rw [if_pos c15] at H;have c15b0 : decide (a1 < (t475.length : Int)) = true := decide_eq_true c15;clear c15;obtain ⟨bq16, hbq16⟩ : ∃ b_ : Bool, b_ = ((rd_T55 t475 a1).f0) := ⟨_, rfl⟩
      replace H : (if (bq16 = true) then (some ((rd_T55 t475 a1).f1, (rd_T55 t475 a1).f2, true)) else (some ((-1), false, true))) = some (r1, r2, r3) := by rw [← hbq16] at H; exact H
      have Nbq16 := Ah hbq16;clear hbq16
      by_cases c17 : (bq16 = true)
      ·
       subst c17;rw [if_pos rfl] at H;simp only [Option.some.injEq, Prod.mk.injEq] at H;obtain ⟨rfl, rfl, rfl⟩ := H;have hcz18_0 := cz1 BK472;have hfz18_0 := fz1 BK472
       go_wp2_with (first | (go_at_call 17; (with_reducible refine (impl_FileMap_cells.calls kj2 _ _ l0_0 t475 _ ?side1 ?side2 A13.out).mono ?_); (case side1 => exact cb HR0_0 HB); (case side2 => exact HC0_0.out); rintro e w19 ⟨v476, rfl, ho0, hb⟩; have HO477 := Ah (Kd.R_lower ho0 (below_size (bs1 HB GE472))); replace BK472 := nb BK472 hb; replace HB := Ah (below_step (bs1 HB GE472) hb); (try clear hb ho0); obtain ⟨Ao20, co20, eo20⟩ := Kd.R_slice HO477.out; subst eo20; have p478 : 0 ≤ (a1 : Int) := od; have q478 : a1 < (t475.length : Int) := od; obtain ⟨ad478, e478, hx478_0, hx478_1, hx478_2⟩ := at_T55 (Kd.R_reads' HO477.out).2.2 a1 p478 q478; (try rw [← Nbq16.out] at hx478_0); (try rw [← Nbq16.out] at hx478_2); cases e478; replace p478 := eq_true p478; replace q478 := eq_true q478) | ((with_reducible refine gate_dst (N := 7) rfl ?_); refine boxL 7 55 #[.bool false, .int .i64 0, .bool false] ?_; intro gb479 hg w21 BK479 hb; replace HO477 := Ah (Kd.R_below (Kd.R_elderB (rr HO477.out) gb479 (Nat.le_of_eq hg.symm)) hb); have GW479 := gw hg (bs1 HB GE472); have GE479 := gw hg (bs1 HB GE472); replace HB := Ah (below_step (bs1 HB GE472) hb); have NB472_479 := nn BK472 hg; have NB479_472 := nm BK472 hg; replace BK472 := nb BK472 hb; clear hb hg; have hnb22 := NB479_472.out; have hnc22 := NB472_479.out; obtain ⟨hcz23_0, hcz23_1, hcz23_2⟩ := cz3 BK479; obtain ⟨hfz23_0, hfz23_1, hfz23_2⟩ := fz3 BK479))
       repeat (go_quiet (first | (go_at_call 17; (with_reducible refine (impl_FileMap_cells.calls kj2 _ _ l0_0 t475 _ ?side1 ?side2 A13.out).mono ?_); (case side1 => exact cb HR0_0 HB); (case side2 => exact HC0_0.out); rintro e w19 ⟨v476, rfl, ho0, hb⟩; have HO477 := Ah (Kd.R_lower ho0 (below_size (bs1 HB GE472))); replace BK472 := nb BK472 hb; replace HB := Ah (below_step (bs1 HB GE472) hb); (try clear hb ho0); obtain ⟨Ao20, co20, eo20⟩ := Kd.R_slice HO477.out; subst eo20; have p478 : 0 ≤ (a1 : Int) := od; have q478 : a1 < (t475.length : Int) := od; obtain ⟨ad478, e478, hx478_0, hx478_1, hx478_2⟩ := at_T55 (Kd.R_reads' HO477.out).2.2 a1 p478 q478; (try rw [← Nbq16.out] at hx478_0); (try rw [← Nbq16.out] at hx478_2); cases e478; replace p478 := eq_true p478; replace q478 := eq_true q478) | ((with_reducible refine gate_dst (N := 7) rfl ?_); refine boxL 7 55 #[.bool false, .int .i64 0, .bool false] ?_; intro gb479 hg w21 BK479 hb; replace HO477 := Ah (Kd.R_below (Kd.R_elderB (rr HO477.out) gb479 (Nat.le_of_eq hg.symm)) hb); have GW479 := gw hg (bs1 HB GE472); have GE479 := gw hg (bs1 HB GE472); replace HB := Ah (below_step (bs1 HB GE472) hb); have NB472_479 := nn BK472 hg; have NB479_472 := nm BK472 hg; replace BK472 := nb BK472 hb; clear hb hg; have hnb22 := NB479_472.out; have hnc22 := NB472_479.out; obtain ⟨hcz23_0, hcz23_1, hcz23_2⟩ := cz3 BK479; obtain ⟨hfz23_0, hfz23_1, hfz23_2⟩ := fz3 BK479)); try go_wp2_with (first | (go_at_call 17; (with_reducible refine (impl_FileMap_cells.calls kj2 _ _ l0_0 t475 _ ?side1 ?side2 A13.out).mono ?_); (case side1 => exact cb HR0_0 HB); (case side2 => exact HC0_0.out); rintro e w19 ⟨v476, rfl, ho0, hb⟩; have HO477 := Ah (Kd.R_lower ho0 (below_size (bs1 HB GE472))); replace BK472 := nb BK472 hb; replace HB := Ah (below_step (bs1 HB GE472) hb); (try clear hb ho0); obtain ⟨Ao20, co20, eo20⟩ := Kd.R_slice HO477.out; subst eo20; have p478 : 0 ≤ (a1 : Int) := od; have q478 : a1 < (t475.length : Int) := od; obtain ⟨ad478, e478, hx478_0, hx478_1, hx478_2⟩ := at_T55 (Kd.R_reads' HO477.out).2.2 a1 p478 q478; (try rw [← Nbq16.out] at hx478_0); (try rw [← Nbq16.out] at hx478_2); cases e478; replace p478 := eq_true p478; replace q478 := eq_true q478) | ((with_reducible refine gate_dst (N := 7) rfl ?_); refine boxL 7 55 #[.bool false, .int .i64 0, .bool false] ?_; intro gb479 hg w21 BK479 hb; replace HO477 := Ah (Kd.R_below (Kd.R_elderB (rr HO477.out) gb479 (Nat.le_of_eq hg.symm)) hb); have GW479 := gw hg (bs1 HB GE472); have GE479 := gw hg (bs1 HB GE472); replace HB := Ah (below_step (bs1 HB GE472) hb); have NB472_479 := nn BK472 hg; have NB479_472 := nm BK472 hg; replace BK472 := nb BK472 hb; clear hb hg; have hnb22 := NB479_472.out; have hnc22 := NB472_479.out; obtain ⟨hcz23_0, hcz23_1, hcz23_2⟩ := cz3 BK479; obtain ⟨hfz23_0, hfz23_1, hfz23_2⟩ := fz3 BK479)))
       go_ret3
       exact ⟨er, bs2 HB GE472 GE479⟩
      ·
       replace c17 := Bool.eq_false_iff.mpr c17;subst c17;rw [if_neg fne] at H;simp only [Option.some.injEq, Prod.mk.injEq] at H;obtain ⟨rfl, rfl, rfl⟩ := H;have hcz24_0 := cz1 BK472;have hfz24_0 := fz1 BK472
       go_wp2_with (first | (go_at_call 17; (with_reducible refine (impl_FileMap_cells.calls kj2 _ _ l0_0 t475 _ ?side1 ?side2 A13.out).mono ?_); (case side1 => exact cb HR0_0 HB); (case side2 => exact HC0_0.out); rintro e w25 ⟨v476, rfl, ho0, hb⟩; have HO477 := Ah (Kd.R_lower ho0 (below_size (bs1 HB GE472))); replace BK472 := nb BK472 hb; replace HB := Ah (below_step (bs1 HB GE472) hb); (try clear hb ho0); obtain ⟨Ao26, co26, eo26⟩ := Kd.R_slice HO477.out; subst eo26; have p478 : 0 ≤ (a1 : Int) := od; have q478 : a1 < (t475.length : Int) := od; obtain ⟨ad478, e478, hx478_0, hx478_1, hx478_2⟩ := at_T55 (Kd.R_reads' HO477.out).2.2 a1 p478 q478; (try rw [← Nbq16.out] at hx478_0); (try rw [← Nbq16.out] at hx478_2); cases e478; replace p478 := eq_true p478; replace q478 := eq_true q478) | ((with_reducible refine gate_dst (N := 7) rfl ?_); refine boxL 7 55 #[.bool false, .int .i64 0, .bool false] ?_; intro gb479 hg w27 BK479 hb; replace HO477 := Ah (Kd.R_below (Kd.R_elderB (rr HO477.out) gb479 (Nat.le_of_eq hg.symm)) hb); have GW479 := gw hg (bs1 HB GE472); have GE479 := gw hg (bs1 HB GE472); replace HB := Ah (below_step (bs1 HB GE472) hb); have NB472_479 := nn BK472 hg; have NB479_472 := nm BK472 hg; replace BK472 := nb BK472 hb; clear hb hg; have hnb28 := NB479_472.out; have hnc28 := NB472_479.out; obtain ⟨hcz29_0, hcz29_1, hcz29_2⟩ := cz3 BK479; obtain ⟨hfz29_0, hfz29_1, hfz29_2⟩ := fz3 BK479))
       repeat (go_quiet (first | (go_at_call 17; (with_reducible refine (impl_FileMap_cells.calls kj2 _ _ l0_0 t475 _ ?side1 ?side2 A13.out).mono ?_); (case side1 => exact cb HR0_0 HB); (case side2 => exact HC0_0.out); rintro e w25 ⟨v476, rfl, ho0, hb⟩; have HO477 := Ah (Kd.R_lower ho0 (below_size (bs1 HB GE472))); replace BK472 := nb BK472 hb; replace HB := Ah (below_step (bs1 HB GE472) hb); (try clear hb ho0); obtain ⟨Ao26, co26, eo26⟩ := Kd.R_slice HO477.out; subst eo26; have p478 : 0 ≤ (a1 : Int) := od; have q478 : a1 < (t475.length : Int) := od; obtain ⟨ad478, e478, hx478_0, hx478_1, hx478_2⟩ := at_T55 (Kd.R_reads' HO477.out).2.2 a1 p478 q478; (try rw [← Nbq16.out] at hx478_0); (try rw [← Nbq16.out] at hx478_2); cases e478; replace p478 := eq_true p478; replace q478 := eq_true q478) | ((with_reducible refine gate_dst (N := 7) rfl ?_); refine boxL 7 55 #[.bool false, .int .i64 0, .bool false] ?_; intro gb479 hg w27 BK479 hb; replace HO477 := Ah (Kd.R_below (Kd.R_elderB (rr HO477.out) gb479 (Nat.le_of_eq hg.symm)) hb); have GW479 := gw hg (bs1 HB GE472); have GE479 := gw hg (bs1 HB GE472); replace HB := Ah (below_step (bs1 HB GE472) hb); have NB472_479 := nn BK472 hg; have NB479_472 := nm BK472 hg; replace BK472 := nb BK472 hb; clear hb hg; have hnb28 := NB479_472.out; have hnc28 := NB472_479.out; obtain ⟨hcz29_0, hcz29_1, hcz29_2⟩ := cz3 BK479; obtain ⟨hfz29_0, hfz29_1, hfz29_2⟩ := fz3 BK479)); try go_wp2_with (first | (go_at_call 17; (with_reducible refine (impl_FileMap_cells.calls kj2 _ _ l0_0 t475 _ ?side1 ?side2 A13.out).mono ?_); (case side1 => exact cb HR0_0 HB); (case side2 => exact HC0_0.out); rintro e w25 ⟨v476, rfl, ho0, hb⟩; have HO477 := Ah (Kd.R_lower ho0 (below_size (bs1 HB GE472))); replace BK472 := nb BK472 hb; replace HB := Ah (below_step (bs1 HB GE472) hb); (try clear hb ho0); obtain ⟨Ao26, co26, eo26⟩ := Kd.R_slice HO477.out; subst eo26; have p478 : 0 ≤ (a1 : Int) := od; have q478 : a1 < (t475.length : Int) := od; obtain ⟨ad478, e478, hx478_0, hx478_1, hx478_2⟩ := at_T55 (Kd.R_reads' HO477.out).2.2 a1 p478 q478; (try rw [← Nbq16.out] at hx478_0); (try rw [← Nbq16.out] at hx478_2); cases e478; replace p478 := eq_true p478; replace q478 := eq_true q478) | ((with_reducible refine gate_dst (N := 7) rfl ?_); refine boxL 7 55 #[.bool false, .int .i64 0, .bool false] ?_; intro gb479 hg w27 BK479 hb; replace HO477 := Ah (Kd.R_below (Kd.R_elderB (rr HO477.out) gb479 (Nat.le_of_eq hg.symm)) hb); have GW479 := gw hg (bs1 HB GE472); have GE479 := gw hg (bs1 HB GE472); replace HB := Ah (below_step (bs1 HB GE472) hb); have NB472_479 := nn BK472 hg; have NB479_472 := nm BK472 hg; replace BK472 := nb BK472 hb; clear hb hg; have hnb28 := NB479_472.out; have hnc28 := NB472_479.out; obtain ⟨hcz29_0, hcz29_1, hcz29_2⟩ := cz3 BK479; obtain ⟨hfz29_0, hfz29_1, hfz29_2⟩ := fz3 BK479)))
       go_ret3
       exact ⟨er, bs2 HB GE472 GE479⟩
     ·
      rw [if_neg c15] at H;exact absurd H (by simp)
    ·
     rw [if_neg c14] at H;exact absurd H (by simp)
end Go.Proofs.Ytebhdnihmkndlaa.G
