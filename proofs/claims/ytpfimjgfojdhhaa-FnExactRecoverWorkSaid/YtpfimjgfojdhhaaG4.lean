-- Printed by a program of this session (drive.py, by way of the kit's print). Not trusted: Lean checks it.
import Derived.Test.YtpfimjgfojdhhaaG0
import Derived.Test.YtpfimjgfojdhhaaG1
import Derived.Test.YtpfimjgfojdhhaaG3
namespace Go.Proofs.Ytpfimjgfojdhhaa.G
open Go.RowKit Go.Proofs.YtpfimjgfojdhhaaW.PrintWords Go.Proofs.YtpfimjgfojdhhaaW.PrintLast Go.Proofs.YtpfimjgfojdhhaaW.PrintMore
attribute [local go_sem] max2_int min2_int max_two min_two max_three min_three max_four min_four
set_option linter.unusedVariables false
set_option linter.unusedSimpArgs false
attribute [local go_sem high] eqA40
def spec_l5Of.f (k : Nat) (a0 : Int) (l1 : List (S40)) : Option (Int × (List (S40)) × (List (S40))) := (some (([] : List (S40)) : List (S40))).bind fun y287 => (if y287.length + l1.length < 8796093022208 then ((spec_l5BySize.f k l1).bind fun t293 => (some (a0, (y287 ++ l1), t293))) else (none))
theorem spec_l5Of.mono : ∀ a0 a1 k, LeO (spec_l5Of.f k a0 a1) (spec_l5Of.f (k + 1) a0 a1) := by
 intro a0 a1 k;unfold spec_l5Of.f
 repeat' with_reducible first|exact spec_l5BySize.mono _ _|exact LeO.refl _|exact LeO.none _|refine LeO.ite ?_ ?_|refine LeO.bind ?_ (fun _ => ?_)
set_option maxHeartbeats 8000000 in
set_option maxRecDepth 100000 in
theorem spec_l5Of.calls (k : Nat) (a0 : Int) (A1 : Option Addr) (c1 : Nat) (l1 : List (S40)) (r1 : Int) (r2 : List (S40)) (r3 : List (S40)) (w : World) (hr1 : Kd.C k40 w A1 l1.length l1) (hc1 : l1.length ≤ c1) (h : spec_l5Of.f k a0 l1 = some (r1, r2, r3)) :
  Calls Try.prog 29 #[.int .i64 a0, .slice A1 l1.length c1] w fun e w' => ∃ v1_ v2_ : Value, e = .returned (.agg #[.int .i64 r1, v1_, v2_]) ∧ Kd.R k40 40 w' w.heap.size (fun k_ => some k_ ≠ (v2_ : Value).ownBlock) v1_ r2 ∧ Kd.R k40 40 w' w.heap.size (fun k_ => some k_ ≠ (v1_ : Value).ownBlock) v2_ r3 ∧ Below w.heap.size w w' := by
 have hu33 := Try.underlying33;have HR1 := Ah hr1;have HC1 := Ah hc1;clear hr1 hc1;have HB := Ah (Below.refl w.heap.size w);have H : ((some (([] : List (S40)) : List (S40))).bind fun y287 => (if y287.length + l1.length < 8796093022208 then ((spec_l5BySize.f k l1).bind fun t293 => (some (a0, (y287 ++ l1), t293))) else (none))) = some (r1, r2, r3) := h;clear h;obtain ⟨y287, hy287⟩ : ∃ y_ : List (S40), y_ = (([] : List (S40))) := ⟨_, rfl⟩
 replace H : (if y287.length + l1.length < 8796093022208 then ((spec_l5BySize.f k l1).bind fun t293 => (some (a0, (y287 ++ l1), t293))) else (none)) = some (r1, r2, r3) := by first | (rw [hy287]; with_reducible exact H) | (have H2_ := (Option.bind_some _ _).symm.trans H; rw [hy287]; with_reducible exact H2_) | (have H2_ := (Option.bind_some _ _).symm.trans H; with_reducible exact H2_) | with_reducible exact H | (rw [hy287]; exact H) | exact H
 have Ny287 := Ah hy287;clear hy287
 by_cases c3 : y287.length + l1.length < 8796093022208
 rotate_left
 ·
  rw [if_neg c3] at H;exact absurd H (by simp)
 rw [if_pos c3] at H;have LMc3 := Ah c3;clear c3;obtain ⟨y290, hy290⟩ : ∃ y_ : List (S40), y_ = (y287 ++ l1) := ⟨_, rfl⟩
 replace H : ((spec_l5BySize.f k l1).bind fun t293 => (some (a0, y290, t293))) = some (r1, r2, r3) := by first | (rw [hy290]; with_reducible exact H) | (have H2_ := (Option.bind_some _ _).symm.trans H; rw [hy290]; with_reducible exact H2_) | (have H2_ := (Option.bind_some _ _).symm.trans H; with_reducible exact H2_) | with_reducible exact H | (rw [hy290]; exact H) | exact H
 have Ny290 := Ah hy290;clear hy290;replace H := Option.bind_eq_some_iff.mp H;obtain ⟨t293, A40, H⟩ := H
 try dsimp only at H
 have A4 := Ah A40;clear A40;simp only [Option.some.injEq, Prod.mk.injEq] at H;obtain ⟨rfl, rfl, rfl⟩ := H
 go_enter Try.func29, Try.ntmps29
 go_wp2_with (first | ((with_reducible refine gate_dst (N := 4) rfl ?_); refine boxL 4 33 #[.int .i64 0, .slice none 0 0, .slice none 0 0] ?_; intro gb286 hg w5 BK286 hb; have GW286 := gw hg (bs HB); have GE286 := gw hg (bs HB); replace HB := Ah (below_step (bs HB) hb); clear hb hg) | ((with_reducible refine gate_dst (N := 6) rfl ?_); refine Kd.R_lit k40 _ 40 ?hg (N := 6) ?hd (xs := ([] : List (S40))) (inner := []) (ok := fun _ => True) (okp := fun _ => True) ?hr ?hp (fun _ hk => hk) trivial (Below.refl _ _) (Nat.le_refl _) (by simp) ?_; (case hd => rfl); (case hg => rfl); (case hr => first | (go_simp; done) | (go_simp; rfl)); (case hp => exact (Reps.none _ _)); intro v288 w6 ho7 hb hg_ hnew_; clear hg_ hnew_; (first | rw [← Ny287.out] at ho7 | (simp only [Int.reduceToNat] at ho7; rw [← Ny287.out] at ho7)); have HO289 := Ah (Kd.R_lower ho7 (below_size (bs1 HB GE286))); replace BK286 := nb BK286 hb; replace HB := Ah (below_step (bs1 HB GE286) hb); clear hb ho7) | ((with_reducible refine gate_builtin (b := .append) (xs := #[.tmp 6, .tmp 7]) rfl ?_); at_builtin; refine Kd.R_append_rows k40 (w0 := w) w.heap.size rfl (.tmp 6) (.tmp 7) 31 40 (.agg #[(.int .i64 0), (.int .i64 0)]) 16 rfl Try.underlying31 info40 rfl (by decide) (by omega) v288 y287 l1 _ _ _ (fun _ => True) (fun _ => False) rfl rfl ?aO ?aR (fun _ _ h => h) (fun _ h => h.elim) ?aF ?aB ?aS ?aL ?_; (case aR => exact cb HR1 HB); (case aB => exact (bs1 HB GE286)); (case aF => exact (fun _ _ => trivial)); (case aO => exact (rr HO289.out)); (case aS => exact (below_size (bs1 HB GE286))); (case aL => have := LMc3.out; omega); intro v291 w8 ho hb hg hat; rw [← Ny290.out] at ho; replace BK286 := Ah (blk_grown (bk BK286) hg (Kd.R_ne HO289.out BK286.out (by decide))); replace HB := Ah (hb); have HO292 := Ah (ho); clear HO289; clear ho hb hg hat) | ((with_reducible refine gate_callee (f := 47) rfl ?_); refine gL (some 10) rfl rfl Try.func47 (by kernel_rfl) rfl #[.slice A1 l1.length c1] rfl ?_; (with_reducible refine (spec_l5BySize.calls k _ _ l1 t293 _ ?side1 ?side2 A4.out).mono ?_); (case side1 => exact cb HR1 HB); (case side2 => exact HC1.out); rintro e w9 ⟨v294, rfl, ho0, hb⟩; refine ⟨_, rfl, ?_⟩; have HO295 := Ah (Kd.R_lower (Kd.R_new' ho0 (Kd.R_lt (rr HO292.out))) (below_size (bs1 HB GE286))); replace HO292 := Ah (Kd.R_elder' (rr HO292.out) (Kd.R_base ho0) hb); replace BK286 := nb BK286 hb; replace HB := Ah (below_step (bs1 HB GE286) hb); (try clear hb ho0); obtain ⟨Ao10, co10, eo10⟩ := Kd.R_slice HO295.out; subst eo10; obtain ⟨Ao11, co11, eo11⟩ := Kd.R_slice HO292.out; subst eo11; obtain ⟨hcz12_0, hcz12_1, hcz12_2⟩ := cz3 BK286; obtain ⟨hfz12_0, hfz12_1, hfz12_2⟩ := fz3 BK286))
 refine bodyPost_ret (results_cell_row rfl _ _ gb286 33 #[.int .i64 a0, .slice Ao11 y290.length co11, .slice Ao10 t293.length co10] (0, 0) _ rfl (by (with_reducible repeat (first | refine blk_drewN ?_ _ | refine blk_drew ?_ | refine blk_alloc ?_ _)); refine blk_put (cs := #[.int .i64 a0, .slice Ao11 y290.length co11, .slice none 0 0]) ?_ 2 _ rfl; (with_reducible repeat (first | refine blk_drewN ?_ _ | refine blk_drew ?_ | refine blk_alloc ?_ _)); refine blk_put (cs := #[.int .i64 a0, .slice none 0 0, .slice none 0 0]) ?_ 1 _ rfl; (with_reducible repeat (first | refine blk_drewN ?_ _ | refine blk_drew ?_ | refine blk_alloc ?_ _)); refine blk_put (cs := #[.int .i64 0, .slice none 0 0, .slice none 0 0]) ?_ 0 _ rfl; (with_reducible repeat (first | refine blk_drewN ?_ _ | refine blk_drew ?_ | refine blk_alloc ?_ _)); exact BK286.out) Try.underlying33 rfl (by kernel_rfl)) rfl ?_;exact ⟨_, _, er, by (with_reducible repeat (first | apply Kd.R_alloc | apply Kd.R_drewN | apply Kd.R_drew)); exact Kd.R_mono (Kd.R_far (p := ⟨gb286, 2, none⟩) (Kd.R_far (p := ⟨gb286, 1, none⟩) (Kd.R_far (p := ⟨gb286, 0, none⟩) (Kd.R_types HO292.out BK286.out (by decide)) (fun _ hk => hk.2) (.int .i64 a0)) (fun _ hk => hk.2) (.slice Ao11 y290.length co11)) (fun _ hk => hk.2) (.slice Ao10 t293.length co10)) (fun _ hk => hk.1.2), by (with_reducible repeat (first | apply Kd.R_alloc | apply Kd.R_drewN | apply Kd.R_drew)); exact Kd.R_mono (Kd.R_far (p := ⟨gb286, 2, none⟩) (Kd.R_far (p := ⟨gb286, 1, none⟩) (Kd.R_far (p := ⟨gb286, 0, none⟩) (Kd.R_types HO295.out BK286.out (by decide)) (fun _ hk => hk.2) (.int .i64 a0)) (fun _ hk => hk.2) (.slice Ao11 y290.length co11)) (fun _ hk => hk.2) (.slice Ao10 t293.length co10)) (fun _ hk => hk.1.2), bs1 HB GE286⟩
mutual
def spec_GiveRoom.j0 : Nat → Bool → Int → List (S40) → List (S40) → Int → Int → Option (Int × (List (S40)) × (List (S40)) × Bool)
 | 0, _, _, _, _, _, _ => none
 | k + 1, x20, x297000, x297001, x297002, x298000, x298001 => if x20 = true then (some (0, ([] : List (S40)), ([] : List (S40)), false)) else (spec_GiveRoom.l0 k ([] : List (S40)) false x297001 (x297001.length : Int) 0 x297000 x297001 x297002 x298000 x298001)
def spec_GiveRoom.l0 : Nat → List (S40) → Bool → List (S40) → Int → Int → Int → List (S40) → List (S40) → Int → Int → Option (Int × (List (S40)) × (List (S40)) × Bool)
 | 0, _, _, _, _, _, _, _, _, _, _ => none
 | k + 1, x6, x7, x23, x24, x25, x297000, x297001, x297002, x298000, x298001 => if x25 < x24 then (if 0 ≤ x25 then (if x25 < (x23.length : Int) then (if (wrap64 (((rd_T40 x23 x25).f0) + ((rd_T40 x23 x25).f1))) < x298000 then (if x6.length < 8796093022208 then (spec_GiveRoom.l0 k (x6 ++ [(⟨(rd_T40 x23 x25).f0, (rd_T40 x23 x25).f1⟩ : S40)]) x7 x23 x24 (wrap64 (x25 + 1)) x297000 x297001 x297002 x298000 x298001) else (none)) else (if ((rd_T40 x23 x25).f0) > (wrap64 (x298000 + x298001)) then (if x7 = true then (if x6.length < 8796093022208 then (spec_GiveRoom.l0 k (x6 ++ [(⟨(rd_T40 x23 x25).f0, (rd_T40 x23 x25).f1⟩ : S40)]) x7 x23 x24 (wrap64 (x25 + 1)) x297000 x297001 x297002 x298000 x298001) else (none)) else (if x6.length < 8796093022208 then ((some (x6 ++ [(⟨x298000, x298001⟩ : S40)] : List (S40))).bind fun y309 => (if y309.length < 8796093022208 then (spec_GiveRoom.l0 k (y309 ++ [(⟨(rd_T40 x23 x25).f0, (rd_T40 x23 x25).f1⟩ : S40)]) true x23 x24 (wrap64 (x25 + 1)) x297000 x297001 x297002 x298000 x298001) else (none))) else (none))) else (if (wrap64 (((rd_T40 x23 x25).f0) + ((rd_T40 x23 x25).f1))) = x298000 then (spec_GiveRoom.l0 k x6 x7 x23 x24 (wrap64 (x25 + 1)) x297000 x297001 x297002 ((rd_T40 x23 x25).f0) (wrap64 (((rd_T40 x23 x25).f1) + x298001))) else (if ((rd_T40 x23 x25).f0) = (wrap64 (x298000 + x298001)) then (spec_GiveRoom.l0 k x6 x7 x23 x24 (wrap64 (x25 + 1)) x297000 x297001 x297002 x298000 (wrap64 (x298001 + ((rd_T40 x23 x25).f1)))) else (some (0, ([] : List (S40)), ([] : List (S40)), false)))))) else (none)) else (none)) else (if x7 = true then (spec_GiveRoom.j2 k x6 x297000 x297001 x297002) else (if x6.length < 8796093022208 then (spec_GiveRoom.j2 k (x6 ++ [(⟨x298000, x298001⟩ : S40)]) x297000 x297001 x297002) else (none)))
def spec_GiveRoom.j2 : Nat → List (S40) → Int → List (S40) → List (S40) → Option (Int × (List (S40)) × (List (S40)) × Bool)
 | 0, _, _, _, _ => none
 | k + 1, x6, x297000, x297001, x297002 => (spec_l5Of.f k x297000 x6).bind fun bt318 => ((spec_GoodFree.f k bt318.1 bt318.2.1 bt318.2.2).bind fun t326 => (if t326 = true then (some (bt318.1, bt318.2.1, bt318.2.2, true)) else (some (0, ([] : List (S40)), ([] : List (S40)), false))))
end
def spec_GiveRoom.f (k : Nat) (a0_0 : Int) (l0_1 : List (S40)) (l0_2 : List (S40)) (a1_0 : Int) (a1_1 : Int) : Option (Int × (List (S40)) × (List (S40)) × Bool) := (spec_GoodFree.f k a0_0 l0_1 l0_2).bind fun t299 => (if t299 = true then ((spec_l5Extent.f a1_0 a1_1 a0_0).bind fun t300 => (spec_GiveRoom.j0 k (!t300) a0_0 l0_1 l0_2 a1_0 a1_1)) else (spec_GiveRoom.j0 k true a0_0 l0_1 l0_2 a1_0 a1_1))
theorem spec_GiveRoom.mono_l : ∀ k, (∀ y0 y1 y2 y3 y4 y5, LeO (spec_GiveRoom.j0 k y0 y1 y2 y3 y4 y5) (spec_GiveRoom.j0 (k + 1) y0 y1 y2 y3 y4 y5)) ∧ (∀ y0 y1 y2 y3 y4 y5 y6 y7 y8 y9, LeO (spec_GiveRoom.l0 k y0 y1 y2 y3 y4 y5 y6 y7 y8 y9) (spec_GiveRoom.l0 (k + 1) y0 y1 y2 y3 y4 y5 y6 y7 y8 y9)) ∧ (∀ y0 y1 y2 y3, LeO (spec_GiveRoom.j2 k y0 y1 y2 y3) (spec_GiveRoom.j2 (k + 1) y0 y1 y2 y3))
 | 0 => ⟨fun _ _ _ _ _ _ r h => by simp [spec_GiveRoom.j0] at h, fun _ _ _ _ _ _ _ _ _ _ r h => by simp [spec_GiveRoom.l0] at h, fun _ _ _ _ r h => by simp [spec_GiveRoom.j2] at h⟩
 | k + 1 => by
  obtain ⟨ih0, ih1, ih2⟩ := spec_GiveRoom.mono_l k
  refine ⟨?_, ?_, ?_⟩ <;> intros <;> first | unfold spec_GiveRoom.j0 | unfold spec_GiveRoom.l0 | unfold spec_GiveRoom.j2
  all_goals repeat' first
   | (with_reducible exact ih0 _ _ _ _ _ _)
   | (with_reducible exact ih1 _ _ _ _ _ _ _ _ _ _)
   | (with_reducible exact ih2 _ _ _ _)
   | (with_reducible exact spec_GoodFree.mono _ _ _ _)
   | (with_reducible exact spec_l5Of.mono _ _ _)
   | (with_reducible exact LeO.refl _)
   | (with_reducible exact LeO.none _)
   | (with_reducible refine LeO.ite ?_ ?_)
   | (with_reducible refine LeO.bind ?_ (fun _ => ?_))
   | exact ih0 _ _ _ _ _ _
   | exact ih1 _ _ _ _ _ _ _ _ _ _
   | exact ih2 _ _ _ _
   | exact spec_GoodFree.mono _ _ _ _
   | exact spec_l5Of.mono _ _ _
   | exact LeO.none _
   | refine LeO.ite ?_ ?_
   | refine LeO.bind ?_ (fun _ => ?_)
theorem spec_GiveRoom.mono : ∀ a0 a1 a2 a3 a4 k, LeO (spec_GiveRoom.f k a0 a1 a2 a3 a4) (spec_GiveRoom.f (k + 1) a0 a1 a2 a3 a4) := by
 intro a0 a1 a2 a3 a4 k;obtain ⟨ih0, ih1, ih2⟩ := spec_GiveRoom.mono_l k;unfold spec_GiveRoom.f
 repeat' with_reducible first|exact ih0 _ _ _ _ _ _|exact ih1 _ _ _ _ _ _ _ _ _ _|exact ih2 _ _ _ _|exact spec_GoodFree.mono _ _ _ _|exact spec_l5Of.mono _ _ _|exact LeO.refl _|exact LeO.none _|refine LeO.ite ?_ ?_|refine LeO.bind ?_ (fun _ => ?_)
set_option maxHeartbeats 8000000 in
set_option maxRecDepth 100000 in
theorem spec_GiveRoom.calls (k : Nat) (a0_0 : Int) (A0_1 : Option Addr) (c0_1 : Nat) (l0_1 : List (S40)) (A0_2 : Option Addr) (c0_2 : Nat) (l0_2 : List (S40)) (a1_0 : Int) (a1_1 : Int) (r1 : Int) (r2 : List (S40)) (r3 : List (S40)) (r4 : Bool) (w : World) (hr0_1 : Kd.C k40 w A0_1 l0_1.length l0_1) (hc0_1 : l0_1.length ≤ c0_1) (hr0_2 : Kd.C k40 w A0_2 l0_2.length l0_2) (hc0_2 : l0_2.length ≤ c0_2) (h : spec_GiveRoom.f k a0_0 l0_1 l0_2 a1_0 a1_1 = some (r1, r2, r3, r4)) :
  Calls Try.prog 30 #[.agg #[.int .i64 a0_0, .slice A0_1 l0_1.length c0_1, .slice A0_2 l0_2.length c0_2], .agg #[.int .i64 a1_0, .int .i64 a1_1]] w fun e w' => ∃ v1_ v2_ : Value, e = .returned (.tuple #[.agg #[.int .i64 r1, v1_, v2_], .bool r4]) ∧ Kd.R k40 40 w' w.heap.size (fun k_ => some k_ ≠ (v2_ : Value).ownBlock) v1_ r2 ∧ Kd.R k40 40 w' w.heap.size (fun k_ => some k_ ≠ (v1_ : Value).ownBlock) v2_ r3 ∧ Below w.heap.size w w' := by
 have hu33 := Try.underlying33;have hu40 := Try.underlying40;have HR0_1 := Ah hr0_1;have HC0_1 := Ah hc0_1;clear hr0_1 hc0_1;have HR0_2 := Ah hr0_2;have HC0_2 := Ah hc0_2;clear hr0_2 hc0_2;have HB := Ah (Below.refl w.heap.size w);have H : ((spec_GoodFree.f k a0_0 l0_1 l0_2).bind fun t299 => (if t299 = true then ((spec_l5Extent.f a1_0 a1_1 a0_0).bind fun t300 => (spec_GiveRoom.j0 k (!t300) a0_0 l0_1 l0_2 a1_0 a1_1)) else (spec_GiveRoom.j0 k true a0_0 l0_1 l0_2 a1_0 a1_1))) = some (r1, r2, r3, r4) := h;clear h;have HC3 := Ah H;clear H
 go_enter Try.func30, Try.ntmps30
 go_upto_region 1 with (first | ((with_reducible refine gate_dst (N := 2) rfl ?_); refine boxL 2 33 #[.int .i64 a0_0, .slice A0_1 l0_1.length c0_1, .slice A0_2 l0_2.length c0_2] ?_; intro gb296 hg w4 BK296 hb; have GW296 := gw hg (bs HB); have GE296 := gw hg (bs HB); replace HB := Ah (below_step (bs HB) hb); clear hb hg) | ((with_reducible refine gate_dst (N := 3) rfl ?_); refine boxL 3 40 #[.int .i64 a1_0, .int .i64 a1_1] ?_; intro gb297 hg w5 BK297 hb; have GW297 := gw hg (bs1 HB GE296); have GE297 := gw hg (bs1 HB GE296); replace HB := Ah (below_step (bs1 HB GE296) hb); have NB296_297 := nn BK296 hg; have NB297_296 := nm BK296 hg; replace BK296 := nb BK296 hb; clear hb hg) | ((with_reducible refine gate_dst (N := 4) rfl ?_); refine boxL 4 33 #[.int .i64 0, .slice none 0 0, .slice none 0 0] ?_; intro gb298 hg w6 BK298 hb; have GW298 := gw hg (bs2 HB GE296 GE297); have GE298 := gw hg (bs2 HB GE296 GE297); replace HB := Ah (below_step (bs2 HB GE296 GE297) hb); have NB296_298 := nn BK296 hg; have NB298_296 := nm BK296 hg; replace BK296 := nb BK296 hb; have NB297_298 := nn BK297 hg; have NB298_297 := nm BK297 hg; replace BK297 := nb BK297 hb; clear hb hg))
 (try simp only [Act.put, List.setIfInBounds_toArray, List.set_cons_zero, List.set_cons_succ])
 go_cut [20] (fun v20 wc => ∃ (kq : Nat) (x20_2 : Bool), v20 = .bool x20_2 ∧ Aside0 (spec_GiveRoom.j0 kq x20_2 a0_0 l0_1 l0_2 a1_0 a1_1 = some (r1, r2, r3, r4)) ∧ Aside0 (kq ≤ k) ∧ Aside0 (wc.heap[gb296]? = some (.cells #[.int .i64 a0_0, (.slice A0_1 l0_1.length c0_1), (.slice A0_2 l0_2.length c0_2)] 33 (0, 0))) ∧ Aside0 (wc.heap[gb297]? = some (.cells #[.int .i64 a1_0, .int .i64 a1_1] 40 (0, 0))) ∧ Aside0 (wc.heap[gb298]? = some (.cells #[.int .i64 0, (.slice none 0 0), (.slice none 0 0)] 33 (0, 0))) ∧ Aside0 (Below w.heap.size w wc))
 case first =>
  have H := HC3.out;clear HC3;replace H := Option.bind_eq_some_iff.mp H;obtain ⟨t299, A70, H⟩ := H
  try dsimp only at H
  have A7 := Ah A70;clear A70
  by_cases c8 : t299 = true
  rotate_left
  ·
   replace c8 := Bool.eq_false_iff.mpr c8;subst c8;rw [if_neg fne] at H;have H' := Ah H;clear H;have hnb18 := NB296_297.out;have hnc18 := NB297_296.out;have hnb19 := NB296_298.out;have hnc19 := NB298_296.out;obtain ⟨hcz20_0, hcz20_1, hcz20_2⟩ := cz3 BK296;obtain ⟨hfz20_0, hfz20_1, hfz20_2⟩ := fz3 BK296
   go_wp2_with (first | ((with_reducible refine gate_callee (f := 38) rfl ?_); refine gL (some 12) rfl rfl Try.func38 (by kernel_rfl) rfl #[.agg #[.int .i64 a0_0, .slice A0_1 l0_1.length c0_1, .slice A0_2 l0_2.length c0_2]] rfl ?_; (with_reducible refine (spec_GoodFree.calls k a0_0 _ _ l0_1 _ _ l0_2 false _ ?side1 ?side2 ?side3 ?side4 A7.out).mono ?_); (case side1 => exact cb HR0_1 HB); (case side2 => exact HC0_1.out); (case side3 => exact cb HR0_2 HB); (case side4 => exact HC0_2.out); rintro e w21 ⟨rfl, hb⟩; refine ⟨_, rfl, ?_⟩; replace BK296 := nb BK296 hb; replace BK297 := nb BK297 hb; replace BK298 := nb BK298 hb; replace HB := Ah (below_step (bs3 HB GE296 GE297 GE298) hb); (try clear hb)))
   go_meet
   case rel => exact ⟨_, (true), e3, H', ⟨by first | omega | exact Nat.le_refl _⟩, ⟨bk BK296⟩, ⟨bk BK297⟩, ⟨bk BK298⟩, ⟨bs3 HB GE296 GE297 GE298⟩⟩
  subst c8;rw [if_pos rfl] at H;replace H := Option.bind_eq_some_iff.mp H;obtain ⟨t300, A90, H⟩ := H
  try dsimp only at H
  have A9 := Ah A90;clear A90;have H' := Ah H;clear H;have hnb10 := NB296_297.out;have hnc10 := NB297_296.out;have hnb11 := NB296_298.out;have hnc11 := NB298_296.out;obtain ⟨hcz12_0, hcz12_1, hcz12_2⟩ := cz3 BK296;obtain ⟨hfz12_0, hfz12_1, hfz12_2⟩ := fz3 BK296
  go_wp2_with (first | ((with_reducible refine gate_callee (f := 38) rfl ?_); refine gL (some 12) rfl rfl Try.func38 (by kernel_rfl) rfl #[.agg #[.int .i64 a0_0, .slice A0_1 l0_1.length c0_1, .slice A0_2 l0_2.length c0_2]] rfl ?_; (with_reducible refine (spec_GoodFree.calls k a0_0 _ _ l0_1 _ _ l0_2 true _ ?side1 ?side2 ?side3 ?side4 A7.out).mono ?_); (case side1 => exact cb HR0_1 HB); (case side2 => exact HC0_1.out); (case side3 => exact cb HR0_2 HB); (case side4 => exact HC0_2.out); rintro e w13 ⟨rfl, hb⟩; refine ⟨_, rfl, ?_⟩; replace BK296 := nb BK296 hb; replace BK297 := nb BK297 hb; replace BK298 := nb BK298 hb; replace HB := Ah (below_step (bs3 HB GE296 GE297 GE298) hb); (try clear hb); have hnb14 := NB297_298.out; have hnc14 := NB298_297.out; obtain ⟨hcz15_0, hcz15_1⟩ := cz2 BK297; obtain ⟨hfz15_0, hfz15_1⟩ := fz2 BK297; obtain ⟨hcz16_0, hcz16_1, hcz16_2⟩ := cz3 BK296; obtain ⟨hfz16_0, hfz16_1, hfz16_2⟩ := fz3 BK296) | (go_at_call 44; (with_reducible refine (spec_l5Extent.calls a1_0 a1_1 a0_0 t300 _ A9.out).mono ?_); rintro e w17 ⟨rfl, hb⟩; replace BK296 := nb BK296 hb; replace BK297 := nb BK297 hb; replace BK298 := nb BK298 hb; replace HB := Ah (below_step (bs3 HB GE296 GE297 GE298) hb); (try clear hb)))
  go_meet
  case rel => exact ⟨_, (!t300), e3, H', ⟨by first | omega | exact Nat.le_refl _⟩, ⟨bk BK296⟩, ⟨bk BK297⟩, ⟨bk BK298⟩, ⟨bs3 HB GE296 GE297 GE298⟩⟩
 case rest =>
  clear HC3
  try clear c1
  try clear p2
  try clear c3
  try clear c8
  try clear c10
  try clear c11
  try clear c14
  try clear c18
  try clear c19
  try clear hcz12_0 hcz12_1 hcz12_2
  try clear hcz15_0 hcz15_1
  try clear hcz16_0 hcz16_1 hcz16_2
  try clear hcz20_0 hcz20_1 hcz20_2
  try clear hfz12_0 hfz12_1 hfz12_2
  try clear hfz15_0 hfz15_1
  try clear hfz16_0 hfz16_1 hfz16_2
  try clear hfz20_0 hfz20_1 hfz20_2
  obtain ⟨kq, x20_2, rfl, HA, HJ2, BK296, BK297, BK298, HB⟩ := hcut
  cases kq with
  | zero => exact absurd HA.out (by simp [spec_GiveRoom.j0])
  | succ kj2 =>
   have H := HA.out;clear HA;simp only [spec_GiveRoom.j0] at H
   by_cases c22 : x20_2 = true
   ·
    subst c22;rw [if_pos rfl] at H;simp only [Option.some.injEq, Prod.mk.injEq] at H;obtain ⟨rfl, rfl, rfl, rfl⟩ := H;have hnb23 := NB298_296.out;have hnc23 := NB296_298.out;have hnb24 := NB298_297.out;have hnc24 := NB297_298.out;obtain ⟨hcz25_0, hcz25_1, hcz25_2⟩ := cz3 BK298;obtain ⟨hfz25_0, hfz25_1, hfz25_2⟩ := fz3 BK298
    go_wp2
    refine bodyPost_ret (results_ct rfl _ _ gb298 33 #[.int .i64 0, .slice none 0 0, .slice none 0 0] (0, 0) _ rfl (by (with_reducible repeat (first | refine blk_drewN ?_ _ | refine blk_drew ?_ | refine blk_alloc ?_ _)); refine blk_put (cs := #[.int .i64 0, .slice none 0 0, .slice none 0 0]) ?_ 2 _ rfl; (with_reducible repeat (first | refine blk_drewN ?_ _ | refine blk_drew ?_ | refine blk_alloc ?_ _)); refine blk_put (cs := #[.int .i64 0, .slice none 0 0, .slice none 0 0]) ?_ 1 _ rfl; (with_reducible repeat (first | refine blk_drewN ?_ _ | refine blk_drew ?_ | refine blk_alloc ?_ _)); refine blk_put (cs := #[.int .i64 0, .slice none 0 0, .slice none 0 0]) ?_ 0 _ rfl; (with_reducible repeat (first | refine blk_drewN ?_ _ | refine blk_drew ?_ | refine blk_alloc ?_ _)); exact BK298.out) Try.underlying33 rfl (by kernel_rfl)) rfl ?_;exact ⟨_, _, er, by first | exact Kd.R_nil _ _ _ _ _ | exact Kd.N_nil _ _ _ _ _ | exact Kd.V_nil _ _ _ _ _ | exact Kd.Q_nil _ _ _ _ _ | exact Kd.S_nil _ _ _ _ _, by first | exact Kd.R_nil _ _ _ _ _ | exact Kd.N_nil _ _ _ _ _ | exact Kd.V_nil _ _ _ _ _ | exact Kd.Q_nil _ _ _ _ _ | exact Kd.S_nil _ _ _ _ _, bs3 HB GE296 GE297 GE298⟩
   replace c22 := Bool.eq_false_iff.mpr c22;subst c22;rw [if_neg fne] at H;have H' := Ah H;clear H;have hnb26 := NB296_297.out;have hnc26 := NB297_296.out;have hnb27 := NB296_298.out;have hnc27 := NB298_296.out;obtain ⟨hcz28_0, hcz28_1, hcz28_2⟩ := cz3 BK296;obtain ⟨hfz28_0, hfz28_1, hfz28_2⟩ := fz3 BK296
   go_wp2
   go_loopg [6, 7, 25] kj2 (fun kq v6 v7 v25 w' => ∃ (x6_2 : List (S40)) (x7_2 : Bool) (x25_2 : Int) (x298000_2 : Int) (x298001_2 : Int) (x299000_2 : Int), v7 = .bool x7_2 ∧ v25 = .int .i64 x25_2 ∧ Aside0 (spec_GiveRoom.l0 kq x6_2 x7_2 l0_1 (l0_1.length : Int) x25_2 a0_0 l0_1 l0_2 x298000_2 x298001_2 = some (r1, r2, r3, r4)) ∧ Aside0 (kq ≤ kj2) ∧ Aside0 (Kd.R k40 40 w' w.heap.size (fun k_ => k_ ≠ gb297) v6 x6_2) ∧ Aside0 (w'.heap[gb296]? = some (.cells #[.int .i64 a0_0, (.slice A0_1 l0_1.length c0_1), (.slice A0_2 l0_2.length c0_2)] 33 (0, 0))) ∧ Aside0 (w'.heap[gb297]? = some (.cells #[.int .i64 x298000_2, .int .i64 x298001_2] 40 (0, 0))) ∧ Aside0 (w'.heap[gb298]? = some (.cells #[.int .i64 x299000_2, (.slice none 0 0), (.slice none 0 0)] 33 (0, 0))) ∧ Aside0 (Below w.heap.size w w'))
   case atStart => exact ⟨(([] : List (S40))), (false), (0), (a1_0), (a1_1), (0), e3, e3, H', ⟨Nat.le_refl _⟩, ⟨by first | exact Kd.R_nil _ _ _ _ _ | exact Kd.N_nil _ _ _ _ _ | exact Kd.V_nil _ _ _ _ _ | exact Kd.Q_nil _ _ _ _ _ | exact Kd.S_nil _ _ _ _ _⟩, ⟨bk BK296⟩, ⟨bk BK297⟩, ⟨bk BK298⟩, ⟨bs3 HB GE296 GE297 GE298⟩⟩
   case round =>
    clear H'
    try clear c1
    try clear c2
    try clear p2
    try clear c3
    try clear c8
    try clear c10
    try clear c11
    try clear c14
    try clear c18
    try clear c19
    try clear c22
    try clear c23
    try clear c24
    try clear c26
    try clear c27
    try clear hcz12_0 hcz12_1 hcz12_2
    try clear hcz15_0 hcz15_1
    try clear hcz16_0 hcz16_1 hcz16_2
    try clear hcz20_0 hcz20_1 hcz20_2
    try clear hcz25_0 hcz25_1 hcz25_2
    try clear hcz28_0 hcz28_1 hcz28_2
    try clear hfz12_0 hfz12_1 hfz12_2
    try clear hfz15_0 hfz15_1
    try clear hfz16_0 hfz16_1 hfz16_2
    try clear hfz20_0 hfz20_1 hfz20_2
    try clear hfz25_0 hfz25_1 hfz25_2
    try clear hfz28_0 hfz28_1 hfz28_2
    try clear p2
    obtain ⟨x6_2, x7_2, x25_2, x298000_2, x298001_2, x299000_2, rfl, rfl, HA, HK2, HO_6, BK296, BK297, BK298, HB⟩ := hrel
    cases gk with
    | zero => exact absurd HA.out (by simp [spec_GiveRoom.l0])
    | succ k2 =>
     have H := HA.out;clear HA;simp only [spec_GiveRoom.l0] at H
     by_cases c29 : x25_2 < (l0_1.length : Int)
     rotate_left
     ·
      rw [if_neg c29] at H;have c29b0 : decide (x25_2 < (l0_1.length : Int)) = false := decide_eq_false c29;clear c29;have HC96 := Ah H;clear H
      go_upto_if 96 with (fail)
      go_cut [6] (fun v6 wc => ∃ (kq : Nat) (x6_95 : List (S40)), Aside0 (spec_GiveRoom.j2 kq x6_95 a0_0 l0_1 l0_2 = some (r1, r2, r3, r4)) ∧ Aside0 (kq ≤ k2) ∧ Aside0 (Kd.R k40 40 wc w.heap.size (fun k_ => k_ ≠ gb297) v6 x6_95) ∧ Aside0 (wc.heap[gb296]? = some (.cells #[.int .i64 a0_0, (.slice A0_1 l0_1.length c0_1), (.slice A0_2 l0_2.length c0_2)] 33 (0, 0))) ∧ Aside0 (wc.heap[gb297]? = some (.cells #[.int .i64 x298000_2, .int .i64 x298001_2] 40 (0, 0))) ∧ Aside0 (wc.heap[gb298]? = some (.cells #[.int .i64 x299000_2, (.slice none 0 0), (.slice none 0 0)] 33 (0, 0))) ∧ Aside0 (Below w.heap.size w wc))
      case first =>
       have H := HC96.out;clear HC96
       by_cases c97 : x7_2 = true
       ·
        subst c97;rw [if_pos rfl] at H;have H' := Ah H;clear H
        go_wp2
        go_meet
        case rel => exact ⟨_, (x6_2), H', ⟨by have := HJ2.out; have := HK2.out; first | omega | exact Nat.le_refl _⟩, ⟨rr HO_6.out⟩, ⟨bk BK296⟩, ⟨bk BK297⟩, ⟨bk BK298⟩, ⟨bs3 HB GE296 GE297 GE298⟩⟩
       replace c97 := Bool.eq_false_iff.mpr c97;subst c97;rw [if_neg fne] at H
       by_cases c98 : x6_2.length < 8796093022208
       rotate_left
       ·
        rw [if_neg c98] at H;exact absurd H (by simp)
       rw [if_pos c98] at H;have LMc98 := Ah c98;clear c98;obtain ⟨y315, hy315⟩ : ∃ y_ : List (S40), y_ = (x6_2 ++ [(⟨x298000_2, x298001_2⟩ : S40)]) := ⟨_, rfl⟩
       replace H : (spec_GiveRoom.j2 k2 y315 a0_0 l0_1 l0_2) = some (r1, r2, r3, r4) := by first | (rw [hy315]; with_reducible exact H) | (have H2_ := (Option.bind_some _ _).symm.trans H; rw [hy315]; with_reducible exact H2_) | (have H2_ := (Option.bind_some _ _).symm.trans H; with_reducible exact H2_) | with_reducible exact H | (rw [hy315]; exact H) | exact H
       have Ny315 := Ah hy315;clear hy315;have H' := Ah H;clear H;have hnb99 := NB297_296.out;have hnc99 := NB296_297.out;have hnb100 := NB297_298.out;have hnc100 := NB298_297.out;obtain ⟨hcz101_0, hcz101_1⟩ := cz2 BK297;obtain ⟨hfz101_0, hfz101_1⟩ := fz2 BK297
       go_wp2_with (first | ((with_reducible refine gate_builtin (b := .append) (xs := #[.tmp 97, .tmp 99]) rfl ?_); at_builtin; refine Kd.R_append k40 (w0 := w) w.heap.size rfl (.tmp 97) (.tmp 99) 31 40 (.agg #[(.int .i64 0), (.int .i64 0)]) 16 rfl Try.underlying31 info40 rfl (by decide) (by omega) u6 x6_2 (⟨x298000_2, x298001_2⟩ : S40) [.int .i64 x298000_2, .int .i64 x298001_2] (fun k_ => k_ ≠ gb297) (fun _ => False) rfl rfl ?aP (fun _ hk => hk.elim) ?aF ?aO ?aB ?aS ?aL ?_; (case aP => exact k40_mkM _ _ _ (⟨x298000_2, x298001_2⟩ : S40)); (case aB => exact (bs3 HB GE296 GE297 GE298)); (case aF => exact (fun k_ hk => Kd.freshB (bk BK297) k_ hk)); (case aO => exact (rr HO_6.out)); (case aS => exact (below_size (bs3 HB GE296 GE297 GE298))); (case aL => have := LMc98.out; omega); intro v316 w102 ho hb hg hat; rw [← Ny315.out] at ho; replace BK296 := Ah (blk_grown (bk BK296) hg (Kd.R_ne HO_6.out BK296.out (by decide))); replace BK297 := Ah (blk_grown (bk BK297) hg (Kd.R_away HO_6.out (fun _ hk => hk))); replace BK298 := Ah (blk_grown (bk BK298) hg (Kd.R_ne HO_6.out BK298.out (by decide))); replace HB := Ah (hb); have HO317 := Ah (ho); clear HO_6; clear ho hb hg hat))
       go_meet
       case rel => exact ⟨_, (y315), H', ⟨by have := HJ2.out; have := HK2.out; first | omega | exact Nat.le_refl _⟩, ⟨rr HO317.out⟩, ⟨bk BK296⟩, ⟨bk BK297⟩, ⟨bk BK298⟩, ⟨bs3 HB GE296 GE297 GE298⟩⟩
      case rest =>
       clear HC96
       try clear c1
       try clear c2
       try clear p2
       try clear c3
       try clear p3
       try clear q3
       try clear hx3
       try clear c4
       try clear c5
       try clear c6
       try clear p6
       try clear c7
       try clear c8
       try clear c9
       try clear c10
       try clear c11
       try clear c14
       try clear c18
       try clear c19
       try clear c22
       try clear c23
       try clear c24
       try clear c26
       try clear c27
       try clear c29
       try clear c29b0
       try clear c30
       try clear c30b0
       try clear p30
       try clear q30
       try clear hx30
       try clear c31
       try clear c31b0
       try clear c32
       try clear c32b0
       try clear c33
       try clear c35
       try clear c36
       try clear c37
       try clear c38
       try clear c39
       try clear c40
       try clear c43
       try clear c43b0
       try clear c44
       try clear c45
       try clear c47
       try clear c48
       try clear c49
       try clear c51
       try clear c52
       try clear c55
       try clear c56
       try clear c58
       try clear c59
       try clear c60
       try clear c62
       try clear c63
       try clear p64
       try clear c68
       try clear c68b0
       try clear c68b1
       try clear c70
       try clear c71
       try clear c72
       try clear c74
       try clear c75
       try clear c77
       try clear c77b0
       try clear c77b1
       try clear c79
       try clear c80
       try clear c81
       try clear c83
       try clear c84
       try clear c87
       try clear c88
       try clear c89
       try clear c91
       try clear c92
       try clear c94
       try clear c97
       try clear c98
       try clear c99
       try clear c100
       try clear hcz101_0 hcz101_1
       try clear hcz12_0 hcz12_1 hcz12_2
       try clear hcz15_0 hcz15_1
       try clear hcz16_0 hcz16_1 hcz16_2
       try clear hcz20_0 hcz20_1 hcz20_2
       try clear hcz25_0 hcz25_1 hcz25_2
       try clear hcz28_0 hcz28_1 hcz28_2
       try clear hcz38_0 hcz38_1
       try clear hcz41_0 hcz41_1
       try clear hcz50_0 hcz50_1
       try clear hcz53_0 hcz53_1
       try clear hcz61_0 hcz61_1
       try clear hcz64_0 hcz64_1
       try clear hcz66_0 hcz66_1
       try clear hcz73_0 hcz73_1
       try clear hcz76_0 hcz76_1
       try clear hcz82_0 hcz82_1
       try clear hcz85_0 hcz85_1
       try clear hcz90_0 hcz90_1
       try clear hcz93_0 hcz93_1
       try clear hcz95_0 hcz95_1 hcz95_2
       try clear hfz101_0 hfz101_1
       try clear hfz12_0 hfz12_1 hfz12_2
       try clear hfz15_0 hfz15_1
       try clear hfz16_0 hfz16_1 hfz16_2
       try clear hfz20_0 hfz20_1 hfz20_2
       try clear hfz25_0 hfz25_1 hfz25_2
       try clear hfz28_0 hfz28_1 hfz28_2
       try clear hfz38_0 hfz38_1
       try clear hfz41_0 hfz41_1
       try clear hfz50_0 hfz50_1
       try clear hfz53_0 hfz53_1
       try clear hfz61_0 hfz61_1
       try clear hfz64_0 hfz64_1
       try clear hfz66_0 hfz66_1
       try clear hfz73_0 hfz73_1
       try clear hfz76_0 hfz76_1
       try clear hfz82_0 hfz82_1
       try clear hfz85_0 hfz85_1
       try clear hfz90_0 hfz90_1
       try clear hfz93_0 hfz93_1
       try clear hfz95_0 hfz95_1 hfz95_2
       try clear hx301_0
       try clear hx301_1
       try clear p2
       try clear p301
       try clear q301
       obtain ⟨kq, x6_95, HA, HJ95, HO_6, BK296, BK297, BK298, HB⟩ := hcut
       cases kq with
       | zero => exact absurd HA.out (by simp [spec_GiveRoom.j2])
       | succ kj95 =>
        have H := HA.out;clear HA;simp only [spec_GiveRoom.j2] at H;replace H := Option.bind_eq_some_iff.mp H;obtain ⟨⟨t318, t319, t322⟩, A1030, H⟩ := H
        try dsimp only at H
        have A103 := Ah A1030;clear A1030;replace H := Option.bind_eq_some_iff.mp H;obtain ⟨t326, A1040, H⟩ := H
        try dsimp only at H
        have A104 := Ah A1040;clear A1040
        by_cases c105 : t326 = true
        rotate_left
        ·
         replace c105 := Bool.eq_false_iff.mpr c105;subst c105;rw [if_neg fne] at H;simp only [Option.some.injEq, Prod.mk.injEq] at H;obtain ⟨rfl, rfl, rfl, rfl⟩ := H;have hnb122 := NB296_297.out;have hnc122 := NB297_296.out;have hnb123 := NB296_298.out;have hnc123 := NB298_296.out;obtain ⟨hcz124_0, hcz124_1, hcz124_2⟩ := cz3 BK296;obtain ⟨hfz124_0, hfz124_1, hfz124_2⟩ := fz3 BK296;obtain ⟨Ao125, co125, eo125⟩ := Kd.R_slice HO_6.out;subst eo125
         go_wp2_with (first | ((with_reducible refine gate_callee (f := 29) rfl ?_); refine gL (some 104) rfl rfl Try.func29 (by kernel_rfl) rfl #[.int .i64 a0_0, .slice Ao125 x6_95.length co125] rfl ?_; (with_reducible refine (spec_l5Of.calls kj95 a0_0 _ _ x6_95 t318 t319 t322 _ ?side1 ?side2 A103.out).mono ?_); (case side1 => exact rc0 HO_6); (case side2 => exact (Kd.R_reads' HO_6.out).2.1); rintro e w126 ⟨v320, v323, rfl, ho0, ho1, hb⟩; refine ⟨_, rfl, ?_⟩; have HO321 := Ah (Kd.R_lower (Kd.R_newB (Kd.R_new' ho0 (Kd.R_lt (rr HO_6.out))) (g := gb297) (o := .cells #[.int .i64 x298000_2, .int .i64 x298001_2] 40 (0, 0)) (bk BK297)) (below_size (bs3 HB GE296 GE297 GE298))); have HO324 := Ah (Kd.R_lower (Kd.R_newB (Kd.R_new' ho1 (Kd.R_lt (rr HO_6.out))) (g := gb297) (o := .cells #[.int .i64 x298000_2, .int .i64 x298001_2] 40 (0, 0)) (bk BK297)) (below_size (bs3 HB GE296 GE297 GE298))); replace HO_6 := Ah (Kd.R_mono (Kd.R_told (Kd.R_told (Kd.R_old (rr HO_6.out) hb) (Kd.R_base ho0)) (Kd.R_base ho1)) (fun _ h_ => h_.1)); replace BK296 := nb BK296 hb; replace BK297 := nb BK297 hb; replace BK298 := nb BK298 hb; replace HB := Ah (below_step (bs3 HB GE296 GE297 GE298) hb); (try clear hb ho0 ho1)) | ((with_reducible refine gate_dst (N := 10) rfl ?_); refine boxL 10 33 #[.int .i64 0, .slice none 0 0, .slice none 0 0] ?_; intro gb325 hg w127 BK325 hb; replace HO_6 := nr HO_6 hb; replace HO321 := nr HO321 hb; replace HO324 := nr HO324 hb; have GW325 := gw hg (bs3 HB GE296 GE297 GE298); have GE325 := gw hg (bs3 HB GE296 GE297 GE298); replace HB := Ah (below_step (bs3 HB GE296 GE297 GE298) hb); have NB296_325 := nn BK296 hg; have NB325_296 := nm BK296 hg; replace BK296 := nb BK296 hb; have NB297_325 := nn BK297 hg; have NB325_297 := nm BK297 hg; replace BK297 := nb BK297 hb; have NB298_325 := nn BK298 hg; have NB325_298 := nm BK298 hg; replace BK298 := nb BK298 hb; clear hb hg; have hnb128 := NB325_296.out; have hnc128 := NB296_325.out; have hnb129 := NB325_297.out; have hnc129 := NB297_325.out; have hnb130 := NB325_298.out; have hnc130 := NB298_325.out; obtain ⟨hcz131_0, hcz131_1, hcz131_2⟩ := cz3 BK325; obtain ⟨hfz131_0, hfz131_1, hfz131_2⟩ := fz3 BK325; obtain ⟨Ao132, co132, eo132⟩ := Kd.R_slice HO321.out; subst eo132; obtain ⟨Ao133, co133, eo133⟩ := Kd.R_slice HO324.out; subst eo133) | ((with_reducible refine gate_callee (f := 38) rfl ?_); refine gL (some 106) rfl rfl Try.func38 (by kernel_rfl) rfl #[.agg #[.int .i64 t318, .slice Ao132 t319.length co132, .slice Ao133 t322.length co133]] rfl ?_; (with_reducible refine (spec_GoodFree.calls kj95 t318 _ _ t319 _ _ t322 false _ ?side1 ?side2 ?side3 ?side4 A104.out).mono ?_); (case side1 => exact rc HO321 BK325); (case side2 => exact (Kd.R_reads' HO321.out).2.1); (case side3 => exact rc HO324 BK325); (case side4 => exact (Kd.R_reads' HO324.out).2.1); rintro e w134 ⟨rfl, hb⟩; refine ⟨_, rfl, ?_⟩; replace HO_6 := nf HO_6 BK325 hb; replace HO321 := nf HO321 BK325 hb; replace HO324 := nf HO324 BK325 hb; replace BK296 := Ah (blk_below (bf BK296 NB296_325) hb); replace BK297 := Ah (blk_below (bf BK297 NB297_325) hb); replace BK298 := Ah (blk_below (bf BK298 NB298_325) hb); replace BK325 := Ah (blk_below (g := gb325) (o := .cells #[.int .i64 t318, .slice Ao132 t319.length co132, .slice Ao133 t322.length co133] 33 (0, 0)) (by (with_reducible repeat (first | refine blk_drewN ?_ _ | refine blk_drew ?_ | refine blk_alloc ?_ _)); refine blk_put (cs := #[.int .i64 t318, .slice Ao132 t319.length co132, .slice none 0 0]) ?_ 2 _ rfl; (with_reducible repeat (first | refine blk_drewN ?_ _ | refine blk_drew ?_ | refine blk_alloc ?_ _)); refine blk_put (cs := #[.int .i64 t318, .slice none 0 0, .slice none 0 0]) ?_ 1 _ rfl; (with_reducible repeat (first | refine blk_drewN ?_ _ | refine blk_drew ?_ | refine blk_alloc ?_ _)); refine blk_put (cs := #[.int .i64 0, .slice none 0 0, .slice none 0 0]) ?_ 0 _ rfl; (with_reducible repeat (first | refine blk_drewN ?_ _ | refine blk_drew ?_ | refine blk_alloc ?_ _)); exact BK325.out) hb); replace HB := Ah (below_step (bs4 HB GE296 GE297 GE298 GE325) hb); (try clear hb); have hnb135 := NB298_297.out; have hnc135 := NB297_298.out; obtain ⟨hcz136_0, hcz136_1, hcz136_2⟩ := cz3 BK298; obtain ⟨hfz136_0, hfz136_1, hfz136_2⟩ := fz3 BK298))
         refine bodyPost_ret (results_ct rfl _ _ gb298 33 #[.int .i64 0, .slice none 0 0, .slice none 0 0] (0, 0) _ rfl (by (with_reducible repeat (first | refine blk_drewN ?_ _ | refine blk_drew ?_ | refine blk_alloc ?_ _)); refine blk_put (cs := #[.int .i64 0, .slice none 0 0, .slice none 0 0]) ?_ 2 _ rfl; (with_reducible repeat (first | refine blk_drewN ?_ _ | refine blk_drew ?_ | refine blk_alloc ?_ _)); refine blk_put (cs := #[.int .i64 0, .slice none 0 0, .slice none 0 0]) ?_ 1 _ rfl; (with_reducible repeat (first | refine blk_drewN ?_ _ | refine blk_drew ?_ | refine blk_alloc ?_ _)); refine blk_put (cs := #[.int .i64 x299000_2, .slice none 0 0, .slice none 0 0]) ?_ 0 _ rfl; (with_reducible repeat (first | refine blk_drewN ?_ _ | refine blk_drew ?_ | refine blk_alloc ?_ _)); exact BK298.out) Try.underlying33 rfl (by kernel_rfl)) rfl ?_;exact ⟨_, _, er, by first | exact Kd.R_nil _ _ _ _ _ | exact Kd.N_nil _ _ _ _ _ | exact Kd.V_nil _ _ _ _ _ | exact Kd.Q_nil _ _ _ _ _ | exact Kd.S_nil _ _ _ _ _, by first | exact Kd.R_nil _ _ _ _ _ | exact Kd.N_nil _ _ _ _ _ | exact Kd.V_nil _ _ _ _ _ | exact Kd.Q_nil _ _ _ _ _ | exact Kd.S_nil _ _ _ _ _, bs4 HB GE296 GE297 GE298 GE325⟩
        subst c105;rw [if_pos rfl] at H;simp only [Option.some.injEq, Prod.mk.injEq] at H;obtain ⟨rfl, rfl, rfl, rfl⟩ := H;have hnb106 := NB296_297.out;have hnc106 := NB297_296.out;have hnb107 := NB296_298.out;have hnc107 := NB298_296.out;obtain ⟨hcz108_0, hcz108_1, hcz108_2⟩ := cz3 BK296;obtain ⟨hfz108_0, hfz108_1, hfz108_2⟩ := fz3 BK296;obtain ⟨Ao109, co109, eo109⟩ := Kd.R_slice HO_6.out;subst eo109
        go_wp2_with (first | ((with_reducible refine gate_callee (f := 29) rfl ?_); refine gL (some 104) rfl rfl Try.func29 (by kernel_rfl) rfl #[.int .i64 a0_0, .slice Ao109 x6_95.length co109] rfl ?_; (with_reducible refine (spec_l5Of.calls kj95 a0_0 _ _ x6_95 t318 t319 t322 _ ?side1 ?side2 A103.out).mono ?_); (case side1 => exact rc0 HO_6); (case side2 => exact (Kd.R_reads' HO_6.out).2.1); rintro e w110 ⟨v320, v323, rfl, ho0, ho1, hb⟩; refine ⟨_, rfl, ?_⟩; have HO321 := Ah (Kd.R_lower (Kd.R_newB (Kd.R_new' ho0 (Kd.R_lt (rr HO_6.out))) (g := gb297) (o := .cells #[.int .i64 x298000_2, .int .i64 x298001_2] 40 (0, 0)) (bk BK297)) (below_size (bs3 HB GE296 GE297 GE298))); have HO324 := Ah (Kd.R_lower (Kd.R_newB (Kd.R_new' ho1 (Kd.R_lt (rr HO_6.out))) (g := gb297) (o := .cells #[.int .i64 x298000_2, .int .i64 x298001_2] 40 (0, 0)) (bk BK297)) (below_size (bs3 HB GE296 GE297 GE298))); replace HO_6 := Ah (Kd.R_mono (Kd.R_told (Kd.R_told (Kd.R_old (rr HO_6.out) hb) (Kd.R_base ho0)) (Kd.R_base ho1)) (fun _ h_ => h_.1)); replace BK296 := nb BK296 hb; replace BK297 := nb BK297 hb; replace BK298 := nb BK298 hb; replace HB := Ah (below_step (bs3 HB GE296 GE297 GE298) hb); (try clear hb ho0 ho1)) | ((with_reducible refine gate_dst (N := 10) rfl ?_); refine boxL 10 33 #[.int .i64 0, .slice none 0 0, .slice none 0 0] ?_; intro gb325 hg w111 BK325 hb; replace HO_6 := nr HO_6 hb; replace HO321 := nr HO321 hb; replace HO324 := nr HO324 hb; have GW325 := gw hg (bs3 HB GE296 GE297 GE298); have GE325 := gw hg (bs3 HB GE296 GE297 GE298); replace HB := Ah (below_step (bs3 HB GE296 GE297 GE298) hb); have NB296_325 := nn BK296 hg; have NB325_296 := nm BK296 hg; replace BK296 := nb BK296 hb; have NB297_325 := nn BK297 hg; have NB325_297 := nm BK297 hg; replace BK297 := nb BK297 hb; have NB298_325 := nn BK298 hg; have NB325_298 := nm BK298 hg; replace BK298 := nb BK298 hb; clear hb hg; have hnb112 := NB325_296.out; have hnc112 := NB296_325.out; have hnb113 := NB325_297.out; have hnc113 := NB297_325.out; have hnb114 := NB325_298.out; have hnc114 := NB298_325.out; obtain ⟨hcz115_0, hcz115_1, hcz115_2⟩ := cz3 BK325; obtain ⟨hfz115_0, hfz115_1, hfz115_2⟩ := fz3 BK325; obtain ⟨Ao116, co116, eo116⟩ := Kd.R_slice HO321.out; subst eo116; obtain ⟨Ao117, co117, eo117⟩ := Kd.R_slice HO324.out; subst eo117) | ((with_reducible refine gate_callee (f := 38) rfl ?_); refine gL (some 106) rfl rfl Try.func38 (by kernel_rfl) rfl #[.agg #[.int .i64 t318, .slice Ao116 t319.length co116, .slice Ao117 t322.length co117]] rfl ?_; (with_reducible refine (spec_GoodFree.calls kj95 t318 _ _ t319 _ _ t322 true _ ?side1 ?side2 ?side3 ?side4 A104.out).mono ?_); (case side1 => exact rc HO321 BK325); (case side2 => exact (Kd.R_reads' HO321.out).2.1); (case side3 => exact rc HO324 BK325); (case side4 => exact (Kd.R_reads' HO324.out).2.1); rintro e w118 ⟨rfl, hb⟩; refine ⟨_, rfl, ?_⟩; replace HO_6 := nf HO_6 BK325 hb; replace HO321 := nf HO321 BK325 hb; replace HO324 := nf HO324 BK325 hb; replace BK296 := Ah (blk_below (bf BK296 NB296_325) hb); replace BK297 := Ah (blk_below (bf BK297 NB297_325) hb); replace BK298 := Ah (blk_below (bf BK298 NB298_325) hb); replace BK325 := Ah (blk_below (g := gb325) (o := .cells #[.int .i64 t318, .slice Ao116 t319.length co116, .slice Ao117 t322.length co117] 33 (0, 0)) (by (with_reducible repeat (first | refine blk_drewN ?_ _ | refine blk_drew ?_ | refine blk_alloc ?_ _)); refine blk_put (cs := #[.int .i64 t318, .slice Ao116 t319.length co116, .slice none 0 0]) ?_ 2 _ rfl; (with_reducible repeat (first | refine blk_drewN ?_ _ | refine blk_drew ?_ | refine blk_alloc ?_ _)); refine blk_put (cs := #[.int .i64 t318, .slice none 0 0, .slice none 0 0]) ?_ 1 _ rfl; (with_reducible repeat (first | refine blk_drewN ?_ _ | refine blk_drew ?_ | refine blk_alloc ?_ _)); refine blk_put (cs := #[.int .i64 0, .slice none 0 0, .slice none 0 0]) ?_ 0 _ rfl; (with_reducible repeat (first | refine blk_drewN ?_ _ | refine blk_drew ?_ | refine blk_alloc ?_ _)); exact BK325.out) hb); replace HB := Ah (below_step (bs4 HB GE296 GE297 GE298 GE325) hb); (try clear hb); obtain ⟨hcz119_0, hcz119_1, hcz119_2⟩ := cz3 BK325; obtain ⟨hfz119_0, hfz119_1, hfz119_2⟩ := fz3 BK325; have hnb120 := NB298_297.out; have hnc120 := NB297_298.out; obtain ⟨hcz121_0, hcz121_1, hcz121_2⟩ := cz3 BK298; obtain ⟨hfz121_0, hfz121_1, hfz121_2⟩ := fz3 BK298))
        refine bodyPost_ret (results_ct rfl _ _ gb298 33 #[.int .i64 t318, .slice Ao116 t319.length co116, .slice Ao117 t322.length co117] (0, 0) _ rfl (by (with_reducible repeat (first | refine blk_drewN ?_ _ | refine blk_drew ?_ | refine blk_alloc ?_ _)); refine blk_put (cs := #[.int .i64 t318, .slice Ao116 t319.length co116, .slice none 0 0]) ?_ 2 _ rfl; (with_reducible repeat (first | refine blk_drewN ?_ _ | refine blk_drew ?_ | refine blk_alloc ?_ _)); refine blk_put (cs := #[.int .i64 t318, .slice none 0 0, .slice none 0 0]) ?_ 1 _ rfl; (with_reducible repeat (first | refine blk_drewN ?_ _ | refine blk_drew ?_ | refine blk_alloc ?_ _)); refine blk_put (cs := #[.int .i64 x299000_2, .slice none 0 0, .slice none 0 0]) ?_ 0 _ rfl; (with_reducible repeat (first | refine blk_drewN ?_ _ | refine blk_drew ?_ | refine blk_alloc ?_ _)); exact BK298.out) Try.underlying33 rfl (by kernel_rfl)) rfl ?_;exact ⟨_, _, er, by (with_reducible repeat (first | apply Kd.R_alloc | apply Kd.R_drewN | apply Kd.R_drew)); exact Kd.R_mono (Kd.R_far (p := ⟨gb298, 2, none⟩) (Kd.R_far (p := ⟨gb298, 1, none⟩) (Kd.R_far (p := ⟨gb298, 0, none⟩) (Kd.R_types HO321.out BK298.out (by decide)) (fun _ hk => hk.2) (.int .i64 t318)) (fun _ hk => hk.2) (.slice Ao116 t319.length co116)) (fun _ hk => hk.2) (.slice Ao117 t322.length co117)) (fun _ hk => hk.1.1.1), by (with_reducible repeat (first | apply Kd.R_alloc | apply Kd.R_drewN | apply Kd.R_drew)); exact Kd.R_mono (Kd.R_far (p := ⟨gb298, 2, none⟩) (Kd.R_far (p := ⟨gb298, 1, none⟩) (Kd.R_far (p := ⟨gb298, 0, none⟩) (Kd.R_types HO324.out BK298.out (by decide)) (fun _ hk => hk.2) (.int .i64 t318)) (fun _ hk => hk.2) (.slice Ao116 t319.length co116)) (fun _ hk => hk.2) (.slice Ao117 t322.length co117)) (fun _ hk => hk.1.1.1), bs4 HB GE296 GE297 GE298 GE325⟩
     rw [if_pos c29] at H;have c29b0 : decide (x25_2 < (l0_1.length : Int)) = true := decide_eq_true c29;clear c29
     by_cases c30 : 0 ≤ x25_2
     rotate_left
     ·
      rw [if_neg c30] at H;exact absurd H (by simp)
     rw [if_pos c30] at H;have c30b0 : decide (0 ≤ x25_2) = true := decide_eq_true c30;clear c30
     by_cases c31 : x25_2 < (l0_1.length : Int)
     rotate_left
     ·
      rw [if_neg c31] at H;exact absurd H (by simp)
     rw [if_pos c31] at H;have c31b0 : decide (x25_2 < (l0_1.length : Int)) = true := decide_eq_true c31;clear c31
     by_cases c32 : (wrap64 (((rd_T40 l0_1 x25_2).f0) + ((rd_T40 l0_1 x25_2).f1))) < x298000_2
     ·
      rw [if_pos c32] at H;have c32b0 : decide ((wrap64 (((rd_T40 l0_1 x25_2).f0) + ((rd_T40 l0_1 x25_2).f1))) < x298000_2) = true := decide_eq_true c32;clear c32
      by_cases c33 : x6_2.length < 8796093022208
      rotate_left
      ·
       rw [if_neg c33] at H;exact absurd H (by simp)
      rw [if_pos c33] at H;have LMc33 := Ah c33;clear c33;obtain ⟨y303, hy303⟩ : ∃ y_ : List (S40), y_ = (x6_2 ++ [(⟨(rd_T40 l0_1 x25_2).f0, (rd_T40 l0_1 x25_2).f1⟩ : S40)]) := ⟨_, rfl⟩
      replace H : (spec_GiveRoom.l0 k2 y303 x7_2 l0_1 (l0_1.length : Int) (wrap64 (x25_2 + 1)) a0_0 l0_1 l0_2 x298000_2 x298001_2) = some (r1, r2, r3, r4) := by first | (rw [hy303]; with_reducible exact H) | (have H2_ := (Option.bind_some _ _).symm.trans H; rw [hy303]; with_reducible exact H2_) | (have H2_ := (Option.bind_some _ _).symm.trans H; with_reducible exact H2_) | with_reducible exact H | (rw [hy303]; exact H) | exact H
      have Ny303 := Ah hy303;clear hy303;have H' := Ah H;clear H;have p301 : 0 ≤ (x25_2 : Int) := od;have q301 : x25_2 < (l0_1.length : Int) := od;obtain ⟨ad301, e301, hx301_0, hx301_1⟩ := at_T40 HR0_1.out x25_2 p301 q301
      cases e301
      replace hx301_0 := (HB.out.cell (World.block_lt_of_cell? w _ hx301_0)).trans hx301_0;replace hx301_1 := (HB.out.cell (World.block_lt_of_cell? w _ hx301_1)).trans hx301_1;replace p301 := eq_true p301;replace q301 := eq_true q301
      go_wp2_with (first | ((with_reducible refine gate_dst (N := 9) rfl ?_); refine boxL 9 40 #[.int .i64 0, .int .i64 0] ?_; intro gb302 hg w34 BK302 hb; replace HO_6 := Ah (Kd.R_below (Kd.R_elderB (rr HO_6.out) gb302 (Nat.le_of_eq hg.symm)) hb); have GW302 := gw hg (bs3 HB GE296 GE297 GE298); have GE302 := gw hg (bs3 HB GE296 GE297 GE298); replace HB := Ah (below_step (bs3 HB GE296 GE297 GE298) hb); have NB296_302 := nn BK296 hg; have NB302_296 := nm BK296 hg; replace BK296 := nb BK296 hb; have NB297_302 := nn BK297 hg; have NB302_297 := nm BK297 hg; replace BK297 := nb BK297 hb; have NB298_302 := nn BK298 hg; have NB302_298 := nm BK298 hg; replace BK298 := nb BK298 hb; clear hb hg; have hnb35 := NB302_296.out; have hnc35 := NB296_302.out; have hnb36 := NB302_297.out; have hnc36 := NB297_302.out; have hnb37 := NB302_298.out; have hnc37 := NB298_302.out; obtain ⟨hcz38_0, hcz38_1⟩ := cz2 BK302; obtain ⟨hfz38_0, hfz38_1⟩ := fz2 BK302; have hnb39 := NB297_296.out; have hnc39 := NB296_297.out; have hnb40 := NB297_298.out; have hnc40 := NB298_297.out; obtain ⟨hcz41_0, hcz41_1⟩ := cz2 BK297; obtain ⟨hfz41_0, hfz41_1⟩ := fz2 BK297) | ((with_reducible refine gate_builtin (b := .append) (xs := #[.tmp 39, .tmp 41]) rfl ?_); at_builtin; refine Kd.R_append k40 (w0 := w) w.heap.size rfl (.tmp 39) (.tmp 41) 31 40 (.agg #[(.int .i64 0), (.int .i64 0)]) 16 rfl Try.underlying31 info40 rfl (by decide) (by omega) u6 x6_2 (⟨(rd_T40 l0_1 x25_2).f0, (rd_T40 l0_1 x25_2).f1⟩ : S40) [.int .i64 ((rd_T40 l0_1 x25_2).f0), .int .i64 ((rd_T40 l0_1 x25_2).f1)] (fun k_ => k_ ≠ gb297 ∧ k_ ≠ gb302) (fun _ => False) rfl (by first | (go_simp; done) | (go_simp; rfl)) ?aP (fun _ hk => hk.elim) ?aF ?aO ?aB ?aS ?aL ?_; (case aP => exact k40_mkM _ _ _ (⟨(rd_T40 l0_1 x25_2).f0, (rd_T40 l0_1 x25_2).f1⟩ : S40)); (case aB => exact (bs4 HB GE296 GE297 GE298 GE302)); (case aF => exact (fun k_ hk => ⟨Kd.freshB (bf BK297 NB297_302) k_ hk, Kd.freshB (g := gb302) (o := .cells #[.int .i64 ((rd_T40 l0_1 x25_2).f0), .int .i64 ((rd_T40 l0_1 x25_2).f1)] 40 (0, 0)) (by (with_reducible repeat (first | refine blk_drewN ?_ _ | refine blk_drew ?_ | refine blk_alloc ?_ _)); refine blk_put (cs := #[.int .i64 ((rd_T40 l0_1 x25_2).f0), .int .i64 0]) ?_ 1 _ rfl; (with_reducible repeat (first | refine blk_drewN ?_ _ | refine blk_drew ?_ | refine blk_alloc ?_ _)); refine blk_put (cs := #[.int .i64 0, .int .i64 0]) ?_ 0 _ rfl; (with_reducible repeat (first | refine blk_drewN ?_ _ | refine blk_drew ?_ | refine blk_alloc ?_ _)); exact BK302.out) k_ hk⟩)); (case aO => exact (by (with_reducible repeat (first | apply Kd.R_alloc | apply Kd.R_drewN | apply Kd.R_drew)); exact Kd.R_mono (Kd.R_far (p := ⟨gb302, 1, none⟩) (Kd.R_far (p := ⟨gb302, 0, none⟩) (Kd.R_mono HO_6.out (fun k_ hk => (⟨hk, hk.2⟩ : _ ∧ k_ ≠ gb302))) (fun _ hk => hk.2) (.int .i64 ((rd_T40 l0_1 x25_2).f0))) (fun _ hk => hk.2) (.int .i64 ((rd_T40 l0_1 x25_2).f1))) (fun _ hk => ⟨hk.1.1, hk.1.2⟩))); (case aS => exact (below_size (bs4 HB GE296 GE297 GE298 GE302))); (case aL => have := LMc33.out; omega); intro v304 w42 ho hb hg hat; rw [← Ny303.out] at ho; replace BK296 := Ah (blk_grown (bf BK296 NB296_302) hg (Kd.R_ne HO_6.out BK296.out (by decide))); replace BK297 := Ah (blk_grown (bf BK297 NB297_302) hg (Kd.R_away HO_6.out (fun _ hk => hk.1))); replace BK298 := Ah (blk_grown (bf BK298 NB298_302) hg (Kd.R_ne HO_6.out BK298.out (by decide))); replace BK302 := Ah (blk_grown (g := gb302) (o := .cells #[.int .i64 ((rd_T40 l0_1 x25_2).f0), .int .i64 ((rd_T40 l0_1 x25_2).f1)] 40 (0, 0)) (by (with_reducible repeat (first | refine blk_drewN ?_ _ | refine blk_drew ?_ | refine blk_alloc ?_ _)); refine blk_put (cs := #[.int .i64 ((rd_T40 l0_1 x25_2).f0), .int .i64 0]) ?_ 1 _ rfl; (with_reducible repeat (first | refine blk_drewN ?_ _ | refine blk_drew ?_ | refine blk_alloc ?_ _)); refine blk_put (cs := #[.int .i64 0, .int .i64 0]) ?_ 0 _ rfl; (with_reducible repeat (first | refine blk_drewN ?_ _ | refine blk_drew ?_ | refine blk_alloc ?_ _)); exact BK302.out) hg (Kd.R_away HO_6.out (fun _ hk => hk.2))); replace HB := Ah (hb); have HO305 := Ah (ho); clear HO_6; clear ho hb hg hat))
      go_roundg k2
      case measure => have := HJ2.out; have := HK2.out; omega
      case rel => exact ⟨(y303), (x7_2), (wrap64 (x25_2 + 1)), (x298000_2), (x298001_2), (x299000_2), e3, e3, H', ⟨by have := HJ2.out; have := HK2.out; omega⟩, rm HO305 (fun _ hk => hk.1), ⟨bk BK296⟩, ⟨bk BK297⟩, ⟨bk BK298⟩, ⟨bs4 HB GE296 GE297 GE298 GE302⟩⟩
     rw [if_neg c32] at H;have c32b0 : decide ((wrap64 (((rd_T40 l0_1 x25_2).f0) + ((rd_T40 l0_1 x25_2).f1))) < x298000_2) = false := decide_eq_false c32;clear c32
     by_cases c43 : ((rd_T40 l0_1 x25_2).f0) > (wrap64 (x298000_2 + x298001_2))
     ·
      rw [if_pos c43] at H;have c43b0 : decide ((wrap64 (x298000_2 + x298001_2)) < ((rd_T40 l0_1 x25_2).f0)) = true := decide_eq_true c43;clear c43
      by_cases c44 : x7_2 = true
      ·
       subst c44;rw [if_pos rfl] at H
       by_cases c45 : x6_2.length < 8796093022208
       rotate_left
       ·
        rw [if_neg c45] at H;exact absurd H (by simp)
       rw [if_pos c45] at H;have LMc45 := Ah c45;clear c45;obtain ⟨y306, hy306⟩ : ∃ y_ : List (S40), y_ = (x6_2 ++ [(⟨(rd_T40 l0_1 x25_2).f0, (rd_T40 l0_1 x25_2).f1⟩ : S40)]) := ⟨_, rfl⟩
       replace H : (spec_GiveRoom.l0 k2 y306 true l0_1 (l0_1.length : Int) (wrap64 (x25_2 + 1)) a0_0 l0_1 l0_2 x298000_2 x298001_2) = some (r1, r2, r3, r4) := by first | (rw [hy306]; with_reducible exact H) | (have H2_ := (Option.bind_some _ _).symm.trans H; rw [hy306]; with_reducible exact H2_) | (have H2_ := (Option.bind_some _ _).symm.trans H; with_reducible exact H2_) | with_reducible exact H | (rw [hy306]; exact H) | exact H
       have Ny306 := Ah hy306;clear hy306;have H' := Ah H;clear H;have p301 : 0 ≤ (x25_2 : Int) := od;have q301 : x25_2 < (l0_1.length : Int) := od;obtain ⟨ad301, e301, hx301_0, hx301_1⟩ := at_T40 HR0_1.out x25_2 p301 q301
       cases e301
       replace hx301_0 := (HB.out.cell (World.block_lt_of_cell? w _ hx301_0)).trans hx301_0;replace hx301_1 := (HB.out.cell (World.block_lt_of_cell? w _ hx301_1)).trans hx301_1;replace p301 := eq_true p301;replace q301 := eq_true q301
       go_wp2_with (first | ((with_reducible refine gate_dst (N := 9) rfl ?_); refine boxL 9 40 #[.int .i64 0, .int .i64 0] ?_; intro gb302 hg w46 BK302 hb; replace HO_6 := Ah (Kd.R_below (Kd.R_elderB (rr HO_6.out) gb302 (Nat.le_of_eq hg.symm)) hb); have GW302 := gw hg (bs3 HB GE296 GE297 GE298); have GE302 := gw hg (bs3 HB GE296 GE297 GE298); replace HB := Ah (below_step (bs3 HB GE296 GE297 GE298) hb); have NB296_302 := nn BK296 hg; have NB302_296 := nm BK296 hg; replace BK296 := nb BK296 hb; have NB297_302 := nn BK297 hg; have NB302_297 := nm BK297 hg; replace BK297 := nb BK297 hb; have NB298_302 := nn BK298 hg; have NB302_298 := nm BK298 hg; replace BK298 := nb BK298 hb; clear hb hg; have hnb47 := NB302_296.out; have hnc47 := NB296_302.out; have hnb48 := NB302_297.out; have hnc48 := NB297_302.out; have hnb49 := NB302_298.out; have hnc49 := NB298_302.out; obtain ⟨hcz50_0, hcz50_1⟩ := cz2 BK302; obtain ⟨hfz50_0, hfz50_1⟩ := fz2 BK302; have hnb51 := NB297_296.out; have hnc51 := NB296_297.out; have hnb52 := NB297_298.out; have hnc52 := NB298_297.out; obtain ⟨hcz53_0, hcz53_1⟩ := cz2 BK297; obtain ⟨hfz53_0, hfz53_1⟩ := fz2 BK297) | ((with_reducible refine gate_builtin (b := .append) (xs := #[.tmp 58, .tmp 60]) rfl ?_); at_builtin; refine Kd.R_append k40 (w0 := w) w.heap.size rfl (.tmp 58) (.tmp 60) 31 40 (.agg #[(.int .i64 0), (.int .i64 0)]) 16 rfl Try.underlying31 info40 rfl (by decide) (by omega) u6 x6_2 (⟨(rd_T40 l0_1 x25_2).f0, (rd_T40 l0_1 x25_2).f1⟩ : S40) [.int .i64 ((rd_T40 l0_1 x25_2).f0), .int .i64 ((rd_T40 l0_1 x25_2).f1)] (fun k_ => k_ ≠ gb297 ∧ k_ ≠ gb302) (fun _ => False) rfl (by first | (go_simp; done) | (go_simp; rfl)) ?aP (fun _ hk => hk.elim) ?aF ?aO ?aB ?aS ?aL ?_; (case aP => exact k40_mkM _ _ _ (⟨(rd_T40 l0_1 x25_2).f0, (rd_T40 l0_1 x25_2).f1⟩ : S40)); (case aB => exact (bs4 HB GE296 GE297 GE298 GE302)); (case aF => exact (fun k_ hk => ⟨Kd.freshB (bf BK297 NB297_302) k_ hk, Kd.freshB (g := gb302) (o := .cells #[.int .i64 ((rd_T40 l0_1 x25_2).f0), .int .i64 ((rd_T40 l0_1 x25_2).f1)] 40 (0, 0)) (by (with_reducible repeat (first | refine blk_drewN ?_ _ | refine blk_drew ?_ | refine blk_alloc ?_ _)); refine blk_put (cs := #[.int .i64 ((rd_T40 l0_1 x25_2).f0), .int .i64 0]) ?_ 1 _ rfl; (with_reducible repeat (first | refine blk_drewN ?_ _ | refine blk_drew ?_ | refine blk_alloc ?_ _)); refine blk_put (cs := #[.int .i64 0, .int .i64 0]) ?_ 0 _ rfl; (with_reducible repeat (first | refine blk_drewN ?_ _ | refine blk_drew ?_ | refine blk_alloc ?_ _)); exact BK302.out) k_ hk⟩)); (case aO => exact (by (with_reducible repeat (first | apply Kd.R_alloc | apply Kd.R_drewN | apply Kd.R_drew)); exact Kd.R_mono (Kd.R_far (p := ⟨gb302, 1, none⟩) (Kd.R_far (p := ⟨gb302, 0, none⟩) (Kd.R_mono HO_6.out (fun k_ hk => (⟨hk, hk.2⟩ : _ ∧ k_ ≠ gb302))) (fun _ hk => hk.2) (.int .i64 ((rd_T40 l0_1 x25_2).f0))) (fun _ hk => hk.2) (.int .i64 ((rd_T40 l0_1 x25_2).f1))) (fun _ hk => ⟨hk.1.1, hk.1.2⟩))); (case aS => exact (below_size (bs4 HB GE296 GE297 GE298 GE302))); (case aL => have := LMc45.out; omega); intro v307 w54 ho hb hg hat; rw [← Ny306.out] at ho; replace BK296 := Ah (blk_grown (bf BK296 NB296_302) hg (Kd.R_ne HO_6.out BK296.out (by decide))); replace BK297 := Ah (blk_grown (bf BK297 NB297_302) hg (Kd.R_away HO_6.out (fun _ hk => hk.1))); replace BK298 := Ah (blk_grown (bf BK298 NB298_302) hg (Kd.R_ne HO_6.out BK298.out (by decide))); replace BK302 := Ah (blk_grown (g := gb302) (o := .cells #[.int .i64 ((rd_T40 l0_1 x25_2).f0), .int .i64 ((rd_T40 l0_1 x25_2).f1)] 40 (0, 0)) (by (with_reducible repeat (first | refine blk_drewN ?_ _ | refine blk_drew ?_ | refine blk_alloc ?_ _)); refine blk_put (cs := #[.int .i64 ((rd_T40 l0_1 x25_2).f0), .int .i64 0]) ?_ 1 _ rfl; (with_reducible repeat (first | refine blk_drewN ?_ _ | refine blk_drew ?_ | refine blk_alloc ?_ _)); refine blk_put (cs := #[.int .i64 0, .int .i64 0]) ?_ 0 _ rfl; (with_reducible repeat (first | refine blk_drewN ?_ _ | refine blk_drew ?_ | refine blk_alloc ?_ _)); exact BK302.out) hg (Kd.R_away HO_6.out (fun _ hk => hk.2))); replace HB := Ah (hb); have HO308 := Ah (ho); clear HO_6; clear ho hb hg hat))
       go_roundg k2
       case measure => have := HJ2.out; have := HK2.out; omega
       case rel => exact ⟨(y306), (true), (wrap64 (x25_2 + 1)), (x298000_2), (x298001_2), (x299000_2), e3, e3, H', ⟨by have := HJ2.out; have := HK2.out; omega⟩, rm HO308 (fun _ hk => hk.1), ⟨bk BK296⟩, ⟨bk BK297⟩, ⟨bk BK298⟩, ⟨bs4 HB GE296 GE297 GE298 GE302⟩⟩
      replace c44 := Bool.eq_false_iff.mpr c44;subst c44;rw [if_neg fne] at H
      by_cases c55 : x6_2.length < 8796093022208
      rotate_left
      ·
       rw [if_neg c55] at H;exact absurd H (by simp)
      rw [if_pos c55] at H;have LMc55 := Ah c55;clear c55;obtain ⟨y309, hy309⟩ : ∃ y_ : List (S40), y_ = (x6_2 ++ [(⟨x298000_2, x298001_2⟩ : S40)]) := ⟨_, rfl⟩
      replace H : (if y309.length < 8796093022208 then (spec_GiveRoom.l0 k2 (y309 ++ [(⟨(rd_T40 l0_1 x25_2).f0, (rd_T40 l0_1 x25_2).f1⟩ : S40)]) true l0_1 (l0_1.length : Int) (wrap64 (x25_2 + 1)) a0_0 l0_1 l0_2 x298000_2 x298001_2) else (none)) = some (r1, r2, r3, r4) := by first | (rw [hy309]; with_reducible exact H) | (have H2_ := (Option.bind_some _ _).symm.trans H; rw [hy309]; with_reducible exact H2_) | (have H2_ := (Option.bind_some _ _).symm.trans H; with_reducible exact H2_) | with_reducible exact H | (rw [hy309]; exact H) | exact H
      have Ny309 := Ah hy309;clear hy309
      by_cases c56 : y309.length < 8796093022208
      rotate_left
      ·
       rw [if_neg c56] at H;exact absurd H (by simp)
      rw [if_pos c56] at H;have LMc56 := Ah c56;clear c56;obtain ⟨y312, hy312⟩ : ∃ y_ : List (S40), y_ = (y309 ++ [(⟨(rd_T40 l0_1 x25_2).f0, (rd_T40 l0_1 x25_2).f1⟩ : S40)]) := ⟨_, rfl⟩
      replace H : (spec_GiveRoom.l0 k2 y312 true l0_1 (l0_1.length : Int) (wrap64 (x25_2 + 1)) a0_0 l0_1 l0_2 x298000_2 x298001_2) = some (r1, r2, r3, r4) := by first | (rw [hy312]; with_reducible exact H) | (have H2_ := (Option.bind_some _ _).symm.trans H; rw [hy312]; with_reducible exact H2_) | (have H2_ := (Option.bind_some _ _).symm.trans H; with_reducible exact H2_) | with_reducible exact H | (rw [hy312]; exact H) | exact H
      have Ny312 := Ah hy312;clear hy312;have H' := Ah H;clear H;have p301 : 0 ≤ (x25_2 : Int) := od;have q301 : x25_2 < (l0_1.length : Int) := od;obtain ⟨ad301, e301, hx301_0, hx301_1⟩ := at_T40 HR0_1.out x25_2 p301 q301
      cases e301
      replace hx301_0 := (HB.out.cell (World.block_lt_of_cell? w _ hx301_0)).trans hx301_0;replace hx301_1 := (HB.out.cell (World.block_lt_of_cell? w _ hx301_1)).trans hx301_1;replace p301 := eq_true p301;replace q301 := eq_true q301
      go_wp2_with (first | ((with_reducible refine gate_dst (N := 9) rfl ?_); refine boxL 9 40 #[.int .i64 0, .int .i64 0] ?_; intro gb302 hg w57 BK302 hb; replace HO_6 := Ah (Kd.R_below (Kd.R_elderB (rr HO_6.out) gb302 (Nat.le_of_eq hg.symm)) hb); have GW302 := gw hg (bs3 HB GE296 GE297 GE298); have GE302 := gw hg (bs3 HB GE296 GE297 GE298); replace HB := Ah (below_step (bs3 HB GE296 GE297 GE298) hb); have NB296_302 := nn BK296 hg; have NB302_296 := nm BK296 hg; replace BK296 := nb BK296 hb; have NB297_302 := nn BK297 hg; have NB302_297 := nm BK297 hg; replace BK297 := nb BK297 hb; have NB298_302 := nn BK298 hg; have NB302_298 := nm BK298 hg; replace BK298 := nb BK298 hb; clear hb hg; have hnb58 := NB302_296.out; have hnc58 := NB296_302.out; have hnb59 := NB302_297.out; have hnc59 := NB297_302.out; have hnb60 := NB302_298.out; have hnc60 := NB298_302.out; obtain ⟨hcz61_0, hcz61_1⟩ := cz2 BK302; obtain ⟨hfz61_0, hfz61_1⟩ := fz2 BK302; have hnb62 := NB297_296.out; have hnc62 := NB296_297.out; have hnb63 := NB297_298.out; have hnc63 := NB298_297.out; obtain ⟨hcz64_0, hcz64_1⟩ := cz2 BK297; obtain ⟨hfz64_0, hfz64_1⟩ := fz2 BK297) | ((with_reducible refine gate_builtin (b := .append) (xs := #[.tmp 54, .tmp 56]) rfl ?_); at_builtin; refine Kd.R_append k40 (w0 := w) w.heap.size rfl (.tmp 54) (.tmp 56) 31 40 (.agg #[(.int .i64 0), (.int .i64 0)]) 16 rfl Try.underlying31 info40 rfl (by decide) (by omega) u6 x6_2 (⟨x298000_2, x298001_2⟩ : S40) [.int .i64 x298000_2, .int .i64 x298001_2] (fun k_ => k_ ≠ gb297 ∧ k_ ≠ gb302) (fun _ => False) rfl (by first | (go_simp; done) | (go_simp; rfl)) ?aP (fun _ hk => hk.elim) ?aF ?aO ?aB ?aS ?aL ?_; (case aP => exact k40_mkM _ _ _ (⟨x298000_2, x298001_2⟩ : S40)); (case aB => exact (bs4 HB GE296 GE297 GE298 GE302)); (case aF => exact (fun k_ hk => ⟨Kd.freshB (bf BK297 NB297_302) k_ hk, Kd.freshB (g := gb302) (o := .cells #[.int .i64 ((rd_T40 l0_1 x25_2).f0), .int .i64 ((rd_T40 l0_1 x25_2).f1)] 40 (0, 0)) (by (with_reducible repeat (first | refine blk_drewN ?_ _ | refine blk_drew ?_ | refine blk_alloc ?_ _)); refine blk_put (cs := #[.int .i64 ((rd_T40 l0_1 x25_2).f0), .int .i64 0]) ?_ 1 _ rfl; (with_reducible repeat (first | refine blk_drewN ?_ _ | refine blk_drew ?_ | refine blk_alloc ?_ _)); refine blk_put (cs := #[.int .i64 0, .int .i64 0]) ?_ 0 _ rfl; (with_reducible repeat (first | refine blk_drewN ?_ _ | refine blk_drew ?_ | refine blk_alloc ?_ _)); exact BK302.out) k_ hk⟩)); (case aO => exact (by (with_reducible repeat (first | apply Kd.R_alloc | apply Kd.R_drewN | apply Kd.R_drew)); exact Kd.R_mono (Kd.R_far (p := ⟨gb302, 1, none⟩) (Kd.R_far (p := ⟨gb302, 0, none⟩) (Kd.R_mono HO_6.out (fun k_ hk => (⟨hk, hk.2⟩ : _ ∧ k_ ≠ gb302))) (fun _ hk => hk.2) (.int .i64 ((rd_T40 l0_1 x25_2).f0))) (fun _ hk => hk.2) (.int .i64 ((rd_T40 l0_1 x25_2).f1))) (fun _ hk => ⟨hk.1.1, hk.1.2⟩))); (case aS => exact (below_size (bs4 HB GE296 GE297 GE298 GE302))); (case aL => have := LMc55.out; omega); intro v310 w65 ho hb hg hat; rw [← Ny309.out] at ho; replace BK296 := Ah (blk_grown (bf BK296 NB296_302) hg (Kd.R_ne HO_6.out BK296.out (by decide))); replace BK297 := Ah (blk_grown (bf BK297 NB297_302) hg (Kd.R_away HO_6.out (fun _ hk => hk.1))); replace BK298 := Ah (blk_grown (bf BK298 NB298_302) hg (Kd.R_ne HO_6.out BK298.out (by decide))); replace BK302 := Ah (blk_grown (g := gb302) (o := .cells #[.int .i64 ((rd_T40 l0_1 x25_2).f0), .int .i64 ((rd_T40 l0_1 x25_2).f1)] 40 (0, 0)) (by (with_reducible repeat (first | refine blk_drewN ?_ _ | refine blk_drew ?_ | refine blk_alloc ?_ _)); refine blk_put (cs := #[.int .i64 ((rd_T40 l0_1 x25_2).f0), .int .i64 0]) ?_ 1 _ rfl; (with_reducible repeat (first | refine blk_drewN ?_ _ | refine blk_drew ?_ | refine blk_alloc ?_ _)); refine blk_put (cs := #[.int .i64 0, .int .i64 0]) ?_ 0 _ rfl; (with_reducible repeat (first | refine blk_drewN ?_ _ | refine blk_drew ?_ | refine blk_alloc ?_ _)); exact BK302.out) hg (Kd.R_away HO_6.out (fun _ hk => hk.2))); replace HB := Ah (hb); have HO311 := Ah (ho); clear HO_6; clear ho hb hg hat; obtain ⟨hcz66_0, hcz66_1⟩ := cz2 BK302; obtain ⟨hfz66_0, hfz66_1⟩ := fz2 BK302) | ((with_reducible refine gate_builtin (b := .append) (xs := #[.tmp 58, .tmp 60]) rfl ?_); at_builtin; refine Kd.R_append k40 (w0 := w) w.heap.size rfl (.tmp 58) (.tmp 60) 31 40 (.agg #[(.int .i64 0), (.int .i64 0)]) 16 rfl Try.underlying31 info40 rfl (by decide) (by omega) v310 y309 (⟨(rd_T40 l0_1 x25_2).f0, (rd_T40 l0_1 x25_2).f1⟩ : S40) [.int .i64 ((rd_T40 l0_1 x25_2).f0), .int .i64 ((rd_T40 l0_1 x25_2).f1)] (fun k_ => k_ ≠ gb297 ∧ k_ ≠ gb302) (fun _ => False) rfl rfl ?aP (fun _ hk => hk.elim) ?aF ?aO ?aB ?aS ?aL ?_; (case aP => exact k40_mkM _ _ _ (⟨(rd_T40 l0_1 x25_2).f0, (rd_T40 l0_1 x25_2).f1⟩ : S40)); (case aB => exact (bs4 HB GE296 GE297 GE298 GE302)); (case aF => exact (fun k_ hk => ⟨Kd.freshB (bk BK297) k_ hk, Kd.freshB (bk BK302) k_ hk⟩)); (case aO => exact (rr HO311.out)); (case aS => exact (below_size (bs4 HB GE296 GE297 GE298 GE302))); (case aL => have := LMc56.out; omega); intro v313 w67 ho hb hg hat; rw [← Ny312.out] at ho; replace BK296 := Ah (blk_grown (bk BK296) hg (Kd.R_ne HO311.out BK296.out (by decide))); replace BK297 := Ah (blk_grown (bk BK297) hg (Kd.R_away HO311.out (fun _ hk => hk.1))); replace BK298 := Ah (blk_grown (bk BK298) hg (Kd.R_ne HO311.out BK298.out (by decide))); replace BK302 := Ah (blk_grown (bk BK302) hg (Kd.R_away HO311.out (fun _ hk => hk.2))); replace HB := Ah (hb); have HO314 := Ah (ho); clear HO311; clear ho hb hg hat))
      go_roundg k2
      case measure => have := HJ2.out; have := HK2.out; omega
      case rel => exact ⟨(y312), (true), (wrap64 (x25_2 + 1)), (x298000_2), (x298001_2), (x299000_2), e3, e3, H', ⟨by have := HJ2.out; have := HK2.out; omega⟩, rm HO314 (fun _ hk => hk.1), ⟨bk BK296⟩, ⟨bk BK297⟩, ⟨bk BK298⟩, ⟨bs4 HB GE296 GE297 GE298 GE302⟩⟩
     rw [if_neg c43] at H;have c43b0 : decide ((wrap64 (x298000_2 + x298001_2)) < ((rd_T40 l0_1 x25_2).f0)) = false := decide_eq_false c43;clear c43
     by_cases c68 : (wrap64 (((rd_T40 l0_1 x25_2).f0) + ((rd_T40 l0_1 x25_2).f1))) = x298000_2
     ·
      rw [if_pos c68] at H;have c68b0 : ((wrap64 (((rd_T40 l0_1 x25_2).f0) + ((rd_T40 l0_1 x25_2).f1))) == x298000_2) = true := beq_iff_eq.mpr c68;have c68b1 : ((wrap64 (((rd_T40 l0_1 x25_2).f0) + ((rd_T40 l0_1 x25_2).f1))) != x298000_2) = false := bne_eq_false_iff_eq.mpr c68;clear c68;have H' := Ah H;clear H;have p301 : 0 ≤ (x25_2 : Int) := od;have q301 : x25_2 < (l0_1.length : Int) := od;obtain ⟨ad301, e301, hx301_0, hx301_1⟩ := at_T40 HR0_1.out x25_2 p301 q301
      cases e301
      replace hx301_0 := (HB.out.cell (World.block_lt_of_cell? w _ hx301_0)).trans hx301_0;replace hx301_1 := (HB.out.cell (World.block_lt_of_cell? w _ hx301_1)).trans hx301_1;replace p301 := eq_true p301;replace q301 := eq_true q301
      go_wp2_with (first | ((with_reducible refine gate_dst (N := 9) rfl ?_); refine boxL 9 40 #[.int .i64 0, .int .i64 0] ?_; intro gb302 hg w69 BK302 hb; replace HO_6 := Ah (Kd.R_below (Kd.R_elderB (rr HO_6.out) gb302 (Nat.le_of_eq hg.symm)) hb); have GW302 := gw hg (bs3 HB GE296 GE297 GE298); have GE302 := gw hg (bs3 HB GE296 GE297 GE298); replace HB := Ah (below_step (bs3 HB GE296 GE297 GE298) hb); have NB296_302 := nn BK296 hg; have NB302_296 := nm BK296 hg; replace BK296 := nb BK296 hb; have NB297_302 := nn BK297 hg; have NB302_297 := nm BK297 hg; replace BK297 := nb BK297 hb; have NB298_302 := nn BK298 hg; have NB302_298 := nm BK298 hg; replace BK298 := nb BK298 hb; clear hb hg; have hnb70 := NB302_296.out; have hnc70 := NB296_302.out; have hnb71 := NB302_297.out; have hnc71 := NB297_302.out; have hnb72 := NB302_298.out; have hnc72 := NB298_302.out; obtain ⟨hcz73_0, hcz73_1⟩ := cz2 BK302; obtain ⟨hfz73_0, hfz73_1⟩ := fz2 BK302; have hnb74 := NB297_296.out; have hnc74 := NB296_297.out; have hnb75 := NB297_298.out; have hnc75 := NB298_297.out; obtain ⟨hcz76_0, hcz76_1⟩ := cz2 BK297; obtain ⟨hfz76_0, hfz76_1⟩ := fz2 BK297))
      go_roundg k2
      case measure => have := HJ2.out; have := HK2.out; omega
      case rel => exact ⟨(x6_2), (x7_2), (wrap64 (x25_2 + 1)), ((rd_T40 l0_1 x25_2).f0), (wrap64 (((rd_T40 l0_1 x25_2).f1) + x298001_2)), (x299000_2), e3, e3, H', ⟨by have := HJ2.out; have := HK2.out; omega⟩, ⟨by (with_reducible repeat (first | apply Kd.R_alloc | apply Kd.R_drewN | apply Kd.R_drew)); exact Kd.R_mono (Kd.R_far (p := ⟨gb297, 1, none⟩) (Kd.R_far (p := ⟨gb297, 0, none⟩) (Kd.R_far (p := ⟨gb302, 1, none⟩) (Kd.R_far (p := ⟨gb302, 0, none⟩) (Kd.R_mono (Kd.R_mono HO_6.out (fun k_ hk => (⟨hk, hk.2⟩ : _ ∧ k_ ≠ gb302))) (fun k_ hk => (⟨hk, hk.1.1⟩ : _ ∧ k_ ≠ gb297))) (fun _ hk => hk.1.2) (.int .i64 ((rd_T40 l0_1 x25_2).f0))) (fun _ hk => hk.1.2) (.int .i64 ((rd_T40 l0_1 x25_2).f1))) (fun _ hk => hk.2) (.int .i64 ((rd_T40 l0_1 x25_2).f0))) (fun _ hk => hk.2) (.int .i64 (wrap64 (((rd_T40 l0_1 x25_2).f1) + x298001_2)))) (fun _ hk => hk.1.1.1)⟩, ⟨by (with_reducible repeat (first | refine blk_drewN ?_ _ | refine blk_drew ?_ | refine blk_alloc ?_ _)); refine blk_far ?_ NB296_297.out _; (with_reducible repeat (first | refine blk_drewN ?_ _ | refine blk_drew ?_ | refine blk_alloc ?_ _)); refine blk_far ?_ NB296_297.out _; (with_reducible repeat (first | refine blk_drewN ?_ _ | refine blk_drew ?_ | refine blk_alloc ?_ _)); refine blk_far ?_ NB296_302.out _; (with_reducible repeat (first | refine blk_drewN ?_ _ | refine blk_drew ?_ | refine blk_alloc ?_ _)); refine blk_far ?_ NB296_302.out _; (with_reducible repeat (first | refine blk_drewN ?_ _ | refine blk_drew ?_ | refine blk_alloc ?_ _)); exact BK296.out⟩, ⟨by (with_reducible repeat (first | refine blk_drewN ?_ _ | refine blk_drew ?_ | refine blk_alloc ?_ _)); refine blk_put (cs := #[.int .i64 ((rd_T40 l0_1 x25_2).f0), .int .i64 x298001_2]) ?_ 1 _ rfl; (with_reducible repeat (first | refine blk_drewN ?_ _ | refine blk_drew ?_ | refine blk_alloc ?_ _)); refine blk_put (cs := #[.int .i64 x298000_2, .int .i64 x298001_2]) ?_ 0 _ rfl; (with_reducible repeat (first | refine blk_drewN ?_ _ | refine blk_drew ?_ | refine blk_alloc ?_ _)); refine blk_far ?_ NB297_302.out _; (with_reducible repeat (first | refine blk_drewN ?_ _ | refine blk_drew ?_ | refine blk_alloc ?_ _)); refine blk_far ?_ NB297_302.out _; (with_reducible repeat (first | refine blk_drewN ?_ _ | refine blk_drew ?_ | refine blk_alloc ?_ _)); exact BK297.out⟩, ⟨by (with_reducible repeat (first | refine blk_drewN ?_ _ | refine blk_drew ?_ | refine blk_alloc ?_ _)); refine blk_far ?_ NB298_297.out _; (with_reducible repeat (first | refine blk_drewN ?_ _ | refine blk_drew ?_ | refine blk_alloc ?_ _)); refine blk_far ?_ NB298_297.out _; (with_reducible repeat (first | refine blk_drewN ?_ _ | refine blk_drew ?_ | refine blk_alloc ?_ _)); refine blk_far ?_ NB298_302.out _; (with_reducible repeat (first | refine blk_drewN ?_ _ | refine blk_drew ?_ | refine blk_alloc ?_ _)); refine blk_far ?_ NB298_302.out _; (with_reducible repeat (first | refine blk_drewN ?_ _ | refine blk_drew ?_ | refine blk_alloc ?_ _)); exact BK298.out⟩, ⟨bs4 HB GE296 GE297 GE298 GE302⟩⟩
     rw [if_neg c68] at H;have c68b0 : ((wrap64 (((rd_T40 l0_1 x25_2).f0) + ((rd_T40 l0_1 x25_2).f1))) == x298000_2) = false := beq_eq_false_iff_ne.mpr c68;have c68b1 : ((wrap64 (((rd_T40 l0_1 x25_2).f0) + ((rd_T40 l0_1 x25_2).f1))) != x298000_2) = true := bne_iff_ne.mpr c68
     by_cases c77 : ((rd_T40 l0_1 x25_2).f0) = (wrap64 (x298000_2 + x298001_2))
     rotate_left
     ·
      rw [if_neg c77] at H;have c77b0 : (((rd_T40 l0_1 x25_2).f0) == (wrap64 (x298000_2 + x298001_2))) = false := beq_eq_false_iff_ne.mpr c77;have c77b1 : (((rd_T40 l0_1 x25_2).f0) != (wrap64 (x298000_2 + x298001_2))) = true := bne_iff_ne.mpr c77;simp only [Option.some.injEq, Prod.mk.injEq] at H;obtain ⟨rfl, rfl, rfl, rfl⟩ := H;have p301 : 0 ≤ (x25_2 : Int) := od;have q301 : x25_2 < (l0_1.length : Int) := od;obtain ⟨ad301, e301, hx301_0, hx301_1⟩ := at_T40 HR0_1.out x25_2 p301 q301
      cases e301
      replace hx301_0 := (HB.out.cell (World.block_lt_of_cell? w _ hx301_0)).trans hx301_0;replace hx301_1 := (HB.out.cell (World.block_lt_of_cell? w _ hx301_1)).trans hx301_1;replace p301 := eq_true p301;replace q301 := eq_true q301
      go_wp2_with (first | ((with_reducible refine gate_dst (N := 9) rfl ?_); refine boxL 9 40 #[.int .i64 0, .int .i64 0] ?_; intro gb302 hg w86 BK302 hb; replace HO_6 := Ah (Kd.R_below (Kd.R_elderB (rr HO_6.out) gb302 (Nat.le_of_eq hg.symm)) hb); have GW302 := gw hg (bs3 HB GE296 GE297 GE298); have GE302 := gw hg (bs3 HB GE296 GE297 GE298); replace HB := Ah (below_step (bs3 HB GE296 GE297 GE298) hb); have NB296_302 := nn BK296 hg; have NB302_296 := nm BK296 hg; replace BK296 := nb BK296 hb; have NB297_302 := nn BK297 hg; have NB302_297 := nm BK297 hg; replace BK297 := nb BK297 hb; have NB298_302 := nn BK298 hg; have NB302_298 := nm BK298 hg; replace BK298 := nb BK298 hb; clear hb hg; have hnb87 := NB302_296.out; have hnc87 := NB296_302.out; have hnb88 := NB302_297.out; have hnc88 := NB297_302.out; have hnb89 := NB302_298.out; have hnc89 := NB298_302.out; obtain ⟨hcz90_0, hcz90_1⟩ := cz2 BK302; obtain ⟨hfz90_0, hfz90_1⟩ := fz2 BK302; have hnb91 := NB297_296.out; have hnc91 := NB296_297.out; have hnb92 := NB297_298.out; have hnc92 := NB298_297.out; obtain ⟨hcz93_0, hcz93_1⟩ := cz2 BK297; obtain ⟨hfz93_0, hfz93_1⟩ := fz2 BK297; have hnb94 := NB298_296.out; have hnc94 := NB296_298.out; obtain ⟨hcz95_0, hcz95_1, hcz95_2⟩ := cz3 BK298; obtain ⟨hfz95_0, hfz95_1, hfz95_2⟩ := fz3 BK298))
      refine bodyPost_ret (results_ct rfl _ _ gb298 33 #[.int .i64 0, .slice none 0 0, .slice none 0 0] (0, 0) _ rfl (by (with_reducible repeat (first | refine blk_drewN ?_ _ | refine blk_drew ?_ | refine blk_alloc ?_ _)); refine blk_put (cs := #[.int .i64 0, .slice none 0 0, .slice none 0 0]) ?_ 2 _ rfl; (with_reducible repeat (first | refine blk_drewN ?_ _ | refine blk_drew ?_ | refine blk_alloc ?_ _)); refine blk_put (cs := #[.int .i64 0, .slice none 0 0, .slice none 0 0]) ?_ 1 _ rfl; (with_reducible repeat (first | refine blk_drewN ?_ _ | refine blk_drew ?_ | refine blk_alloc ?_ _)); refine blk_put (cs := #[.int .i64 x299000_2, .slice none 0 0, .slice none 0 0]) ?_ 0 _ rfl; (with_reducible repeat (first | refine blk_drewN ?_ _ | refine blk_drew ?_ | refine blk_alloc ?_ _)); refine blk_far ?_ NB298_302.out _; (with_reducible repeat (first | refine blk_drewN ?_ _ | refine blk_drew ?_ | refine blk_alloc ?_ _)); refine blk_far ?_ NB298_302.out _; (with_reducible repeat (first | refine blk_drewN ?_ _ | refine blk_drew ?_ | refine blk_alloc ?_ _)); exact BK298.out) Try.underlying33 rfl (by kernel_rfl)) rfl ?_;exact ⟨_, _, er, by first | exact Kd.R_nil _ _ _ _ _ | exact Kd.N_nil _ _ _ _ _ | exact Kd.V_nil _ _ _ _ _ | exact Kd.Q_nil _ _ _ _ _ | exact Kd.S_nil _ _ _ _ _, by first | exact Kd.R_nil _ _ _ _ _ | exact Kd.N_nil _ _ _ _ _ | exact Kd.V_nil _ _ _ _ _ | exact Kd.Q_nil _ _ _ _ _ | exact Kd.S_nil _ _ _ _ _, bs4 HB GE296 GE297 GE298 GE302⟩
     rw [if_pos c77] at H;have c77b0 : (((rd_T40 l0_1 x25_2).f0) == (wrap64 (x298000_2 + x298001_2))) = true := beq_iff_eq.mpr c77;have c77b1 : (((rd_T40 l0_1 x25_2).f0) != (wrap64 (x298000_2 + x298001_2))) = false := bne_eq_false_iff_eq.mpr c77;clear c77;have H' := Ah H;clear H;have p301 : 0 ≤ (x25_2 : Int) := od;have q301 : x25_2 < (l0_1.length : Int) := od;obtain ⟨ad301, e301, hx301_0, hx301_1⟩ := at_T40 HR0_1.out x25_2 p301 q301
     cases e301
     replace hx301_0 := (HB.out.cell (World.block_lt_of_cell? w _ hx301_0)).trans hx301_0;replace hx301_1 := (HB.out.cell (World.block_lt_of_cell? w _ hx301_1)).trans hx301_1;replace p301 := eq_true p301;replace q301 := eq_true q301
     go_wp2_with (first | ((with_reducible refine gate_dst (N := 9) rfl ?_); refine boxL 9 40 #[.int .i64 0, .int .i64 0] ?_; intro gb302 hg w78 BK302 hb; replace HO_6 := Ah (Kd.R_below (Kd.R_elderB (rr HO_6.out) gb302 (Nat.le_of_eq hg.symm)) hb); have GW302 := gw hg (bs3 HB GE296 GE297 GE298); have GE302 := gw hg (bs3 HB GE296 GE297 GE298); replace HB := Ah (below_step (bs3 HB GE296 GE297 GE298) hb); have NB296_302 := nn BK296 hg; have NB302_296 := nm BK296 hg; replace BK296 := nb BK296 hb; have NB297_302 := nn BK297 hg; have NB302_297 := nm BK297 hg; replace BK297 := nb BK297 hb; have NB298_302 := nn BK298 hg; have NB302_298 := nm BK298 hg; replace BK298 := nb BK298 hb; clear hb hg; have hnb79 := NB302_296.out; have hnc79 := NB296_302.out; have hnb80 := NB302_297.out; have hnc80 := NB297_302.out; have hnb81 := NB302_298.out; have hnc81 := NB298_302.out; obtain ⟨hcz82_0, hcz82_1⟩ := cz2 BK302; obtain ⟨hfz82_0, hfz82_1⟩ := fz2 BK302; have hnb83 := NB297_296.out; have hnc83 := NB296_297.out; have hnb84 := NB297_298.out; have hnc84 := NB298_297.out; obtain ⟨hcz85_0, hcz85_1⟩ := cz2 BK297; obtain ⟨hfz85_0, hfz85_1⟩ := fz2 BK297))
     go_roundg k2
     case measure => have := HJ2.out; have := HK2.out; omega
     case rel => exact ⟨(x6_2), (x7_2), (wrap64 (x25_2 + 1)), (x298000_2), (wrap64 (x298001_2 + ((rd_T40 l0_1 x25_2).f1))), (x299000_2), e3, e3, H', ⟨by have := HJ2.out; have := HK2.out; omega⟩, ⟨by (with_reducible repeat (first | apply Kd.R_alloc | apply Kd.R_drewN | apply Kd.R_drew)); exact Kd.R_mono (Kd.R_far (p := ⟨gb297, 1, none⟩) (Kd.R_far (p := ⟨gb302, 1, none⟩) (Kd.R_far (p := ⟨gb302, 0, none⟩) (Kd.R_mono (Kd.R_mono HO_6.out (fun k_ hk => (⟨hk, hk.2⟩ : _ ∧ k_ ≠ gb302))) (fun k_ hk => (⟨hk, hk.1.1⟩ : _ ∧ k_ ≠ gb297))) (fun _ hk => hk.1.2) (.int .i64 ((rd_T40 l0_1 x25_2).f0))) (fun _ hk => hk.1.2) (.int .i64 ((rd_T40 l0_1 x25_2).f1))) (fun _ hk => hk.2) (.int .i64 (wrap64 (x298001_2 + ((rd_T40 l0_1 x25_2).f1))))) (fun _ hk => hk.1.1.1)⟩, ⟨by (with_reducible repeat (first | refine blk_drewN ?_ _ | refine blk_drew ?_ | refine blk_alloc ?_ _)); refine blk_far ?_ NB296_297.out _; (with_reducible repeat (first | refine blk_drewN ?_ _ | refine blk_drew ?_ | refine blk_alloc ?_ _)); refine blk_far ?_ NB296_302.out _; (with_reducible repeat (first | refine blk_drewN ?_ _ | refine blk_drew ?_ | refine blk_alloc ?_ _)); refine blk_far ?_ NB296_302.out _; (with_reducible repeat (first | refine blk_drewN ?_ _ | refine blk_drew ?_ | refine blk_alloc ?_ _)); exact BK296.out⟩, ⟨by (with_reducible repeat (first | refine blk_drewN ?_ _ | refine blk_drew ?_ | refine blk_alloc ?_ _)); refine blk_put (cs := #[.int .i64 x298000_2, .int .i64 x298001_2]) ?_ 1 _ rfl; (with_reducible repeat (first | refine blk_drewN ?_ _ | refine blk_drew ?_ | refine blk_alloc ?_ _)); refine blk_far ?_ NB297_302.out _; (with_reducible repeat (first | refine blk_drewN ?_ _ | refine blk_drew ?_ | refine blk_alloc ?_ _)); refine blk_far ?_ NB297_302.out _; (with_reducible repeat (first | refine blk_drewN ?_ _ | refine blk_drew ?_ | refine blk_alloc ?_ _)); exact BK297.out⟩, ⟨by (with_reducible repeat (first | refine blk_drewN ?_ _ | refine blk_drew ?_ | refine blk_alloc ?_ _)); refine blk_far ?_ NB298_297.out _; (with_reducible repeat (first | refine blk_drewN ?_ _ | refine blk_drew ?_ | refine blk_alloc ?_ _)); refine blk_far ?_ NB298_302.out _; (with_reducible repeat (first | refine blk_drewN ?_ _ | refine blk_drew ?_ | refine blk_alloc ?_ _)); refine blk_far ?_ NB298_302.out _; (with_reducible repeat (first | refine blk_drewN ?_ _ | refine blk_drew ?_ | refine blk_alloc ?_ _)); exact BK298.out⟩, ⟨bs4 HB GE296 GE297 GE298 GE302⟩⟩
def spec_RecoverWork.l0 : Nat → List (S56) → Int → Int → Int → List (S40) → List (S40) → Option (Int × (List (S40)) × (List (S40)) × Int × (List (S56)) × Bool)
 | 0, _, _, _, _, _, _ => none
 | k + 1, x34, x35, x36, x340000, x340001, x340002 => if x36 < x35 then (if 0 ≤ x36 then (if x36 < (x34.length : Int) then (if ((rd_T56 x34 x36).f0) = 1 then ((spec_GiveRoom.f k x340000 x340001 x340002 ((rd_T56 x34 x36).f2.f0) ((rd_T56 x34 x36).f2.f1)).bind fun bt342 => (if bt342.2.2.2 = true then (spec_RecoverWork.l0 k x34 x35 (wrap64 (x36 + 1)) bt342.1 bt342.2.1 bt342.2.2.1) else (some (0, ([] : List (S40)), ([] : List (S40)), 0, ([] : List (S56)), false)))) else (spec_RecoverWork.l0 k x34 x35 (wrap64 (x36 + 1)) x340000 x340001 x340002)) else (none)) else (none)) else (some (x340000, x340001, x340002, 1, ([] : List (S56)), true))
def spec_RecoverWork.f (k : Nat) (a0_0 : Int) (l0_1 : List (S40)) (l0_2 : List (S40)) (a0_3 : Int) (l0_4 : List (S56)) (l1 : List (S56)) : Option (Int × (List (S40)) × (List (S40)) × Int × (List (S56)) × Bool) := (spec_GoodWork.f k a0_0 l0_1 l0_2 a0_3 l0_4).bind fun t329 => (if t329 = true then ((spec_l12Items.f k a0_0 l0_1 l0_2 l1).bind fun bt330 => (if bt330.2 = true then ((spec_l5Of.f k a0_0 l0_1).bind fun bt332 => (spec_RecoverWork.l0 k l1 (l1.length : Int) 0 bt332.1 bt332.2.1 bt332.2.2)) else (some (0, ([] : List (S40)), ([] : List (S40)), 0, ([] : List (S56)), false)))) else (some (0, ([] : List (S40)), ([] : List (S40)), 0, ([] : List (S56)), false)))
theorem spec_RecoverWork.mono_l : ∀ k, (∀ y0 y1 y2 y3 y4 y5, LeO (spec_RecoverWork.l0 k y0 y1 y2 y3 y4 y5) (spec_RecoverWork.l0 (k + 1) y0 y1 y2 y3 y4 y5))
 | 0 => fun _ _ _ _ _ _ r h => by simp [spec_RecoverWork.l0] at h
 | k + 1 => by
  have ih0 := spec_RecoverWork.mono_l k
  ·
   intro y0 y1 y2 y3 y4 y5;unfold spec_RecoverWork.l0
   repeat' with_reducible first|exact ih0 _ _ _ _ _ _|exact spec_GiveRoom.mono _ _ _ _ _ _|exact spec_GoodWork.mono _ _ _ _ _ _|exact spec_l12Items.mono _ _ _ _ _|exact spec_l5Of.mono _ _ _|exact LeO.refl _|exact LeO.none _|refine LeO.ite ?_ ?_|refine LeO.bind ?_ (fun _ => ?_)
theorem spec_RecoverWork.mono : ∀ a0 a1 a2 a3 a4 a5 k, LeO (spec_RecoverWork.f k a0 a1 a2 a3 a4 a5) (spec_RecoverWork.f (k + 1) a0 a1 a2 a3 a4 a5) := by
 intro a0 a1 a2 a3 a4 a5 k;have ih0 := spec_RecoverWork.mono_l k;unfold spec_RecoverWork.f
 repeat' with_reducible first|exact ih0 _ _ _ _ _ _|exact spec_GiveRoom.mono _ _ _ _ _ _|exact spec_GoodWork.mono _ _ _ _ _ _|exact spec_l12Items.mono _ _ _ _ _|exact spec_l5Of.mono _ _ _|exact LeO.refl _|exact LeO.none _|refine LeO.ite ?_ ?_|refine LeO.bind ?_ (fun _ => ?_)
set_option maxHeartbeats 8000000 in
set_option maxRecDepth 100000 in
theorem spec_RecoverWork.calls (k : Nat) (a0_0 : Int) (A0_1 : Option Addr) (c0_1 : Nat) (l0_1 : List (S40)) (A0_2 : Option Addr) (c0_2 : Nat) (l0_2 : List (S40)) (a0_3 : Int) (A0_4 : Option Addr) (c0_4 : Nat) (l0_4 : List (S56)) (A1 : Option Addr) (c1 : Nat) (l1 : List (S56)) (r1 : Int) (r2 : List (S40)) (r3 : List (S40)) (r4 : Int) (r5 : List (S56)) (r6 : Bool) (w : World) (hr0_1 : Kd.C k40 w A0_1 l0_1.length l0_1) (hc0_1 : l0_1.length ≤ c0_1) (hr0_2 : Kd.C k40 w A0_2 l0_2.length l0_2) (hc0_2 : l0_2.length ≤ c0_2) (hr0_4 : Kd.C k56 w A0_4 l0_4.length l0_4) (hc0_4 : l0_4.length ≤ c0_4) (hr1 : Kd.C k56 w A1 l1.length l1) (hc1 : l1.length ≤ c1) (h : spec_RecoverWork.f k a0_0 l0_1 l0_2 a0_3 l0_4 l1 = some (r1, r2, r3, r4, r5, r6)) :
  Calls Try.prog 14 #[.agg #[.int .i64 a0_0, .slice A0_1 l0_1.length c0_1, .slice A0_2 l0_2.length c0_2, .int .i64 a0_3, .slice A0_4 l0_4.length c0_4], .slice A1 l1.length c1] w fun e w' => ∃ v1_ v2_ v4_ : Value, e = .returned (.tuple #[.agg #[.int .i64 r1, v1_, v2_, .int .i64 r4, v4_], .bool r6]) ∧ Kd.R k40 40 w' w.heap.size (fun k_ => some k_ ≠ (v2_ : Value).ownBlock) v1_ r2 ∧ Kd.R k40 40 w' w.heap.size (fun k_ => some k_ ≠ (v1_ : Value).ownBlock) v2_ r3 ∧ Kd.R k56 56 w' w.heap.size (fun _ => True) v4_ r5 ∧ Below w.heap.size w w' := by
 have hu36 := Try.underlying36;have hu33 := Try.underlying33;have hu56 := Try.underlying56;have hu40 := Try.underlying40;have HR0_1 := Ah hr0_1;have HC0_1 := Ah hc0_1;clear hr0_1 hc0_1;have HR0_2 := Ah hr0_2;have HC0_2 := Ah hc0_2;clear hr0_2 hc0_2;have HR0_4 := Ah hr0_4;have HC0_4 := Ah hc0_4;clear hr0_4 hc0_4;have HR1 := Ah hr1;have HC1 := Ah hc1;clear hr1 hc1;have HB := Ah (Below.refl w.heap.size w);have H : ((spec_GoodWork.f k a0_0 l0_1 l0_2 a0_3 l0_4).bind fun t329 => (if t329 = true then ((spec_l12Items.f k a0_0 l0_1 l0_2 l1).bind fun bt330 => (if bt330.2 = true then ((spec_l5Of.f k a0_0 l0_1).bind fun bt332 => (spec_RecoverWork.l0 k l1 (l1.length : Int) 0 bt332.1 bt332.2.1 bt332.2.2)) else (some (0, ([] : List (S40)), ([] : List (S40)), 0, ([] : List (S56)), false)))) else (some (0, ([] : List (S40)), ([] : List (S40)), 0, ([] : List (S56)), false)))) = some (r1, r2, r3, r4, r5, r6) := h;clear h;replace H := Option.bind_eq_some_iff.mp H;obtain ⟨t329, A30, H⟩ := H
 try dsimp only at H
 have A3 := Ah A30;clear A30
 by_cases c4 : t329 = true
 rotate_left
 ·
  replace c4 := Bool.eq_false_iff.mpr c4;subst c4;rw [if_neg fne] at H;simp only [Option.some.injEq, Prod.mk.injEq] at H;obtain ⟨rfl, rfl, rfl, rfl, rfl, rfl⟩ := H
  go_enter Try.func14, Try.ntmps14
  go_wp2_with (first | ((with_reducible refine gate_dst (N := 2) rfl ?_); refine boxL 2 36 #[.int .i64 a0_0, .slice A0_1 l0_1.length c0_1, .slice A0_2 l0_2.length c0_2, .int .i64 a0_3, .slice A0_4 l0_4.length c0_4] ?_; intro gb327 hg w90 BK327 hb; have GW327 := gw hg (bs HB); have GE327 := gw hg (bs HB); replace HB := Ah (below_step (bs HB) hb); clear hb hg) | ((with_reducible refine gate_dst (N := 4) rfl ?_); refine boxL 4 36 #[.int .i64 0, .slice none 0 0, .slice none 0 0, .int .i64 0, .slice none 0 0] ?_; intro gb328 hg w91 BK328 hb; have GW328 := gw hg (bs1 HB GE327); have GE328 := gw hg (bs1 HB GE327); replace HB := Ah (below_step (bs1 HB GE327) hb); have NB327_328 := nn BK327 hg; have NB328_327 := nm BK327 hg; replace BK327 := nb BK327 hb; clear hb hg; have hnb92 := NB327_328.out; have hnc92 := NB328_327.out; obtain ⟨hcz93_0, hcz93_1, hcz93_2, hcz93_3, hcz93_4⟩ := cz5 BK327; obtain ⟨hfz93_0, hfz93_1, hfz93_2, hfz93_3, hfz93_4⟩ := fz5 BK327) | ((with_reducible refine gate_callee (f := 20) rfl ?_); refine gL (some 14) rfl rfl Try.func20 (by kernel_rfl) rfl #[.agg #[.int .i64 a0_0, .slice A0_1 l0_1.length c0_1, .slice A0_2 l0_2.length c0_2, .int .i64 a0_3, .slice A0_4 l0_4.length c0_4]] rfl ?_; (with_reducible refine (spec_GoodWork.calls k a0_0 _ _ l0_1 _ _ l0_2 a0_3 _ _ l0_4 false _ ?side1 ?side2 ?side3 ?side4 ?side5 ?side6 A3.out).mono ?_); (case side1 => exact cb HR0_1 HB); (case side2 => exact HC0_1.out); (case side3 => exact cb HR0_2 HB); (case side4 => exact HC0_2.out); (case side5 => exact cb HR0_4 HB); (case side6 => exact HC0_4.out); rintro e w94 ⟨rfl, hb⟩; refine ⟨_, rfl, ?_⟩; replace BK327 := nb BK327 hb; replace BK328 := nb BK328 hb; replace HB := Ah (below_step (bs2 HB GE327 GE328) hb); (try clear hb); obtain ⟨hcz95_0, hcz95_1, hcz95_2, hcz95_3, hcz95_4⟩ := cz5 BK328; obtain ⟨hfz95_0, hfz95_1, hfz95_2, hfz95_3, hfz95_4⟩ := fz5 BK328))
  refine bodyPost_ret (results_ct rfl _ _ gb328 36 #[.int .i64 0, .slice none 0 0, .slice none 0 0, .int .i64 0, .slice none 0 0] (0, 0) _ rfl (by (with_reducible repeat (first | refine blk_drewN ?_ _ | refine blk_drew ?_ | refine blk_alloc ?_ _)); refine blk_put (cs := #[.int .i64 0, .slice none 0 0, .slice none 0 0, .int .i64 0, .slice none 0 0]) ?_ 4 _ rfl; (with_reducible repeat (first | refine blk_drewN ?_ _ | refine blk_drew ?_ | refine blk_alloc ?_ _)); refine blk_put (cs := #[.int .i64 0, .slice none 0 0, .slice none 0 0, .int .i64 0, .slice none 0 0]) ?_ 3 _ rfl; (with_reducible repeat (first | refine blk_drewN ?_ _ | refine blk_drew ?_ | refine blk_alloc ?_ _)); refine blk_put (cs := #[.int .i64 0, .slice none 0 0, .slice none 0 0, .int .i64 0, .slice none 0 0]) ?_ 2 _ rfl; (with_reducible repeat (first | refine blk_drewN ?_ _ | refine blk_drew ?_ | refine blk_alloc ?_ _)); refine blk_put (cs := #[.int .i64 0, .slice none 0 0, .slice none 0 0, .int .i64 0, .slice none 0 0]) ?_ 1 _ rfl; (with_reducible repeat (first | refine blk_drewN ?_ _ | refine blk_drew ?_ | refine blk_alloc ?_ _)); refine blk_put (cs := #[.int .i64 0, .slice none 0 0, .slice none 0 0, .int .i64 0, .slice none 0 0]) ?_ 0 _ rfl; (with_reducible repeat (first | refine blk_drewN ?_ _ | refine blk_drew ?_ | refine blk_alloc ?_ _)); exact BK328.out) Try.underlying36 rfl (by kernel_rfl)) rfl ?_;exact ⟨_, _, _, er, by first | exact Kd.R_nil _ _ _ _ _ | exact Kd.N_nil _ _ _ _ _ | exact Kd.V_nil _ _ _ _ _ | exact Kd.Q_nil _ _ _ _ _ | exact Kd.S_nil _ _ _ _ _, by first | exact Kd.R_nil _ _ _ _ _ | exact Kd.N_nil _ _ _ _ _ | exact Kd.V_nil _ _ _ _ _ | exact Kd.Q_nil _ _ _ _ _ | exact Kd.S_nil _ _ _ _ _, by first | exact Kd.R_nil _ _ _ _ _ | exact Kd.N_nil _ _ _ _ _ | exact Kd.V_nil _ _ _ _ _ | exact Kd.Q_nil _ _ _ _ _ | exact Kd.S_nil _ _ _ _ _, bs2 HB GE327 GE328⟩
 subst c4;rw [if_pos rfl] at H;replace H := Option.bind_eq_some_iff.mp H;obtain ⟨⟨t330, t331⟩, A50, H⟩ := H
 try dsimp only at H
 have A5 := Ah A50;clear A50
 by_cases c6 : t331 = true
 rotate_left
 ·
  replace c6 := Bool.eq_false_iff.mpr c6;subst c6;rw [if_neg fne] at H;simp only [Option.some.injEq, Prod.mk.injEq] at H;obtain ⟨rfl, rfl, rfl, rfl, rfl, rfl⟩ := H
  go_enter Try.func14, Try.ntmps14
  go_wp2_with (first | ((with_reducible refine gate_dst (N := 2) rfl ?_); refine boxL 2 36 #[.int .i64 a0_0, .slice A0_1 l0_1.length c0_1, .slice A0_2 l0_2.length c0_2, .int .i64 a0_3, .slice A0_4 l0_4.length c0_4] ?_; intro gb327 hg w82 BK327 hb; have GW327 := gw hg (bs HB); have GE327 := gw hg (bs HB); replace HB := Ah (below_step (bs HB) hb); clear hb hg) | ((with_reducible refine gate_dst (N := 4) rfl ?_); refine boxL 4 36 #[.int .i64 0, .slice none 0 0, .slice none 0 0, .int .i64 0, .slice none 0 0] ?_; intro gb328 hg w83 BK328 hb; have GW328 := gw hg (bs1 HB GE327); have GE328 := gw hg (bs1 HB GE327); replace HB := Ah (below_step (bs1 HB GE327) hb); have NB327_328 := nn BK327 hg; have NB328_327 := nm BK327 hg; replace BK327 := nb BK327 hb; clear hb hg; have hnb84 := NB327_328.out; have hnc84 := NB328_327.out; obtain ⟨hcz85_0, hcz85_1, hcz85_2, hcz85_3, hcz85_4⟩ := cz5 BK327; obtain ⟨hfz85_0, hfz85_1, hfz85_2, hfz85_3, hfz85_4⟩ := fz5 BK327) | ((with_reducible refine gate_callee (f := 20) rfl ?_); refine gL (some 14) rfl rfl Try.func20 (by kernel_rfl) rfl #[.agg #[.int .i64 a0_0, .slice A0_1 l0_1.length c0_1, .slice A0_2 l0_2.length c0_2, .int .i64 a0_3, .slice A0_4 l0_4.length c0_4]] rfl ?_; (with_reducible refine (spec_GoodWork.calls k a0_0 _ _ l0_1 _ _ l0_2 a0_3 _ _ l0_4 true _ ?side1 ?side2 ?side3 ?side4 ?side5 ?side6 A3.out).mono ?_); (case side1 => exact cb HR0_1 HB); (case side2 => exact HC0_1.out); (case side3 => exact cb HR0_2 HB); (case side4 => exact HC0_2.out); (case side5 => exact cb HR0_4 HB); (case side6 => exact HC0_4.out); rintro e w86 ⟨rfl, hb⟩; refine ⟨_, rfl, ?_⟩; replace BK327 := nb BK327 hb; replace BK328 := nb BK328 hb; replace HB := Ah (below_step (bs2 HB GE327 GE328) hb); (try clear hb); obtain ⟨hcz87_0, hcz87_1, hcz87_2, hcz87_3, hcz87_4⟩ := cz5 BK327; obtain ⟨hfz87_0, hfz87_1, hfz87_2, hfz87_3, hfz87_4⟩ := fz5 BK327) | ((with_reducible refine gate_callee (f := 28) rfl ?_); refine gL (some 21) rfl rfl Try.func28 (by kernel_rfl) rfl #[.agg #[.int .i64 a0_0, .slice A0_1 l0_1.length c0_1, .slice A0_2 l0_2.length c0_2], .slice A1 l1.length c1] rfl ?_; (with_reducible refine (spec_l12Items.calls k a0_0 _ _ l0_1 _ _ l0_2 _ _ l1 t330 false _ ?side1 ?side2 ?side3 ?side4 ?side5 ?side6 A5.out).mono ?_); (case side1 => exact cb HR0_1 HB); (case side2 => exact HC0_1.out); (case side3 => exact cb HR0_2 HB); (case side4 => exact HC0_2.out); (case side5 => exact cb HR1 HB); (case side6 => exact HC1.out); rintro e w88 ⟨rfl, hb⟩; refine ⟨_, rfl, ?_⟩; replace BK327 := nb BK327 hb; replace BK328 := nb BK328 hb; replace HB := Ah (below_step (bs2 HB GE327 GE328) hb); (try clear hb); obtain ⟨hcz89_0, hcz89_1, hcz89_2, hcz89_3, hcz89_4⟩ := cz5 BK328; obtain ⟨hfz89_0, hfz89_1, hfz89_2, hfz89_3, hfz89_4⟩ := fz5 BK328))
  refine bodyPost_ret (results_ct rfl _ _ gb328 36 #[.int .i64 0, .slice none 0 0, .slice none 0 0, .int .i64 0, .slice none 0 0] (0, 0) _ rfl (by (with_reducible repeat (first | refine blk_drewN ?_ _ | refine blk_drew ?_ | refine blk_alloc ?_ _)); refine blk_put (cs := #[.int .i64 0, .slice none 0 0, .slice none 0 0, .int .i64 0, .slice none 0 0]) ?_ 4 _ rfl; (with_reducible repeat (first | refine blk_drewN ?_ _ | refine blk_drew ?_ | refine blk_alloc ?_ _)); refine blk_put (cs := #[.int .i64 0, .slice none 0 0, .slice none 0 0, .int .i64 0, .slice none 0 0]) ?_ 3 _ rfl; (with_reducible repeat (first | refine blk_drewN ?_ _ | refine blk_drew ?_ | refine blk_alloc ?_ _)); refine blk_put (cs := #[.int .i64 0, .slice none 0 0, .slice none 0 0, .int .i64 0, .slice none 0 0]) ?_ 2 _ rfl; (with_reducible repeat (first | refine blk_drewN ?_ _ | refine blk_drew ?_ | refine blk_alloc ?_ _)); refine blk_put (cs := #[.int .i64 0, .slice none 0 0, .slice none 0 0, .int .i64 0, .slice none 0 0]) ?_ 1 _ rfl; (with_reducible repeat (first | refine blk_drewN ?_ _ | refine blk_drew ?_ | refine blk_alloc ?_ _)); refine blk_put (cs := #[.int .i64 0, .slice none 0 0, .slice none 0 0, .int .i64 0, .slice none 0 0]) ?_ 0 _ rfl; (with_reducible repeat (first | refine blk_drewN ?_ _ | refine blk_drew ?_ | refine blk_alloc ?_ _)); exact BK328.out) Try.underlying36 rfl (by kernel_rfl)) rfl ?_;exact ⟨_, _, _, er, by first | exact Kd.R_nil _ _ _ _ _ | exact Kd.N_nil _ _ _ _ _ | exact Kd.V_nil _ _ _ _ _ | exact Kd.Q_nil _ _ _ _ _ | exact Kd.S_nil _ _ _ _ _, by first | exact Kd.R_nil _ _ _ _ _ | exact Kd.N_nil _ _ _ _ _ | exact Kd.V_nil _ _ _ _ _ | exact Kd.Q_nil _ _ _ _ _ | exact Kd.S_nil _ _ _ _ _, by first | exact Kd.R_nil _ _ _ _ _ | exact Kd.N_nil _ _ _ _ _ | exact Kd.V_nil _ _ _ _ _ | exact Kd.Q_nil _ _ _ _ _ | exact Kd.S_nil _ _ _ _ _, bs2 HB GE327 GE328⟩
 subst c6;rw [if_pos rfl] at H;replace H := Option.bind_eq_some_iff.mp H;obtain ⟨⟨t332, t333, t336⟩, A70, H⟩ := H
 try dsimp only at H
 have A7 := Ah A70;clear A70;have H' := Ah H;clear H
 go_enter Try.func14, Try.ntmps14
 go_wp2_with (first | ((with_reducible refine gate_dst (N := 2) rfl ?_); refine boxL 2 36 #[.int .i64 a0_0, .slice A0_1 l0_1.length c0_1, .slice A0_2 l0_2.length c0_2, .int .i64 a0_3, .slice A0_4 l0_4.length c0_4] ?_; intro gb327 hg w8 BK327 hb; have GW327 := gw hg (bs HB); have GE327 := gw hg (bs HB); replace HB := Ah (below_step (bs HB) hb); clear hb hg) | ((with_reducible refine gate_dst (N := 4) rfl ?_); refine boxL 4 36 #[.int .i64 0, .slice none 0 0, .slice none 0 0, .int .i64 0, .slice none 0 0] ?_; intro gb328 hg w9 BK328 hb; have GW328 := gw hg (bs1 HB GE327); have GE328 := gw hg (bs1 HB GE327); replace HB := Ah (below_step (bs1 HB GE327) hb); have NB327_328 := nn BK327 hg; have NB328_327 := nm BK327 hg; replace BK327 := nb BK327 hb; clear hb hg; have hnb10 := NB327_328.out; have hnc10 := NB328_327.out; obtain ⟨hcz11_0, hcz11_1, hcz11_2, hcz11_3, hcz11_4⟩ := cz5 BK327; obtain ⟨hfz11_0, hfz11_1, hfz11_2, hfz11_3, hfz11_4⟩ := fz5 BK327) | ((with_reducible refine gate_callee (f := 20) rfl ?_); refine gL (some 14) rfl rfl Try.func20 (by kernel_rfl) rfl #[.agg #[.int .i64 a0_0, .slice A0_1 l0_1.length c0_1, .slice A0_2 l0_2.length c0_2, .int .i64 a0_3, .slice A0_4 l0_4.length c0_4]] rfl ?_; (with_reducible refine (spec_GoodWork.calls k a0_0 _ _ l0_1 _ _ l0_2 a0_3 _ _ l0_4 true _ ?side1 ?side2 ?side3 ?side4 ?side5 ?side6 A3.out).mono ?_); (case side1 => exact cb HR0_1 HB); (case side2 => exact HC0_1.out); (case side3 => exact cb HR0_2 HB); (case side4 => exact HC0_2.out); (case side5 => exact cb HR0_4 HB); (case side6 => exact HC0_4.out); rintro e w12 ⟨rfl, hb⟩; refine ⟨_, rfl, ?_⟩; replace BK327 := nb BK327 hb; replace BK328 := nb BK328 hb; replace HB := Ah (below_step (bs2 HB GE327 GE328) hb); (try clear hb); obtain ⟨hcz13_0, hcz13_1, hcz13_2, hcz13_3, hcz13_4⟩ := cz5 BK327; obtain ⟨hfz13_0, hfz13_1, hfz13_2, hfz13_3, hfz13_4⟩ := fz5 BK327) | ((with_reducible refine gate_callee (f := 28) rfl ?_); refine gL (some 21) rfl rfl Try.func28 (by kernel_rfl) rfl #[.agg #[.int .i64 a0_0, .slice A0_1 l0_1.length c0_1, .slice A0_2 l0_2.length c0_2], .slice A1 l1.length c1] rfl ?_; (with_reducible refine (spec_l12Items.calls k a0_0 _ _ l0_1 _ _ l0_2 _ _ l1 t330 true _ ?side1 ?side2 ?side3 ?side4 ?side5 ?side6 A5.out).mono ?_); (case side1 => exact cb HR0_1 HB); (case side2 => exact HC0_1.out); (case side3 => exact cb HR0_2 HB); (case side4 => exact HC0_2.out); (case side5 => exact cb HR1 HB); (case side6 => exact HC1.out); rintro e w14 ⟨rfl, hb⟩; refine ⟨_, rfl, ?_⟩; replace BK327 := nb BK327 hb; replace BK328 := nb BK328 hb; replace HB := Ah (below_step (bs2 HB GE327 GE328) hb); (try clear hb); obtain ⟨hcz15_0, hcz15_1, hcz15_2, hcz15_3, hcz15_4⟩ := cz5 BK327; obtain ⟨hfz15_0, hfz15_1, hfz15_2, hfz15_3, hfz15_4⟩ := fz5 BK327) | ((with_reducible refine gate_callee (f := 29) rfl ?_); refine gL (some 33) rfl rfl Try.func29 (by kernel_rfl) rfl #[.int .i64 a0_0, .slice A0_1 l0_1.length c0_1] rfl ?_; (with_reducible refine (spec_l5Of.calls k a0_0 _ _ l0_1 t332 t333 t336 _ ?side1 ?side2 A7.out).mono ?_); (case side1 => exact cb HR0_1 HB); (case side2 => exact HC0_1.out); rintro e w16 ⟨v334, v337, rfl, ho0, ho1, hb⟩; refine ⟨_, rfl, ?_⟩; have HO335 := Ah (Kd.R_lower ho0 (below_size (bs2 HB GE327 GE328))); have HO338 := Ah (Kd.R_lower ho1 (below_size (bs2 HB GE327 GE328))); replace BK327 := nb BK327 hb; replace BK328 := nb BK328 hb; replace HB := Ah (below_step (bs2 HB GE327 GE328) hb); (try clear hb ho0 ho1)) | ((with_reducible refine gate_dst (N := 8) rfl ?_); refine boxL 8 33 #[.int .i64 0, .slice none 0 0, .slice none 0 0] ?_; intro gb339 hg w17 BK339 hb; replace HO335 := nr HO335 hb; replace HO338 := nr HO338 hb; have GW339 := gw hg (bs2 HB GE327 GE328); have GE339 := gw hg (bs2 HB GE327 GE328); replace HB := Ah (below_step (bs2 HB GE327 GE328) hb); have NB327_339 := nn BK327 hg; have NB339_327 := nm BK327 hg; replace BK327 := nb BK327 hb; have NB328_339 := nn BK328 hg; have NB339_328 := nm BK328 hg; replace BK328 := nb BK328 hb; clear hb hg; have hnb18 := NB339_327.out; have hnc18 := NB327_339.out; have hnb19 := NB339_328.out; have hnc19 := NB328_339.out; obtain ⟨hcz20_0, hcz20_1, hcz20_2⟩ := cz3 BK339; obtain ⟨hfz20_0, hfz20_1, hfz20_2⟩ := fz3 BK339; obtain ⟨Ao21, co21, eo21⟩ := Kd.R_slice HO335.out; subst eo21; obtain ⟨Ao22, co22, eo22⟩ := Kd.R_slice HO338.out; subst eo22))
 go_loopg [36] k (fun kq v36 w' => ∃ (x36_1 : Int) (x329000_1 : Int) (x329003_1 : Int) (x340000_1 : Int) (x340001_1 : List (S40)) (x340002_1 : List (S40)) (u340001 : Value) (u340002 : Value), v36 = .int .i64 x36_1 ∧ Aside0 (spec_RecoverWork.l0 kq l1 (l1.length : Int) x36_1 x340000_1 x340001_1 x340002_1 = some (r1, r2, r3, r4, r5, r6)) ∧ Aside0 (kq ≤ k) ∧ Aside0 (Kd.R k40 40 w' w.heap.size (fun k_ => some k_ ≠ (u340002 : Value).ownBlock) u340001 x340001_1) ∧ Aside0 (Kd.R k40 40 w' w.heap.size (fun k_ => some k_ ≠ (u340001 : Value).ownBlock) u340002 x340002_1) ∧ Aside0 (w'.heap[gb327]? = some (.cells #[.int .i64 a0_0, (.slice A0_1 l0_1.length c0_1), (.slice A0_2 l0_2.length c0_2), .int .i64 a0_3, (.slice A0_4 l0_4.length c0_4)] 36 (0, 0))) ∧ Aside0 (w'.heap[gb328]? = some (.cells #[.int .i64 x329000_1, (.slice none 0 0), (.slice none 0 0), .int .i64 x329003_1, (.slice none 0 0)] 36 (0, 0))) ∧ Aside0 (w'.heap[gb339]? = some (.cells #[.int .i64 x340000_1, u340001, u340002] 33 (0, 0))) ∧ Aside0 (Below w.heap.size w w'))
 case atStart => exact ⟨(0), (0), (0), (t332), (t333), (t336), (.slice Ao21 t333.length co21), (.slice Ao22 t336.length co22), e3, H', ⟨Nat.le_refl _⟩, ⟨by (with_reducible repeat (first | apply Kd.R_alloc | apply Kd.R_drewN | apply Kd.R_drew)); exact Kd.R_mono (Kd.R_far (p := ⟨gb339, 2, none⟩) (Kd.R_far (p := ⟨gb339, 1, none⟩) (Kd.R_far (p := ⟨gb339, 0, none⟩) (Kd.R_types HO335.out BK339.out (by decide)) (fun _ hk => hk.2) (.int .i64 t332)) (fun _ hk => hk.2) (.slice Ao21 t333.length co21)) (fun _ hk => hk.2) (.slice Ao22 t336.length co22)) (fun _ hk => hk.1)⟩, ⟨by (with_reducible repeat (first | apply Kd.R_alloc | apply Kd.R_drewN | apply Kd.R_drew)); exact Kd.R_mono (Kd.R_far (p := ⟨gb339, 2, none⟩) (Kd.R_far (p := ⟨gb339, 1, none⟩) (Kd.R_far (p := ⟨gb339, 0, none⟩) (Kd.R_types HO338.out BK339.out (by decide)) (fun _ hk => hk.2) (.int .i64 t332)) (fun _ hk => hk.2) (.slice Ao21 t333.length co21)) (fun _ hk => hk.2) (.slice Ao22 t336.length co22)) (fun _ hk => hk.1)⟩, ⟨bf BK327 NB327_339⟩, ⟨bf BK328 NB328_339⟩, ⟨by (with_reducible repeat (first | refine blk_drewN ?_ _ | refine blk_drew ?_ | refine blk_alloc ?_ _)); refine blk_put (cs := #[.int .i64 t332, .slice Ao21 t333.length co21, .slice none 0 0]) ?_ 2 _ rfl; (with_reducible repeat (first | refine blk_drewN ?_ _ | refine blk_drew ?_ | refine blk_alloc ?_ _)); refine blk_put (cs := #[.int .i64 t332, .slice none 0 0, .slice none 0 0]) ?_ 1 _ rfl; (with_reducible repeat (first | refine blk_drewN ?_ _ | refine blk_drew ?_ | refine blk_alloc ?_ _)); refine blk_put (cs := #[.int .i64 0, .slice none 0 0, .slice none 0 0]) ?_ 0 _ rfl; (with_reducible repeat (first | refine blk_drewN ?_ _ | refine blk_drew ?_ | refine blk_alloc ?_ _)); exact BK339.out⟩, ⟨bs3 HB GE327 GE328 GE339⟩⟩
 case round =>
  clear H'
  try clear c1
  try clear c2
  try clear p2
  try clear c4
  try clear c6
  try clear c10
  try clear c14
  try clear c18
  try clear c19
  try clear c20
  try clear hcz11_0 hcz11_1 hcz11_2 hcz11_3 hcz11_4
  try clear hcz13_0 hcz13_1 hcz13_2 hcz13_3 hcz13_4
  try clear hcz15_0 hcz15_1 hcz15_2 hcz15_3 hcz15_4
  try clear hcz20_0 hcz20_1 hcz20_2
  try clear hfz11_0 hfz11_1 hfz11_2 hfz11_3 hfz11_4
  try clear hfz13_0 hfz13_1 hfz13_2 hfz13_3 hfz13_4
  try clear hfz15_0 hfz15_1 hfz15_2 hfz15_3 hfz15_4
  try clear hfz20_0 hfz20_1 hfz20_2
  obtain ⟨x36_1, x329000_1, x329003_1, x340000_1, x340001_1, x340002_1, u340001, u340002, rfl, HA, HK1, HO_340001, HO_340002, BK327, BK328, BK339, HB⟩ := hrel
  cases gk with
  | zero => exact absurd HA.out (by simp [spec_RecoverWork.l0])
  | succ k1 =>
   have H := HA.out;clear HA;simp only [spec_RecoverWork.l0] at H
   by_cases c23 : x36_1 < (l1.length : Int)
   rotate_left
   ·
    rw [if_neg c23] at H;have c23b0 : decide (x36_1 < (l1.length : Int)) = false := decide_eq_false c23;clear c23;simp only [Option.some.injEq, Prod.mk.injEq] at H;obtain ⟨rfl, rfl, rfl, rfl, rfl, rfl⟩ := H;have hnb75 := NB339_327.out;have hnc75 := NB327_339.out;have hnb76 := NB339_328.out;have hnc76 := NB328_339.out;obtain ⟨hcz77_0, hcz77_1, hcz77_2⟩ := cz3 BK339;obtain ⟨hfz77_0, hfz77_1, hfz77_2⟩ := fz3 BK339;obtain ⟨Ao78, co78, eo78⟩ := Kd.R_slice HO_340002.out;subst eo78;obtain ⟨Ao79, co79, eo79⟩ := Kd.R_slice HO_340001.out;subst eo79;have hnb80 := NB328_327.out;have hnc80 := NB327_328.out;obtain ⟨hcz81_0, hcz81_1, hcz81_2, hcz81_3, hcz81_4⟩ := cz5 BK328;obtain ⟨hfz81_0, hfz81_1, hfz81_2, hfz81_3, hfz81_4⟩ := fz5 BK328
    go_wp2
    refine bodyPost_ret (results_ct rfl _ _ gb328 36 #[.int .i64 x340000_1, .slice Ao79 x340001_1.length co79, .slice Ao78 x340002_1.length co78, .int .i64 1, .slice none 0 0] (0, 0) _ rfl (by (with_reducible repeat (first | refine blk_drewN ?_ _ | refine blk_drew ?_ | refine blk_alloc ?_ _)); refine blk_put (cs := #[.int .i64 x340000_1, .slice Ao79 x340001_1.length co79, .slice Ao78 x340002_1.length co78, .int .i64 1, .slice none 0 0]) ?_ 4 _ rfl; (with_reducible repeat (first | refine blk_drewN ?_ _ | refine blk_drew ?_ | refine blk_alloc ?_ _)); refine blk_put (cs := #[.int .i64 x340000_1, .slice Ao79 x340001_1.length co79, .slice Ao78 x340002_1.length co78, .int .i64 x329003_1, .slice none 0 0]) ?_ 3 _ rfl; (with_reducible repeat (first | refine blk_drewN ?_ _ | refine blk_drew ?_ | refine blk_alloc ?_ _)); refine blk_put (cs := #[.int .i64 x340000_1, .slice Ao79 x340001_1.length co79, .slice none 0 0, .int .i64 x329003_1, .slice none 0 0]) ?_ 2 _ rfl; (with_reducible repeat (first | refine blk_drewN ?_ _ | refine blk_drew ?_ | refine blk_alloc ?_ _)); refine blk_put (cs := #[.int .i64 x340000_1, .slice none 0 0, .slice none 0 0, .int .i64 x329003_1, .slice none 0 0]) ?_ 1 _ rfl; (with_reducible repeat (first | refine blk_drewN ?_ _ | refine blk_drew ?_ | refine blk_alloc ?_ _)); refine blk_put (cs := #[.int .i64 x329000_1, .slice none 0 0, .slice none 0 0, .int .i64 x329003_1, .slice none 0 0]) ?_ 0 _ rfl; (with_reducible repeat (first | refine blk_drewN ?_ _ | refine blk_drew ?_ | refine blk_alloc ?_ _)); exact BK328.out) Try.underlying36 rfl (by kernel_rfl)) rfl ?_;exact ⟨_, _, _, er, by (with_reducible repeat (first | apply Kd.R_alloc | apply Kd.R_drewN | apply Kd.R_drew)); exact Kd.R_mono (Kd.R_far (p := ⟨gb328, 4, none⟩) (Kd.R_far (p := ⟨gb328, 3, none⟩) (Kd.R_far (p := ⟨gb328, 2, none⟩) (Kd.R_far (p := ⟨gb328, 1, none⟩) (Kd.R_far (p := ⟨gb328, 0, none⟩) (Kd.R_types HO_340001.out BK328.out (by decide)) (fun _ hk => hk.2) (.int .i64 x340000_1)) (fun _ hk => hk.2) (.slice Ao79 x340001_1.length co79)) (fun _ hk => hk.2) (.slice Ao78 x340002_1.length co78)) (fun _ hk => hk.2) (.int .i64 1)) (fun _ hk => hk.2) (.slice none 0 0)) (fun _ hk => hk.1), by (with_reducible repeat (first | apply Kd.R_alloc | apply Kd.R_drewN | apply Kd.R_drew)); exact Kd.R_mono (Kd.R_far (p := ⟨gb328, 4, none⟩) (Kd.R_far (p := ⟨gb328, 3, none⟩) (Kd.R_far (p := ⟨gb328, 2, none⟩) (Kd.R_far (p := ⟨gb328, 1, none⟩) (Kd.R_far (p := ⟨gb328, 0, none⟩) (Kd.R_types HO_340002.out BK328.out (by decide)) (fun _ hk => hk.2) (.int .i64 x340000_1)) (fun _ hk => hk.2) (.slice Ao79 x340001_1.length co79)) (fun _ hk => hk.2) (.slice Ao78 x340002_1.length co78)) (fun _ hk => hk.2) (.int .i64 1)) (fun _ hk => hk.2) (.slice none 0 0)) (fun _ hk => hk.1), by first | exact Kd.R_nil _ _ _ _ _ | exact Kd.N_nil _ _ _ _ _ | exact Kd.V_nil _ _ _ _ _ | exact Kd.Q_nil _ _ _ _ _ | exact Kd.S_nil _ _ _ _ _, bs3 HB GE327 GE328 GE339⟩
   rw [if_pos c23] at H;have c23b0 : decide (x36_1 < (l1.length : Int)) = true := decide_eq_true c23;clear c23
   by_cases c24 : 0 ≤ x36_1
   rotate_left
   ·
    rw [if_neg c24] at H;exact absurd H (by simp)
   rw [if_pos c24] at H;have c24b0 : decide (0 ≤ x36_1) = true := decide_eq_true c24;clear c24
   by_cases c25 : x36_1 < (l1.length : Int)
   rotate_left
   ·
    rw [if_neg c25] at H;exact absurd H (by simp)
   rw [if_pos c25] at H;have c25b0 : decide (x36_1 < (l1.length : Int)) = true := decide_eq_true c25;clear c25
   by_cases c26 : ((rd_T56 l1 x36_1).f0) = 1
   rotate_left
   ·
    rw [if_neg c26] at H;have c26b0 : (((rd_T56 l1 x36_1).f0) == 1) = false := beq_eq_false_iff_ne.mpr c26;have c26b1 : (((rd_T56 l1 x36_1).f0) != 1) = true := bne_iff_ne.mpr c26;have H' := Ah H;clear H;have p340 : 0 ≤ (x36_1 : Int) := od;have q340 : x36_1 < (l1.length : Int) := od;obtain ⟨ad340, e340, hx340_0, hx340_1, hx340_2, hx340_3, hx340_4⟩ := at_T56 HR1.out x36_1 p340 q340
    cases e340
    replace hx340_0 := (HB.out.cell (World.block_lt_of_cell? w _ hx340_0)).trans hx340_0;replace hx340_1 := (HB.out.cell (World.block_lt_of_cell? w _ hx340_1)).trans hx340_1;replace hx340_2 := (HB.out.cell (World.block_lt_of_cell? w _ hx340_2)).trans hx340_2;replace hx340_3 := (HB.out.cell (World.block_lt_of_cell? w _ hx340_3)).trans hx340_3;replace hx340_4 := (HB.out.cell (World.block_lt_of_cell? w _ hx340_4)).trans hx340_4;replace p340 := eq_true p340;replace q340 := eq_true q340
    go_wp2_with (first | ((with_reducible refine gate_dst (N := 10) rfl ?_); refine boxL 10 56 #[.int .i64 0, .int .i64 0, .int .i64 0, .int .i64 0, .int .i64 0] ?_; intro gb341 hg w70 BK341 hb; replace HO_340001 := nr HO_340001 hb; replace HO_340002 := nr HO_340002 hb; have GW341 := gw hg (bs3 HB GE327 GE328 GE339); have GE341 := gw hg (bs3 HB GE327 GE328 GE339); replace HB := Ah (below_step (bs3 HB GE327 GE328 GE339) hb); have NB327_341 := nn BK327 hg; have NB341_327 := nm BK327 hg; replace BK327 := nb BK327 hb; have NB328_341 := nn BK328 hg; have NB341_328 := nm BK328 hg; replace BK328 := nb BK328 hb; have NB339_341 := nn BK339 hg; have NB341_339 := nm BK339 hg; replace BK339 := nb BK339 hb; clear hb hg; have hnb71 := NB341_327.out; have hnc71 := NB327_341.out; have hnb72 := NB341_328.out; have hnc72 := NB328_341.out; have hnb73 := NB341_339.out; have hnc73 := NB339_341.out; obtain ⟨hcz74_0, hcz74_1, hcz74_2, hcz74_3, hcz74_4⟩ := cz5 BK341; obtain ⟨hfz74_0, hfz74_1, hfz74_2, hfz74_3, hfz74_4⟩ := fz5 BK341))
    go_roundg k1
    case measure => have := HK1.out; omega
    case rel => exact ⟨(wrap64 (x36_1 + 1)), (x329000_1), (x329003_1), (x340000_1), (x340001_1), (x340002_1), (u340001), (u340002), e3, H', ⟨by have := HK1.out; omega⟩, ⟨by (with_reducible repeat (first | apply Kd.R_alloc | apply Kd.R_drewN | apply Kd.R_drew)); exact Kd.R_mono (Kd.R_far (p := ⟨gb341, 4, none⟩) (Kd.R_far (p := ⟨gb341, 3, none⟩) (Kd.R_far (p := ⟨gb341, 2, none⟩) (Kd.R_far (p := ⟨gb341, 1, none⟩) (Kd.R_far (p := ⟨gb341, 0, none⟩) (Kd.R_types HO_340001.out BK341.out (by decide)) (fun _ hk => hk.2) (.int .i64 ((rd_T56 l1 x36_1).f0))) (fun _ hk => hk.2) (.int .i64 ((rd_T56 l1 x36_1).f1))) (fun _ hk => hk.2) (.int .i64 ((rd_T56 l1 x36_1).f2.f0))) (fun _ hk => hk.2) (.int .i64 ((rd_T56 l1 x36_1).f2.f1))) (fun _ hk => hk.2) (.int .i64 ((rd_T56 l1 x36_1).f3))) (fun _ hk => hk.1)⟩, ⟨by (with_reducible repeat (first | apply Kd.R_alloc | apply Kd.R_drewN | apply Kd.R_drew)); exact Kd.R_mono (Kd.R_far (p := ⟨gb341, 4, none⟩) (Kd.R_far (p := ⟨gb341, 3, none⟩) (Kd.R_far (p := ⟨gb341, 2, none⟩) (Kd.R_far (p := ⟨gb341, 1, none⟩) (Kd.R_far (p := ⟨gb341, 0, none⟩) (Kd.R_types HO_340002.out BK341.out (by decide)) (fun _ hk => hk.2) (.int .i64 ((rd_T56 l1 x36_1).f0))) (fun _ hk => hk.2) (.int .i64 ((rd_T56 l1 x36_1).f1))) (fun _ hk => hk.2) (.int .i64 ((rd_T56 l1 x36_1).f2.f0))) (fun _ hk => hk.2) (.int .i64 ((rd_T56 l1 x36_1).f2.f1))) (fun _ hk => hk.2) (.int .i64 ((rd_T56 l1 x36_1).f3))) (fun _ hk => hk.1)⟩, ⟨bf BK327 NB327_341⟩, ⟨bf BK328 NB328_341⟩, ⟨bf BK339 NB339_341⟩, ⟨bs4 HB GE327 GE328 GE339 GE341⟩⟩
   rw [if_pos c26] at H;have c26b0 : (((rd_T56 l1 x36_1).f0) == 1) = true := beq_iff_eq.mpr c26;have c26b1 : (((rd_T56 l1 x36_1).f0) != 1) = false := bne_eq_false_iff_eq.mpr c26;clear c26;replace H := Option.bind_eq_some_iff.mp H;obtain ⟨⟨t342, t343, t346, t349⟩, A270, H⟩ := H
   try dsimp only at H
   have A27 := Ah A270;clear A270
   by_cases c28 : t349 = true
   rotate_left
   ·
    replace c28 := Bool.eq_false_iff.mpr c28;subst c28;rw [if_neg fne] at H;simp only [Option.some.injEq, Prod.mk.injEq] at H;obtain ⟨rfl, rfl, rfl, rfl, rfl, rfl⟩ := H;have p340 : 0 ≤ (x36_1 : Int) := od;have q340 : x36_1 < (l1.length : Int) := od;obtain ⟨ad340, e340, hx340_0, hx340_1, hx340_2, hx340_3, hx340_4⟩ := at_T56 HR1.out x36_1 p340 q340
    cases e340
    replace hx340_0 := (HB.out.cell (World.block_lt_of_cell? w _ hx340_0)).trans hx340_0;replace hx340_1 := (HB.out.cell (World.block_lt_of_cell? w _ hx340_1)).trans hx340_1;replace hx340_2 := (HB.out.cell (World.block_lt_of_cell? w _ hx340_2)).trans hx340_2;replace hx340_3 := (HB.out.cell (World.block_lt_of_cell? w _ hx340_3)).trans hx340_3;replace hx340_4 := (HB.out.cell (World.block_lt_of_cell? w _ hx340_4)).trans hx340_4;replace p340 := eq_true p340;replace q340 := eq_true q340
    go_wp2_with (first | ((with_reducible refine gate_dst (N := 10) rfl ?_); refine boxL 10 56 #[.int .i64 0, .int .i64 0, .int .i64 0, .int .i64 0, .int .i64 0] ?_; intro gb341 hg w49 BK341 hb; replace HO_340001 := nr HO_340001 hb; replace HO_340002 := nr HO_340002 hb; have GW341 := gw hg (bs3 HB GE327 GE328 GE339); have GE341 := gw hg (bs3 HB GE327 GE328 GE339); replace HB := Ah (below_step (bs3 HB GE327 GE328 GE339) hb); have NB327_341 := nn BK327 hg; have NB341_327 := nm BK327 hg; replace BK327 := nb BK327 hb; have NB328_341 := nn BK328 hg; have NB341_328 := nm BK328 hg; replace BK328 := nb BK328 hb; have NB339_341 := nn BK339 hg; have NB341_339 := nm BK339 hg; replace BK339 := nb BK339 hb; clear hb hg; have hnb50 := NB341_327.out; have hnc50 := NB327_341.out; have hnb51 := NB341_328.out; have hnc51 := NB328_341.out; have hnb52 := NB341_339.out; have hnc52 := NB339_341.out; obtain ⟨hcz53_0, hcz53_1, hcz53_2, hcz53_3, hcz53_4⟩ := cz5 BK341; obtain ⟨hfz53_0, hfz53_1, hfz53_2, hfz53_3, hfz53_4⟩ := fz5 BK341; have hnb54 := NB339_327.out; have hnc54 := NB327_339.out; have hnb55 := NB339_328.out; have hnc55 := NB328_339.out; obtain ⟨hcz56_0, hcz56_1, hcz56_2⟩ := cz3 BK339; obtain ⟨hfz56_0, hfz56_1, hfz56_2⟩ := fz3 BK339; obtain ⟨Ao57, co57, eo57⟩ := Kd.R_slice HO_340001.out; subst eo57; obtain ⟨Ao58, co58, eo58⟩ := Kd.R_slice HO_340002.out; subst eo58) | ((with_reducible refine gate_callee (f := 30) rfl ?_); refine gL (some 47) rfl rfl Try.func30 (by kernel_rfl) rfl #[.agg #[.int .i64 x340000_1, .slice Ao57 x340001_1.length co57, .slice Ao58 x340002_1.length co58], .agg #[.int .i64 ((rd_T56 l1 x36_1).f2.f0), .int .i64 ((rd_T56 l1 x36_1).f2.f1)]] rfl ?_; (with_reducible refine (spec_GiveRoom.calls k1 x340000_1 _ _ x340001_1 _ _ x340002_1 ((rd_T56 l1 x36_1).f2.f0) ((rd_T56 l1 x36_1).f2.f1) t342 t343 t346 false _ ?side1 ?side2 ?side3 ?side4 A27.out).mono ?_); (case side1 => refine (Kd.R_reads' (e := 40) (base := w.heap.size) (ok := fun k_ => some k_ ≠ (.slice Ao58 x340002_1.length co58 : Value).ownBlock) (n := x340001_1.length) (c := co57) ?_).2.2; exact (by (with_reducible repeat (first | apply Kd.R_alloc | apply Kd.R_drewN | apply Kd.R_drew)); exact (Kd.R_mono (Kd.R_far (p := ⟨gb341, 4, none⟩) (Kd.R_far (p := ⟨gb341, 3, none⟩) (Kd.R_far (p := ⟨gb341, 2, none⟩) (Kd.R_far (p := ⟨gb341, 1, none⟩) (Kd.R_far (p := ⟨gb341, 0, none⟩) (Kd.R_types HO_340001.out BK341.out (by decide)) (fun _ hk => hk.2) (.int .i64 ((rd_T56 l1 x36_1).f0))) (fun _ hk => hk.2) (.int .i64 ((rd_T56 l1 x36_1).f1))) (fun _ hk => hk.2) (.int .i64 ((rd_T56 l1 x36_1).f2.f0))) (fun _ hk => hk.2) (.int .i64 ((rd_T56 l1 x36_1).f2.f1))) (fun _ hk => hk.2) (.int .i64 ((rd_T56 l1 x36_1).f3))) (fun _ h_ => h_.1)))); (case side2 => exact (Kd.R_reads' HO_340001.out).2.1); (case side3 => refine (Kd.R_reads' (e := 40) (base := w.heap.size) (ok := fun k_ => some k_ ≠ (.slice Ao57 x340001_1.length co57 : Value).ownBlock) (n := x340002_1.length) (c := co58) ?_).2.2; exact (by (with_reducible repeat (first | apply Kd.R_alloc | apply Kd.R_drewN | apply Kd.R_drew)); exact (Kd.R_mono (Kd.R_far (p := ⟨gb341, 4, none⟩) (Kd.R_far (p := ⟨gb341, 3, none⟩) (Kd.R_far (p := ⟨gb341, 2, none⟩) (Kd.R_far (p := ⟨gb341, 1, none⟩) (Kd.R_far (p := ⟨gb341, 0, none⟩) (Kd.R_types HO_340002.out BK341.out (by decide)) (fun _ hk => hk.2) (.int .i64 ((rd_T56 l1 x36_1).f0))) (fun _ hk => hk.2) (.int .i64 ((rd_T56 l1 x36_1).f1))) (fun _ hk => hk.2) (.int .i64 ((rd_T56 l1 x36_1).f2.f0))) (fun _ hk => hk.2) (.int .i64 ((rd_T56 l1 x36_1).f2.f1))) (fun _ hk => hk.2) (.int .i64 ((rd_T56 l1 x36_1).f3))) (fun _ h_ => h_.1)))); (case side4 => exact (Kd.R_reads' HO_340002.out).2.1); rintro e w59 ⟨v344, v347, rfl, ho0, ho1, hb⟩; refine ⟨_, rfl, ?_⟩; have HO345 := Ah (Kd.R_lower (Kd.R_new' (Kd.R_new' ho0 (Kd.R_lt (by (with_reducible repeat (first | apply Kd.R_alloc | apply Kd.R_drewN | apply Kd.R_drew)); exact (Kd.R_mono (Kd.R_far (p := ⟨gb341, 4, none⟩) (Kd.R_far (p := ⟨gb341, 3, none⟩) (Kd.R_far (p := ⟨gb341, 2, none⟩) (Kd.R_far (p := ⟨gb341, 1, none⟩) (Kd.R_far (p := ⟨gb341, 0, none⟩) (Kd.R_types HO_340001.out BK341.out (by decide)) (fun _ hk => hk.2) (.int .i64 ((rd_T56 l1 x36_1).f0))) (fun _ hk => hk.2) (.int .i64 ((rd_T56 l1 x36_1).f1))) (fun _ hk => hk.2) (.int .i64 ((rd_T56 l1 x36_1).f2.f0))) (fun _ hk => hk.2) (.int .i64 ((rd_T56 l1 x36_1).f2.f1))) (fun _ hk => hk.2) (.int .i64 ((rd_T56 l1 x36_1).f3))) (fun _ h_ => h_.1))))) (Kd.R_lt (by (with_reducible repeat (first | apply Kd.R_alloc | apply Kd.R_drewN | apply Kd.R_drew)); exact (Kd.R_mono (Kd.R_far (p := ⟨gb341, 4, none⟩) (Kd.R_far (p := ⟨gb341, 3, none⟩) (Kd.R_far (p := ⟨gb341, 2, none⟩) (Kd.R_far (p := ⟨gb341, 1, none⟩) (Kd.R_far (p := ⟨gb341, 0, none⟩) (Kd.R_types HO_340002.out BK341.out (by decide)) (fun _ hk => hk.2) (.int .i64 ((rd_T56 l1 x36_1).f0))) (fun _ hk => hk.2) (.int .i64 ((rd_T56 l1 x36_1).f1))) (fun _ hk => hk.2) (.int .i64 ((rd_T56 l1 x36_1).f2.f0))) (fun _ hk => hk.2) (.int .i64 ((rd_T56 l1 x36_1).f2.f1))) (fun _ hk => hk.2) (.int .i64 ((rd_T56 l1 x36_1).f3))) (fun _ h_ => h_.1))))) (below_size (bs4 HB GE327 GE328 GE339 GE341))); have HO348 := Ah (Kd.R_lower (Kd.R_new' (Kd.R_new' ho1 (Kd.R_lt (by (with_reducible repeat (first | apply Kd.R_alloc | apply Kd.R_drewN | apply Kd.R_drew)); exact (Kd.R_mono (Kd.R_far (p := ⟨gb341, 4, none⟩) (Kd.R_far (p := ⟨gb341, 3, none⟩) (Kd.R_far (p := ⟨gb341, 2, none⟩) (Kd.R_far (p := ⟨gb341, 1, none⟩) (Kd.R_far (p := ⟨gb341, 0, none⟩) (Kd.R_types HO_340001.out BK341.out (by decide)) (fun _ hk => hk.2) (.int .i64 ((rd_T56 l1 x36_1).f0))) (fun _ hk => hk.2) (.int .i64 ((rd_T56 l1 x36_1).f1))) (fun _ hk => hk.2) (.int .i64 ((rd_T56 l1 x36_1).f2.f0))) (fun _ hk => hk.2) (.int .i64 ((rd_T56 l1 x36_1).f2.f1))) (fun _ hk => hk.2) (.int .i64 ((rd_T56 l1 x36_1).f3))) (fun _ h_ => h_.1))))) (Kd.R_lt (by (with_reducible repeat (first | apply Kd.R_alloc | apply Kd.R_drewN | apply Kd.R_drew)); exact (Kd.R_mono (Kd.R_far (p := ⟨gb341, 4, none⟩) (Kd.R_far (p := ⟨gb341, 3, none⟩) (Kd.R_far (p := ⟨gb341, 2, none⟩) (Kd.R_far (p := ⟨gb341, 1, none⟩) (Kd.R_far (p := ⟨gb341, 0, none⟩) (Kd.R_types HO_340002.out BK341.out (by decide)) (fun _ hk => hk.2) (.int .i64 ((rd_T56 l1 x36_1).f0))) (fun _ hk => hk.2) (.int .i64 ((rd_T56 l1 x36_1).f1))) (fun _ hk => hk.2) (.int .i64 ((rd_T56 l1 x36_1).f2.f0))) (fun _ hk => hk.2) (.int .i64 ((rd_T56 l1 x36_1).f2.f1))) (fun _ hk => hk.2) (.int .i64 ((rd_T56 l1 x36_1).f3))) (fun _ h_ => h_.1))))) (below_size (bs4 HB GE327 GE328 GE339 GE341))); replace HO_340001 := Ah (Kd.R_mono (Kd.R_told (Kd.R_told (Kd.R_old (by (with_reducible repeat (first | apply Kd.R_alloc | apply Kd.R_drewN | apply Kd.R_drew)); exact (Kd.R_mono (Kd.R_far (p := ⟨gb341, 4, none⟩) (Kd.R_far (p := ⟨gb341, 3, none⟩) (Kd.R_far (p := ⟨gb341, 2, none⟩) (Kd.R_far (p := ⟨gb341, 1, none⟩) (Kd.R_far (p := ⟨gb341, 0, none⟩) (Kd.R_types HO_340001.out BK341.out (by decide)) (fun _ hk => hk.2) (.int .i64 ((rd_T56 l1 x36_1).f0))) (fun _ hk => hk.2) (.int .i64 ((rd_T56 l1 x36_1).f1))) (fun _ hk => hk.2) (.int .i64 ((rd_T56 l1 x36_1).f2.f0))) (fun _ hk => hk.2) (.int .i64 ((rd_T56 l1 x36_1).f2.f1))) (fun _ hk => hk.2) (.int .i64 ((rd_T56 l1 x36_1).f3))) (fun _ h_ => h_.1))) hb) (Kd.R_base ho0)) (Kd.R_base ho1)) (fun _ h_ => h_.1)); replace HO_340002 := Ah (Kd.R_mono (Kd.R_told (Kd.R_told (Kd.R_old (by (with_reducible repeat (first | apply Kd.R_alloc | apply Kd.R_drewN | apply Kd.R_drew)); exact (Kd.R_mono (Kd.R_far (p := ⟨gb341, 4, none⟩) (Kd.R_far (p := ⟨gb341, 3, none⟩) (Kd.R_far (p := ⟨gb341, 2, none⟩) (Kd.R_far (p := ⟨gb341, 1, none⟩) (Kd.R_far (p := ⟨gb341, 0, none⟩) (Kd.R_types HO_340002.out BK341.out (by decide)) (fun _ hk => hk.2) (.int .i64 ((rd_T56 l1 x36_1).f0))) (fun _ hk => hk.2) (.int .i64 ((rd_T56 l1 x36_1).f1))) (fun _ hk => hk.2) (.int .i64 ((rd_T56 l1 x36_1).f2.f0))) (fun _ hk => hk.2) (.int .i64 ((rd_T56 l1 x36_1).f2.f1))) (fun _ hk => hk.2) (.int .i64 ((rd_T56 l1 x36_1).f3))) (fun _ h_ => h_.1))) hb) (Kd.R_base ho0)) (Kd.R_base ho1)) (fun _ h_ => h_.1)); replace BK327 := Ah (blk_below (bf BK327 NB327_341) hb); replace BK328 := Ah (blk_below (bf BK328 NB328_341) hb); replace BK339 := Ah (blk_below (bf BK339 NB339_341) hb); replace BK341 := Ah (blk_below (g := gb341) (o := .cells #[.int .i64 ((rd_T56 l1 x36_1).f0), .int .i64 ((rd_T56 l1 x36_1).f1), .int .i64 ((rd_T56 l1 x36_1).f2.f0), .int .i64 ((rd_T56 l1 x36_1).f2.f1), .int .i64 ((rd_T56 l1 x36_1).f3)] 56 (0, 0)) (by (with_reducible repeat (first | refine blk_drewN ?_ _ | refine blk_drew ?_ | refine blk_alloc ?_ _)); refine blk_put (cs := #[.int .i64 ((rd_T56 l1 x36_1).f0), .int .i64 ((rd_T56 l1 x36_1).f1), .int .i64 ((rd_T56 l1 x36_1).f2.f0), .int .i64 ((rd_T56 l1 x36_1).f2.f1), .int .i64 0]) ?_ 4 _ rfl; (with_reducible repeat (first | refine blk_drewN ?_ _ | refine blk_drew ?_ | refine blk_alloc ?_ _)); refine blk_put (cs := #[.int .i64 ((rd_T56 l1 x36_1).f0), .int .i64 ((rd_T56 l1 x36_1).f1), .int .i64 ((rd_T56 l1 x36_1).f2.f0), .int .i64 0, .int .i64 0]) ?_ 3 _ rfl; (with_reducible repeat (first | refine blk_drewN ?_ _ | refine blk_drew ?_ | refine blk_alloc ?_ _)); refine blk_put (cs := #[.int .i64 ((rd_T56 l1 x36_1).f0), .int .i64 ((rd_T56 l1 x36_1).f1), .int .i64 0, .int .i64 0, .int .i64 0]) ?_ 2 _ rfl; (with_reducible repeat (first | refine blk_drewN ?_ _ | refine blk_drew ?_ | refine blk_alloc ?_ _)); refine blk_put (cs := #[.int .i64 ((rd_T56 l1 x36_1).f0), .int .i64 0, .int .i64 0, .int .i64 0, .int .i64 0]) ?_ 1 _ rfl; (with_reducible repeat (first | refine blk_drewN ?_ _ | refine blk_drew ?_ | refine blk_alloc ?_ _)); refine blk_put (cs := #[.int .i64 0, .int .i64 0, .int .i64 0, .int .i64 0, .int .i64 0]) ?_ 0 _ rfl; (with_reducible repeat (first | refine blk_drewN ?_ _ | refine blk_drew ?_ | refine blk_alloc ?_ _)); exact BK341.out) hb); replace HB := Ah (below_step (bs4 HB GE327 GE328 GE339 GE341) hb); (try clear hb hk ho0 ho1)) | ((with_reducible refine gate_dst (N := 11) rfl ?_); refine boxL 11 33 #[.int .i64 0, .slice none 0 0, .slice none 0 0] ?_; intro gb350 hg w60 BK350 hb; replace HO_340001 := nr HO_340001 hb; replace HO_340002 := nr HO_340002 hb; replace HO345 := nr HO345 hb; replace HO348 := nr HO348 hb; have GW350 := gw hg (bs4 HB GE327 GE328 GE339 GE341); have GE350 := gw hg (bs4 HB GE327 GE328 GE339 GE341); replace HB := Ah (below_step (bs4 HB GE327 GE328 GE339 GE341) hb); have NB327_350 := nn BK327 hg; have NB350_327 := nm BK327 hg; replace BK327 := nb BK327 hb; have NB328_350 := nn BK328 hg; have NB350_328 := nm BK328 hg; replace BK328 := nb BK328 hb; have NB339_350 := nn BK339 hg; have NB350_339 := nm BK339 hg; replace BK339 := nb BK339 hb; have NB341_350 := nn BK341 hg; have NB350_341 := nm BK341 hg; replace BK341 := nb BK341 hb; clear hb hg; have hnb61 := NB350_327.out; have hnc61 := NB327_350.out; have hnb62 := NB350_328.out; have hnc62 := NB328_350.out; have hnb63 := NB350_339.out; have hnc63 := NB339_350.out; have hnb64 := NB350_341.out; have hnc64 := NB341_350.out; obtain ⟨hcz65_0, hcz65_1, hcz65_2⟩ := cz3 BK350; obtain ⟨hfz65_0, hfz65_1, hfz65_2⟩ := fz3 BK350; obtain ⟨Ao66, co66, eo66⟩ := Kd.R_slice HO345.out; subst eo66; obtain ⟨Ao67, co67, eo67⟩ := Kd.R_slice HO348.out; subst eo67; have hnb68 := NB328_327.out; have hnc68 := NB327_328.out; obtain ⟨hcz69_0, hcz69_1, hcz69_2, hcz69_3, hcz69_4⟩ := cz5 BK328; obtain ⟨hfz69_0, hfz69_1, hfz69_2, hfz69_3, hfz69_4⟩ := fz5 BK328))
    refine bodyPost_ret (results_ct rfl _ _ gb328 36 #[.int .i64 0, .slice none 0 0, .slice none 0 0, .int .i64 0, .slice none 0 0] (0, 0) _ rfl (by (with_reducible repeat (first | refine blk_drewN ?_ _ | refine blk_drew ?_ | refine blk_alloc ?_ _)); refine blk_put (cs := #[.int .i64 0, .slice none 0 0, .slice none 0 0, .int .i64 0, .slice none 0 0]) ?_ 4 _ rfl; (with_reducible repeat (first | refine blk_drewN ?_ _ | refine blk_drew ?_ | refine blk_alloc ?_ _)); refine blk_put (cs := #[.int .i64 0, .slice none 0 0, .slice none 0 0, .int .i64 x329003_1, .slice none 0 0]) ?_ 3 _ rfl; (with_reducible repeat (first | refine blk_drewN ?_ _ | refine blk_drew ?_ | refine blk_alloc ?_ _)); refine blk_put (cs := #[.int .i64 0, .slice none 0 0, .slice none 0 0, .int .i64 x329003_1, .slice none 0 0]) ?_ 2 _ rfl; (with_reducible repeat (first | refine blk_drewN ?_ _ | refine blk_drew ?_ | refine blk_alloc ?_ _)); refine blk_put (cs := #[.int .i64 0, .slice none 0 0, .slice none 0 0, .int .i64 x329003_1, .slice none 0 0]) ?_ 1 _ rfl; (with_reducible repeat (first | refine blk_drewN ?_ _ | refine blk_drew ?_ | refine blk_alloc ?_ _)); refine blk_put (cs := #[.int .i64 x329000_1, .slice none 0 0, .slice none 0 0, .int .i64 x329003_1, .slice none 0 0]) ?_ 0 _ rfl; (with_reducible repeat (first | refine blk_drewN ?_ _ | refine blk_drew ?_ | refine blk_alloc ?_ _)); refine blk_far ?_ NB328_350.out _; (with_reducible repeat (first | refine blk_drewN ?_ _ | refine blk_drew ?_ | refine blk_alloc ?_ _)); refine blk_far ?_ NB328_350.out _; (with_reducible repeat (first | refine blk_drewN ?_ _ | refine blk_drew ?_ | refine blk_alloc ?_ _)); refine blk_far ?_ NB328_350.out _; (with_reducible repeat (first | refine blk_drewN ?_ _ | refine blk_drew ?_ | refine blk_alloc ?_ _)); exact BK328.out) Try.underlying36 rfl (by kernel_rfl)) rfl ?_;exact ⟨_, _, _, er, by first | exact Kd.R_nil _ _ _ _ _ | exact Kd.N_nil _ _ _ _ _ | exact Kd.V_nil _ _ _ _ _ | exact Kd.Q_nil _ _ _ _ _ | exact Kd.S_nil _ _ _ _ _, by first | exact Kd.R_nil _ _ _ _ _ | exact Kd.N_nil _ _ _ _ _ | exact Kd.V_nil _ _ _ _ _ | exact Kd.Q_nil _ _ _ _ _ | exact Kd.S_nil _ _ _ _ _, by first | exact Kd.R_nil _ _ _ _ _ | exact Kd.N_nil _ _ _ _ _ | exact Kd.V_nil _ _ _ _ _ | exact Kd.Q_nil _ _ _ _ _ | exact Kd.S_nil _ _ _ _ _, bs5 HB GE327 GE328 GE339 GE341 GE350⟩
   subst c28;rw [if_pos rfl] at H;have H' := Ah H;clear H;have p340 : 0 ≤ (x36_1 : Int) := od;have q340 : x36_1 < (l1.length : Int) := od;obtain ⟨ad340, e340, hx340_0, hx340_1, hx340_2, hx340_3, hx340_4⟩ := at_T56 HR1.out x36_1 p340 q340
   cases e340
   replace hx340_0 := (HB.out.cell (World.block_lt_of_cell? w _ hx340_0)).trans hx340_0;replace hx340_1 := (HB.out.cell (World.block_lt_of_cell? w _ hx340_1)).trans hx340_1;replace hx340_2 := (HB.out.cell (World.block_lt_of_cell? w _ hx340_2)).trans hx340_2;replace hx340_3 := (HB.out.cell (World.block_lt_of_cell? w _ hx340_3)).trans hx340_3;replace hx340_4 := (HB.out.cell (World.block_lt_of_cell? w _ hx340_4)).trans hx340_4;replace p340 := eq_true p340;replace q340 := eq_true q340
   go_wp2_with (first | ((with_reducible refine gate_dst (N := 10) rfl ?_); refine boxL 10 56 #[.int .i64 0, .int .i64 0, .int .i64 0, .int .i64 0, .int .i64 0] ?_; intro gb341 hg w29 BK341 hb; replace HO_340001 := nr HO_340001 hb; replace HO_340002 := nr HO_340002 hb; have GW341 := gw hg (bs3 HB GE327 GE328 GE339); have GE341 := gw hg (bs3 HB GE327 GE328 GE339); replace HB := Ah (below_step (bs3 HB GE327 GE328 GE339) hb); have NB327_341 := nn BK327 hg; have NB341_327 := nm BK327 hg; replace BK327 := nb BK327 hb; have NB328_341 := nn BK328 hg; have NB341_328 := nm BK328 hg; replace BK328 := nb BK328 hb; have NB339_341 := nn BK339 hg; have NB341_339 := nm BK339 hg; replace BK339 := nb BK339 hb; clear hb hg; have hnb30 := NB341_327.out; have hnc30 := NB327_341.out; have hnb31 := NB341_328.out; have hnc31 := NB328_341.out; have hnb32 := NB341_339.out; have hnc32 := NB339_341.out; obtain ⟨hcz33_0, hcz33_1, hcz33_2, hcz33_3, hcz33_4⟩ := cz5 BK341; obtain ⟨hfz33_0, hfz33_1, hfz33_2, hfz33_3, hfz33_4⟩ := fz5 BK341; have hnb34 := NB339_327.out; have hnc34 := NB327_339.out; have hnb35 := NB339_328.out; have hnc35 := NB328_339.out; obtain ⟨hcz36_0, hcz36_1, hcz36_2⟩ := cz3 BK339; obtain ⟨hfz36_0, hfz36_1, hfz36_2⟩ := fz3 BK339; obtain ⟨Ao37, co37, eo37⟩ := Kd.R_slice HO_340001.out; subst eo37; obtain ⟨Ao38, co38, eo38⟩ := Kd.R_slice HO_340002.out; subst eo38) | ((with_reducible refine gate_callee (f := 30) rfl ?_); refine gL (some 47) rfl rfl Try.func30 (by kernel_rfl) rfl #[.agg #[.int .i64 x340000_1, .slice Ao37 x340001_1.length co37, .slice Ao38 x340002_1.length co38], .agg #[.int .i64 ((rd_T56 l1 x36_1).f2.f0), .int .i64 ((rd_T56 l1 x36_1).f2.f1)]] rfl ?_; (with_reducible refine (spec_GiveRoom.calls k1 x340000_1 _ _ x340001_1 _ _ x340002_1 ((rd_T56 l1 x36_1).f2.f0) ((rd_T56 l1 x36_1).f2.f1) t342 t343 t346 true _ ?side1 ?side2 ?side3 ?side4 A27.out).mono ?_); (case side1 => refine (Kd.R_reads' (e := 40) (base := w.heap.size) (ok := fun k_ => some k_ ≠ (.slice Ao38 x340002_1.length co38 : Value).ownBlock) (n := x340001_1.length) (c := co37) ?_).2.2; exact (by (with_reducible repeat (first | apply Kd.R_alloc | apply Kd.R_drewN | apply Kd.R_drew)); exact (Kd.R_mono (Kd.R_far (p := ⟨gb341, 4, none⟩) (Kd.R_far (p := ⟨gb341, 3, none⟩) (Kd.R_far (p := ⟨gb341, 2, none⟩) (Kd.R_far (p := ⟨gb341, 1, none⟩) (Kd.R_far (p := ⟨gb341, 0, none⟩) (Kd.R_types HO_340001.out BK341.out (by decide)) (fun _ hk => hk.2) (.int .i64 ((rd_T56 l1 x36_1).f0))) (fun _ hk => hk.2) (.int .i64 ((rd_T56 l1 x36_1).f1))) (fun _ hk => hk.2) (.int .i64 ((rd_T56 l1 x36_1).f2.f0))) (fun _ hk => hk.2) (.int .i64 ((rd_T56 l1 x36_1).f2.f1))) (fun _ hk => hk.2) (.int .i64 ((rd_T56 l1 x36_1).f3))) (fun _ h_ => h_.1)))); (case side2 => exact (Kd.R_reads' HO_340001.out).2.1); (case side3 => refine (Kd.R_reads' (e := 40) (base := w.heap.size) (ok := fun k_ => some k_ ≠ (.slice Ao37 x340001_1.length co37 : Value).ownBlock) (n := x340002_1.length) (c := co38) ?_).2.2; exact (by (with_reducible repeat (first | apply Kd.R_alloc | apply Kd.R_drewN | apply Kd.R_drew)); exact (Kd.R_mono (Kd.R_far (p := ⟨gb341, 4, none⟩) (Kd.R_far (p := ⟨gb341, 3, none⟩) (Kd.R_far (p := ⟨gb341, 2, none⟩) (Kd.R_far (p := ⟨gb341, 1, none⟩) (Kd.R_far (p := ⟨gb341, 0, none⟩) (Kd.R_types HO_340002.out BK341.out (by decide)) (fun _ hk => hk.2) (.int .i64 ((rd_T56 l1 x36_1).f0))) (fun _ hk => hk.2) (.int .i64 ((rd_T56 l1 x36_1).f1))) (fun _ hk => hk.2) (.int .i64 ((rd_T56 l1 x36_1).f2.f0))) (fun _ hk => hk.2) (.int .i64 ((rd_T56 l1 x36_1).f2.f1))) (fun _ hk => hk.2) (.int .i64 ((rd_T56 l1 x36_1).f3))) (fun _ h_ => h_.1)))); (case side4 => exact (Kd.R_reads' HO_340002.out).2.1); rintro e w39 ⟨v344, v347, rfl, ho0, ho1, hb⟩; refine ⟨_, rfl, ?_⟩; have HO345 := Ah (Kd.R_lower (Kd.R_new' (Kd.R_new' ho0 (Kd.R_lt (by (with_reducible repeat (first | apply Kd.R_alloc | apply Kd.R_drewN | apply Kd.R_drew)); exact (Kd.R_mono (Kd.R_far (p := ⟨gb341, 4, none⟩) (Kd.R_far (p := ⟨gb341, 3, none⟩) (Kd.R_far (p := ⟨gb341, 2, none⟩) (Kd.R_far (p := ⟨gb341, 1, none⟩) (Kd.R_far (p := ⟨gb341, 0, none⟩) (Kd.R_types HO_340001.out BK341.out (by decide)) (fun _ hk => hk.2) (.int .i64 ((rd_T56 l1 x36_1).f0))) (fun _ hk => hk.2) (.int .i64 ((rd_T56 l1 x36_1).f1))) (fun _ hk => hk.2) (.int .i64 ((rd_T56 l1 x36_1).f2.f0))) (fun _ hk => hk.2) (.int .i64 ((rd_T56 l1 x36_1).f2.f1))) (fun _ hk => hk.2) (.int .i64 ((rd_T56 l1 x36_1).f3))) (fun _ h_ => h_.1))))) (Kd.R_lt (by (with_reducible repeat (first | apply Kd.R_alloc | apply Kd.R_drewN | apply Kd.R_drew)); exact (Kd.R_mono (Kd.R_far (p := ⟨gb341, 4, none⟩) (Kd.R_far (p := ⟨gb341, 3, none⟩) (Kd.R_far (p := ⟨gb341, 2, none⟩) (Kd.R_far (p := ⟨gb341, 1, none⟩) (Kd.R_far (p := ⟨gb341, 0, none⟩) (Kd.R_types HO_340002.out BK341.out (by decide)) (fun _ hk => hk.2) (.int .i64 ((rd_T56 l1 x36_1).f0))) (fun _ hk => hk.2) (.int .i64 ((rd_T56 l1 x36_1).f1))) (fun _ hk => hk.2) (.int .i64 ((rd_T56 l1 x36_1).f2.f0))) (fun _ hk => hk.2) (.int .i64 ((rd_T56 l1 x36_1).f2.f1))) (fun _ hk => hk.2) (.int .i64 ((rd_T56 l1 x36_1).f3))) (fun _ h_ => h_.1))))) (below_size (bs4 HB GE327 GE328 GE339 GE341))); have HO348 := Ah (Kd.R_lower (Kd.R_new' (Kd.R_new' ho1 (Kd.R_lt (by (with_reducible repeat (first | apply Kd.R_alloc | apply Kd.R_drewN | apply Kd.R_drew)); exact (Kd.R_mono (Kd.R_far (p := ⟨gb341, 4, none⟩) (Kd.R_far (p := ⟨gb341, 3, none⟩) (Kd.R_far (p := ⟨gb341, 2, none⟩) (Kd.R_far (p := ⟨gb341, 1, none⟩) (Kd.R_far (p := ⟨gb341, 0, none⟩) (Kd.R_types HO_340001.out BK341.out (by decide)) (fun _ hk => hk.2) (.int .i64 ((rd_T56 l1 x36_1).f0))) (fun _ hk => hk.2) (.int .i64 ((rd_T56 l1 x36_1).f1))) (fun _ hk => hk.2) (.int .i64 ((rd_T56 l1 x36_1).f2.f0))) (fun _ hk => hk.2) (.int .i64 ((rd_T56 l1 x36_1).f2.f1))) (fun _ hk => hk.2) (.int .i64 ((rd_T56 l1 x36_1).f3))) (fun _ h_ => h_.1))))) (Kd.R_lt (by (with_reducible repeat (first | apply Kd.R_alloc | apply Kd.R_drewN | apply Kd.R_drew)); exact (Kd.R_mono (Kd.R_far (p := ⟨gb341, 4, none⟩) (Kd.R_far (p := ⟨gb341, 3, none⟩) (Kd.R_far (p := ⟨gb341, 2, none⟩) (Kd.R_far (p := ⟨gb341, 1, none⟩) (Kd.R_far (p := ⟨gb341, 0, none⟩) (Kd.R_types HO_340002.out BK341.out (by decide)) (fun _ hk => hk.2) (.int .i64 ((rd_T56 l1 x36_1).f0))) (fun _ hk => hk.2) (.int .i64 ((rd_T56 l1 x36_1).f1))) (fun _ hk => hk.2) (.int .i64 ((rd_T56 l1 x36_1).f2.f0))) (fun _ hk => hk.2) (.int .i64 ((rd_T56 l1 x36_1).f2.f1))) (fun _ hk => hk.2) (.int .i64 ((rd_T56 l1 x36_1).f3))) (fun _ h_ => h_.1))))) (below_size (bs4 HB GE327 GE328 GE339 GE341))); replace HO_340001 := Ah (Kd.R_mono (Kd.R_told (Kd.R_told (Kd.R_old (by (with_reducible repeat (first | apply Kd.R_alloc | apply Kd.R_drewN | apply Kd.R_drew)); exact (Kd.R_mono (Kd.R_far (p := ⟨gb341, 4, none⟩) (Kd.R_far (p := ⟨gb341, 3, none⟩) (Kd.R_far (p := ⟨gb341, 2, none⟩) (Kd.R_far (p := ⟨gb341, 1, none⟩) (Kd.R_far (p := ⟨gb341, 0, none⟩) (Kd.R_types HO_340001.out BK341.out (by decide)) (fun _ hk => hk.2) (.int .i64 ((rd_T56 l1 x36_1).f0))) (fun _ hk => hk.2) (.int .i64 ((rd_T56 l1 x36_1).f1))) (fun _ hk => hk.2) (.int .i64 ((rd_T56 l1 x36_1).f2.f0))) (fun _ hk => hk.2) (.int .i64 ((rd_T56 l1 x36_1).f2.f1))) (fun _ hk => hk.2) (.int .i64 ((rd_T56 l1 x36_1).f3))) (fun _ h_ => h_.1))) hb) (Kd.R_base ho0)) (Kd.R_base ho1)) (fun _ h_ => h_.1)); replace HO_340002 := Ah (Kd.R_mono (Kd.R_told (Kd.R_told (Kd.R_old (by (with_reducible repeat (first | apply Kd.R_alloc | apply Kd.R_drewN | apply Kd.R_drew)); exact (Kd.R_mono (Kd.R_far (p := ⟨gb341, 4, none⟩) (Kd.R_far (p := ⟨gb341, 3, none⟩) (Kd.R_far (p := ⟨gb341, 2, none⟩) (Kd.R_far (p := ⟨gb341, 1, none⟩) (Kd.R_far (p := ⟨gb341, 0, none⟩) (Kd.R_types HO_340002.out BK341.out (by decide)) (fun _ hk => hk.2) (.int .i64 ((rd_T56 l1 x36_1).f0))) (fun _ hk => hk.2) (.int .i64 ((rd_T56 l1 x36_1).f1))) (fun _ hk => hk.2) (.int .i64 ((rd_T56 l1 x36_1).f2.f0))) (fun _ hk => hk.2) (.int .i64 ((rd_T56 l1 x36_1).f2.f1))) (fun _ hk => hk.2) (.int .i64 ((rd_T56 l1 x36_1).f3))) (fun _ h_ => h_.1))) hb) (Kd.R_base ho0)) (Kd.R_base ho1)) (fun _ h_ => h_.1)); replace BK327 := Ah (blk_below (bf BK327 NB327_341) hb); replace BK328 := Ah (blk_below (bf BK328 NB328_341) hb); replace BK339 := Ah (blk_below (bf BK339 NB339_341) hb); replace BK341 := Ah (blk_below (g := gb341) (o := .cells #[.int .i64 ((rd_T56 l1 x36_1).f0), .int .i64 ((rd_T56 l1 x36_1).f1), .int .i64 ((rd_T56 l1 x36_1).f2.f0), .int .i64 ((rd_T56 l1 x36_1).f2.f1), .int .i64 ((rd_T56 l1 x36_1).f3)] 56 (0, 0)) (by (with_reducible repeat (first | refine blk_drewN ?_ _ | refine blk_drew ?_ | refine blk_alloc ?_ _)); refine blk_put (cs := #[.int .i64 ((rd_T56 l1 x36_1).f0), .int .i64 ((rd_T56 l1 x36_1).f1), .int .i64 ((rd_T56 l1 x36_1).f2.f0), .int .i64 ((rd_T56 l1 x36_1).f2.f1), .int .i64 0]) ?_ 4 _ rfl; (with_reducible repeat (first | refine blk_drewN ?_ _ | refine blk_drew ?_ | refine blk_alloc ?_ _)); refine blk_put (cs := #[.int .i64 ((rd_T56 l1 x36_1).f0), .int .i64 ((rd_T56 l1 x36_1).f1), .int .i64 ((rd_T56 l1 x36_1).f2.f0), .int .i64 0, .int .i64 0]) ?_ 3 _ rfl; (with_reducible repeat (first | refine blk_drewN ?_ _ | refine blk_drew ?_ | refine blk_alloc ?_ _)); refine blk_put (cs := #[.int .i64 ((rd_T56 l1 x36_1).f0), .int .i64 ((rd_T56 l1 x36_1).f1), .int .i64 0, .int .i64 0, .int .i64 0]) ?_ 2 _ rfl; (with_reducible repeat (first | refine blk_drewN ?_ _ | refine blk_drew ?_ | refine blk_alloc ?_ _)); refine blk_put (cs := #[.int .i64 ((rd_T56 l1 x36_1).f0), .int .i64 0, .int .i64 0, .int .i64 0, .int .i64 0]) ?_ 1 _ rfl; (with_reducible repeat (first | refine blk_drewN ?_ _ | refine blk_drew ?_ | refine blk_alloc ?_ _)); refine blk_put (cs := #[.int .i64 0, .int .i64 0, .int .i64 0, .int .i64 0, .int .i64 0]) ?_ 0 _ rfl; (with_reducible repeat (first | refine blk_drewN ?_ _ | refine blk_drew ?_ | refine blk_alloc ?_ _)); exact BK341.out) hb); replace HB := Ah (below_step (bs4 HB GE327 GE328 GE339 GE341) hb); (try clear hb hk ho0 ho1)) | ((with_reducible refine gate_dst (N := 11) rfl ?_); refine boxL 11 33 #[.int .i64 0, .slice none 0 0, .slice none 0 0] ?_; intro gb350 hg w40 BK350 hb; replace HO_340001 := nr HO_340001 hb; replace HO_340002 := nr HO_340002 hb; replace HO345 := nr HO345 hb; replace HO348 := nr HO348 hb; have GW350 := gw hg (bs4 HB GE327 GE328 GE339 GE341); have GE350 := gw hg (bs4 HB GE327 GE328 GE339 GE341); replace HB := Ah (below_step (bs4 HB GE327 GE328 GE339 GE341) hb); have NB327_350 := nn BK327 hg; have NB350_327 := nm BK327 hg; replace BK327 := nb BK327 hb; have NB328_350 := nn BK328 hg; have NB350_328 := nm BK328 hg; replace BK328 := nb BK328 hb; have NB339_350 := nn BK339 hg; have NB350_339 := nm BK339 hg; replace BK339 := nb BK339 hb; have NB341_350 := nn BK341 hg; have NB350_341 := nm BK341 hg; replace BK341 := nb BK341 hb; clear hb hg; have hnb41 := NB350_327.out; have hnc41 := NB327_350.out; have hnb42 := NB350_328.out; have hnc42 := NB328_350.out; have hnb43 := NB350_339.out; have hnc43 := NB339_350.out; have hnb44 := NB350_341.out; have hnc44 := NB341_350.out; obtain ⟨hcz45_0, hcz45_1, hcz45_2⟩ := cz3 BK350; obtain ⟨hfz45_0, hfz45_1, hfz45_2⟩ := fz3 BK350; obtain ⟨Ao46, co46, eo46⟩ := Kd.R_slice HO345.out; subst eo46; obtain ⟨Ao47, co47, eo47⟩ := Kd.R_slice HO348.out; subst eo47; obtain ⟨hcz48_0, hcz48_1, hcz48_2⟩ := cz3 BK339; obtain ⟨hfz48_0, hfz48_1, hfz48_2⟩ := fz3 BK339))
   go_roundg k1
   case measure => have := HK1.out; omega
   case rel => exact ⟨(wrap64 (x36_1 + 1)), (x329000_1), (x329003_1), (t342), (t343), (t346), (.slice Ao46 t343.length co46), (.slice Ao47 t346.length co47), e3, H', ⟨by have := HK1.out; omega⟩, ⟨by (with_reducible repeat (first | apply Kd.R_alloc | apply Kd.R_drewN | apply Kd.R_drew)); exact Kd.R_mono (Kd.R_far (p := ⟨gb339, 2, none⟩) (Kd.R_far (p := ⟨gb339, 1, none⟩) (Kd.R_far (p := ⟨gb339, 0, none⟩) (Kd.R_far (p := ⟨gb350, 2, none⟩) (Kd.R_far (p := ⟨gb350, 1, none⟩) (Kd.R_far (p := ⟨gb350, 0, none⟩) (Kd.R_types (Kd.R_types HO345.out BK350.out (by decide)) BK339.out (by decide)) (fun _ hk => hk.1.2) (.int .i64 t342)) (fun _ hk => hk.1.2) (.slice Ao46 t343.length co46)) (fun _ hk => hk.1.2) (.slice Ao47 t346.length co47)) (fun _ hk => hk.2) (.int .i64 t342)) (fun _ hk => hk.2) (.slice Ao46 t343.length co46)) (fun _ hk => hk.2) (.slice Ao47 t346.length co47)) (fun _ hk => hk.1.1.1.1)⟩, ⟨by (with_reducible repeat (first | apply Kd.R_alloc | apply Kd.R_drewN | apply Kd.R_drew)); exact Kd.R_mono (Kd.R_far (p := ⟨gb339, 2, none⟩) (Kd.R_far (p := ⟨gb339, 1, none⟩) (Kd.R_far (p := ⟨gb339, 0, none⟩) (Kd.R_far (p := ⟨gb350, 2, none⟩) (Kd.R_far (p := ⟨gb350, 1, none⟩) (Kd.R_far (p := ⟨gb350, 0, none⟩) (Kd.R_types (Kd.R_types HO348.out BK350.out (by decide)) BK339.out (by decide)) (fun _ hk => hk.1.2) (.int .i64 t342)) (fun _ hk => hk.1.2) (.slice Ao46 t343.length co46)) (fun _ hk => hk.1.2) (.slice Ao47 t346.length co47)) (fun _ hk => hk.2) (.int .i64 t342)) (fun _ hk => hk.2) (.slice Ao46 t343.length co46)) (fun _ hk => hk.2) (.slice Ao47 t346.length co47)) (fun _ hk => hk.1.1.1.1)⟩, ⟨by (with_reducible repeat (first | refine blk_drewN ?_ _ | refine blk_drew ?_ | refine blk_alloc ?_ _)); refine blk_far ?_ NB327_339.out _; (with_reducible repeat (first | refine blk_drewN ?_ _ | refine blk_drew ?_ | refine blk_alloc ?_ _)); refine blk_far ?_ NB327_339.out _; (with_reducible repeat (first | refine blk_drewN ?_ _ | refine blk_drew ?_ | refine blk_alloc ?_ _)); refine blk_far ?_ NB327_339.out _; (with_reducible repeat (first | refine blk_drewN ?_ _ | refine blk_drew ?_ | refine blk_alloc ?_ _)); refine blk_far ?_ NB327_350.out _; (with_reducible repeat (first | refine blk_drewN ?_ _ | refine blk_drew ?_ | refine blk_alloc ?_ _)); refine blk_far ?_ NB327_350.out _; (with_reducible repeat (first | refine blk_drewN ?_ _ | refine blk_drew ?_ | refine blk_alloc ?_ _)); refine blk_far ?_ NB327_350.out _; (with_reducible repeat (first | refine blk_drewN ?_ _ | refine blk_drew ?_ | refine blk_alloc ?_ _)); exact BK327.out⟩, ⟨by (with_reducible repeat (first | refine blk_drewN ?_ _ | refine blk_drew ?_ | refine blk_alloc ?_ _)); refine blk_far ?_ NB328_339.out _; (with_reducible repeat (first | refine blk_drewN ?_ _ | refine blk_drew ?_ | refine blk_alloc ?_ _)); refine blk_far ?_ NB328_339.out _; (with_reducible repeat (first | refine blk_drewN ?_ _ | refine blk_drew ?_ | refine blk_alloc ?_ _)); refine blk_far ?_ NB328_339.out _; (with_reducible repeat (first | refine blk_drewN ?_ _ | refine blk_drew ?_ | refine blk_alloc ?_ _)); refine blk_far ?_ NB328_350.out _; (with_reducible repeat (first | refine blk_drewN ?_ _ | refine blk_drew ?_ | refine blk_alloc ?_ _)); refine blk_far ?_ NB328_350.out _; (with_reducible repeat (first | refine blk_drewN ?_ _ | refine blk_drew ?_ | refine blk_alloc ?_ _)); refine blk_far ?_ NB328_350.out _; (with_reducible repeat (first | refine blk_drewN ?_ _ | refine blk_drew ?_ | refine blk_alloc ?_ _)); exact BK328.out⟩, ⟨by (with_reducible repeat (first | refine blk_drewN ?_ _ | refine blk_drew ?_ | refine blk_alloc ?_ _)); refine blk_put (cs := #[.int .i64 t342, .slice Ao46 t343.length co46, .slice Ao38 x340002_1.length co38]) ?_ 2 _ rfl; (with_reducible repeat (first | refine blk_drewN ?_ _ | refine blk_drew ?_ | refine blk_alloc ?_ _)); refine blk_put (cs := #[.int .i64 t342, .slice Ao37 x340001_1.length co37, .slice Ao38 x340002_1.length co38]) ?_ 1 _ rfl; (with_reducible repeat (first | refine blk_drewN ?_ _ | refine blk_drew ?_ | refine blk_alloc ?_ _)); refine blk_put (cs := #[.int .i64 x340000_1, .slice Ao37 x340001_1.length co37, .slice Ao38 x340002_1.length co38]) ?_ 0 _ rfl; (with_reducible repeat (first | refine blk_drewN ?_ _ | refine blk_drew ?_ | refine blk_alloc ?_ _)); refine blk_far ?_ NB339_350.out _; (with_reducible repeat (first | refine blk_drewN ?_ _ | refine blk_drew ?_ | refine blk_alloc ?_ _)); refine blk_far ?_ NB339_350.out _; (with_reducible repeat (first | refine blk_drewN ?_ _ | refine blk_drew ?_ | refine blk_alloc ?_ _)); refine blk_far ?_ NB339_350.out _; (with_reducible repeat (first | refine blk_drewN ?_ _ | refine blk_drew ?_ | refine blk_alloc ?_ _)); exact BK339.out⟩, ⟨bs5 HB GE327 GE328 GE339 GE341 GE350⟩⟩
def impl_within.f (a0 : Int) (a1 : Int) (a2 : Int) : Option (Bool) := if a0 ≥ a1 then (some (decide (a0 ≤ a2))) else (some false)
set_option maxHeartbeats 8000000 in
set_option maxRecDepth 100000 in
theorem impl_within.calls (a0 : Int) (a1 : Int) (a2 : Int) (r : Bool) (w : World) (h : impl_within.f a0 a1 a2 = some r) :
  Calls Try.prog 49 #[.int .i64 a0, .int .i64 a1, .int .i64 a2] w fun e w' => e = .returned (.bool r) ∧ Drawn0 w w' := by
 have H : (if a0 ≥ a1 then (some (decide (a0 ≤ a2))) else (some false)) = some r := h;clear h
 by_cases c4 : a0 ≥ a1
 ·
  rw [if_pos c4] at H;have c4b0 : decide (a1 ≤ a0) = true := decide_eq_true c4;clear c4;obtain rfl := Option.some.inj H
  go_enter Try.func49, Try.ntmps49
  go_wp2
  go_ret
  exact ⟨by first | rfl | (simp; done) | (simp [*]; done), by repeat (first | exact Drawn0.refl _ | apply Drawn0.step)⟩
 ·
  rw [if_neg c4] at H;have c4b0 : decide (a1 ≤ a0) = false := decide_eq_false c4;clear c4;obtain rfl := Option.some.inj H
  go_enter Try.func49, Try.ntmps49
  go_wp2
  go_ret
  exact ⟨by first | rfl | (simp; done) | (simp [*]; done), by repeat (first | exact Drawn0.refl _ | apply Drawn0.step)⟩
def impl_isExtent.f (a0_0 : Int) (a0_1 : Int) (a1 : Int) : Option (Bool) := (impl_within.f a0_0 0 (wrap64 (a1 - 1))).bind fun t352 => (if t352 = true then ((impl_within.f a0_1 1 (wrap64 (a1 - a0_0))).bind fun t353 => (some t353)) else (some false))
set_option maxHeartbeats 8000000 in
set_option maxRecDepth 100000 in
theorem impl_isExtent.calls (a0_0 : Int) (a0_1 : Int) (a1 : Int) (r : Bool) (w : World) (h : impl_isExtent.f a0_0 a0_1 a1 = some r) :
  Calls Try.prog 53 #[.agg #[.int .i64 a0_0, .int .i64 a0_1], .int .i64 a1] w fun e w' => e = .returned (.bool r) ∧ Below w.heap.size w w' := by
 have hu40 := Try.underlying40;have HB := Ah (Below.refl w.heap.size w);have H : ((impl_within.f a0_0 0 (wrap64 (a1 - 1))).bind fun t352 => (if t352 = true then ((impl_within.f a0_1 1 (wrap64 (a1 - a0_0))).bind fun t353 => (some t353)) else (some false))) = some r := h;clear h;replace H := Option.bind_eq_some_iff.mp H;obtain ⟨t352, A30, H⟩ := H
 try dsimp only at H
 have A3 := Ah A30;clear A30
 by_cases c4 : t352 = true
 rotate_left
 ·
  replace c4 := Bool.eq_false_iff.mpr c4;subst c4;rw [if_neg fne] at H;obtain rfl := Option.some.inj H
  go_enter Try.func53, Try.ntmps53
  go_wp2_with (first | ((with_reducible refine gate_dst (N := 2) rfl ?_); refine boxL 2 40 #[.int .i64 a0_0, .int .i64 a0_1] ?_; intro gb351 hg w8 BK351 hb; have GW351 := gw hg (bs HB); have GE351 := gw hg (bs HB); replace HB := Ah (below_step (bs HB) hb); clear hb hg; obtain ⟨hcz9_0, hcz9_1⟩ := cz2 BK351; obtain ⟨hfz9_0, hfz9_1⟩ := fz2 BK351) | ((with_reducible refine gate_callee (f := 49) rfl ?_); refine gL (some 9) rfl rfl Try.func49 (by kernel_rfl) rfl #[.int .i64 a0_0, .int .i64 0, .int .i64 (wrap64 (a1 - 1))] rfl ?_; (with_reducible refine (impl_within.calls a0_0 0 (wrap64 (a1 - 1)) false _ A3.out).mono ?_); rintro e w' ⟨rfl, ⟨nd, rfl⟩⟩; refine ⟨_, rfl, ?_⟩))
  go_ret
  exact ⟨er, bs1 HB GE351⟩
 subst c4;rw [if_pos rfl] at H;replace H := Option.bind_eq_some_iff.mp H;obtain ⟨t353, A50, H⟩ := H
 try dsimp only at H
 have A5 := Ah A50;clear A50;obtain rfl := Option.some.inj H
 go_enter Try.func53, Try.ntmps53
 go_wp2_with (first | ((with_reducible refine gate_dst (N := 2) rfl ?_); refine boxL 2 40 #[.int .i64 a0_0, .int .i64 a0_1] ?_; intro gb351 hg w6 BK351 hb; have GW351 := gw hg (bs HB); have GE351 := gw hg (bs HB); replace HB := Ah (below_step (bs HB) hb); clear hb hg; obtain ⟨hcz7_0, hcz7_1⟩ := cz2 BK351; obtain ⟨hfz7_0, hfz7_1⟩ := fz2 BK351) | ((with_reducible refine gate_callee (f := 49) rfl ?_); refine gL (some 9) rfl rfl Try.func49 (by kernel_rfl) rfl #[.int .i64 a0_0, .int .i64 0, .int .i64 (wrap64 (a1 - 1))] rfl ?_; (with_reducible refine (impl_within.calls a0_0 0 (wrap64 (a1 - 1)) true _ A3.out).mono ?_); rintro e w' ⟨rfl, ⟨nd, rfl⟩⟩; refine ⟨_, rfl, ?_⟩) | (go_at_call 49; (with_reducible refine (impl_within.calls a0_1 1 (wrap64 (a1 - a0_0)) t353 _ A5.out).mono ?_); rintro e w' ⟨rfl, ⟨nd, rfl⟩⟩))
 go_ret
 exact ⟨er, bs1 HB GE351⟩
def impl_Extent_57.f (l0 : List (S40)) : Option (List (S40)) := if l0.length * 16 ≤ 140737488355328 then some l0 else none
set_option maxRecDepth 100000 in
theorem impl_Extent_57.calls (A0 : Option Addr) (c0 : Nat) (l0 : List (S40)) (r : List (S40)) (w : World) (hr0 : Kd.C k40 w A0 l0.length l0) (hc0 : l0.length ≤ c0) (h : impl_Extent_57.f l0 = some r) :
    Calls Try.prog 57 #[.slice A0 l0.length c0] w fun e w' => ∃ v0_ : Value, e = .returned (v0_) ∧ Kd.R k40 40 w' w.heap.size (fun _ => True) v0_ r ∧ Below w.heap.size w w' := by
  have hus := Try.underlying31;have huu : ∀ w, Sem.run Try.prog (underlying 31) w = .ok (TypeDesc.slice 40) w := run_underlying hus
  have hee : ∀ (w : World) (a : Option Addr) (n c n' c' : Nat), (binOp .eql 31 (.slice a n c) (.slice none n' c')).run Try.prog w = .ok (.bool a.isNone) w := fun w a n c n' c' => Lib.run_eql_slice_nil w _ _ a n c n' c' hus
  unfold impl_Extent_57.f at h
  by_cases hl : l0.length * 16 ≤ 140737488355328
  · rw [if_pos hl] at h
    obtain rfl := Option.some.inj h;have hR := Aside0.mk hr0;have hL := Aside0.mk hl;clear hr0 h hl
    rcases A0 with _ | ad
    · have h0 : l0 = [] := by
        rcases Nat.eq_zero_or_pos l0.length with h0 | h0
        · exact List.eq_nil_of_length_eq_zero h0
        · obtain ⟨ad, h, _⟩ := hR.out.2.2 h0
          cases h
      subst h0
      go_enter Try.func57, Try.ntmps57
      go_wp2
      go_ret
      exact ⟨_, rfl, Kd.R_nil _ _ _ _ _, Below.refl _ _⟩
    · go_enter Try.func57, Try.ntmps57
      go_wp2_with (first
        | ((with_reducible refine gate_dst (N := 5) rfl ?_); refine Kd.R_lit k40 _ 40 ?hg (N := 5) ?hd (xs := ([] : List (S40))) (inner := []) (ok := fun _ => True) (okp := fun _ => True) ?hr ?hp (fun _ hk => hk) trivial (Below.refl _ _) (Nat.le_refl _) (by simp) ?_; (case hd => rfl); (case hg => rfl); (case hr => first | (go_simp; done) | (go_simp; rfl)); (case hp => exact (Reps.none _ _)); intro v391 w4 ho5 hb hg_ hnew_; clear hg_ hnew_; have n0_ := Aside0.mk (Kd.R_lower ho5 (Nat.le_refl _)); have n1_ := Aside0.mk hb; clear ho5 hb)
        | ((with_reducible refine gate_builtin (b := .append) (xs := #[.tmp 5, .tmp 6]) rfl ?_); at_builtin; refine Kd.R_append_rows k40 (w0 := w) w.heap.size rfl (.tmp 5) (.tmp 6) 31 40 (.agg #[(.int .i64 0), (.int .i64 0)]) 16 rfl hus info40 rfl (by decide) (by omega) v391 ([] : List (S40)) l0 _ _ _ (fun _ => True) (fun _ => False) rfl rfl ?aO ?aR (fun _ _ h => h) (fun _ h => h.elim) ?aF ?aB ?aS ?aL ?_; (case aR => exact Kd.C_below hR.out n1_.out); (case aB => exact n1_.out); (case aF => exact (fun _ _ => trivial)); (case aO => exact n0_.out); (case aS => exact n1_.out.size); (case aL => have := hL.out; simp only [List.length_nil, Nat.zero_add]; omega); intro v394 w6 ho hb hg hat; rw [List.nil_append] at ho; have m0_ := Aside0.mk ho; have m1_ := Aside0.mk hb; clear n0_ n1_ ho hb hg hat))
      go_ret
      exact ⟨_, rfl, m0_.out, m1_.out⟩
  · rw [if_neg hl] at h
    cases h
def impl_Extent_63.l0 : Nat → List (S40) → List (S40) → Int → Int → Option (Bool)
 | 0, _, _, _, _ => none
 | k + 1, x0, x1, x12, x13 => if x13 < x12 then (if 0 ≤ x13 then (if x13 < (x0.length : Int) then (if x13 < (x1.length : Int) then (if (!(((rd_T40 x0 x13).f0) == ((rd_T40 x1 x13).f0)) || (!(((rd_T40 x0 x13).f1) == ((rd_T40 x1 x13).f1)))) = true then (some false) else (impl_Extent_63.l0 k x0 x1 x12 (wrap64 (x13 + 1)))) else (none)) else (none)) else (none)) else (some true)
def impl_Extent_63.f (k : Nat) (l0 : List (S40)) (l1 : List (S40)) : Option (Bool) := if (l0.length : Int) = (l1.length : Int) then (impl_Extent_63.l0 k l0 l1 (l0.length : Int) 0) else (some false)
theorem impl_Extent_63.mono_l : ∀ k, (∀ y0 y1 y2 y3, LeO (impl_Extent_63.l0 k y0 y1 y2 y3) (impl_Extent_63.l0 (k + 1) y0 y1 y2 y3))
 | 0 => fun _ _ _ _ r h => by simp [impl_Extent_63.l0] at h
 | k + 1 => by
  have ih0 := impl_Extent_63.mono_l k
  ·
   intro y0 y1 y2 y3;unfold impl_Extent_63.l0
   repeat' with_reducible first|exact ih0 _ _ _ _|exact LeO.refl _|exact LeO.none _|refine LeO.ite ?_ ?_|refine LeO.bind ?_ (fun _ => ?_)
theorem impl_Extent_63.mono : ∀ a0 a1 k, LeO (impl_Extent_63.f k a0 a1) (impl_Extent_63.f (k + 1) a0 a1) := by
 intro a0 a1 k;have ih0 := impl_Extent_63.mono_l k;unfold impl_Extent_63.f
 repeat' with_reducible first|exact ih0 _ _ _ _|exact LeO.refl _|exact LeO.none _|refine LeO.ite ?_ ?_|refine LeO.bind ?_ (fun _ => ?_)
set_option maxHeartbeats 8000000 in
set_option maxRecDepth 100000 in
theorem impl_Extent_63.calls (k : Nat) (A0 : Option Addr) (c0 : Nat) (l0 : List (S40)) (A1 : Option Addr) (c1 : Nat) (l1 : List (S40)) (r : Bool) (w : World) (hr0 : Kd.C k40 w A0 l0.length l0) (hc0 : l0.length ≤ c0) (hr1 : Kd.C k40 w A1 l1.length l1) (hc1 : l1.length ≤ c1) (h : impl_Extent_63.f k l0 l1 = some r) :
  Calls Try.prog 63 #[.slice A0 l0.length c0, .slice A1 l1.length c1] w fun e w' => e = .returned (.bool r) ∧ Drawn0 w w' := by
 have hu40 := Try.underlying40;have HR0 := Ah hr0;have HC0 := Ah hc0;clear hr0 hc0;have HR1 := Ah hr1;have HC1 := Ah hc1;clear hr1 hc1;have H : (if (l0.length : Int) = (l1.length : Int) then (impl_Extent_63.l0 k l0 l1 (l0.length : Int) 0) else (some false)) = some r := h;clear h
 by_cases c3 : (l0.length : Int) = (l1.length : Int)
 rotate_left
 ·
  rw [if_neg c3] at H;have c3b0 : ((l0.length : Int) == (l1.length : Int)) = false := beq_eq_false_iff_ne.mpr c3;have c3b1 : ((l0.length : Int) != (l1.length : Int)) = true := bne_iff_ne.mpr c3
  have c3b2 : (l0.length == l1.length) = false := by first | simpa using c3 | (simp at c3 ⊢; omega)
  obtain rfl := Option.some.inj H
  go_enter Try.func63, Try.ntmps63
  go_wp2
  repeat (go_quiet (fail); try go_wp2)
  go_ret
  exact ⟨e3, by repeat (first | exact Drawn0.refl _ | apply Drawn0.step)⟩
 rw [if_pos c3] at H;have c3b0 : ((l0.length : Int) == (l1.length : Int)) = true := beq_iff_eq.mpr c3;have c3b1 : ((l0.length : Int) != (l1.length : Int)) = false := bne_eq_false_iff_eq.mpr c3
 have c3b2 : (l0.length == l1.length) = true := by first | simpa using c3 | (simp at c3 ⊢; omega)
 clear c3;have H' := Ah H;clear H
 go_enter Try.func63, Try.ntmps63
 go_wp2
 repeat (go_quiet (fail); try go_wp2)
 go_loopg [13] k (fun kq v13 w' => ∃ (x13_1 : Int), v13 = .int .i64 x13_1 ∧ Aside0 (impl_Extent_63.l0 kq l0 l1 (l0.length : Int) x13_1 = some r) ∧ Aside0 (kq ≤ k) ∧ Drawn0 w w')
 case atStart => exact ⟨(0), e3, H', ⟨Nat.le_refl _⟩, by repeat (first | exact Drawn0.refl _ | apply Drawn0.step)⟩
 case round =>
  clear H'
  try clear c1
  try clear p2
  try clear c3
  try clear c3b0
  try clear c3b1
  try clear c3b2
  obtain ⟨x13_1, rfl, HA, HK1, ⟨m1, rfl⟩⟩ := hrel
  cases gk with
  | zero => exact absurd HA.out (by simp [impl_Extent_63.l0])
  | succ k1 =>
   have H := HA.out;clear HA;simp only [impl_Extent_63.l0] at H
   by_cases c4 : x13_1 < (l0.length : Int)
   rotate_left
   ·
    rw [if_neg c4] at H;have c4b0 : decide (x13_1 < (l0.length : Int)) = false := decide_eq_false c4;clear c4;obtain rfl := Option.some.inj H
    go_wp2
    repeat (go_quiet (fail); try go_wp2)
    go_ret
    exact ⟨e3, by repeat (first | exact Drawn0.refl _ | apply Drawn0.step)⟩
   rw [if_pos c4] at H;have c4b0 : decide (x13_1 < (l0.length : Int)) = true := decide_eq_true c4;clear c4
   by_cases c5 : 0 ≤ x13_1
   rotate_left
   ·
    rw [if_neg c5] at H;exact absurd H (by simp)
   rw [if_pos c5] at H;have c5b0 : decide (0 ≤ x13_1) = true := decide_eq_true c5;clear c5
   by_cases c6 : x13_1 < (l0.length : Int)
   rotate_left
   ·
    rw [if_neg c6] at H;exact absurd H (by simp)
   rw [if_pos c6] at H;have c6b0 : decide (x13_1 < (l0.length : Int)) = true := decide_eq_true c6;clear c6
   by_cases c7 : x13_1 < (l1.length : Int)
   rotate_left
   ·
    rw [if_neg c7] at H;exact absurd H (by simp)
   rw [if_pos c7] at H;have c7b0 : decide (x13_1 < (l1.length : Int)) = true := decide_eq_true c7;clear c7
   by_cases c8 : (!(((rd_T40 l0 x13_1).f0) == ((rd_T40 l1 x13_1).f0)) || (!(((rd_T40 l0 x13_1).f1) == ((rd_T40 l1 x13_1).f1)))) = true
   ·
    rw [if_pos c8] at H;have c8b0 : (!(((rd_T40 l0 x13_1).f0) == ((rd_T40 l1 x13_1).f0)) || (!(((rd_T40 l0 x13_1).f1) == ((rd_T40 l1 x13_1).f1)))) = true := c8;clear c8;obtain rfl := Option.some.inj H;have p354 : 0 ≤ (x13_1 : Int) := od;have q354 : x13_1 < (l0.length : Int) := od;obtain ⟨ad354, e354, hx354_0, hx354_1⟩ := at_T40 HR0.out x13_1 p354 q354
    cases e354
    replace p354 := eq_true p354;replace q354 := eq_true q354;have p355 : 0 ≤ (x13_1 : Int) := od;have q355 : x13_1 < (l1.length : Int) := od;obtain ⟨ad355, e355, hx355_0, hx355_1⟩ := at_T40 HR1.out x13_1 p355 q355
    cases e355
    replace p355 := eq_true p355;replace q355 := eq_true q355
    go_wp2
    repeat (go_quiet (fail); try go_wp2)
    go_ret
    exact ⟨e3, by repeat (first | exact Drawn0.refl _ | apply Drawn0.step)⟩
   rw [if_neg c8] at H
   have c8b0 : (!(((rd_T40 l0 x13_1).f0) == ((rd_T40 l1 x13_1).f0)) || (!(((rd_T40 l0 x13_1).f1) == ((rd_T40 l1 x13_1).f1)))) = false := by simpa using c8
   clear c8;have H' := Ah H;clear H;have p354 : 0 ≤ (x13_1 : Int) := od;have q354 : x13_1 < (l0.length : Int) := od;obtain ⟨ad354, e354, hx354_0, hx354_1⟩ := at_T40 HR0.out x13_1 p354 q354
   cases e354
   replace p354 := eq_true p354;replace q354 := eq_true q354;have p355 : 0 ≤ (x13_1 : Int) := od;have q355 : x13_1 < (l1.length : Int) := od;obtain ⟨ad355, e355, hx355_0, hx355_1⟩ := at_T40 HR1.out x13_1 p355 q355
   cases e355
   replace p355 := eq_true p355;replace q355 := eq_true q355
   go_wp2
   repeat (go_quiet (fail); try go_wp2)
   go_roundg k1
   case measure => have := HK1.out; omega
   case rel => exact ⟨(wrap64 (x13_1 + 1)), e3, H', ⟨by have := HK1.out; omega⟩, by repeat (first | exact Drawn0.refl _ | apply Drawn0.step)⟩
def cmp_Or_int.l0 : Nat → Int → List Int → Int → Int → Option (Int)
 | 0, _, _, _, _ => none
 | k + 1, x3, x6, x7, x8 => if x8 < x7 then (if 0 ≤ x8 then (if x8 < (x6.length : Int) then (if (rd x6 x8) = x3 then (cmp_Or_int.l0 k x3 x6 x7 (wrap64 (x8 + 1))) else (some (rd x6 x8))) else (none)) else (none)) else (some x3)
def cmp_Or_int.f (k : Nat) (l0 : List Int) : Option (Int) := cmp_Or_int.l0 k 0 l0 (l0.length : Int) 0
theorem cmp_Or_int.mono_l : ∀ k, (∀ y0 y1 y2 y3, LeO (cmp_Or_int.l0 k y0 y1 y2 y3) (cmp_Or_int.l0 (k + 1) y0 y1 y2 y3))
 | 0 => fun _ _ _ _ r h => by simp [cmp_Or_int.l0] at h
 | k + 1 => by
  have ih0 := cmp_Or_int.mono_l k
  ·
   intro y0 y1 y2 y3;unfold cmp_Or_int.l0
   repeat' with_reducible first|exact ih0 _ _ _ _|exact LeO.refl _|exact LeO.none _|refine LeO.ite ?_ ?_|refine LeO.bind ?_ (fun _ => ?_)
theorem cmp_Or_int.mono : ∀ a0 k, LeO (cmp_Or_int.f k a0) (cmp_Or_int.f (k + 1) a0) := by
 intro a0 k;have ih0 := cmp_Or_int.mono_l k;unfold cmp_Or_int.f
 repeat' with_reducible first|exact ih0 _ _ _ _|exact LeO.refl _|exact LeO.none _|refine LeO.ite ?_ ?_|refine LeO.bind ?_ (fun _ => ?_)
set_option maxHeartbeats 8000000 in
set_option maxRecDepth 100000 in
theorem cmp_Or_int.calls (k : Nat) (A0 : Option Addr) (c0 : Nat) (l0 : List Int) (r : Int) (w : World) (hr0 : Kd.C (Kd.int .i64) w A0 l0.length l0) (hc0 : l0.length ≤ c0) (h : cmp_Or_int.f k l0 = some r) :
  Calls Try.prog 74 #[.slice A0 l0.length c0] w fun e w' => e = .returned (.int .i64 r) ∧ Drawn0 w w' := by
 have HR0 := Ah hr0;have HC0 := Ah hc0;clear hr0 hc0;have H : (cmp_Or_int.l0 k 0 l0 (l0.length : Int) 0) = some r := h;clear h;have H' := Ah H;clear H
 go_enter Try.func74, Try.ntmps74
 go_wp2
 go_loopg [8] k (fun kq v8 w' => ∃ (x8_1 : Int), v8 = .int .i64 x8_1 ∧ Aside0 (cmp_Or_int.l0 kq 0 l0 (l0.length : Int) x8_1 = some r) ∧ Aside0 (kq ≤ k) ∧ Drawn0 w w')
 case atStart => exact ⟨(0), e3, H', ⟨Nat.le_refl _⟩, by repeat (first | exact Drawn0.refl _ | apply Drawn0.step)⟩
 case round =>
  clear H';obtain ⟨x8_1, rfl, HA, HK1, ⟨m1, rfl⟩⟩ := hrel
  cases gk with
  | zero => exact absurd HA.out (by simp [cmp_Or_int.l0])
  | succ k1 =>
   have H := HA.out;clear HA;simp only [cmp_Or_int.l0] at H
   by_cases c2 : x8_1 < (l0.length : Int)
   rotate_left
   ·
    rw [if_neg c2] at H;have c2b0 : decide (x8_1 < (l0.length : Int)) = false := decide_eq_false c2;clear c2;obtain rfl := Option.some.inj H
    go_wp2
    go_ret
    exact ⟨e3, by repeat (first | exact Drawn0.refl _ | apply Drawn0.step)⟩
   rw [if_pos c2] at H;have c2b0 : decide (x8_1 < (l0.length : Int)) = true := decide_eq_true c2;clear c2
   by_cases c3 : 0 ≤ x8_1
   rotate_left
   ·
    rw [if_neg c3] at H;exact absurd H (by simp)
   rw [if_pos c3] at H;have c3b0 : decide (0 ≤ x8_1) = true := decide_eq_true c3;clear c3
   by_cases c4 : x8_1 < (l0.length : Int)
   rotate_left
   ·
    rw [if_neg c4] at H;exact absurd H (by simp)
   rw [if_pos c4] at H;have c4b0 : decide (x8_1 < (l0.length : Int)) = true := decide_eq_true c4;clear c4
   by_cases c5 : (rd l0 x8_1) = 0
   rotate_left
   ·
    rw [if_neg c5] at H;have c5b0 : ((rd l0 x8_1) == 0) = false := beq_eq_false_iff_ne.mpr c5;have c5b1 : ((rd l0 x8_1) != 0) = true := bne_iff_ne.mpr c5;obtain rfl := Option.some.inj H;have p358 : 0 ≤ (x8_1 : Int) := od;have q358 : x8_1 < (l0.length : Int) := od;obtain ⟨ad358, e358, hx358_0⟩ := Kd.at_int HR0.out x8_1 p358 q358
    cases e358
    replace p358 := eq_true p358;replace q358 := eq_true q358
    go_wp2
    go_ret
    exact ⟨e3, by repeat (first | exact Drawn0.refl _ | apply Drawn0.step)⟩
   rw [if_pos c5] at H;have c5b0 : ((rd l0 x8_1) == 0) = true := beq_iff_eq.mpr c5;have c5b1 : ((rd l0 x8_1) != 0) = false := bne_eq_false_iff_eq.mpr c5;clear c5;have H' := Ah H;clear H;have p358 : 0 ≤ (x8_1 : Int) := od;have q358 : x8_1 < (l0.length : Int) := od;obtain ⟨ad358, e358, hx358_0⟩ := Kd.at_int HR0.out x8_1 p358 q358
   cases e358
   replace p358 := eq_true p358;replace q358 := eq_true q358
   go_wp2
   go_roundg k1
   case measure => have := HK1.out; omega
   case rel => exact ⟨(wrap64 (x8_1 + 1)), e3, H', ⟨by have := HK1.out; omega⟩, by repeat (first | exact Drawn0.refl _ | apply Drawn0.step)⟩
def cmp_isNaN_int.f (a0 : Int) : Option (Bool) := some (a0 != a0)
set_option maxHeartbeats 8000000 in
set_option maxRecDepth 100000 in
theorem cmp_isNaN_int.calls (a0 : Int) (r : Bool) (w : World) (h : cmp_isNaN_int.f a0 = some r) :
  Calls Try.prog 86 #[.int .i64 a0] w fun e w' => e = .returned (.bool r) ∧ Drawn0 w w' := by
 have H : (some (a0 != a0)) = some r := h;clear h;obtain rfl := Option.some.inj H
 go_enter Try.func86, Try.ntmps86
 go_wp2
 go_ret
 exact ⟨by first | rfl | (simp; done) | (simp [*]; done), by repeat (first | exact Drawn0.refl _ | apply Drawn0.step)⟩
def cmp_Compare_int.f (a0 : Int) (a1 : Int) : Option (Int) := (cmp_isNaN_int.f a0).bind fun t359 => ((cmp_isNaN_int.f a1).bind fun t360 => (if t359 = true then (if t360 = true then (some 0) else (some (-1))) else (if t360 = true then (some 1) else (if a0 < a1 then (some (-1)) else (if a0 > a1 then (some 1) else (some 0))))))
set_option maxHeartbeats 8000000 in
set_option maxRecDepth 100000 in
theorem cmp_Compare_int.calls (a0 : Int) (a1 : Int) (r : Int) (w : World) (h : cmp_Compare_int.f a0 a1 = some r) :
  Calls Try.prog 75 #[.int .i64 a0, .int .i64 a1] w fun e w' => e = .returned (.int .i64 r) ∧ Drawn0 w w' := by
 have H : ((cmp_isNaN_int.f a0).bind fun t359 => ((cmp_isNaN_int.f a1).bind fun t360 => (if t359 = true then (if t360 = true then (some 0) else (some (-1))) else (if t360 = true then (some 1) else (if a0 < a1 then (some (-1)) else (if a0 > a1 then (some 1) else (some 0))))))) = some r := h;clear h;replace H := Option.bind_eq_some_iff.mp H;obtain ⟨t359, A30, H⟩ := H
 try dsimp only at H
 have A3 := Ah A30;clear A30;replace H := Option.bind_eq_some_iff.mp H;obtain ⟨t360, A40, H⟩ := H
 try dsimp only at H
 have A4 := Ah A40;clear A40
 by_cases c5 : t359 = true
 ·
  subst c5;rw [if_pos rfl] at H
  by_cases c6 : t360 = true
  ·
   subst c6;rw [if_pos rfl] at H;obtain rfl := Option.some.inj H
   go_enter Try.func75, Try.ntmps75
   go_wp2_with (first | ((with_reducible refine gate_callee (f := 86) rfl ?_); refine gL (some 8) rfl rfl Try.func86 (by kernel_rfl) rfl #[.int .i64 a0] rfl ?_; (with_reducible refine (cmp_isNaN_int.calls a0 true _ A3.out).mono ?_); rintro e w' ⟨rfl, ⟨nd, rfl⟩⟩; refine ⟨_, rfl, ?_⟩) | ((with_reducible refine gate_callee (f := 86) rfl ?_); refine gL (some 10) rfl rfl Try.func86 (by kernel_rfl) rfl #[.int .i64 a1] rfl ?_; (with_reducible refine (cmp_isNaN_int.calls a1 true _ A4.out).mono ?_); rintro e w' ⟨rfl, ⟨nd, rfl⟩⟩; refine ⟨_, rfl, ?_⟩))
   go_ret
   exact ⟨e3, by repeat (first | exact Drawn0.refl _ | apply Drawn0.step)⟩
  replace c6 := Bool.eq_false_iff.mpr c6;subst c6;rw [if_neg fne] at H;obtain rfl := Option.some.inj H
  go_enter Try.func75, Try.ntmps75
  go_wp2_with (first | ((with_reducible refine gate_callee (f := 86) rfl ?_); refine gL (some 8) rfl rfl Try.func86 (by kernel_rfl) rfl #[.int .i64 a0] rfl ?_; (with_reducible refine (cmp_isNaN_int.calls a0 true _ A3.out).mono ?_); rintro e w' ⟨rfl, ⟨nd, rfl⟩⟩; refine ⟨_, rfl, ?_⟩) | ((with_reducible refine gate_callee (f := 86) rfl ?_); refine gL (some 10) rfl rfl Try.func86 (by kernel_rfl) rfl #[.int .i64 a1] rfl ?_; (with_reducible refine (cmp_isNaN_int.calls a1 false _ A4.out).mono ?_); rintro e w' ⟨rfl, ⟨nd, rfl⟩⟩; refine ⟨_, rfl, ?_⟩))
  go_ret
  exact ⟨e3, by repeat (first | exact Drawn0.refl _ | apply Drawn0.step)⟩
 replace c5 := Bool.eq_false_iff.mpr c5;subst c5;rw [if_neg fne] at H
 by_cases c7 : t360 = true
 ·
  subst c7;rw [if_pos rfl] at H;obtain rfl := Option.some.inj H
  go_enter Try.func75, Try.ntmps75
  go_wp2_with (first | ((with_reducible refine gate_callee (f := 86) rfl ?_); refine gL (some 8) rfl rfl Try.func86 (by kernel_rfl) rfl #[.int .i64 a0] rfl ?_; (with_reducible refine (cmp_isNaN_int.calls a0 false _ A3.out).mono ?_); rintro e w' ⟨rfl, ⟨nd, rfl⟩⟩; refine ⟨_, rfl, ?_⟩) | ((with_reducible refine gate_callee (f := 86) rfl ?_); refine gL (some 10) rfl rfl Try.func86 (by kernel_rfl) rfl #[.int .i64 a1] rfl ?_; (with_reducible refine (cmp_isNaN_int.calls a1 true _ A4.out).mono ?_); rintro e w' ⟨rfl, ⟨nd, rfl⟩⟩; refine ⟨_, rfl, ?_⟩))
  go_ret
  exact ⟨e3, by repeat (first | exact Drawn0.refl _ | apply Drawn0.step)⟩
 replace c7 := Bool.eq_false_iff.mpr c7;subst c7;rw [if_neg fne] at H
 by_cases c8 : a0 < a1
 ·
  rw [if_pos c8] at H;have c8b0 : decide (a0 < a1) = true := decide_eq_true c8;clear c8;obtain rfl := Option.some.inj H
  go_enter Try.func75, Try.ntmps75
  go_wp2_with (first | ((with_reducible refine gate_callee (f := 86) rfl ?_); refine gL (some 8) rfl rfl Try.func86 (by kernel_rfl) rfl #[.int .i64 a0] rfl ?_; (with_reducible refine (cmp_isNaN_int.calls a0 false _ A3.out).mono ?_); rintro e w' ⟨rfl, ⟨nd, rfl⟩⟩; refine ⟨_, rfl, ?_⟩) | ((with_reducible refine gate_callee (f := 86) rfl ?_); refine gL (some 10) rfl rfl Try.func86 (by kernel_rfl) rfl #[.int .i64 a1] rfl ?_; (with_reducible refine (cmp_isNaN_int.calls a1 false _ A4.out).mono ?_); rintro e w' ⟨rfl, ⟨nd, rfl⟩⟩; refine ⟨_, rfl, ?_⟩))
  go_ret
  exact ⟨e3, by repeat (first | exact Drawn0.refl _ | apply Drawn0.step)⟩
 rw [if_neg c8] at H;have c8b0 : decide (a0 < a1) = false := decide_eq_false c8;clear c8
 by_cases c9 : a0 > a1
 ·
  rw [if_pos c9] at H;have c9b0 : decide (a1 < a0) = true := decide_eq_true c9;clear c9;obtain rfl := Option.some.inj H
  go_enter Try.func75, Try.ntmps75
  go_wp2_with (first | ((with_reducible refine gate_callee (f := 86) rfl ?_); refine gL (some 8) rfl rfl Try.func86 (by kernel_rfl) rfl #[.int .i64 a0] rfl ?_; (with_reducible refine (cmp_isNaN_int.calls a0 false _ A3.out).mono ?_); rintro e w' ⟨rfl, ⟨nd, rfl⟩⟩; refine ⟨_, rfl, ?_⟩) | ((with_reducible refine gate_callee (f := 86) rfl ?_); refine gL (some 10) rfl rfl Try.func86 (by kernel_rfl) rfl #[.int .i64 a1] rfl ?_; (with_reducible refine (cmp_isNaN_int.calls a1 false _ A4.out).mono ?_); rintro e w' ⟨rfl, ⟨nd, rfl⟩⟩; refine ⟨_, rfl, ?_⟩))
  go_ret
  exact ⟨e3, by repeat (first | exact Drawn0.refl _ | apply Drawn0.step)⟩
 rw [if_neg c9] at H;have c9b0 : decide (a1 < a0) = false := decide_eq_false c9;clear c9;obtain rfl := Option.some.inj H
 go_enter Try.func75, Try.ntmps75
 go_wp2_with (first | ((with_reducible refine gate_callee (f := 86) rfl ?_); refine gL (some 8) rfl rfl Try.func86 (by kernel_rfl) rfl #[.int .i64 a0] rfl ?_; (with_reducible refine (cmp_isNaN_int.calls a0 false _ A3.out).mono ?_); rintro e w' ⟨rfl, ⟨nd, rfl⟩⟩; refine ⟨_, rfl, ?_⟩) | ((with_reducible refine gate_callee (f := 86) rfl ?_); refine gL (some 10) rfl rfl Try.func86 (by kernel_rfl) rfl #[.int .i64 a1] rfl ?_; (with_reducible refine (cmp_isNaN_int.calls a1 false _ A4.out).mono ?_); rintro e w' ⟨rfl, ⟨nd, rfl⟩⟩; refine ⟨_, rfl, ?_⟩))
 go_ret
 exact ⟨e3, by repeat (first | exact Drawn0.refl _ | apply Drawn0.step)⟩
def impl_compareSizes.f (k : Nat) (a0_0 : Int) (a0_1 : Int) (a1_0 : Int) (a1_1 : Int) : Option (Int) := (cmp_Compare_int.f a0_1 a1_1).bind fun t363 => ((cmp_Compare_int.f a0_0 a1_0).bind fun t364 => ((cmp_Or_int.f k (([t363, t364] : List Int))).bind fun t368 => (some t368)))
theorem impl_compareSizes.mono : ∀ a0 a1 a2 a3 k, LeO (impl_compareSizes.f k a0 a1 a2 a3) (impl_compareSizes.f (k + 1) a0 a1 a2 a3) := by
 intro a0 a1 a2 a3 k;unfold impl_compareSizes.f
 repeat' with_reducible first|exact cmp_Or_int.mono _ _|exact LeO.refl _|exact LeO.none _|refine LeO.ite ?_ ?_|refine LeO.bind ?_ (fun _ => ?_)
def impl_compareSizes.T1 : Bool × List (List Nat × List Nat) := (true, [([], []), ([0], [0]), ([], []), ([2], [2]), ([1, 3], [1, 3]), ([], []), ([5], [5]), ([], []), ([7], [7]), ([6, 8, 4], [6, 8]), ([4, 9], [4, 9]), ([10, 9], [10]), ([11, 11, 0, 1, 2, 3, 4, 5, 6, 7, 8, 9, 10, 11], [11])])
def impl_compareSizes.B1 : List Nat := [0, 1, 0, 4, 15, 0, 32, 0, 128, 511, 1023, 2047, 4095]
theorem impl_compareSizes.tab1 : rtab .any (opsOf Try.f71 1) = impl_compareSizes.T1 := by kernel_rfl
theorem impl_compareSizes.bits1 : waitsOk impl_compareSizes.T1.2 impl_compareSizes.B1 = true := by kernel_rfl
set_option maxHeartbeats 8000000 in
set_option maxRecDepth 100000 in
theorem impl_compareSizes.calls (k : Nat) (a0_0 : Int) (a0_1 : Int) (a1_0 : Int) (a1_1 : Int) (r : Int) (w : World) (h : impl_compareSizes.f k a0_0 a0_1 a1_0 a1_1 = some r) :
  Calls Try.prog 71 #[.agg #[.int .i64 a0_0, .int .i64 a0_1], .agg #[.int .i64 a1_0, .int .i64 a1_1]] w fun e w' => e = .returned (.int .i64 r) ∧ Below w.heap.size w w' := by
 have hu40 := Try.underlying40;have HB := Ah (Below.refl w.heap.size w);have H : ((cmp_Compare_int.f a0_1 a1_1).bind fun t363 => ((cmp_Compare_int.f a0_0 a1_0).bind fun t364 => ((cmp_Or_int.f k (([t363, t364] : List Int))).bind fun t368 => (some t368)))) = some r := h;clear h;replace H := Option.bind_eq_some_iff.mp H;obtain ⟨t363, A30, H⟩ := H
 try dsimp only at H
 have A3 := Ah A30;clear A30;replace H := Option.bind_eq_some_iff.mp H;obtain ⟨t364, A40, H⟩ := H
 try dsimp only at H
 have A4 := Ah A40;clear A40;obtain ⟨y365, hy365⟩ : ∃ y_ : List Int, y_ = (([t363, t364] : List Int)) := ⟨_, rfl⟩
 replace H : ((cmp_Or_int.f k y365).bind fun t368 => (some t368)) = some r := by first | (rw [hy365]; with_reducible exact H) | (have H2_ := (Option.bind_some _ _).symm.trans H; rw [hy365]; with_reducible exact H2_) | (have H2_ := (Option.bind_some _ _).symm.trans H; with_reducible exact H2_) | with_reducible exact H | (rw [hy365]; exact H) | exact H
 have Ny365 := Ah hy365;clear hy365;replace H := Option.bind_eq_some_iff.mp H;obtain ⟨t368, A50, H⟩ := H
 try dsimp only at H
 have A5 := Ah A50;clear A50;obtain rfl := Option.some.inj H
 go_enter Try.func71, Try.ntmps71
 try go_wp2_with (first | ((with_reducible refine gate_dst (N := 2) rfl ?_); refine boxL 2 40 #[.int .i64 a0_0, .int .i64 a0_1] ?_; intro gb361 hg w6 BK361 hb; have GW361 := gw hg (bs HB); have GE361 := gw hg (bs HB); replace HB := Ah (below_step (bs HB) hb); clear hb hg) | ((with_reducible refine gate_dst (N := 3) rfl ?_); refine boxL 3 40 #[.int .i64 a1_0, .int .i64 a1_1] ?_; intro gb362 hg w7 BK362 hb; have GW362 := gw hg (bs1 HB GE361); have GE362 := gw hg (bs1 HB GE361); replace HB := Ah (below_step (bs1 HB GE361) hb); have NB361_362 := nn BK361 hg; have NB362_361 := nm BK361 hg; replace BK361 := nb BK361 hb; clear hb hg))
 have n0_ := Ah (blk_drew BK361.out);have n1_ := Ah (blk_drew BK362.out);have n2_ := Ah (below_drew1 HB.out);clear BK361 BK362 HB;have BK361 := n0_;have BK362 := n1_;have HB := n2_;clear n0_ n1_ n2_;refine start_ (n := 13) (S := fun w' => w'.cell? ⟨gb361, 0, none⟩ = some (.int .i64 a0_0) ∧ w'.cell? ⟨gb361, 1, none⟩ = some (.int .i64 a0_1) ∧ w'.cell? ⟨gb362, 0, none⟩ = some (.int .i64 a1_0) ∧ w'.cell? ⟨gb362, 1, none⟩ = some (.int .i64 a1_1)) (ds := []) #[false, false, false, false, false, false, false, false, false, false, false, false, false] (by kernel_rfl) rfl rfl ⟨(blk_cell BK361.out 0).trans rfl, (blk_cell BK361.out 1).trans rfl, (blk_cell BK362.out 0).trans rfl, (blk_cell BK362.out 1).trans rfl⟩ (fun hHeld => ?_); refine with_tabW impl_compareSizes.tab1 impl_compareSizes.bits1 (fun HT_ HW_ => ?_)
 generalize w7.drew = w8 at BK361 BK362 HB hHeld ⊢
 refine pureS 0 5 HT_.out ?_;refine pureS 2 7 HT_.out ?_;refine pureS 5 10 HT_.out ?_;refine pureS 7 12 HT_.out ?_;refine takeS 1 6 HT_.out HW_.out hHeld (hr := by rintro w' ⟨s0, s1, s2, s3⟩; go_simp; with_reducible rfl) (h := ?_);refine takeS 3 8 HT_.out HW_.out hHeld (hr := by rintro w' ⟨s0, s1, s2, s3⟩; go_simp; with_reducible rfl) (h := ?_);refine takeS 6 11 HT_.out HW_.out hHeld (hr := by rintro w' ⟨s0, s1, s2, s3⟩; go_simp; with_reducible rfl) (h := ?_);refine takeS 8 13 HT_.out HW_.out hHeld (hr := by rintro w' ⟨s0, s1, s2, s3⟩; go_simp; with_reducible rfl) (h := ?_);refine one_ (i := 4) (N := some 9) #[true, true, true, true, true, true, true, true, true, false, false, false, false] rfl rfl (one_of HT_.out (by kernel_rfl)) (by decide) (fun K hK => ?_);refine goes_ Try.func75 (by kernel_rfl) rfl #[.int .i64 a0_1, .int .i64 a1_1] (by rfl) rfl rfl (by (try simp only [List.map_toArray, List.map_cons, List.map_nil]); first | done | rfl | (simp only [List.length_drop, List.length_take]; rfl)) ?_
 with_reducible refine (cmp_Compare_int.calls a0_1 a1_1 t363 _ A3.out).mono ?_
 rintro e w' ⟨rfl, ⟨nd, rfl⟩⟩;refine ⟨_, rfl, ?_⟩;refine hK.out _ _ ⟨(blk_cell BK361.out 0).trans rfl, (blk_cell BK361.out 1).trans rfl, (blk_cell BK362.out 0).trans rfl, (blk_cell BK362.out 1).trans rfl⟩ (fun hHeld => ?_);clear hK K;refine norm_ (a' := ?_) ?_ ?_;rotate_left
 ·
  show Act.put _ (some 9) _ = _
  simp only [Act.put, List.setIfInBounds_toArray, List.set_cons_zero, List.set_cons_succ, i64_w, i32_w]
  rfl
 refine one_ (i := 9) (N := some 14) #[true, true, true, true, true, true, true, true, true, true, false, false, false] rfl rfl (one_of HT_.out (by kernel_rfl)) (by decide) (fun K hK => ?_);refine goes_ Try.func75 (by kernel_rfl) rfl #[.int .i64 a0_0, .int .i64 a1_0] (by rfl) rfl rfl (by (try simp only [List.map_toArray, List.map_cons, List.map_nil]); first | done | rfl | (simp only [List.length_drop, List.length_take]; rfl)) ?_
 with_reducible refine (cmp_Compare_int.calls a0_0 a1_0 t364 _ A4.out).mono ?_
 rintro e w' ⟨rfl, ⟨nd, rfl⟩⟩;refine ⟨_, rfl, ?_⟩;refine hK.out _ _ ⟨(blk_cell BK361.out 0).trans rfl, (blk_cell BK361.out 1).trans rfl, (blk_cell BK362.out 0).trans rfl, (blk_cell BK362.out 1).trans rfl⟩ (fun hHeld => ?_);clear hK K;refine norm_ (a' := ?_) ?_ ?_;rotate_left
 ·
  show Act.put _ (some 14) _ = _
  simp only [Act.put, List.setIfInBounds_toArray, List.set_cons_zero, List.set_cons_succ, i64_w, i32_w]
  rfl
 refine one_ (i := 10) (N := some 15) #[true, true, true, true, true, true, true, true, true, true, true, false, false] rfl rfl (one_of HT_.out (by kernel_rfl)) (by decide) (fun K hK => ?_);refine Kd.R_lit_step (Kd.int .i64) _ 3 ?hg (N := 15) ?hd (xs := ([t363, t364] : List Int)) (inner := [.int .i64 t363, .int .i64 t364]) (ok := fun _ => True) (okp := fun _ => True) ?hr ?hp (fun _ hk => hk) trivial (Below.refl _ _) (Nat.le_refl _) (by simp) ?_; (case hd => rfl); (case hg => rfl); (case hr => first | (go_simp; done) | (go_simp; rfl)); (case hp => exact (Reps.one (show Kd.M (Kd.int .i64) _ _ _ t363 [.int .i64 t363] from rfl) (Reps.one (show Kd.M (Kd.int .i64) _ _ _ t364 [.int .i64 t364] from rfl) (Reps.none _ _))));intro v366 w9 ho10 hb hg_ hnew_;clear hg_ hnew_;(first | rw [← Ny365.out] at ho10 | (simp only [Int.reduceToNat] at ho10; rw [← Ny365.out] at ho10));have n0_ := Ah (Kd.R_lower ho10 (below_size (bs2 HB GE361 GE362)));have n1_ := Ah (bb BK361 hb);have n2_ := Ah (bb BK362 hb);have n3_ := Ah (below_step (bs2 HB GE361 GE362) hb);clear BK361 BK362 HB;have HO367 := n0_;have BK361 := n1_;have BK362 := n2_;have HB := n3_;clear n0_ n1_ n2_ n3_ hb ho10;obtain ⟨Ao11, co11, eo11⟩ := Kd.R_slice HO367.out;(first | subst eo11 | (injection eo11 with f1_ f2_ f3_; have f4_ := f1_.symm; have f5_ := f3_.symm; clear f1_ f2_ f3_; subst f4_; subst f5_));refine hK.out _ _ ⟨(blk_cell BK361.out 0).trans rfl, (blk_cell BK361.out 1).trans rfl, (blk_cell BK362.out 0).trans rfl, (blk_cell BK362.out 1).trans rfl⟩ (fun hHeld => ?_);clear hK K;refine norm_ (a' := ?_) ?_ ?_;rotate_left
 ·
  show Act.put _ (some 15) _ = _
  simp only [Act.put, List.setIfInBounds_toArray, List.set_cons_zero, List.set_cons_succ, i64_w, i32_w]
  rfl
 refine one_ (i := 11) (N := some 16) #[true, true, true, true, true, true, true, true, true, true, true, true, false] rfl rfl (one_of HT_.out (by kernel_rfl)) (by decide) (fun K hK => ?_);refine goes_ Try.func74 (by kernel_rfl) rfl #[.slice Ao11 y365.length co11] (by rfl) rfl rfl (by (try simp only [List.map_toArray, List.map_cons, List.map_nil]); first | done | rfl | (simp only [List.length_drop, List.length_take]; rfl)) ?_
 with_reducible refine (cmp_Or_int.calls k _ _ y365 t368 _ ?side1 ?side2 A5.out).mono ?_
 (case side1 => exact rc0 HO367);(case side2 => exact (Kd.R_reads' HO367.out).2.1);rintro e w' ⟨rfl, ⟨nd, rfl⟩⟩;refine ⟨_, rfl, ?_⟩;refine hK.out _ _ ⟨(blk_cell BK361.out 0).trans rfl, (blk_cell BK361.out 1).trans rfl, (blk_cell BK362.out 0).trans rfl, (blk_cell BK362.out 1).trans rfl⟩ (fun hHeld => ?_);clear hK K;refine norm_ (a' := ?_) ?_ ?_;rotate_left
 ·
  show Act.put _ (some 16) _ = _
  simp only [Act.put, List.setIfInBounds_toArray, List.set_cons_zero, List.set_cons_succ, i64_w, i32_w]
  rfl
 refine pureS 12 4 HT_.out ?_;refine done_ (done_of HT_.out (by kernel_rfl)) ?_
 try go_wp2
 go_ret
 exact ⟨er, bs2 HB GE361 GE362⟩
set_option maxHeartbeats 8000000 in
set_option maxRecDepth 100000 in
theorem impl_compareSizes.exact (k : Nat) (a0_0 : Int) (a0_1 : Int) (a1_0 : Int) (a1_1 : Int) (r : Int) (w : World) (h : impl_compareSizes.f k a0_0 a0_1 a1_0 a1_1 = some r) :
  Calls Try.prog 71 #[.agg #[.int .i64 a0_0, .int .i64 a0_1], .agg #[.int .i64 a1_0, .int .i64 a1_1]] w fun e w' => e = .returned (.int .i64 r) ∧ Below w.heap.size w w' ∧ w.drawn ≤ w'.drawn := by
 have DR := Ah (Nat.le_refl w.drawn);have hu40 := Try.underlying40;have HB := Ah (Below.refl w.heap.size w);have H : ((cmp_Compare_int.f a0_1 a1_1).bind fun t363 => ((cmp_Compare_int.f a0_0 a1_0).bind fun t364 => ((cmp_Or_int.f k (([t363, t364] : List Int))).bind fun t368 => (some t368)))) = some r := h;clear h;replace H := Option.bind_eq_some_iff.mp H;obtain ⟨t363, A30, H⟩ := H
 try dsimp only at H
 have A3 := Ah A30;clear A30;replace H := Option.bind_eq_some_iff.mp H;obtain ⟨t364, A40, H⟩ := H
 try dsimp only at H
 have A4 := Ah A40;clear A40;obtain ⟨y365, hy365⟩ : ∃ y_ : List Int, y_ = (([t363, t364] : List Int)) := ⟨_, rfl⟩
 replace H : ((cmp_Or_int.f k y365).bind fun t368 => (some t368)) = some r := by first | (rw [hy365]; with_reducible exact H) | (have H2_ := (Option.bind_some _ _).symm.trans H; rw [hy365]; with_reducible exact H2_) | (have H2_ := (Option.bind_some _ _).symm.trans H; with_reducible exact H2_) | with_reducible exact H | (rw [hy365]; exact H) | exact H
 have Ny365 := Ah hy365;clear hy365;replace H := Option.bind_eq_some_iff.mp H;obtain ⟨t368, A50, H⟩ := H
 try dsimp only at H
 have A5 := Ah A50;clear A50;obtain rfl := Option.some.inj H
 go_enter Try.func71, Try.ntmps71
 try go_wp2_with (first | ((with_reducible refine gate_dst (N := 2) rfl ?_); refine box_eventD ?hg (N := 2) ?hd (cs := #[.int .i64 a0_0, .int .i64 a0_1]) (t := 40) ?hr ?_; (case hd => rfl); (case hg => rfl); (case hr => first | (go_simp; done) | (go_simp; rfl)); intro gb361 hg w6 hbox hb hdr_; replace DR := Ah (Nat.le_trans DR.out (Nat.le_of_eq hdr_.symm)); clear hdr_; have BK361 := Ah (hbox); have GW361 := gw hg (bs HB); have GE361 := gw hg (bs HB); replace HB := Ah (below_step (bs HB) hb); clear hb hbox hg) | ((with_reducible refine gate_dst (N := 3) rfl ?_); refine box_eventD ?hg (N := 3) ?hd (cs := #[.int .i64 a1_0, .int .i64 a1_1]) (t := 40) ?hr ?_; (case hd => rfl); (case hg => rfl); (case hr => first | (go_simp; done) | (go_simp; rfl)); intro gb362 hg w7 hbox hb hdr_; replace DR := Ah (Nat.le_trans DR.out (Nat.le_of_eq hdr_.symm)); clear hdr_; have BK362 := Ah (hbox); have GW362 := gw hg (bs1 HB GE361); have GE362 := gw hg (bs1 HB GE361); replace HB := Ah (below_step (bs1 HB GE361) hb); have NB361_362 := nn BK361 hg; have NB362_361 := nm BK361 hg; replace BK361 := nb BK361 hb; clear hb hbox hg))
 have n0_ := Ah (blk_drew BK361.out);have n1_ := Ah (blk_drew BK362.out);have n2_ := Ah (below_drew1 HB.out);clear BK361 BK362 HB;have BK361 := n0_;have BK362 := n1_;have HB := n2_;clear n0_ n1_ n2_;refine start_ (n := 13) (S := fun w' => w'.cell? ⟨gb361, 0, none⟩ = some (.int .i64 a0_0) ∧ w'.cell? ⟨gb361, 1, none⟩ = some (.int .i64 a0_1) ∧ w'.cell? ⟨gb362, 0, none⟩ = some (.int .i64 a1_0) ∧ w'.cell? ⟨gb362, 1, none⟩ = some (.int .i64 a1_1)) (ds := []) #[false, false, false, false, false, false, false, false, false, false, false, false, false] (by kernel_rfl) rfl rfl ⟨(blk_cell BK361.out 0).trans rfl, (blk_cell BK361.out 1).trans rfl, (blk_cell BK362.out 0).trans rfl, (blk_cell BK362.out 1).trans rfl⟩ (fun hHeld => ?_); refine with_tabW impl_compareSizes.tab1 impl_compareSizes.bits1 (fun HT_ HW_ => ?_);have DR2 : w.drawn ≤ (w7.drew).drawn := Nat.le_trans DR.out (Nat.le_succ _);replace DR := Ah DR2;clear DR2
 generalize w7.drew = w8 at DR BK361 BK362 HB hHeld ⊢
 refine pureS 0 5 HT_.out ?_;refine pureS 2 7 HT_.out ?_;refine pureS 5 10 HT_.out ?_;refine pureS 7 12 HT_.out ?_;refine takeS 1 6 HT_.out HW_.out hHeld (hr := by rintro w' ⟨s0, s1, s2, s3⟩; go_simp; with_reducible rfl) (h := ?_);refine takeS 3 8 HT_.out HW_.out hHeld (hr := by rintro w' ⟨s0, s1, s2, s3⟩; go_simp; with_reducible rfl) (h := ?_);refine takeS 6 11 HT_.out HW_.out hHeld (hr := by rintro w' ⟨s0, s1, s2, s3⟩; go_simp; with_reducible rfl) (h := ?_);refine takeS 8 13 HT_.out HW_.out hHeld (hr := by rintro w' ⟨s0, s1, s2, s3⟩; go_simp; with_reducible rfl) (h := ?_);refine one_ (i := 4) (N := some 9) #[true, true, true, true, true, true, true, true, true, false, false, false, false] rfl rfl (one_of HT_.out (by kernel_rfl)) (by decide) (fun K hK => ?_);refine goes_ Try.func75 (by kernel_rfl) rfl #[.int .i64 a0_1, .int .i64 a1_1] (by rfl) rfl rfl (by (try simp only [List.map_toArray, List.map_cons, List.map_nil]); first | done | rfl | (simp only [List.length_drop, List.length_take]; rfl)) ?_
 with_reducible refine (cmp_Compare_int.calls a0_1 a1_1 t363 _ A3.out).mono ?_
 rintro e w' ⟨rfl, ⟨nd, rfl⟩⟩;refine ⟨_, rfl, ?_⟩;refine hK.out _ _ ⟨(blk_cell BK361.out 0).trans rfl, (blk_cell BK361.out 1).trans rfl, (blk_cell BK362.out 0).trans rfl, (blk_cell BK362.out 1).trans rfl⟩ (fun hHeld => ?_);clear hK K;refine norm_ (a' := ?_) ?_ ?_;rotate_left
 ·
  show Act.put _ (some 9) _ = _
  simp only [Act.put, List.setIfInBounds_toArray, List.set_cons_zero, List.set_cons_succ, i64_w, i32_w]
  rfl
 refine one_ (i := 9) (N := some 14) #[true, true, true, true, true, true, true, true, true, true, false, false, false] rfl rfl (one_of HT_.out (by kernel_rfl)) (by decide) (fun K hK => ?_);refine goes_ Try.func75 (by kernel_rfl) rfl #[.int .i64 a0_0, .int .i64 a1_0] (by rfl) rfl rfl (by (try simp only [List.map_toArray, List.map_cons, List.map_nil]); first | done | rfl | (simp only [List.length_drop, List.length_take]; rfl)) ?_
 with_reducible refine (cmp_Compare_int.calls a0_0 a1_0 t364 _ A4.out).mono ?_
 rintro e w' ⟨rfl, ⟨nd, rfl⟩⟩;refine ⟨_, rfl, ?_⟩;refine hK.out _ _ ⟨(blk_cell BK361.out 0).trans rfl, (blk_cell BK361.out 1).trans rfl, (blk_cell BK362.out 0).trans rfl, (blk_cell BK362.out 1).trans rfl⟩ (fun hHeld => ?_);clear hK K;refine norm_ (a' := ?_) ?_ ?_;rotate_left
 ·
  show Act.put _ (some 14) _ = _
  simp only [Act.put, List.setIfInBounds_toArray, List.set_cons_zero, List.set_cons_succ, i64_w, i32_w]
  rfl
 refine one_ (i := 10) (N := some 15) #[true, true, true, true, true, true, true, true, true, true, true, false, false] rfl rfl (one_of HT_.out (by kernel_rfl)) (by decide) (fun K hK => ?_);refine Kd.R_lit_stepD (Kd.int .i64) _ 3 ?hg (N := 15) ?hd (xs := ([t363, t364] : List Int)) (inner := [.int .i64 t363, .int .i64 t364]) (ok := fun _ => True) (okp := fun _ => True) ?hr ?hp (fun _ hk => hk) trivial (Below.refl _ _) (Nat.le_refl _) (by simp) ?_; (case hd => rfl); (case hg => rfl); (case hr => first | (go_simp; done) | (go_simp; rfl)); (case hp => exact (Reps.one (show Kd.M (Kd.int .i64) _ _ _ t363 [.int .i64 t363] from rfl) (Reps.one (show Kd.M (Kd.int .i64) _ _ _ t364 [.int .i64 t364] from rfl) (Reps.none _ _))));intro v366 w9 ho10 hb hg_ hnew_ hdr_
 have DR2 : w.drawn ≤ w9.drawn := by have h1_ := DR.out; rw [hdr_]; simp only [World.drewN]; omega
 replace DR := Ah DR2;clear DR2 hdr_ hg_ hnew_;(first | rw [← Ny365.out] at ho10 | (simp only [Int.reduceToNat] at ho10; rw [← Ny365.out] at ho10));have n0_ := Ah (Kd.R_lower ho10 (below_size (bs2 HB GE361 GE362)));have n1_ := Ah (bb BK361 hb);have n2_ := Ah (bb BK362 hb);have n3_ := Ah (below_step (bs2 HB GE361 GE362) hb);clear BK361 BK362 HB;have HO367 := n0_;have BK361 := n1_;have BK362 := n2_;have HB := n3_;clear n0_ n1_ n2_ n3_ hb ho10;obtain ⟨Ao11, co11, eo11⟩ := Kd.R_slice HO367.out;(first | subst eo11 | (injection eo11 with f1_ f2_ f3_; have f4_ := f1_.symm; have f5_ := f3_.symm; clear f1_ f2_ f3_; subst f4_; subst f5_));refine hK.out _ _ ⟨(blk_cell BK361.out 0).trans rfl, (blk_cell BK361.out 1).trans rfl, (blk_cell BK362.out 0).trans rfl, (blk_cell BK362.out 1).trans rfl⟩ (fun hHeld => ?_);clear hK K;refine norm_ (a' := ?_) ?_ ?_;rotate_left
 ·
  show Act.put _ (some 15) _ = _
  simp only [Act.put, List.setIfInBounds_toArray, List.set_cons_zero, List.set_cons_succ, i64_w, i32_w]
  rfl
 refine one_ (i := 11) (N := some 16) #[true, true, true, true, true, true, true, true, true, true, true, true, false] rfl rfl (one_of HT_.out (by kernel_rfl)) (by decide) (fun K hK => ?_);refine goes_ Try.func74 (by kernel_rfl) rfl #[.slice Ao11 y365.length co11] (by rfl) rfl rfl (by (try simp only [List.map_toArray, List.map_cons, List.map_nil]); first | done | rfl | (simp only [List.length_drop, List.length_take]; rfl)) ?_
 with_reducible refine (cmp_Or_int.calls k _ _ y365 t368 _ ?side1 ?side2 A5.out).mono ?_
 (case side1 => exact rc0 HO367);(case side2 => exact (Kd.R_reads' HO367.out).2.1);rintro e w' ⟨rfl, ⟨nd, rfl⟩⟩;refine ⟨_, rfl, ?_⟩;refine hK.out _ _ ⟨(blk_cell BK361.out 0).trans rfl, (blk_cell BK361.out 1).trans rfl, (blk_cell BK362.out 0).trans rfl, (blk_cell BK362.out 1).trans rfl⟩ (fun hHeld => ?_);clear hK K;refine norm_ (a' := ?_) ?_ ?_;rotate_left
 ·
  show Act.put _ (some 16) _ = _
  simp only [Act.put, List.setIfInBounds_toArray, List.set_cons_zero, List.set_cons_succ, i64_w, i32_w]
  rfl
 refine pureS 12 4 HT_.out ?_;refine done_ (done_of HT_.out (by kernel_rfl)) ?_
 try go_wp2
 go_ret
 exact ⟨er, bs2 HB GE361 GE362, by have h1_ := DR.out; first | exact h1_ | (simp only [World.drewN]; omega)⟩
def leSizes (x y : S40) : Bool := decide (x.f1 < y.f1 ∨ x.f1 = y.f1 ∧ x.f0 ≤ y.f0)
def slices_SortFunc_impl_Extent_at_impl_compareSizes.f (l0 : List S40) : Option (List S40) := if l0.length ≤ 1048576 then some (l0.mergeSort leSizes) else none
def cmpInts (a b : Int) : Int := if a < b then -1 else if a > b then 1 else 0
def cmpSizes (x y : S40) : Int := if cmpInts x.f1 y.f1 = 0 then cmpInts x.f0 y.f0 else cmpInts x.f1 y.f1
theorem cmpInts_eq (a b : Int) : cmp_Compare_int.f a b = some (cmpInts a b) := by
  unfold cmp_Compare_int.f cmp_isNaN_int.f cmpInts
  have e : (a != a) = false := by simp
  have e2 : (b != b) = false := by simp
  rw [e, e2];simp only [Option.bind_some, Bool.false_eq_true, if_false]
  by_cases h1 : a < b
  · rw [if_pos h1, if_pos h1]
  · rw [if_neg h1, if_neg h1]
    by_cases h2 : a > b
    · rw [if_pos h2, if_pos h2]
    · rw [if_neg h2, if_neg h2]
theorem cmpOr_eq (a b : Int) : cmp_Or_int.f 3 [a, b] = some (if a = 0 then b else a) := by
  have w1 : wrap64 (0 + 1) = 1 := by unfold wrap64; omega
  have w2 : wrap64 (1 + 1) = 2 := by unfold wrap64; omega
  unfold cmp_Or_int.f;have l : (([a, b] : List Int).length : Int) = 2 := rfl;rw [l, cmp_Or_int.l0, if_pos (by decide), if_pos (by decide), l, if_pos (by decide), show rd [a, b] 0 = a from rfl]
  by_cases h : a = 0
  · rw [if_pos h, if_pos h, w1, cmp_Or_int.l0, if_pos (by decide), if_pos (by decide), l, if_pos (by decide), show rd [a, b] 1 = b from rfl]
    by_cases h2 : b = 0
    · rw [if_pos h2, w2, cmp_Or_int.l0, if_neg (by decide), h2]
    · rw [if_neg h2]
  · rw [if_neg h, if_neg h]
theorem cmpSizes_eq (x y : S40) : impl_compareSizes.f 3 x.f0 x.f1 y.f0 y.f1 = some (cmpSizes x y) := by
  unfold impl_compareSizes.f;rw [cmpInts_eq, Option.bind_some, cmpInts_eq, Option.bind_some, cmpOr_eq, Option.bind_some]
  rfl
theorem cmpInts_lt (a b : Int) : cmpInts a b < 0 ↔ a < b := by
  unfold cmpInts
  split
  · omega
  · split <;> omega
theorem cmpInts_zero (a b : Int) : cmpInts a b = 0 ↔ a = b := by
  unfold cmpInts
  split
  · omega
  · split <;> omega
theorem cmpSizes_lt (x y : S40) : Go.Proofs.ltOf cmpSizes x y = decide (x.f1 < y.f1 ∨ x.f1 = y.f1 ∧ x.f0 < y.f0) := by
  unfold Go.Proofs.ltOf cmpSizes;refine decide_eq_decide.2 ?_
  by_cases h : cmpInts x.f1 y.f1 = 0
  · rw [if_pos h, cmpInts_lt]
    have := (cmpInts_zero _ _).1 h
    omega
  · rw [if_neg h, cmpInts_lt]
    have : x.f1 ≠ y.f1 := fun e => h ((cmpInts_zero _ _).2 e)
    omega
def encSizes (x : S40) : List Value := [.int .i64 x.f0, .int .i64 x.f1]
instance : Inhabited S40 := ⟨z40⟩
theorem swoSizes : Go.Sort.SWO (Go.Proofs.ltOf cmpSizes) where
  irrefl x := by rw [cmpSizes_lt]; simp
  trans x y z h1 h2 := by rw [cmpSizes_lt] at *; simp only [decide_eq_true_eq] at *; omega
  ntrans x y z h1 h2 := by rw [cmpSizes_lt] at *; simp only [decide_eq_false_iff_not] at *; omega
theorem totSizes (x y : S40) (h1 : Go.Proofs.ltOf cmpSizes x y = false) (h2 : Go.Proofs.ltOf cmpSizes y x = false) : x = y := by
  rw [cmpSizes_lt] at *;simp only [decide_eq_false_iff_not] at *;obtain ⟨a, b⟩ := x;obtain ⟨c, d⟩ := y;simp only at *;rw [show a = c by omega, show b = d by omega]
theorem leSizes_eq : (fun x y => !(Go.Proofs.ltOf cmpSizes) y x) = leSizes := by
  funext x y
  rw [cmpSizes_lt];unfold leSizes;rw [Bool.eq_iff_iff, Bool.not_eq_true', decide_eq_false_iff_not, decide_eq_true_iff]
  omega
set_option maxRecDepth 100000 in
theorem slices_SortFunc_impl_Extent_at_impl_compareSizes.calls (P0_ : Nat → Prop) (u9000_ : Value) (l0 : List S40) (r : List S40) (w0 w : World) (hB : Below w0.heap.size w0 w) (ho0 : Kd.R k40 40 w w0.heap.size P0_ u9000_ l0) (h : slices_SortFunc_impl_Extent_at_impl_compareSizes.f l0 = some r) :
    Calls Try.prog 70 #[u9000_, .func (.func 71) #[] #[]] w fun e w' => e = .returned (.tuple #[]) ∧ Kd.R k40 40 w' w0.heap.size (fun k_ => (P0_ k_ ∨ w.heap.size ≤ k_)) u9000_ r ∧ Below w0.heap.size w0 w' ∧ Kept w w' (fun k_ => P0_ k_) := by
  unfold slices_SortFunc_impl_Extent_at_impl_compareSizes.f at h
  by_cases hl0 : l0.length ≤ 1048576
  case neg => rw [if_neg hl0] at h; cases h
  rw [if_pos hl0] at h;obtain rfl := Option.some.inj h
  rcases holdsK_of_R (d := k40) encSizes (fun _ => rfl) (by decide) (fun hm => k40_openM hm) ho0 with ⟨rfl, rfl⟩ | ⟨g, cap, cur, rfl, hb, hok, hlt, hg, hc, hm, hs, hH⟩
  · refine (Go.Proofs.AnyF.slices_SortFunc_none Go.Proofs.Ytpfimjgfojdhhaa.Srt.sortEx none 0 _ w).mono fun e w' hp => ?_
    obtain ⟨rfl, rfl⟩ := hp;exact ⟨rfl, by simpa using Kd.R_nil _ _ _ _ _, hB, Kept.refl _ _⟩
  · have eg : ∀ args w, (callFunc 71 args).run Try.prog w = .ok (.enter 71 args) w := Go.Proofs.enters_of Try.func71 (by kernel_rfl) rfl
    have hcmp : Go.Proofs.CmpLays Try.prog 71 #[] encSizes 2 cmpSizes g 0 l0.toArray.size w := fun m os dk _ x y =>
      (impl_compareSizes.exact 3 x.f0 x.f1 y.f0 y.f1 _ _ (cmpSizes_eq x y)).mono fun e w' hp => ⟨hp.1, grow_of_below hp.2.1 hp.2.2⟩
    have hm' : cap ≤ 9223372036854775807 := hm
    have hsz : l0.toArray.size < 4611686018427387904 := by
      rw [List.size_toArray]
      omega
    have hcon := Go.Proofs.AnyQ.slices_SortFunc_total Go.Proofs.Ytpfimjgfojdhhaa.Srt.sortEx 2 Try.isAgg40 Try.sizeOf40 encSizes (fun _ => rfl) (fun x v hv => by simp [encSizes] at hv; rcases hv with rfl | rfl <;> rfl) cmpSizes swoSizes 71 #[] g 0 cap l0.toArray w eg hcmp hH hlt hsz totSizes
    refine Calls.mono (show Calls Try.prog 70 #[.slice (some ⟨g, 0, none⟩) l0.length cap, .func (.func 71) #[] #[]] w _ from hcon) fun e w' hp => ?_
    obtain ⟨rfl, n, os, rfl⟩ := hp;rw [leSizes_eq];have := R_of_sort (d := k40) encSizes (fun _ => rfl) (by decide) (fun W base ok x => k40_mkM W base ok x) hB hb hok hlt hg hc hm hs (l0.mergeSort leSizes).toArray (by simp) n os;have h1 := this.1
    simp at h1
    exact ⟨rfl, h1, this.2.1, this.2.2⟩
def impl_freeOf.f (a0 : Int) (l1 : List (S40)) : Option (Int × (List (S40)) × (List (S40))) := (impl_Extent_57.f l1).bind fun t370 => ((slices_SortFunc_impl_Extent_at_impl_compareSizes.f t370).bind fun t373 => (some (a0, l1, t373)))
set_option maxHeartbeats 8000000 in
set_option maxRecDepth 100000 in
theorem impl_freeOf.calls (a0 : Int) (P1_ : Nat → Prop) (A1 : Option Addr) (c1 : Nat) (l1 : List (S40)) (r1 : Int) (r2 : List (S40)) (r3 : List (S40)) (w : World) (hs1 : Kd.V k40 40 w w.heap.size (fun k_ => P1_ k_) (.slice A1 l1.length c1) l1) (h : impl_freeOf.f a0 l1 = some (r1, r2, r3)) :
  Calls Try.prog 64 #[.int .i64 a0, .slice A1 l1.length c1] w fun e w' => ∃ v1_ v2_ : Value, e = .returned (.agg #[.int .i64 r1, v1_, v2_]) ∧ Kd.V k40 40 w' w.heap.size (fun k_ => (P1_ k_ ∨ w.heap.size ≤ k_) ∧ some k_ ≠ (v2_ : Value).ownBlock) v1_ r2 ∧ Kd.R k40 40 w' w.heap.size (fun k_ => (w.heap.size ≤ k_)) v2_ r3 ∧ Below w.heap.size w w' := by
 have hu33 := Try.underlying33;have HO1 := Ah (show Kd.V k40 40 w w.heap.size (fun k_ => (P1_ k_ ∨ w.heap.size ≤ k_)) (.slice A1 l1.length c1) l1 from Kd.V_mono hs1 (fun k_ hk => .inl hk));have HB := Ah (Below.refl w.heap.size w);have H : ((impl_Extent_57.f l1).bind fun t370 => ((slices_SortFunc_impl_Extent_at_impl_compareSizes.f t370).bind fun t373 => (some (a0, l1, t373)))) = some (r1, r2, r3) := h;clear h;replace H := Option.bind_eq_some_iff.mp H;obtain ⟨t370, A30, H⟩ := H
 try dsimp only at H
 have A3 := Ah A30;clear A30;replace H := Option.bind_eq_some_iff.mp H;obtain ⟨t373, A40, H⟩ := H
 try dsimp only at H
 have A4 := Ah A40;clear A40;simp only [Option.some.injEq, Prod.mk.injEq] at H;obtain ⟨rfl, rfl, rfl⟩ := H
 go_enter Try.func64, Try.ntmps64
 go_wp2_with (first | ((with_reducible refine gate_dst (N := 4) rfl ?_); refine boxL 4 33 #[.int .i64 0, .slice none 0 0, .slice none 0 0] ?_; intro gb369 hg w5 BK369 hb; replace HO1 := Ah (Kd.V_below (Kd.V_elderB (by (with_reducible repeat (first | apply Kd.V_alloc | apply Kd.V_drewN | apply Kd.V_drew)); exact HO1.out) gb369 (Nat.le_of_eq hg.symm)) hb); have GW369 := gw hg (bs HB); have GE369 := gw hg (bs HB); replace HB := Ah (below_step (bs HB) hb); clear hb hg) | ((with_reducible refine gate_callee (f := 57) rfl ?_); refine gL (some 7) rfl rfl Try.func57 (by kernel_rfl) rfl #[.slice A1 l1.length c1] rfl ?_; (with_reducible refine (impl_Extent_57.calls _ _ l1 t370 _ ?side1 ?side2 A3.out).mono ?_); (case side1 => repeat (first | exact (Kd.V_reads' HO1.out).2.2 | (with_reducible refine Kd.C_alloc ?_ _) | (with_reducible refine Kd.C_drewN ?_ _) | (with_reducible refine Kd.C_drew ?_))); (case side2 => exact (Kd.V_reads' HO1.out).2.1); rintro e w6 ⟨v371, rfl, ho0, hb⟩; refine ⟨_, rfl, ?_⟩; replace HO1 := Ah (Kd.V_elder' (by (with_reducible repeat (first | apply Kd.V_alloc | apply Kd.V_drewN | apply Kd.V_drew)); exact HO1.out) (Kd.R_base ho0) hb); have HO372 := Ah (Kd.R_lower (Kd.R_newM (M := fun k_ => (w.heap.size ≤ k_)) ho0 (below_size (bs1 HB GE369)) (fun k_ h_ => h_)) (below_size (bs1 HB GE369))); replace BK369 := nb BK369 hb; replace HB := Ah (below_step (bs1 HB GE369) hb); (try clear hb ho0); obtain ⟨Ao7, co7, eo7⟩ := Kd.R_slice HO372.out; subst eo7) | ((with_reducible refine gate_callee (f := 70) rfl ?_); refine gL (some 9) rfl rfl Try.func70 (by kernel_rfl) rfl #[.slice Ao7 t370.length co7, .func (.func 71) #[] #[]] rfl ?_; (with_reducible refine (slices_SortFunc_impl_Extent_at_impl_compareSizes.calls (fun k_ => some k_ = (.slice Ao7 t370.length co7 : Value).ownBlock) (.slice Ao7 t370.length co7) t370  t373 w _ ?side1 ?side2 A4.out).mono ?_); (case side1 => repeat (first | (with_reducible first | exact HB.out | apply below_alloc | apply pw_below_drewN | apply below_drew1 | refine below_set ?_ GE369.out) | exact HB.out)); (case side2 => exact Kd.R_tight rfl HO372.out); rintro e w8 ⟨rfl, hy0, hb, hkp⟩; refine ⟨_, rfl, ?_⟩; replace HO1 := Ah (Kd.V_mono (ok' := fun k_ => (P1_ k_ ∨ w.heap.size ≤ k_) ∧ some k_ ≠ (.slice Ao7 t370.length co7 : Value).ownBlock ∧ k_ ≠ gb369) (Kd.V_keptB (HO1.out) hkp (fun k_ hk_ hs_ => (hk_.2) hs_)) (fun k_ hk_ => ⟨hk_.1.1.1, hk_.1.2, hk_.1.1.2⟩)); replace BK369 := Ah (blk_kept (bk BK369) hkp (fun hs_ => (fun e_ => (Kd.R_ne HO372.out BK369.out (by decide)) e_) hs_)); replace HO372 := Ah (Kd.R_reok rfl hy0 (fun k_ e_ => HO372.out.1 k_ e_)); replace HB := Ah (hb); (try clear hb hkp hy0); obtain ⟨hcz9_0, hcz9_1, hcz9_2⟩ := cz3 BK369; obtain ⟨hfz9_0, hfz9_1, hfz9_2⟩ := fz3 BK369))
 refine bodyPost_ret (results_cell_row rfl _ _ gb369 33 #[.int .i64 a0, .slice A1 l1.length c1, .slice Ao7 t370.length co7] (0, 0) _ rfl (by (with_reducible repeat (first | refine blk_drewN ?_ _ | refine blk_drew ?_ | refine blk_alloc ?_ _)); refine blk_put (cs := #[.int .i64 a0, .slice A1 l1.length c1, .slice none 0 0]) ?_ 2 _ rfl; (with_reducible repeat (first | refine blk_drewN ?_ _ | refine blk_drew ?_ | refine blk_alloc ?_ _)); refine blk_put (cs := #[.int .i64 a0, .slice none 0 0, .slice none 0 0]) ?_ 1 _ rfl; (with_reducible repeat (first | refine blk_drewN ?_ _ | refine blk_drew ?_ | refine blk_alloc ?_ _)); refine blk_put (cs := #[.int .i64 0, .slice none 0 0, .slice none 0 0]) ?_ 0 _ rfl; (with_reducible repeat (first | refine blk_drewN ?_ _ | refine blk_drew ?_ | refine blk_alloc ?_ _)); exact BK369.out) Try.underlying33 rfl (by kernel_rfl)) rfl ?_;exact ⟨_, _, er, by (with_reducible repeat (first | apply Kd.V_alloc | apply Kd.V_drewN | apply Kd.V_drew)); exact Kd.V_mono (Kd.V_far (p := ⟨gb369, 2, none⟩) (Kd.V_far (p := ⟨gb369, 1, none⟩) (Kd.V_far (p := ⟨gb369, 0, none⟩) (Kd.V_mono HO1.out (fun k_ hk => (⟨hk, hk.2.2⟩ : _ ∧ k_ ≠ gb369))) (fun _ hk => hk.2) (.int .i64 a0)) (fun _ hk => hk.2) (.slice A1 l1.length c1)) (fun _ hk => hk.2) (.slice Ao7 t370.length co7)) (fun _ hk => ⟨hk.1.1, hk.1.2.1⟩), by (with_reducible repeat (first | apply Kd.R_alloc | apply Kd.R_drewN | apply Kd.R_drew)); exact Kd.R_mono (Kd.R_far (p := ⟨gb369, 2, none⟩) (Kd.R_far (p := ⟨gb369, 1, none⟩) (Kd.R_far (p := ⟨gb369, 0, none⟩) (Kd.R_types HO372.out BK369.out (by decide)) (fun _ hk => hk.2) (.int .i64 a0)) (fun _ hk => hk.2) (.slice A1 l1.length c1)) (fun _ hk => hk.2) (.slice Ao7 t370.length co7)) (fun _ hk => hk.1.1), bs1 HB GE369⟩
end Go.Proofs.Ytpfimjgfojdhhaa.G
