-- Printed by a program of this session (drive.py, by way of the kit's print). Not trusted: Lean checks it.
import Derived.Test.YtcdkgenfggdpaaaG0
import Derived.Test.YtcdkgenfggdpaaaG6
import Derived.Test.YtcdkgenfggdpaaaG7
import Derived.Test.YtcdkgenfggdpaaaG9
import Derived.Test.YtcdkgenfggdpaaaG10
import Derived.Test.YtcdkgenfggdpaaaG14
namespace Go.Proofs.Ytcdkgenfggdpaaa.G
open Go.RowKit Go.Proofs.YtcdkgenfggdpaaaW.PrintWords Go.Proofs.YtcdkgenfggdpaaaW.PrintLast Go.Proofs.YtcdkgenfggdpaaaW.PrintMore
attribute [local go_sem] max2_int min2_int max_two min_two max_three min_three max_four min_four   -- for this text's walks alone
set_option linter.unusedVariables false
set_option linter.unusedSimpArgs false

/-! ### spec_SyncLog: function 41 -/
def spec_SyncLog.f (k : Nat) (l0_0 : List ByteArray) (l0_1 : List (S72)) (l0_2 : List ByteArray) (a0_3 : Int) : Option (List ByteArray × (List (S72)) × List ByteArray × Int × Bool) := (spec_GoodStore.f k l0_0 l0_1 l0_2 a0_3).bind fun t751 => (if t751 = true then ((spec_l11Own.f l0_0 l0_1 l0_2 a0_3).bind fun bt752 => (some (bt752.1, bt752.2.1, bt752.2.2.1, (bt752.2.2.1.length : Int), true))) else (some (([] : List ByteArray), ([] : List (S72)), ([] : List ByteArray), 0, false)))
theorem spec_SyncLog.mono : ∀ a0 a1 a2 a3 k, LeO (spec_SyncLog.f k a0 a1 a2 a3) (spec_SyncLog.f (k + 1) a0 a1 a2 a3) := by
 intro a0 a1 a2 a3 k
 unfold spec_SyncLog.f
 repeat' first
   | (with_reducible exact spec_GoodStore.mono _ _ _ _ _)
   | (with_reducible exact LeO.refl _)
   | (with_reducible exact LeO.none _)
   | (with_reducible refine LeO.ite ?_ ?_)
   | (with_reducible refine LeO.bind ?_ (fun _ => ?_))
   | exact spec_GoodStore.mono _ _ _ _ _
   | exact LeO.none _
   | refine LeO.ite ?_ ?_
   | refine LeO.bind ?_ (fun _ => ?_)
set_option maxHeartbeats 8000000 in
set_option maxRecDepth 100000 in
theorem spec_SyncLog.calls (k : Nat) (A0_0 : Option Addr) (c0_0 : Nat) (l0_0 : List ByteArray) (A0_1 : Option Addr) (c0_1 : Nat) (l0_1 : List (S72)) (A0_2 : Option Addr) (c0_2 : Nat) (l0_2 : List ByteArray) (a0_3 : Int) (r1 : List ByteArray) (r2 : List (S72)) (r3 : List ByteArray) (r4 : Int) (r5 : Bool) (w : World) (hr0_0 : Kd.C Kd.string w A0_0 l0_0.length l0_0) (hc0_0 : l0_0.length ≤ c0_0) (hr0_1 : Kd.C k72 w A0_1 l0_1.length l0_1) (hc0_1 : l0_1.length ≤ c0_1) (hr0_2 : Kd.C Kd.string w A0_2 l0_2.length l0_2) (hc0_2 : l0_2.length ≤ c0_2) (h : spec_SyncLog.f k l0_0 l0_1 l0_2 a0_3 = some (r1, r2, r3, r4, r5)) :
  Calls Try.prog 41 #[.agg #[.slice A0_0 l0_0.length c0_0, .slice A0_1 l0_1.length c0_1, .slice A0_2 l0_2.length c0_2, .int .i64 a0_3]] w fun e w' => ∃ v0_ v1_ v2_ : Value, e = .returned (.tuple #[.agg #[v0_, v1_, v2_, .int .i64 r4], .bool r5]) ∧ Kd.R Kd.string 9 w' w.heap.size (fun k_ => some k_ ≠ (v2_ : Value).ownBlock) v0_ r1 ∧ Kd.R k72 72 w' w.heap.size (fun _ => True) v1_ r2 ∧ Kd.R Kd.string 9 w' w.heap.size (fun k_ => some k_ ≠ (v0_ : Value).ownBlock) v2_ r3 ∧ Below w.heap.size w w' := by
 have hu44 := Try.underlying44
 have HR0_0 := Aside0.mk hr0_0
 have HC0_0 := Aside0.mk hc0_0
 clear hr0_0 hc0_0
 have HR0_1 := Aside0.mk hr0_1
 have HC0_1 := Aside0.mk hc0_1
 clear hr0_1 hc0_1
 have HR0_2 := Aside0.mk hr0_2
 have HC0_2 := Aside0.mk hc0_2
 clear hr0_2 hc0_2
 have HB := Aside0.mk (Below.refl w.heap.size w)
 have H : ((spec_GoodStore.f k l0_0 l0_1 l0_2 a0_3).bind fun t751 => (if t751 = true then ((spec_l11Own.f l0_0 l0_1 l0_2 a0_3).bind fun bt752 => (some (bt752.1, bt752.2.1, bt752.2.2.1, (bt752.2.2.1.length : Int), true))) else (some (([] : List ByteArray), ([] : List (S72)), ([] : List ByteArray), 0, false)))) = some (r1, r2, r3, r4, r5) := h
 clear h
 replace H := Option.bind_eq_some_iff.mp H
 obtain ⟨t751, A20, H⟩ := H
 replace H : (if t751 = true then ((spec_l11Own.f l0_0 l0_1 l0_2 a0_3).bind fun bt752 => (some (bt752.1, bt752.2.1, bt752.2.2.1, (bt752.2.2.1.length : Int), true))) else (some (([] : List ByteArray), ([] : List (S72)), ([] : List ByteArray), 0, false))) = some (r1, r2, r3, r4, r5) := H
 have A2 := Aside0.mk A20
 clear A20
 by_cases c3 : t751 = true
 ·
  subst c3
  rw [if_pos rfl] at H
  replace H := Option.bind_eq_some_iff.mp H
  obtain ⟨⟨t752, t755, t758, t761⟩, A40, H⟩ := H
  replace H : (some (t752, t755, t758, (t758.length : Int), true)) = some (r1, r2, r3, r4, r5) := H
  have A4 := Aside0.mk A40
  clear A40
  simp only [Option.some.injEq, Prod.mk.injEq] at H
  obtain ⟨rfl, rfl, rfl, rfl, rfl⟩ := H
  go_enter Try.func41, Try.ntmps41
  go_wp2_with (first | ((with_reducible refine gate_dst (N := 1) rfl ?_); refine box_event ?hg (N := 1) ?hd (cs := #[.slice A0_0 l0_0.length c0_0, .slice A0_1 l0_1.length c0_1, .slice A0_2 l0_2.length c0_2, .int .i64 a0_3]) (t := 44) ?hr ?_; (case hd => rfl); (case hg => rfl); (case hr => first | (go_simp; done) | (go_simp; rfl)); intro gb749 hg w5 hbox hb; have BK749 := Aside0.mk (hbox); have GW749 := Aside0.mk ((by rw [hg]; exact (below_size (bs HB)) : w.heap.size ≤ gb749)); have GE749 := Aside0.mk ((by rw [hg]; exact (below_size (bs HB)) : w.heap.size ≤ gb749)); replace HB := Aside0.mk (below_step (bs HB) hb); clear hb hbox hg) | ((with_reducible refine gate_dst (N := 2) rfl ?_); refine box_event ?hg (N := 2) ?hd (cs := #[.slice none 0 0, .slice none 0 0, .slice none 0 0, .int .i64 0]) (t := 44) ?hr ?_; (case hd => rfl); (case hg => rfl); (case hr => first | (go_simp; done) | (go_simp; rfl)); intro gb750 hg w6 hbox hb; have BK750 := Aside0.mk (hbox); have GW750 := Aside0.mk ((by rw [hg]; exact (below_size (bs1 HB GE749)) : w.heap.size ≤ gb750)); have GE750 := Aside0.mk ((by rw [hg]; exact (below_size (bs1 HB GE749)) : w.heap.size ≤ gb750)); replace HB := Aside0.mk (below_step (bs1 HB GE749) hb); have NB749_750 := Aside0.mk ((bn BK749 hg : gb749 ≠ gb750)); have NB750_749 := Aside0.mk ((bm BK749 hg : gb750 ≠ gb749)); replace BK749 := nb BK749 hb; clear hb hbox hg; have hnb7 := NB749_750.out; have hnc7 := NB750_749.out; have hcz8_0 : w6.cell? ⟨gb749, 0, none⟩ = some (.slice A0_0 l0_0.length c0_0) := (blk_cell BK749.out 0).trans rfl; have hcz8_1 : w6.cell? ⟨gb749, 1, none⟩ = some (.slice A0_1 l0_1.length c0_1) := (blk_cell BK749.out 1).trans rfl; have hcz8_2 : w6.cell? ⟨gb749, 2, none⟩ = some (.slice A0_2 l0_2.length c0_2) := (blk_cell BK749.out 2).trans rfl; have hcz8_3 : w6.cell? ⟨gb749, 3, none⟩ = some (.int .i64 a0_3) := (blk_cell BK749.out 3).trans rfl; have hfz8_0 := blk_frozen BK749.out 0; have hfz8_1 := blk_frozen BK749.out 1; have hfz8_2 := blk_frozen BK749.out 2; have hfz8_3 := blk_frozen BK749.out 3) | ((with_reducible refine gate_callee (f := 26) rfl ?_); refine goesL_ (some 5) rfl rfl Try.func26 (by kernel_rfl) rfl #[.agg #[.slice A0_0 l0_0.length c0_0, .slice A0_1 l0_1.length c0_1, .slice A0_2 l0_2.length c0_2, .int .i64 a0_3]] rfl (by (try simp only [List.map_toArray, List.map_cons, List.map_nil]); first | done | rfl | (simp only [List.length_drop, List.length_take]; rfl)) ?_; (with_reducible refine (spec_GoodStore.calls k _ _ l0_0 _ _ l0_1 _ _ l0_2 a0_3 true _ ?side1 ?side2 ?side3 ?side4 ?side5 ?side6 A2.out).mono ?_); (case side1 => exact cb HR0_0 HB); (case side2 => exact HC0_0.out); (case side3 => exact cb HR0_1 HB); (case side4 => exact HC0_1.out); (case side5 => exact cb HR0_2 HB); (case side6 => exact HC0_2.out); rintro e w9 ⟨rfl, hb⟩; refine ⟨_, rfl, ?_⟩; replace BK749 := nb BK749 hb; replace BK750 := nb BK750 hb; replace HB := Aside0.mk (below_step (bs2 HB GE749 GE750) hb); (try clear hb); (try clear hb2); (try clear hk); (try clear hi); have hcz10_0 : w9.cell? ⟨gb749, 0, none⟩ = some (.slice A0_0 l0_0.length c0_0) := (blk_cell BK749.out 0).trans rfl; have hcz10_1 : w9.cell? ⟨gb749, 1, none⟩ = some (.slice A0_1 l0_1.length c0_1) := (blk_cell BK749.out 1).trans rfl; have hcz10_2 : w9.cell? ⟨gb749, 2, none⟩ = some (.slice A0_2 l0_2.length c0_2) := (blk_cell BK749.out 2).trans rfl; have hcz10_3 : w9.cell? ⟨gb749, 3, none⟩ = some (.int .i64 a0_3) := (blk_cell BK749.out 3).trans rfl; have hfz10_0 := blk_frozen BK749.out 0; have hfz10_1 := blk_frozen BK749.out 1; have hfz10_2 := blk_frozen BK749.out 2; have hfz10_3 := blk_frozen BK749.out 3) | ((with_reducible refine gate_callee (f := 91) rfl ?_); refine goesL_ (some 9) rfl rfl Try.func91 (by kernel_rfl) rfl #[.agg #[.slice A0_0 l0_0.length c0_0, .slice A0_1 l0_1.length c0_1, .slice A0_2 l0_2.length c0_2, .int .i64 a0_3]] rfl (by (try simp only [List.map_toArray, List.map_cons, List.map_nil]); first | done | rfl | (simp only [List.length_drop, List.length_take]; rfl)) ?_; (with_reducible refine (spec_l11Own.calls _ _ l0_0 _ _ l0_1 _ _ l0_2 a0_3 t752 t755 t758 t761 _ ?side1 ?side2 ?side3 ?side4 ?side5 ?side6 A4.out).mono ?_); (case side1 => exact cb HR0_0 HB); (case side2 => exact HC0_0.out); (case side3 => exact cb HR0_1 HB); (case side4 => exact HC0_1.out); (case side5 => exact cb HR0_2 HB); (case side6 => exact HC0_2.out); rintro e w11 ⟨v753, v756, v759, rfl, ho0, ho1, ho2, hb⟩; refine ⟨_, rfl, ?_⟩; have HO754 := Aside0.mk (Kd.R_lower ho0 (below_size (bs2 HB GE749 GE750))); have HO757 := Aside0.mk (Kd.R_lower ho1 (below_size (bs2 HB GE749 GE750))); have HO760 := Aside0.mk (Kd.R_lower ho2 (below_size (bs2 HB GE749 GE750))); replace BK749 := nb BK749 hb; replace BK750 := nb BK750 hb; replace HB := Aside0.mk (below_step (bs2 HB GE749 GE750) hb); (try clear hb); (try clear hb2); (try clear hk); (try clear hi); (try clear ho0); (try clear ho1); (try clear ho2); obtain ⟨Ao12, co12, eo12⟩ := Kd.R_slice HO754.out; subst eo12; have hcz13_0 : w11.cell? ⟨gb749, 0, none⟩ = some (.slice A0_0 l0_0.length c0_0) := (blk_cell BK749.out 0).trans rfl; have hcz13_1 : w11.cell? ⟨gb749, 1, none⟩ = some (.slice A0_1 l0_1.length c0_1) := (blk_cell BK749.out 1).trans rfl; have hcz13_2 : w11.cell? ⟨gb749, 2, none⟩ = some (.slice A0_2 l0_2.length c0_2) := (blk_cell BK749.out 2).trans rfl; have hcz13_3 : w11.cell? ⟨gb749, 3, none⟩ = some (.int .i64 a0_3) := (blk_cell BK749.out 3).trans rfl; have hfz13_0 := blk_frozen BK749.out 0; have hfz13_1 := blk_frozen BK749.out 1; have hfz13_2 := blk_frozen BK749.out 2; have hfz13_3 := blk_frozen BK749.out 3; obtain ⟨Ao14, co14, eo14⟩ := Kd.R_slice HO757.out; subst eo14; obtain ⟨Ao15, co15, eo15⟩ := Kd.R_slice HO760.out; subst eo15; have hcz16_0 : w11.cell? ⟨gb750, 0, none⟩ = some (.slice none 0 0) := (blk_cell BK750.out 0).trans rfl; have hcz16_1 : w11.cell? ⟨gb750, 1, none⟩ = some (.slice none 0 0) := (blk_cell BK750.out 1).trans rfl; have hcz16_2 : w11.cell? ⟨gb750, 2, none⟩ = some (.slice none 0 0) := (blk_cell BK750.out 2).trans rfl; have hcz16_3 : w11.cell? ⟨gb750, 3, none⟩ = some (.int .i64 0) := (blk_cell BK750.out 3).trans rfl; have hfz16_0 := blk_frozen BK750.out 0; have hfz16_1 := blk_frozen BK750.out 1; have hfz16_2 := blk_frozen BK750.out 2; have hfz16_3 := blk_frozen BK750.out 3))
  refine bodyPost_ret (results_ct rfl _ _ gb750 44 #[.slice Ao12 t752.length co12, .slice Ao14 t755.length co14, .slice Ao15 t758.length co15, .int .i64 (t758.length : Int)] (0, 0) _ rfl (by (with_reducible repeat (first | refine blk_drewN ?_ _ | refine blk_drew ?_ | refine blk_alloc ?_ _)); refine blk_put (cs := #[.slice Ao12 t752.length co12, .slice Ao14 t755.length co14, .slice Ao15 t758.length co15, .int .i64 0]) ?_ 3 _ rfl; (with_reducible repeat (first | refine blk_drewN ?_ _ | refine blk_drew ?_ | refine blk_alloc ?_ _)); refine blk_put (cs := #[.slice Ao12 t752.length co12, .slice Ao14 t755.length co14, .slice none 0 0, .int .i64 0]) ?_ 2 _ rfl; (with_reducible repeat (first | refine blk_drewN ?_ _ | refine blk_drew ?_ | refine blk_alloc ?_ _)); refine blk_put (cs := #[.slice Ao12 t752.length co12, .slice none 0 0, .slice none 0 0, .int .i64 0]) ?_ 1 _ rfl; (with_reducible repeat (first | refine blk_drewN ?_ _ | refine blk_drew ?_ | refine blk_alloc ?_ _)); refine blk_put (cs := #[.slice none 0 0, .slice none 0 0, .slice none 0 0, .int .i64 0]) ?_ 0 _ rfl; (with_reducible repeat (first | refine blk_drewN ?_ _ | refine blk_drew ?_ | refine blk_alloc ?_ _)); refine blk_far ?_ NB750_749.out _; (with_reducible repeat (first | refine blk_drewN ?_ _ | refine blk_drew ?_ | refine blk_alloc ?_ _)); refine blk_far ?_ NB750_749.out _; (with_reducible repeat (first | refine blk_drewN ?_ _ | refine blk_drew ?_ | refine blk_alloc ?_ _)); refine blk_far ?_ NB750_749.out _; (with_reducible repeat (first | refine blk_drewN ?_ _ | refine blk_drew ?_ | refine blk_alloc ?_ _)); refine blk_far ?_ NB750_749.out _; (with_reducible repeat (first | refine blk_drewN ?_ _ | refine blk_drew ?_ | refine blk_alloc ?_ _)); refine blk_far ?_ NB750_749.out _; (with_reducible repeat (first | refine blk_drewN ?_ _ | refine blk_drew ?_ | refine blk_alloc ?_ _)); exact BK750.out) Try.underlying44 rfl (by kernel_rfl)) rfl ?_
  exact ⟨_, _, _, by first | rfl | (simp [errW_none, errW_some] <;> rfl) | (simp [*, errW_none, errW_some] <;> rfl), by (with_reducible repeat (first | apply Kd.R_alloc | apply Kd.R_drewN | apply Kd.R_drew)); exact Kd.R_mono (Kd.R_far (p := ⟨gb750, 3, none⟩) (Kd.R_far (p := ⟨gb750, 2, none⟩) (Kd.R_far (p := ⟨gb750, 1, none⟩) (Kd.R_far (p := ⟨gb750, 0, none⟩) (Kd.R_far (p := ⟨gb749, 3, none⟩) (Kd.R_far (p := ⟨gb749, 3, none⟩) (Kd.R_far (p := ⟨gb749, 2, none⟩) (Kd.R_far (p := ⟨gb749, 1, none⟩) (Kd.R_far (p := ⟨gb749, 0, none⟩) (Kd.R_types (Kd.R_types HO754.out BK749.out (by decide)) BK750.out (by decide)) (fun _ hk => hk.1.2) (.slice Ao12 t752.length co12)) (fun _ hk => hk.1.2) (.slice Ao14 t755.length co14)) (fun _ hk => hk.1.2) (.slice Ao15 t758.length co15)) (fun _ hk => hk.1.2) (.int .i64 t761)) (fun _ hk => hk.1.2) (.int .i64 (t758.length : Int))) (fun _ hk => hk.2) (.slice Ao12 t752.length co12)) (fun _ hk => hk.2) (.slice Ao14 t755.length co14)) (fun _ hk => hk.2) (.slice Ao15 t758.length co15)) (fun _ hk => hk.2) (.int .i64 (t758.length : Int))) (fun _ hk => hk.1.1), by (with_reducible repeat (first | apply Kd.R_alloc | apply Kd.R_drewN | apply Kd.R_drew)); exact Kd.R_mono (Kd.R_far (p := ⟨gb750, 3, none⟩) (Kd.R_far (p := ⟨gb750, 2, none⟩) (Kd.R_far (p := ⟨gb750, 1, none⟩) (Kd.R_far (p := ⟨gb750, 0, none⟩) (Kd.R_far (p := ⟨gb749, 3, none⟩) (Kd.R_far (p := ⟨gb749, 3, none⟩) (Kd.R_far (p := ⟨gb749, 2, none⟩) (Kd.R_far (p := ⟨gb749, 1, none⟩) (Kd.R_far (p := ⟨gb749, 0, none⟩) (Kd.R_types (Kd.R_types HO757.out BK749.out (by decide)) BK750.out (by decide)) (fun _ hk => hk.1.2) (.slice Ao12 t752.length co12)) (fun _ hk => hk.1.2) (.slice Ao14 t755.length co14)) (fun _ hk => hk.1.2) (.slice Ao15 t758.length co15)) (fun _ hk => hk.1.2) (.int .i64 t761)) (fun _ hk => hk.1.2) (.int .i64 (t758.length : Int))) (fun _ hk => hk.2) (.slice Ao12 t752.length co12)) (fun _ hk => hk.2) (.slice Ao14 t755.length co14)) (fun _ hk => hk.2) (.slice Ao15 t758.length co15)) (fun _ hk => hk.2) (.int .i64 (t758.length : Int))) (fun _ hk => trivial), by (with_reducible repeat (first | apply Kd.R_alloc | apply Kd.R_drewN | apply Kd.R_drew)); exact Kd.R_mono (Kd.R_far (p := ⟨gb750, 3, none⟩) (Kd.R_far (p := ⟨gb750, 2, none⟩) (Kd.R_far (p := ⟨gb750, 1, none⟩) (Kd.R_far (p := ⟨gb750, 0, none⟩) (Kd.R_far (p := ⟨gb749, 3, none⟩) (Kd.R_far (p := ⟨gb749, 3, none⟩) (Kd.R_far (p := ⟨gb749, 2, none⟩) (Kd.R_far (p := ⟨gb749, 1, none⟩) (Kd.R_far (p := ⟨gb749, 0, none⟩) (Kd.R_types (Kd.R_types HO760.out BK749.out (by decide)) BK750.out (by decide)) (fun _ hk => hk.1.2) (.slice Ao12 t752.length co12)) (fun _ hk => hk.1.2) (.slice Ao14 t755.length co14)) (fun _ hk => hk.1.2) (.slice Ao15 t758.length co15)) (fun _ hk => hk.1.2) (.int .i64 t761)) (fun _ hk => hk.1.2) (.int .i64 (t758.length : Int))) (fun _ hk => hk.2) (.slice Ao12 t752.length co12)) (fun _ hk => hk.2) (.slice Ao14 t755.length co14)) (fun _ hk => hk.2) (.slice Ao15 t758.length co15)) (fun _ hk => hk.2) (.int .i64 (t758.length : Int))) (fun _ hk => hk.1.1), bs2 HB GE749 GE750⟩
 ·
  replace c3 := Bool.eq_false_iff.mpr c3
  subst c3
  rw [if_neg (show ¬ (false = true) by decide)] at H
  simp only [Option.some.injEq, Prod.mk.injEq] at H
  obtain ⟨rfl, rfl, rfl, rfl, rfl⟩ := H
  go_enter Try.func41, Try.ntmps41
  go_wp2_with (first | ((with_reducible refine gate_dst (N := 1) rfl ?_); refine box_event ?hg (N := 1) ?hd (cs := #[.slice A0_0 l0_0.length c0_0, .slice A0_1 l0_1.length c0_1, .slice A0_2 l0_2.length c0_2, .int .i64 a0_3]) (t := 44) ?hr ?_; (case hd => rfl); (case hg => rfl); (case hr => first | (go_simp; done) | (go_simp; rfl)); intro gb749 hg w17 hbox hb; have BK749 := Aside0.mk (hbox); have GW749 := Aside0.mk ((by rw [hg]; exact (below_size (bs HB)) : w.heap.size ≤ gb749)); have GE749 := Aside0.mk ((by rw [hg]; exact (below_size (bs HB)) : w.heap.size ≤ gb749)); replace HB := Aside0.mk (below_step (bs HB) hb); clear hb hbox hg) | ((with_reducible refine gate_dst (N := 2) rfl ?_); refine box_event ?hg (N := 2) ?hd (cs := #[.slice none 0 0, .slice none 0 0, .slice none 0 0, .int .i64 0]) (t := 44) ?hr ?_; (case hd => rfl); (case hg => rfl); (case hr => first | (go_simp; done) | (go_simp; rfl)); intro gb750 hg w18 hbox hb; have BK750 := Aside0.mk (hbox); have GW750 := Aside0.mk ((by rw [hg]; exact (below_size (bs1 HB GE749)) : w.heap.size ≤ gb750)); have GE750 := Aside0.mk ((by rw [hg]; exact (below_size (bs1 HB GE749)) : w.heap.size ≤ gb750)); replace HB := Aside0.mk (below_step (bs1 HB GE749) hb); have NB749_750 := Aside0.mk ((bn BK749 hg : gb749 ≠ gb750)); have NB750_749 := Aside0.mk ((bm BK749 hg : gb750 ≠ gb749)); replace BK749 := nb BK749 hb; clear hb hbox hg; have hnb19 := NB749_750.out; have hnc19 := NB750_749.out; have hcz20_0 : w18.cell? ⟨gb749, 0, none⟩ = some (.slice A0_0 l0_0.length c0_0) := (blk_cell BK749.out 0).trans rfl; have hcz20_1 : w18.cell? ⟨gb749, 1, none⟩ = some (.slice A0_1 l0_1.length c0_1) := (blk_cell BK749.out 1).trans rfl; have hcz20_2 : w18.cell? ⟨gb749, 2, none⟩ = some (.slice A0_2 l0_2.length c0_2) := (blk_cell BK749.out 2).trans rfl; have hcz20_3 : w18.cell? ⟨gb749, 3, none⟩ = some (.int .i64 a0_3) := (blk_cell BK749.out 3).trans rfl; have hfz20_0 := blk_frozen BK749.out 0; have hfz20_1 := blk_frozen BK749.out 1; have hfz20_2 := blk_frozen BK749.out 2; have hfz20_3 := blk_frozen BK749.out 3) | ((with_reducible refine gate_callee (f := 26) rfl ?_); refine goesL_ (some 5) rfl rfl Try.func26 (by kernel_rfl) rfl #[.agg #[.slice A0_0 l0_0.length c0_0, .slice A0_1 l0_1.length c0_1, .slice A0_2 l0_2.length c0_2, .int .i64 a0_3]] rfl (by (try simp only [List.map_toArray, List.map_cons, List.map_nil]); first | done | rfl | (simp only [List.length_drop, List.length_take]; rfl)) ?_; (with_reducible refine (spec_GoodStore.calls k _ _ l0_0 _ _ l0_1 _ _ l0_2 a0_3 false _ ?side1 ?side2 ?side3 ?side4 ?side5 ?side6 A2.out).mono ?_); (case side1 => exact cb HR0_0 HB); (case side2 => exact HC0_0.out); (case side3 => exact cb HR0_1 HB); (case side4 => exact HC0_1.out); (case side5 => exact cb HR0_2 HB); (case side6 => exact HC0_2.out); rintro e w21 ⟨rfl, hb⟩; refine ⟨_, rfl, ?_⟩; replace BK749 := nb BK749 hb; replace BK750 := nb BK750 hb; replace HB := Aside0.mk (below_step (bs2 HB GE749 GE750) hb); (try clear hb); (try clear hb2); (try clear hk); (try clear hi); have hcz22_0 : w21.cell? ⟨gb750, 0, none⟩ = some (.slice none 0 0) := (blk_cell BK750.out 0).trans rfl; have hcz22_1 : w21.cell? ⟨gb750, 1, none⟩ = some (.slice none 0 0) := (blk_cell BK750.out 1).trans rfl; have hcz22_2 : w21.cell? ⟨gb750, 2, none⟩ = some (.slice none 0 0) := (blk_cell BK750.out 2).trans rfl; have hcz22_3 : w21.cell? ⟨gb750, 3, none⟩ = some (.int .i64 0) := (blk_cell BK750.out 3).trans rfl; have hfz22_0 := blk_frozen BK750.out 0; have hfz22_1 := blk_frozen BK750.out 1; have hfz22_2 := blk_frozen BK750.out 2; have hfz22_3 := blk_frozen BK750.out 3))
  refine bodyPost_ret (results_ct rfl _ _ gb750 44 #[.slice none 0 0, .slice none 0 0, .slice none 0 0, .int .i64 0] (0, 0) _ rfl (by (with_reducible repeat (first | refine blk_drewN ?_ _ | refine blk_drew ?_ | refine blk_alloc ?_ _)); refine blk_put (cs := #[.slice none 0 0, .slice none 0 0, .slice none 0 0, .int .i64 0]) ?_ 3 _ rfl; (with_reducible repeat (first | refine blk_drewN ?_ _ | refine blk_drew ?_ | refine blk_alloc ?_ _)); refine blk_put (cs := #[.slice none 0 0, .slice none 0 0, .slice none 0 0, .int .i64 0]) ?_ 2 _ rfl; (with_reducible repeat (first | refine blk_drewN ?_ _ | refine blk_drew ?_ | refine blk_alloc ?_ _)); refine blk_put (cs := #[.slice none 0 0, .slice none 0 0, .slice none 0 0, .int .i64 0]) ?_ 1 _ rfl; (with_reducible repeat (first | refine blk_drewN ?_ _ | refine blk_drew ?_ | refine blk_alloc ?_ _)); refine blk_put (cs := #[.slice none 0 0, .slice none 0 0, .slice none 0 0, .int .i64 0]) ?_ 0 _ rfl; (with_reducible repeat (first | refine blk_drewN ?_ _ | refine blk_drew ?_ | refine blk_alloc ?_ _)); exact BK750.out) Try.underlying44 rfl (by kernel_rfl)) rfl ?_
  exact ⟨_, _, _, by first | rfl | (simp [errW_none, errW_some] <;> rfl) | (simp [*, errW_none, errW_some] <;> rfl), by first | exact Kd.R_nil _ _ _ _ _ | exact Kd.N_nil _ _ _ _ _ | exact Kd.V_nil _ _ _ _ _ | exact Kd.Q_nil _ _ _ _ _ | exact Kd.S_nil _ _ _ _ _, by first | exact Kd.R_nil _ _ _ _ _ | exact Kd.N_nil _ _ _ _ _ | exact Kd.V_nil _ _ _ _ _ | exact Kd.Q_nil _ _ _ _ _ | exact Kd.S_nil _ _ _ _ _, by first | exact Kd.R_nil _ _ _ _ _ | exact Kd.N_nil _ _ _ _ _ | exact Kd.V_nil _ _ _ _ _ | exact Kd.Q_nil _ _ _ _ _ | exact Kd.S_nil _ _ _ _ _, bs2 HB GE749 GE750⟩

/-! ### impl_SyncLog: function 42 -/
def impl_SyncLog.f (k : Nat) (l0_0 : List ByteArray) (l0_1 : List (S72)) (l0_2 : List ByteArray) (a0_3 : Int) : Option (List ByteArray × (List (S72)) × List ByteArray × Int × Bool) := (impl_GoodStore.f k l0_0 l0_1 l0_2 a0_3).bind fun t764 => (if t764 = true then ((impl_ownStore.f l0_0 l0_1 l0_2 a0_3).bind fun bt765 => (some (bt765.1, bt765.2.1, bt765.2.2.1, (bt765.2.2.1.length : Int), true))) else (some (([] : List ByteArray), ([] : List (S72)), ([] : List ByteArray), 0, false)))
theorem impl_SyncLog.mono : ∀ a0 a1 a2 a3 k, LeO (impl_SyncLog.f k a0 a1 a2 a3) (impl_SyncLog.f (k + 1) a0 a1 a2 a3) := by
 intro a0 a1 a2 a3 k
 unfold impl_SyncLog.f
 repeat' first
   | (with_reducible exact impl_GoodStore.mono _ _ _ _ _)
   | (with_reducible exact LeO.refl _)
   | (with_reducible exact LeO.none _)
   | (with_reducible refine LeO.ite ?_ ?_)
   | (with_reducible refine LeO.bind ?_ (fun _ => ?_))
   | exact impl_GoodStore.mono _ _ _ _ _
   | exact LeO.none _
   | refine LeO.ite ?_ ?_
   | refine LeO.bind ?_ (fun _ => ?_)
set_option maxHeartbeats 8000000 in
set_option maxRecDepth 100000 in
theorem impl_SyncLog.calls (k : Nat) (A0_0 : Option Addr) (c0_0 : Nat) (l0_0 : List ByteArray) (A0_1 : Option Addr) (c0_1 : Nat) (l0_1 : List (S72)) (A0_2 : Option Addr) (c0_2 : Nat) (l0_2 : List ByteArray) (a0_3 : Int) (r1 : List ByteArray) (r2 : List (S72)) (r3 : List ByteArray) (r4 : Int) (r5 : Bool) (w : World) (hr0_0 : Kd.C Kd.string w A0_0 l0_0.length l0_0) (hc0_0 : l0_0.length ≤ c0_0) (hr0_1 : Kd.C k72 w A0_1 l0_1.length l0_1) (hc0_1 : l0_1.length ≤ c0_1) (hr0_2 : Kd.C Kd.string w A0_2 l0_2.length l0_2) (hc0_2 : l0_2.length ≤ c0_2) (h : impl_SyncLog.f k l0_0 l0_1 l0_2 a0_3 = some (r1, r2, r3, r4, r5)) :
  Calls Try.prog 42 #[.agg #[.slice A0_0 l0_0.length c0_0, .slice A0_1 l0_1.length c0_1, .slice A0_2 l0_2.length c0_2, .int .i64 a0_3]] w fun e w' => ∃ v0_ v1_ v2_ : Value, e = .returned (.tuple #[.agg #[v0_, v1_, v2_, .int .i64 r4], .bool r5]) ∧ Kd.R Kd.string 9 w' w.heap.size (fun k_ => some k_ ≠ (v2_ : Value).ownBlock) v0_ r1 ∧ Kd.R k72 72 w' w.heap.size (fun _ => True) v1_ r2 ∧ Kd.R Kd.string 9 w' w.heap.size (fun k_ => some k_ ≠ (v0_ : Value).ownBlock) v2_ r3 ∧ Below w.heap.size w w' := by
 have hu44 := Try.underlying44
 have HR0_0 := Aside0.mk hr0_0
 have HC0_0 := Aside0.mk hc0_0
 clear hr0_0 hc0_0
 have HR0_1 := Aside0.mk hr0_1
 have HC0_1 := Aside0.mk hc0_1
 clear hr0_1 hc0_1
 have HR0_2 := Aside0.mk hr0_2
 have HC0_2 := Aside0.mk hc0_2
 clear hr0_2 hc0_2
 have HB := Aside0.mk (Below.refl w.heap.size w)
 have H : ((impl_GoodStore.f k l0_0 l0_1 l0_2 a0_3).bind fun t764 => (if t764 = true then ((impl_ownStore.f l0_0 l0_1 l0_2 a0_3).bind fun bt765 => (some (bt765.1, bt765.2.1, bt765.2.2.1, (bt765.2.2.1.length : Int), true))) else (some (([] : List ByteArray), ([] : List (S72)), ([] : List ByteArray), 0, false)))) = some (r1, r2, r3, r4, r5) := h
 clear h
 replace H := Option.bind_eq_some_iff.mp H
 obtain ⟨t764, A20, H⟩ := H
 replace H : (if t764 = true then ((impl_ownStore.f l0_0 l0_1 l0_2 a0_3).bind fun bt765 => (some (bt765.1, bt765.2.1, bt765.2.2.1, (bt765.2.2.1.length : Int), true))) else (some (([] : List ByteArray), ([] : List (S72)), ([] : List ByteArray), 0, false))) = some (r1, r2, r3, r4, r5) := H
 have A2 := Aside0.mk A20
 clear A20
 by_cases c3 : t764 = true
 ·
  subst c3
  rw [if_pos rfl] at H
  replace H := Option.bind_eq_some_iff.mp H
  obtain ⟨⟨t765, t768, t771, t774⟩, A40, H⟩ := H
  replace H : (some (t765, t768, t771, (t771.length : Int), true)) = some (r1, r2, r3, r4, r5) := H
  have A4 := Aside0.mk A40
  clear A40
  simp only [Option.some.injEq, Prod.mk.injEq] at H
  obtain ⟨rfl, rfl, rfl, rfl, rfl⟩ := H
  go_enter Try.func42, Try.ntmps42
  go_wp2_with (first | ((with_reducible refine gate_dst (N := 1) rfl ?_); refine box_event ?hg (N := 1) ?hd (cs := #[.slice A0_0 l0_0.length c0_0, .slice A0_1 l0_1.length c0_1, .slice A0_2 l0_2.length c0_2, .int .i64 a0_3]) (t := 44) ?hr ?_; (case hd => rfl); (case hg => rfl); (case hr => first | (go_simp; done) | (go_simp; rfl)); intro gb762 hg w5 hbox hb; have BK762 := Aside0.mk (hbox); have GW762 := Aside0.mk ((by rw [hg]; exact (below_size (bs HB)) : w.heap.size ≤ gb762)); have GE762 := Aside0.mk ((by rw [hg]; exact (below_size (bs HB)) : w.heap.size ≤ gb762)); replace HB := Aside0.mk (below_step (bs HB) hb); clear hb hbox hg) | ((with_reducible refine gate_dst (N := 2) rfl ?_); refine box_event ?hg (N := 2) ?hd (cs := #[.slice none 0 0, .slice none 0 0, .slice none 0 0, .int .i64 0]) (t := 44) ?hr ?_; (case hd => rfl); (case hg => rfl); (case hr => first | (go_simp; done) | (go_simp; rfl)); intro gb763 hg w6 hbox hb; have BK763 := Aside0.mk (hbox); have GW763 := Aside0.mk ((by rw [hg]; exact (below_size (bs1 HB GE762)) : w.heap.size ≤ gb763)); have GE763 := Aside0.mk ((by rw [hg]; exact (below_size (bs1 HB GE762)) : w.heap.size ≤ gb763)); replace HB := Aside0.mk (below_step (bs1 HB GE762) hb); have NB762_763 := Aside0.mk ((bn BK762 hg : gb762 ≠ gb763)); have NB763_762 := Aside0.mk ((bm BK762 hg : gb763 ≠ gb762)); replace BK762 := nb BK762 hb; clear hb hbox hg; have hnb7 := NB762_763.out; have hnc7 := NB763_762.out; have hcz8_0 : w6.cell? ⟨gb762, 0, none⟩ = some (.slice A0_0 l0_0.length c0_0) := (blk_cell BK762.out 0).trans rfl; have hcz8_1 : w6.cell? ⟨gb762, 1, none⟩ = some (.slice A0_1 l0_1.length c0_1) := (blk_cell BK762.out 1).trans rfl; have hcz8_2 : w6.cell? ⟨gb762, 2, none⟩ = some (.slice A0_2 l0_2.length c0_2) := (blk_cell BK762.out 2).trans rfl; have hcz8_3 : w6.cell? ⟨gb762, 3, none⟩ = some (.int .i64 a0_3) := (blk_cell BK762.out 3).trans rfl; have hfz8_0 := blk_frozen BK762.out 0; have hfz8_1 := blk_frozen BK762.out 1; have hfz8_2 := blk_frozen BK762.out 2; have hfz8_3 := blk_frozen BK762.out 3) | ((with_reducible refine gate_callee (f := 28) rfl ?_); refine goesL_ (some 6) rfl rfl Try.func28 (by kernel_rfl) rfl #[.agg #[.slice A0_0 l0_0.length c0_0, .slice A0_1 l0_1.length c0_1, .slice A0_2 l0_2.length c0_2, .int .i64 a0_3]] rfl (by (try simp only [List.map_toArray, List.map_cons, List.map_nil]); first | done | rfl | (simp only [List.length_drop, List.length_take]; rfl)) ?_; (with_reducible refine (impl_GoodStore.calls k _ _ l0_0 _ _ l0_1 _ _ l0_2 a0_3 true _ ?side1 ?side2 ?side3 ?side4 ?side5 ?side6 A2.out).mono ?_); (case side1 => exact cb HR0_0 HB); (case side2 => exact HC0_0.out); (case side3 => exact cb HR0_1 HB); (case side4 => exact HC0_1.out); (case side5 => exact cb HR0_2 HB); (case side6 => exact HC0_2.out); rintro e w9 ⟨rfl, hb⟩; refine ⟨_, rfl, ?_⟩; replace BK762 := nb BK762 hb; replace BK763 := nb BK763 hb; replace HB := Aside0.mk (below_step (bs2 HB GE762 GE763) hb); (try clear hb); (try clear hb2); (try clear hk); (try clear hi); have hcz10_0 : w9.cell? ⟨gb762, 0, none⟩ = some (.slice A0_0 l0_0.length c0_0) := (blk_cell BK762.out 0).trans rfl; have hcz10_1 : w9.cell? ⟨gb762, 1, none⟩ = some (.slice A0_1 l0_1.length c0_1) := (blk_cell BK762.out 1).trans rfl; have hcz10_2 : w9.cell? ⟨gb762, 2, none⟩ = some (.slice A0_2 l0_2.length c0_2) := (blk_cell BK762.out 2).trans rfl; have hcz10_3 : w9.cell? ⟨gb762, 3, none⟩ = some (.int .i64 a0_3) := (blk_cell BK762.out 3).trans rfl; have hfz10_0 := blk_frozen BK762.out 0; have hfz10_1 := blk_frozen BK762.out 1; have hfz10_2 := blk_frozen BK762.out 2; have hfz10_3 := blk_frozen BK762.out 3) | ((with_reducible refine gate_callee (f := 92) rfl ?_); refine goesL_ (some 10) rfl rfl Try.func92 (by kernel_rfl) rfl #[.agg #[.slice A0_0 l0_0.length c0_0, .slice A0_1 l0_1.length c0_1, .slice A0_2 l0_2.length c0_2, .int .i64 a0_3]] rfl (by (try simp only [List.map_toArray, List.map_cons, List.map_nil]); first | done | rfl | (simp only [List.length_drop, List.length_take]; rfl)) ?_; (with_reducible refine (impl_ownStore.calls _ _ l0_0 _ _ l0_1 _ _ l0_2 a0_3 t765 t768 t771 t774 _ ?side1 ?side2 ?side3 ?side4 ?side5 ?side6 A4.out).mono ?_); (case side1 => exact cb HR0_0 HB); (case side2 => exact HC0_0.out); (case side3 => exact cb HR0_1 HB); (case side4 => exact HC0_1.out); (case side5 => exact cb HR0_2 HB); (case side6 => exact HC0_2.out); rintro e w11 ⟨v766, v769, v772, rfl, ho0, ho1, ho2, hb⟩; refine ⟨_, rfl, ?_⟩; have HO767 := Aside0.mk (Kd.R_lower ho0 (below_size (bs2 HB GE762 GE763))); have HO770 := Aside0.mk (Kd.R_lower ho1 (below_size (bs2 HB GE762 GE763))); have HO773 := Aside0.mk (Kd.R_lower ho2 (below_size (bs2 HB GE762 GE763))); replace BK762 := nb BK762 hb; replace BK763 := nb BK763 hb; replace HB := Aside0.mk (below_step (bs2 HB GE762 GE763) hb); (try clear hb); (try clear hb2); (try clear hk); (try clear hi); (try clear ho0); (try clear ho1); (try clear ho2)) | ((with_reducible refine gate_dst (N := 4) rfl ?_); refine box_event ?hg (N := 4) ?hd (cs := #[.slice none 0 0, .slice none 0 0, .slice none 0 0, .int .i64 0]) (t := 44) ?hr ?_; (case hd => rfl); (case hg => rfl); (case hr => first | (go_simp; done) | (go_simp; rfl)); intro gb775 hg w12 hbox hb; replace HO767 := nr HO767 hb; replace HO770 := nr HO770 hb; replace HO773 := nr HO773 hb; have BK775 := Aside0.mk (hbox); have GW775 := Aside0.mk ((by rw [hg]; exact (below_size (bs2 HB GE762 GE763)) : w.heap.size ≤ gb775)); have GE775 := Aside0.mk ((by rw [hg]; exact (below_size (bs2 HB GE762 GE763)) : w.heap.size ≤ gb775)); replace HB := Aside0.mk (below_step (bs2 HB GE762 GE763) hb); have NB762_775 := Aside0.mk ((bn BK762 hg : gb762 ≠ gb775)); have NB775_762 := Aside0.mk ((bm BK762 hg : gb775 ≠ gb762)); replace BK762 := nb BK762 hb; have NB763_775 := Aside0.mk ((bn BK763 hg : gb763 ≠ gb775)); have NB775_763 := Aside0.mk ((bm BK763 hg : gb775 ≠ gb763)); replace BK763 := nb BK763 hb; clear hb hbox hg; obtain ⟨Ao13, co13, eo13⟩ := Kd.R_slice HO767.out; subst eo13; have hnb14 := NB775_762.out; have hnc14 := NB762_775.out; have hnb15 := NB775_763.out; have hnc15 := NB763_775.out; have hcz16_0 : w12.cell? ⟨gb775, 0, none⟩ = some (.slice none 0 0) := (blk_cell BK775.out 0).trans rfl; have hcz16_1 : w12.cell? ⟨gb775, 1, none⟩ = some (.slice none 0 0) := (blk_cell BK775.out 1).trans rfl; have hcz16_2 : w12.cell? ⟨gb775, 2, none⟩ = some (.slice none 0 0) := (blk_cell BK775.out 2).trans rfl; have hcz16_3 : w12.cell? ⟨gb775, 3, none⟩ = some (.int .i64 0) := (blk_cell BK775.out 3).trans rfl; have hfz16_0 := blk_frozen BK775.out 0; have hfz16_1 := blk_frozen BK775.out 1; have hfz16_2 := blk_frozen BK775.out 2; have hfz16_3 := blk_frozen BK775.out 3; obtain ⟨Ao17, co17, eo17⟩ := Kd.R_slice HO770.out; subst eo17; obtain ⟨Ao18, co18, eo18⟩ := Kd.R_slice HO773.out; subst eo18; have hcz19_0 : w12.cell? ⟨gb763, 0, none⟩ = some (.slice none 0 0) := (blk_cell BK763.out 0).trans rfl; have hcz19_1 : w12.cell? ⟨gb763, 1, none⟩ = some (.slice none 0 0) := (blk_cell BK763.out 1).trans rfl; have hcz19_2 : w12.cell? ⟨gb763, 2, none⟩ = some (.slice none 0 0) := (blk_cell BK763.out 2).trans rfl; have hcz19_3 : w12.cell? ⟨gb763, 3, none⟩ = some (.int .i64 0) := (blk_cell BK763.out 3).trans rfl; have hfz19_0 := blk_frozen BK763.out 0; have hfz19_1 := blk_frozen BK763.out 1; have hfz19_2 := blk_frozen BK763.out 2; have hfz19_3 := blk_frozen BK763.out 3))
  refine bodyPost_ret (results_ct rfl _ _ gb763 44 #[.slice Ao13 t765.length co13, .slice Ao17 t768.length co17, .slice Ao18 t771.length co18, .int .i64 (t771.length : Int)] (0, 0) _ rfl (by (with_reducible repeat (first | refine blk_drewN ?_ _ | refine blk_drew ?_ | refine blk_alloc ?_ _)); refine blk_put (cs := #[.slice Ao13 t765.length co13, .slice Ao17 t768.length co17, .slice Ao18 t771.length co18, .int .i64 0]) ?_ 3 _ rfl; (with_reducible repeat (first | refine blk_drewN ?_ _ | refine blk_drew ?_ | refine blk_alloc ?_ _)); refine blk_put (cs := #[.slice Ao13 t765.length co13, .slice Ao17 t768.length co17, .slice none 0 0, .int .i64 0]) ?_ 2 _ rfl; (with_reducible repeat (first | refine blk_drewN ?_ _ | refine blk_drew ?_ | refine blk_alloc ?_ _)); refine blk_put (cs := #[.slice Ao13 t765.length co13, .slice none 0 0, .slice none 0 0, .int .i64 0]) ?_ 1 _ rfl; (with_reducible repeat (first | refine blk_drewN ?_ _ | refine blk_drew ?_ | refine blk_alloc ?_ _)); refine blk_put (cs := #[.slice none 0 0, .slice none 0 0, .slice none 0 0, .int .i64 0]) ?_ 0 _ rfl; (with_reducible repeat (first | refine blk_drewN ?_ _ | refine blk_drew ?_ | refine blk_alloc ?_ _)); refine blk_far ?_ NB763_775.out _; (with_reducible repeat (first | refine blk_drewN ?_ _ | refine blk_drew ?_ | refine blk_alloc ?_ _)); refine blk_far ?_ NB763_775.out _; (with_reducible repeat (first | refine blk_drewN ?_ _ | refine blk_drew ?_ | refine blk_alloc ?_ _)); refine blk_far ?_ NB763_775.out _; (with_reducible repeat (first | refine blk_drewN ?_ _ | refine blk_drew ?_ | refine blk_alloc ?_ _)); refine blk_far ?_ NB763_775.out _; (with_reducible repeat (first | refine blk_drewN ?_ _ | refine blk_drew ?_ | refine blk_alloc ?_ _)); refine blk_far ?_ NB763_775.out _; (with_reducible repeat (first | refine blk_drewN ?_ _ | refine blk_drew ?_ | refine blk_alloc ?_ _)); exact BK763.out) Try.underlying44 rfl (by kernel_rfl)) rfl ?_
  exact ⟨_, _, _, by first | rfl | (simp [errW_none, errW_some] <;> rfl) | (simp [*, errW_none, errW_some] <;> rfl), by (with_reducible repeat (first | apply Kd.R_alloc | apply Kd.R_drewN | apply Kd.R_drew)); exact Kd.R_mono (Kd.R_far (p := ⟨gb763, 3, none⟩) (Kd.R_far (p := ⟨gb763, 2, none⟩) (Kd.R_far (p := ⟨gb763, 1, none⟩) (Kd.R_far (p := ⟨gb763, 0, none⟩) (Kd.R_far (p := ⟨gb775, 3, none⟩) (Kd.R_far (p := ⟨gb775, 3, none⟩) (Kd.R_far (p := ⟨gb775, 2, none⟩) (Kd.R_far (p := ⟨gb775, 1, none⟩) (Kd.R_far (p := ⟨gb775, 0, none⟩) (Kd.R_types (Kd.R_types HO767.out BK775.out (by decide)) BK763.out (by decide)) (fun _ hk => hk.1.2) (.slice Ao13 t765.length co13)) (fun _ hk => hk.1.2) (.slice Ao17 t768.length co17)) (fun _ hk => hk.1.2) (.slice Ao18 t771.length co18)) (fun _ hk => hk.1.2) (.int .i64 t774)) (fun _ hk => hk.1.2) (.int .i64 (t771.length : Int))) (fun _ hk => hk.2) (.slice Ao13 t765.length co13)) (fun _ hk => hk.2) (.slice Ao17 t768.length co17)) (fun _ hk => hk.2) (.slice Ao18 t771.length co18)) (fun _ hk => hk.2) (.int .i64 (t771.length : Int))) (fun _ hk => hk.1.1), by (with_reducible repeat (first | apply Kd.R_alloc | apply Kd.R_drewN | apply Kd.R_drew)); exact Kd.R_mono (Kd.R_far (p := ⟨gb763, 3, none⟩) (Kd.R_far (p := ⟨gb763, 2, none⟩) (Kd.R_far (p := ⟨gb763, 1, none⟩) (Kd.R_far (p := ⟨gb763, 0, none⟩) (Kd.R_far (p := ⟨gb775, 3, none⟩) (Kd.R_far (p := ⟨gb775, 3, none⟩) (Kd.R_far (p := ⟨gb775, 2, none⟩) (Kd.R_far (p := ⟨gb775, 1, none⟩) (Kd.R_far (p := ⟨gb775, 0, none⟩) (Kd.R_types (Kd.R_types HO770.out BK775.out (by decide)) BK763.out (by decide)) (fun _ hk => hk.1.2) (.slice Ao13 t765.length co13)) (fun _ hk => hk.1.2) (.slice Ao17 t768.length co17)) (fun _ hk => hk.1.2) (.slice Ao18 t771.length co18)) (fun _ hk => hk.1.2) (.int .i64 t774)) (fun _ hk => hk.1.2) (.int .i64 (t771.length : Int))) (fun _ hk => hk.2) (.slice Ao13 t765.length co13)) (fun _ hk => hk.2) (.slice Ao17 t768.length co17)) (fun _ hk => hk.2) (.slice Ao18 t771.length co18)) (fun _ hk => hk.2) (.int .i64 (t771.length : Int))) (fun _ hk => trivial), by (with_reducible repeat (first | apply Kd.R_alloc | apply Kd.R_drewN | apply Kd.R_drew)); exact Kd.R_mono (Kd.R_far (p := ⟨gb763, 3, none⟩) (Kd.R_far (p := ⟨gb763, 2, none⟩) (Kd.R_far (p := ⟨gb763, 1, none⟩) (Kd.R_far (p := ⟨gb763, 0, none⟩) (Kd.R_far (p := ⟨gb775, 3, none⟩) (Kd.R_far (p := ⟨gb775, 3, none⟩) (Kd.R_far (p := ⟨gb775, 2, none⟩) (Kd.R_far (p := ⟨gb775, 1, none⟩) (Kd.R_far (p := ⟨gb775, 0, none⟩) (Kd.R_types (Kd.R_types HO773.out BK775.out (by decide)) BK763.out (by decide)) (fun _ hk => hk.1.2) (.slice Ao13 t765.length co13)) (fun _ hk => hk.1.2) (.slice Ao17 t768.length co17)) (fun _ hk => hk.1.2) (.slice Ao18 t771.length co18)) (fun _ hk => hk.1.2) (.int .i64 t774)) (fun _ hk => hk.1.2) (.int .i64 (t771.length : Int))) (fun _ hk => hk.2) (.slice Ao13 t765.length co13)) (fun _ hk => hk.2) (.slice Ao17 t768.length co17)) (fun _ hk => hk.2) (.slice Ao18 t771.length co18)) (fun _ hk => hk.2) (.int .i64 (t771.length : Int))) (fun _ hk => hk.1.1), bs3 HB GE762 GE763 GE775⟩
 ·
  replace c3 := Bool.eq_false_iff.mpr c3
  subst c3
  rw [if_neg (show ¬ (false = true) by decide)] at H
  simp only [Option.some.injEq, Prod.mk.injEq] at H
  obtain ⟨rfl, rfl, rfl, rfl, rfl⟩ := H
  go_enter Try.func42, Try.ntmps42
  go_wp2_with (first | ((with_reducible refine gate_dst (N := 1) rfl ?_); refine box_event ?hg (N := 1) ?hd (cs := #[.slice A0_0 l0_0.length c0_0, .slice A0_1 l0_1.length c0_1, .slice A0_2 l0_2.length c0_2, .int .i64 a0_3]) (t := 44) ?hr ?_; (case hd => rfl); (case hg => rfl); (case hr => first | (go_simp; done) | (go_simp; rfl)); intro gb762 hg w20 hbox hb; have BK762 := Aside0.mk (hbox); have GW762 := Aside0.mk ((by rw [hg]; exact (below_size (bs HB)) : w.heap.size ≤ gb762)); have GE762 := Aside0.mk ((by rw [hg]; exact (below_size (bs HB)) : w.heap.size ≤ gb762)); replace HB := Aside0.mk (below_step (bs HB) hb); clear hb hbox hg) | ((with_reducible refine gate_dst (N := 2) rfl ?_); refine box_event ?hg (N := 2) ?hd (cs := #[.slice none 0 0, .slice none 0 0, .slice none 0 0, .int .i64 0]) (t := 44) ?hr ?_; (case hd => rfl); (case hg => rfl); (case hr => first | (go_simp; done) | (go_simp; rfl)); intro gb763 hg w21 hbox hb; have BK763 := Aside0.mk (hbox); have GW763 := Aside0.mk ((by rw [hg]; exact (below_size (bs1 HB GE762)) : w.heap.size ≤ gb763)); have GE763 := Aside0.mk ((by rw [hg]; exact (below_size (bs1 HB GE762)) : w.heap.size ≤ gb763)); replace HB := Aside0.mk (below_step (bs1 HB GE762) hb); have NB762_763 := Aside0.mk ((bn BK762 hg : gb762 ≠ gb763)); have NB763_762 := Aside0.mk ((bm BK762 hg : gb763 ≠ gb762)); replace BK762 := nb BK762 hb; clear hb hbox hg; have hnb22 := NB762_763.out; have hnc22 := NB763_762.out; have hcz23_0 : w21.cell? ⟨gb762, 0, none⟩ = some (.slice A0_0 l0_0.length c0_0) := (blk_cell BK762.out 0).trans rfl; have hcz23_1 : w21.cell? ⟨gb762, 1, none⟩ = some (.slice A0_1 l0_1.length c0_1) := (blk_cell BK762.out 1).trans rfl; have hcz23_2 : w21.cell? ⟨gb762, 2, none⟩ = some (.slice A0_2 l0_2.length c0_2) := (blk_cell BK762.out 2).trans rfl; have hcz23_3 : w21.cell? ⟨gb762, 3, none⟩ = some (.int .i64 a0_3) := (blk_cell BK762.out 3).trans rfl; have hfz23_0 := blk_frozen BK762.out 0; have hfz23_1 := blk_frozen BK762.out 1; have hfz23_2 := blk_frozen BK762.out 2; have hfz23_3 := blk_frozen BK762.out 3) | ((with_reducible refine gate_callee (f := 28) rfl ?_); refine goesL_ (some 6) rfl rfl Try.func28 (by kernel_rfl) rfl #[.agg #[.slice A0_0 l0_0.length c0_0, .slice A0_1 l0_1.length c0_1, .slice A0_2 l0_2.length c0_2, .int .i64 a0_3]] rfl (by (try simp only [List.map_toArray, List.map_cons, List.map_nil]); first | done | rfl | (simp only [List.length_drop, List.length_take]; rfl)) ?_; (with_reducible refine (impl_GoodStore.calls k _ _ l0_0 _ _ l0_1 _ _ l0_2 a0_3 false _ ?side1 ?side2 ?side3 ?side4 ?side5 ?side6 A2.out).mono ?_); (case side1 => exact cb HR0_0 HB); (case side2 => exact HC0_0.out); (case side3 => exact cb HR0_1 HB); (case side4 => exact HC0_1.out); (case side5 => exact cb HR0_2 HB); (case side6 => exact HC0_2.out); rintro e w24 ⟨rfl, hb⟩; refine ⟨_, rfl, ?_⟩; replace BK762 := nb BK762 hb; replace BK763 := nb BK763 hb; replace HB := Aside0.mk (below_step (bs2 HB GE762 GE763) hb); (try clear hb); (try clear hb2); (try clear hk); (try clear hi); have hcz25_0 : w24.cell? ⟨gb763, 0, none⟩ = some (.slice none 0 0) := (blk_cell BK763.out 0).trans rfl; have hcz25_1 : w24.cell? ⟨gb763, 1, none⟩ = some (.slice none 0 0) := (blk_cell BK763.out 1).trans rfl; have hcz25_2 : w24.cell? ⟨gb763, 2, none⟩ = some (.slice none 0 0) := (blk_cell BK763.out 2).trans rfl; have hcz25_3 : w24.cell? ⟨gb763, 3, none⟩ = some (.int .i64 0) := (blk_cell BK763.out 3).trans rfl; have hfz25_0 := blk_frozen BK763.out 0; have hfz25_1 := blk_frozen BK763.out 1; have hfz25_2 := blk_frozen BK763.out 2; have hfz25_3 := blk_frozen BK763.out 3))
  refine bodyPost_ret (results_ct rfl _ _ gb763 44 #[.slice none 0 0, .slice none 0 0, .slice none 0 0, .int .i64 0] (0, 0) _ rfl (by (with_reducible repeat (first | refine blk_drewN ?_ _ | refine blk_drew ?_ | refine blk_alloc ?_ _)); refine blk_put (cs := #[.slice none 0 0, .slice none 0 0, .slice none 0 0, .int .i64 0]) ?_ 3 _ rfl; (with_reducible repeat (first | refine blk_drewN ?_ _ | refine blk_drew ?_ | refine blk_alloc ?_ _)); refine blk_put (cs := #[.slice none 0 0, .slice none 0 0, .slice none 0 0, .int .i64 0]) ?_ 2 _ rfl; (with_reducible repeat (first | refine blk_drewN ?_ _ | refine blk_drew ?_ | refine blk_alloc ?_ _)); refine blk_put (cs := #[.slice none 0 0, .slice none 0 0, .slice none 0 0, .int .i64 0]) ?_ 1 _ rfl; (with_reducible repeat (first | refine blk_drewN ?_ _ | refine blk_drew ?_ | refine blk_alloc ?_ _)); refine blk_put (cs := #[.slice none 0 0, .slice none 0 0, .slice none 0 0, .int .i64 0]) ?_ 0 _ rfl; (with_reducible repeat (first | refine blk_drewN ?_ _ | refine blk_drew ?_ | refine blk_alloc ?_ _)); exact BK763.out) Try.underlying44 rfl (by kernel_rfl)) rfl ?_
  exact ⟨_, _, _, by first | rfl | (simp [errW_none, errW_some] <;> rfl) | (simp [*, errW_none, errW_some] <;> rfl), by first | exact Kd.R_nil _ _ _ _ _ | exact Kd.N_nil _ _ _ _ _ | exact Kd.V_nil _ _ _ _ _ | exact Kd.Q_nil _ _ _ _ _ | exact Kd.S_nil _ _ _ _ _, by first | exact Kd.R_nil _ _ _ _ _ | exact Kd.N_nil _ _ _ _ _ | exact Kd.V_nil _ _ _ _ _ | exact Kd.Q_nil _ _ _ _ _ | exact Kd.S_nil _ _ _ _ _, by first | exact Kd.R_nil _ _ _ _ _ | exact Kd.N_nil _ _ _ _ _ | exact Kd.V_nil _ _ _ _ _ | exact Kd.Q_nil _ _ _ _ _ | exact Kd.S_nil _ _ _ _ _, bs2 HB GE762 GE763⟩

/-! ### laws_FnExactSyncLog: function 9 -/
mutual
def laws_FnExactSyncLog.j0 : Nat → Bool → Bool → Bool → List ByteArray → List (S76) → List ByteArray → Int → List ByteArray → List (S72) → List ByteArray → Int → List ByteArray → List (S72) → List ByteArray → Int → List ByteArray → List (S72) → List ByteArray → Int → Option (Bool)
 | 0, _, _, _, _, _, _, _, _, _, _, _, _, _, _, _, _, _, _, _ => none
 | k + 1, x5, x8, x40, x777000, x777001, x777002, x777003, x800000, x800001, x800002, x800003, x811000, x811001, x811002, x811003, x823000, x823001, x823002, x823003 => if x40 = true then (some false) else ((laws_toStore.f k x777000 x777001 x777002 x777003).bind fun bt824 => ((laws_eqStore.f k x811000 x811001 x811002 x811003 bt824.1 bt824.2.1 bt824.2.2.1 bt824.2.2.2).bind fun t834 => (if t834 = true then ((laws_markStore.f k x811000 x811001 x811002 x811003 1).bind fun bt835 => (if bt835.1 < 0 then (laws_FnExactSyncLog.j1 k x5 true x777000 x777001 x777002 x777003 x800000 x800001 x800002 x800003 x823000 x823001 x823002 x823003) else ((laws_eqStore.f k x823000 x823001 x823002 x823003 x800000 x800001 x800002 x800003).bind fun t839 => (if t839 = true then (laws_FnExactSyncLog.j1 k x5 (x8 != x5) x777000 x777001 x777002 x777003 x800000 x800001 x800002 x800003 x823000 x823001 x823002 x823003) else (laws_FnExactSyncLog.j1 k x5 true x777000 x777001 x777002 x777003 x800000 x800001 x800002 x800003 x823000 x823001 x823002 x823003))))) else (some false))))
def laws_FnExactSyncLog.j1 : Nat → Bool → Bool → List ByteArray → List (S76) → List ByteArray → Int → List ByteArray → List (S72) → List ByteArray → Int → List ByteArray → List (S72) → List ByteArray → Int → Option (Bool)
 | 0, _, _, _, _, _, _, _, _, _, _, _, _, _, _ => none
 | k + 1, x5, x61, x777000, x777001, x777002, x777003, x800000, x800001, x800002, x800003, x823000, x823001, x823002, x823003 => if x61 = true then (some false) else ((laws_markStore.f k x823000 x823001 x823002 x823003 1).bind fun bt840 => ((laws_heldStore.f k bt840.2.1 bt840.2.2.1 bt840.2.2.2 x823003 1).bind fun t844 => (if t844 < 0 then (some false) else (if t844 = bt840.1 then ((laws_toStore.f k x777000 x777001 x777002 x777003).bind fun bt845 => ((impl_SyncLog.f k bt845.1 bt845.2.1 bt845.2.2.1 bt845.2.2.2).bind fun bt855 => ((laws_eqStore.f k bt855.1 bt855.2.1 bt855.2.2.1 bt855.2.2.2.1 x800000 x800001 x800002 x800003).bind fun t867 => (if t867 = true then (laws_FnExactSyncLog.j2 k bt840.1 (bt855.2.2.2.2 != x5) bt840.2.1 bt840.2.2.1 bt840.2.2.2 x823003) else (laws_FnExactSyncLog.j2 k bt840.1 true bt840.2.1 bt840.2.2.1 bt840.2.2.2 x823003))))) else (some false)))))
def laws_FnExactSyncLog.j2 : Nat → Int → Bool → List ByteArray → List (S72) → List ByteArray → Int → Option (Bool)
 | 0, _, _, _, _, _, _ => none
 | k + 1, x10, x87, x823000, x823001, x823002, x823003 => if x87 = true then (some false) else ((laws_heldStore.f k x823000 x823001 x823002 x823003 1).bind fun t868 => (if t868 < 0 then (some false) else (if t868 = x10 then (some true) else (some false))))
end
def laws_FnExactSyncLog.f (k : Nat) (l0_0 : List ByteArray) (l0_1 : List (S76)) (l0_2 : List ByteArray) (a0_3 : Int) : Option (Bool) := (laws_szStore.f k l0_0 l0_1 l0_2 a0_3 1048576).bind fun t777 => (if t777 < 0 then (some true) else ((laws_toStore.f k l0_0 l0_1 l0_2 a0_3).bind fun bt778 => ((spec_SyncLog.f k bt778.1 bt778.2.1 bt778.2.2.1 bt778.2.2.2).bind fun bt788 => ((laws_toStore.f k l0_0 l0_1 l0_2 a0_3).bind fun bt800 => ((impl_SyncLog.f k bt800.1 bt800.2.1 bt800.2.2.1 bt800.2.2.2).bind fun bt811 => ((laws_eqStore.f k bt811.1 bt811.2.1 bt811.2.2.1 bt811.2.2.2.1 bt788.1 bt788.2.1 bt788.2.2.1 bt788.2.2.2.1).bind fun t823 => (if t823 = true then (laws_FnExactSyncLog.j0 k bt788.2.2.2.2 bt811.2.2.2.2 (bt811.2.2.2.2 != bt788.2.2.2.2) l0_0 l0_1 l0_2 a0_3 bt788.1 bt788.2.1 bt788.2.2.1 bt788.2.2.2.1 bt800.1 bt800.2.1 bt800.2.2.1 bt800.2.2.2 bt811.1 bt811.2.1 bt811.2.2.1 bt811.2.2.2.1) else (laws_FnExactSyncLog.j0 k bt788.2.2.2.2 bt811.2.2.2.2 true l0_0 l0_1 l0_2 a0_3 bt788.1 bt788.2.1 bt788.2.2.1 bt788.2.2.2.1 bt800.1 bt800.2.1 bt800.2.2.1 bt800.2.2.2 bt811.1 bt811.2.1 bt811.2.2.1 bt811.2.2.2.1))))))))
theorem laws_FnExactSyncLog.mono_l : ∀ k, (∀ y0 y1 y2 y3 y4 y5 y6 y7 y8 y9 y10 y11 y12 y13 y14 y15 y16 y17 y18, LeO (laws_FnExactSyncLog.j0 k y0 y1 y2 y3 y4 y5 y6 y7 y8 y9 y10 y11 y12 y13 y14 y15 y16 y17 y18) (laws_FnExactSyncLog.j0 (k + 1) y0 y1 y2 y3 y4 y5 y6 y7 y8 y9 y10 y11 y12 y13 y14 y15 y16 y17 y18)) ∧ (∀ y0 y1 y2 y3 y4 y5 y6 y7 y8 y9 y10 y11 y12 y13, LeO (laws_FnExactSyncLog.j1 k y0 y1 y2 y3 y4 y5 y6 y7 y8 y9 y10 y11 y12 y13) (laws_FnExactSyncLog.j1 (k + 1) y0 y1 y2 y3 y4 y5 y6 y7 y8 y9 y10 y11 y12 y13)) ∧ (∀ y0 y1 y2 y3 y4 y5, LeO (laws_FnExactSyncLog.j2 k y0 y1 y2 y3 y4 y5) (laws_FnExactSyncLog.j2 (k + 1) y0 y1 y2 y3 y4 y5))
 | 0 => ⟨fun _ _ _ _ _ _ _ _ _ _ _ _ _ _ _ _ _ _ _ r h => by simp [laws_FnExactSyncLog.j0] at h, fun _ _ _ _ _ _ _ _ _ _ _ _ _ _ r h => by simp [laws_FnExactSyncLog.j1] at h, fun _ _ _ _ _ _ r h => by simp [laws_FnExactSyncLog.j2] at h⟩
 | k + 1 => by
  obtain ⟨ih0, ih1, ih2⟩ := laws_FnExactSyncLog.mono_l k
  refine ⟨?_, ?_, ?_⟩
  ·
   intro y0 y1 y2 y3 y4 y5 y6 y7 y8 y9 y10 y11 y12 y13 y14 y15 y16 y17 y18
   unfold laws_FnExactSyncLog.j0
   repeat' first
   | (with_reducible exact ih0 _ _ _ _ _ _ _ _ _ _ _ _ _ _ _ _ _ _ _)
   | (with_reducible exact ih1 _ _ _ _ _ _ _ _ _ _ _ _ _ _)
   | (with_reducible exact ih2 _ _ _ _ _ _)
   | (with_reducible exact impl_SyncLog.mono _ _ _ _ _)
   | (with_reducible exact laws_eqStore.mono _ _ _ _ _ _ _ _ _)
   | (with_reducible exact laws_heldStore.mono _ _ _ _ _ _)
   | (with_reducible exact laws_markStore.mono _ _ _ _ _ _)
   | (with_reducible exact laws_szStore.mono _ _ _ _ _ _)
   | (with_reducible exact laws_toStore.mono _ _ _ _ _)
   | (with_reducible exact spec_SyncLog.mono _ _ _ _ _)
   | (with_reducible exact LeO.refl _)
   | (with_reducible exact LeO.none _)
   | (with_reducible refine LeO.ite ?_ ?_)
   | (with_reducible refine LeO.bind ?_ (fun _ => ?_))
   | exact ih0 _ _ _ _ _ _ _ _ _ _ _ _ _ _ _ _ _ _ _
   | exact ih1 _ _ _ _ _ _ _ _ _ _ _ _ _ _
   | exact ih2 _ _ _ _ _ _
   | exact impl_SyncLog.mono _ _ _ _ _
   | exact laws_eqStore.mono _ _ _ _ _ _ _ _ _
   | exact laws_heldStore.mono _ _ _ _ _ _
   | exact laws_markStore.mono _ _ _ _ _ _
   | exact laws_szStore.mono _ _ _ _ _ _
   | exact laws_toStore.mono _ _ _ _ _
   | exact spec_SyncLog.mono _ _ _ _ _
   | exact LeO.none _
   | refine LeO.ite ?_ ?_
   | refine LeO.bind ?_ (fun _ => ?_)
  ·
   intro y0 y1 y2 y3 y4 y5 y6 y7 y8 y9 y10 y11 y12 y13
   unfold laws_FnExactSyncLog.j1
   repeat' first
   | (with_reducible exact ih0 _ _ _ _ _ _ _ _ _ _ _ _ _ _ _ _ _ _ _)
   | (with_reducible exact ih1 _ _ _ _ _ _ _ _ _ _ _ _ _ _)
   | (with_reducible exact ih2 _ _ _ _ _ _)
   | (with_reducible exact impl_SyncLog.mono _ _ _ _ _)
   | (with_reducible exact laws_eqStore.mono _ _ _ _ _ _ _ _ _)
   | (with_reducible exact laws_heldStore.mono _ _ _ _ _ _)
   | (with_reducible exact laws_markStore.mono _ _ _ _ _ _)
   | (with_reducible exact laws_szStore.mono _ _ _ _ _ _)
   | (with_reducible exact laws_toStore.mono _ _ _ _ _)
   | (with_reducible exact spec_SyncLog.mono _ _ _ _ _)
   | (with_reducible exact LeO.refl _)
   | (with_reducible exact LeO.none _)
   | (with_reducible refine LeO.ite ?_ ?_)
   | (with_reducible refine LeO.bind ?_ (fun _ => ?_))
   | exact ih0 _ _ _ _ _ _ _ _ _ _ _ _ _ _ _ _ _ _ _
   | exact ih1 _ _ _ _ _ _ _ _ _ _ _ _ _ _
   | exact ih2 _ _ _ _ _ _
   | exact impl_SyncLog.mono _ _ _ _ _
   | exact laws_eqStore.mono _ _ _ _ _ _ _ _ _
   | exact laws_heldStore.mono _ _ _ _ _ _
   | exact laws_markStore.mono _ _ _ _ _ _
   | exact laws_szStore.mono _ _ _ _ _ _
   | exact laws_toStore.mono _ _ _ _ _
   | exact spec_SyncLog.mono _ _ _ _ _
   | exact LeO.none _
   | refine LeO.ite ?_ ?_
   | refine LeO.bind ?_ (fun _ => ?_)
  ·
   intro y0 y1 y2 y3 y4 y5
   unfold laws_FnExactSyncLog.j2
   repeat' first
   | (with_reducible exact ih0 _ _ _ _ _ _ _ _ _ _ _ _ _ _ _ _ _ _ _)
   | (with_reducible exact ih1 _ _ _ _ _ _ _ _ _ _ _ _ _ _)
   | (with_reducible exact ih2 _ _ _ _ _ _)
   | (with_reducible exact impl_SyncLog.mono _ _ _ _ _)
   | (with_reducible exact laws_eqStore.mono _ _ _ _ _ _ _ _ _)
   | (with_reducible exact laws_heldStore.mono _ _ _ _ _ _)
   | (with_reducible exact laws_markStore.mono _ _ _ _ _ _)
   | (with_reducible exact laws_szStore.mono _ _ _ _ _ _)
   | (with_reducible exact laws_toStore.mono _ _ _ _ _)
   | (with_reducible exact spec_SyncLog.mono _ _ _ _ _)
   | (with_reducible exact LeO.refl _)
   | (with_reducible exact LeO.none _)
   | (with_reducible refine LeO.ite ?_ ?_)
   | (with_reducible refine LeO.bind ?_ (fun _ => ?_))
   | exact ih0 _ _ _ _ _ _ _ _ _ _ _ _ _ _ _ _ _ _ _
   | exact ih1 _ _ _ _ _ _ _ _ _ _ _ _ _ _
   | exact ih2 _ _ _ _ _ _
   | exact impl_SyncLog.mono _ _ _ _ _
   | exact laws_eqStore.mono _ _ _ _ _ _ _ _ _
   | exact laws_heldStore.mono _ _ _ _ _ _
   | exact laws_markStore.mono _ _ _ _ _ _
   | exact laws_szStore.mono _ _ _ _ _ _
   | exact laws_toStore.mono _ _ _ _ _
   | exact spec_SyncLog.mono _ _ _ _ _
   | exact LeO.none _
   | refine LeO.ite ?_ ?_
   | refine LeO.bind ?_ (fun _ => ?_)
theorem laws_FnExactSyncLog.mono : ∀ a0 a1 a2 a3 k, LeO (laws_FnExactSyncLog.f k a0 a1 a2 a3) (laws_FnExactSyncLog.f (k + 1) a0 a1 a2 a3) := by
 intro a0 a1 a2 a3 k
 obtain ⟨ih0, ih1, ih2⟩ := laws_FnExactSyncLog.mono_l k
 unfold laws_FnExactSyncLog.f
 repeat' first
   | (with_reducible exact ih0 _ _ _ _ _ _ _ _ _ _ _ _ _ _ _ _ _ _ _)
   | (with_reducible exact ih1 _ _ _ _ _ _ _ _ _ _ _ _ _ _)
   | (with_reducible exact ih2 _ _ _ _ _ _)
   | (with_reducible exact impl_SyncLog.mono _ _ _ _ _)
   | (with_reducible exact laws_eqStore.mono _ _ _ _ _ _ _ _ _)
   | (with_reducible exact laws_heldStore.mono _ _ _ _ _ _)
   | (with_reducible exact laws_markStore.mono _ _ _ _ _ _)
   | (with_reducible exact laws_szStore.mono _ _ _ _ _ _)
   | (with_reducible exact laws_toStore.mono _ _ _ _ _)
   | (with_reducible exact spec_SyncLog.mono _ _ _ _ _)
   | (with_reducible exact LeO.refl _)
   | (with_reducible exact LeO.none _)
   | (with_reducible refine LeO.ite ?_ ?_)
   | (with_reducible refine LeO.bind ?_ (fun _ => ?_))
   | exact ih0 _ _ _ _ _ _ _ _ _ _ _ _ _ _ _ _ _ _ _
   | exact ih1 _ _ _ _ _ _ _ _ _ _ _ _ _ _
   | exact ih2 _ _ _ _ _ _
   | exact impl_SyncLog.mono _ _ _ _ _
   | exact laws_eqStore.mono _ _ _ _ _ _ _ _ _
   | exact laws_heldStore.mono _ _ _ _ _ _
   | exact laws_markStore.mono _ _ _ _ _ _
   | exact laws_szStore.mono _ _ _ _ _ _
   | exact laws_toStore.mono _ _ _ _ _
   | exact spec_SyncLog.mono _ _ _ _ _
   | exact LeO.none _
   | refine LeO.ite ?_ ?_
   | refine LeO.bind ?_ (fun _ => ?_)
set_option maxHeartbeats 8000000 in
set_option maxRecDepth 100000 in
theorem laws_FnExactSyncLog.calls (k : Nat) (A0_0 : Option Addr) (c0_0 : Nat) (l0_0 : List ByteArray) (A0_1 : Option Addr) (c0_1 : Nat) (l0_1 : List (S76)) (A0_2 : Option Addr) (c0_2 : Nat) (l0_2 : List ByteArray) (a0_3 : Int) (r : Bool) (w : World) (hr0_0 : Kd.C Kd.string w A0_0 l0_0.length l0_0) (hc0_0 : l0_0.length ≤ c0_0) (hr0_1 : Kd.C k76 w A0_1 l0_1.length l0_1) (hc0_1 : l0_1.length ≤ c0_1) (hr0_2 : Kd.C Kd.string w A0_2 l0_2.length l0_2) (hc0_2 : l0_2.length ≤ c0_2) (h : laws_FnExactSyncLog.f k l0_0 l0_1 l0_2 a0_3 = some r) :
  Calls Try.prog 9 #[.agg #[.slice A0_0 l0_0.length c0_0, .slice A0_1 l0_1.length c0_1, .slice A0_2 l0_2.length c0_2, .int .i64 a0_3]] w fun e w' => e = .returned (.bool r) ∧ Below w.heap.size w w' := by
 have hu38 := Try.underlying38
 have hu44 := Try.underlying44
 have HR0_0 := Aside0.mk hr0_0
 have HC0_0 := Aside0.mk hc0_0
 clear hr0_0 hc0_0
 have HR0_1 := Aside0.mk hr0_1
 have HC0_1 := Aside0.mk hc0_1
 clear hr0_1 hc0_1
 have HR0_2 := Aside0.mk hr0_2
 have HC0_2 := Aside0.mk hc0_2
 clear hr0_2 hc0_2
 have HB := Aside0.mk (Below.refl w.heap.size w)
 have H : ((laws_szStore.f k l0_0 l0_1 l0_2 a0_3 1048576).bind fun t777 => (if t777 < 0 then (some true) else ((laws_toStore.f k l0_0 l0_1 l0_2 a0_3).bind fun bt778 => ((spec_SyncLog.f k bt778.1 bt778.2.1 bt778.2.2.1 bt778.2.2.2).bind fun bt788 => ((laws_toStore.f k l0_0 l0_1 l0_2 a0_3).bind fun bt800 => ((impl_SyncLog.f k bt800.1 bt800.2.1 bt800.2.2.1 bt800.2.2.2).bind fun bt811 => ((laws_eqStore.f k bt811.1 bt811.2.1 bt811.2.2.1 bt811.2.2.2.1 bt788.1 bt788.2.1 bt788.2.2.1 bt788.2.2.2.1).bind fun t823 => (if t823 = true then (laws_FnExactSyncLog.j0 k bt788.2.2.2.2 bt811.2.2.2.2 (bt811.2.2.2.2 != bt788.2.2.2.2) l0_0 l0_1 l0_2 a0_3 bt788.1 bt788.2.1 bt788.2.2.1 bt788.2.2.2.1 bt800.1 bt800.2.1 bt800.2.2.1 bt800.2.2.2 bt811.1 bt811.2.1 bt811.2.2.1 bt811.2.2.2.1) else (laws_FnExactSyncLog.j0 k bt788.2.2.2.2 bt811.2.2.2.2 true l0_0 l0_1 l0_2 a0_3 bt788.1 bt788.2.1 bt788.2.2.1 bt788.2.2.2.1 bt800.1 bt800.2.1 bt800.2.2.1 bt800.2.2.2 bt811.1 bt811.2.1 bt811.2.2.1 bt811.2.2.2.1))))))))) = some r := h
 clear h
 replace H := Option.bind_eq_some_iff.mp H
 obtain ⟨t777, A20, H⟩ := H
 replace H : (if t777 < 0 then (some true) else ((laws_toStore.f k l0_0 l0_1 l0_2 a0_3).bind fun bt778 => ((spec_SyncLog.f k bt778.1 bt778.2.1 bt778.2.2.1 bt778.2.2.2).bind fun bt788 => ((laws_toStore.f k l0_0 l0_1 l0_2 a0_3).bind fun bt800 => ((impl_SyncLog.f k bt800.1 bt800.2.1 bt800.2.2.1 bt800.2.2.2).bind fun bt811 => ((laws_eqStore.f k bt811.1 bt811.2.1 bt811.2.2.1 bt811.2.2.2.1 bt788.1 bt788.2.1 bt788.2.2.1 bt788.2.2.2.1).bind fun t823 => (if t823 = true then (laws_FnExactSyncLog.j0 k bt788.2.2.2.2 bt811.2.2.2.2 (bt811.2.2.2.2 != bt788.2.2.2.2) l0_0 l0_1 l0_2 a0_3 bt788.1 bt788.2.1 bt788.2.2.1 bt788.2.2.2.1 bt800.1 bt800.2.1 bt800.2.2.1 bt800.2.2.2 bt811.1 bt811.2.1 bt811.2.2.1 bt811.2.2.2.1) else (laws_FnExactSyncLog.j0 k bt788.2.2.2.2 bt811.2.2.2.2 true l0_0 l0_1 l0_2 a0_3 bt788.1 bt788.2.1 bt788.2.2.1 bt788.2.2.2.1 bt800.1 bt800.2.1 bt800.2.2.1 bt800.2.2.2 bt811.1 bt811.2.1 bt811.2.2.1 bt811.2.2.2.1)))))))) = some r := H
 have A2 := Aside0.mk A20
 clear A20
 by_cases c3 : t777 < 0
 ·
  rw [if_pos c3] at H
  have c3b0 : decide (t777 < 0) = true := decide_eq_true c3
  clear c3
  obtain rfl := Option.some.inj H
  go_enter Try.func9, Try.ntmps9
  go_wp2_with (first | ((with_reducible refine gate_dst (N := 1) rfl ?_); refine box_event ?hg (N := 1) ?hd (cs := #[.slice A0_0 l0_0.length c0_0, .slice A0_1 l0_1.length c0_1, .slice A0_2 l0_2.length c0_2, .int .i64 a0_3]) (t := 38) ?hr ?_; (case hd => rfl); (case hg => rfl); (case hr => first | (go_simp; done) | (go_simp; rfl)); intro gb776 hg w4 hbox hb; have BK776 := Aside0.mk (hbox); have GW776 := Aside0.mk ((by rw [hg]; exact (below_size (bs HB)) : w.heap.size ≤ gb776)); have GE776 := Aside0.mk ((by rw [hg]; exact (below_size (bs HB)) : w.heap.size ≤ gb776)); replace HB := Aside0.mk (below_step (bs HB) hb); clear hb hbox hg; have hcz5_0 : w4.cell? ⟨gb776, 0, none⟩ = some (.slice A0_0 l0_0.length c0_0) := (blk_cell BK776.out 0).trans rfl; have hcz5_1 : w4.cell? ⟨gb776, 1, none⟩ = some (.slice A0_1 l0_1.length c0_1) := (blk_cell BK776.out 1).trans rfl; have hcz5_2 : w4.cell? ⟨gb776, 2, none⟩ = some (.slice A0_2 l0_2.length c0_2) := (blk_cell BK776.out 2).trans rfl; have hcz5_3 : w4.cell? ⟨gb776, 3, none⟩ = some (.int .i64 a0_3) := (blk_cell BK776.out 3).trans rfl; have hfz5_0 := blk_frozen BK776.out 0; have hfz5_1 := blk_frozen BK776.out 1; have hfz5_2 := blk_frozen BK776.out 2; have hfz5_3 := blk_frozen BK776.out 3) | ((with_reducible refine gate_callee (f := 25) rfl ?_); refine goesL_ (some 16) rfl rfl Try.func25 (by kernel_rfl) rfl #[.agg #[.slice A0_0 l0_0.length c0_0, .slice A0_1 l0_1.length c0_1, .slice A0_2 l0_2.length c0_2, .int .i64 a0_3], .int .i64 1048576] rfl (by (try simp only [List.map_toArray, List.map_cons, List.map_nil]); first | done | rfl | (simp only [List.length_drop, List.length_take]; rfl)) ?_; (with_reducible refine (laws_szStore.calls k _ _ l0_0 _ _ l0_1 _ _ l0_2 a0_3 1048576 t777 _ ?side1 ?side2 ?side3 ?side4 ?side5 ?side6 A2.out).mono ?_); (case side1 => exact cb HR0_0 HB); (case side2 => exact HC0_0.out); (case side3 => exact cb HR0_1 HB); (case side4 => exact HC0_1.out); (case side5 => exact cb HR0_2 HB); (case side6 => exact HC0_2.out); rintro e w6 ⟨rfl, hb⟩; refine ⟨_, rfl, ?_⟩; replace BK776 := nb BK776 hb; replace HB := Aside0.mk (below_step (bs1 HB GE776) hb); (try clear hb); (try clear hb2); (try clear hk); (try clear hi)))
  go_ret
  exact ⟨by first | rfl | (simp [errW_none, errW_some] <;> rfl) | (simp [*, errW_none, errW_some] <;> rfl), bs1 HB GE776⟩
 ·
  rw [if_neg c3] at H
  have c3b0 : decide (t777 < 0) = false := decide_eq_false c3
  clear c3
  replace H := Option.bind_eq_some_iff.mp H
  obtain ⟨⟨t778, t781, t784, t787⟩, A70, H⟩ := H
  replace H : ((spec_SyncLog.f k t778 t781 t784 t787).bind fun bt788 => ((laws_toStore.f k l0_0 l0_1 l0_2 a0_3).bind fun bt800 => ((impl_SyncLog.f k bt800.1 bt800.2.1 bt800.2.2.1 bt800.2.2.2).bind fun bt811 => ((laws_eqStore.f k bt811.1 bt811.2.1 bt811.2.2.1 bt811.2.2.2.1 bt788.1 bt788.2.1 bt788.2.2.1 bt788.2.2.2.1).bind fun t823 => (if t823 = true then (laws_FnExactSyncLog.j0 k bt788.2.2.2.2 bt811.2.2.2.2 (bt811.2.2.2.2 != bt788.2.2.2.2) l0_0 l0_1 l0_2 a0_3 bt788.1 bt788.2.1 bt788.2.2.1 bt788.2.2.2.1 bt800.1 bt800.2.1 bt800.2.2.1 bt800.2.2.2 bt811.1 bt811.2.1 bt811.2.2.1 bt811.2.2.2.1) else (laws_FnExactSyncLog.j0 k bt788.2.2.2.2 bt811.2.2.2.2 true l0_0 l0_1 l0_2 a0_3 bt788.1 bt788.2.1 bt788.2.2.1 bt788.2.2.2.1 bt800.1 bt800.2.1 bt800.2.2.1 bt800.2.2.2 bt811.1 bt811.2.1 bt811.2.2.1 bt811.2.2.2.1)))))) = some r := H
  have A7 := Aside0.mk A70
  clear A70
  replace H := Option.bind_eq_some_iff.mp H
  obtain ⟨⟨t788, t791, t794, t797, t798⟩, A80, H⟩ := H
  replace H : ((laws_toStore.f k l0_0 l0_1 l0_2 a0_3).bind fun bt800 => ((impl_SyncLog.f k bt800.1 bt800.2.1 bt800.2.2.1 bt800.2.2.2).bind fun bt811 => ((laws_eqStore.f k bt811.1 bt811.2.1 bt811.2.2.1 bt811.2.2.2.1 t788 t791 t794 t797).bind fun t823 => (if t823 = true then (laws_FnExactSyncLog.j0 k t798 bt811.2.2.2.2 (bt811.2.2.2.2 != t798) l0_0 l0_1 l0_2 a0_3 t788 t791 t794 t797 bt800.1 bt800.2.1 bt800.2.2.1 bt800.2.2.2 bt811.1 bt811.2.1 bt811.2.2.1 bt811.2.2.2.1) else (laws_FnExactSyncLog.j0 k t798 bt811.2.2.2.2 true l0_0 l0_1 l0_2 a0_3 t788 t791 t794 t797 bt800.1 bt800.2.1 bt800.2.2.1 bt800.2.2.2 bt811.1 bt811.2.1 bt811.2.2.1 bt811.2.2.2.1))))) = some r := H
  have A8 := Aside0.mk A80
  clear A80
  replace H := Option.bind_eq_some_iff.mp H
  obtain ⟨⟨t800, t803, t806, t809⟩, A90, H⟩ := H
  replace H : ((impl_SyncLog.f k t800 t803 t806 t809).bind fun bt811 => ((laws_eqStore.f k bt811.1 bt811.2.1 bt811.2.2.1 bt811.2.2.2.1 t788 t791 t794 t797).bind fun t823 => (if t823 = true then (laws_FnExactSyncLog.j0 k t798 bt811.2.2.2.2 (bt811.2.2.2.2 != t798) l0_0 l0_1 l0_2 a0_3 t788 t791 t794 t797 t800 t803 t806 t809 bt811.1 bt811.2.1 bt811.2.2.1 bt811.2.2.2.1) else (laws_FnExactSyncLog.j0 k t798 bt811.2.2.2.2 true l0_0 l0_1 l0_2 a0_3 t788 t791 t794 t797 t800 t803 t806 t809 bt811.1 bt811.2.1 bt811.2.2.1 bt811.2.2.2.1)))) = some r := H
  have A9 := Aside0.mk A90
  clear A90
  replace H := Option.bind_eq_some_iff.mp H
  obtain ⟨⟨t811, t814, t817, t820, t821⟩, A100, H⟩ := H
  replace H : ((laws_eqStore.f k t811 t814 t817 t820 t788 t791 t794 t797).bind fun t823 => (if t823 = true then (laws_FnExactSyncLog.j0 k t798 t821 (t821 != t798) l0_0 l0_1 l0_2 a0_3 t788 t791 t794 t797 t800 t803 t806 t809 t811 t814 t817 t820) else (laws_FnExactSyncLog.j0 k t798 t821 true l0_0 l0_1 l0_2 a0_3 t788 t791 t794 t797 t800 t803 t806 t809 t811 t814 t817 t820))) = some r := H
  have A10 := Aside0.mk A100
  clear A100
  have HC11 := Aside0.mk H
  clear H
  go_enter Try.func9, Try.ntmps9
  go_upto_region 8 with (first | ((with_reducible refine gate_dst (N := 1) rfl ?_); refine box_event ?hg (N := 1) ?hd (cs := #[.slice A0_0 l0_0.length c0_0, .slice A0_1 l0_1.length c0_1, .slice A0_2 l0_2.length c0_2, .int .i64 a0_3]) (t := 38) ?hr ?_; (case hd => rfl); (case hg => rfl); (case hr => first | (go_simp; done) | (go_simp; rfl)); intro gb776 hg w12 hbox hb; have BK776 := Aside0.mk (hbox); have GW776 := Aside0.mk ((by rw [hg]; exact (below_size (bs HB)) : w.heap.size ≤ gb776)); have GE776 := Aside0.mk ((by rw [hg]; exact (below_size (bs HB)) : w.heap.size ≤ gb776)); replace HB := Aside0.mk (below_step (bs HB) hb); clear hb hbox hg; have hcz13_0 : w12.cell? ⟨gb776, 0, none⟩ = some (.slice A0_0 l0_0.length c0_0) := (blk_cell BK776.out 0).trans rfl; have hcz13_1 : w12.cell? ⟨gb776, 1, none⟩ = some (.slice A0_1 l0_1.length c0_1) := (blk_cell BK776.out 1).trans rfl; have hcz13_2 : w12.cell? ⟨gb776, 2, none⟩ = some (.slice A0_2 l0_2.length c0_2) := (blk_cell BK776.out 2).trans rfl; have hcz13_3 : w12.cell? ⟨gb776, 3, none⟩ = some (.int .i64 a0_3) := (blk_cell BK776.out 3).trans rfl; have hfz13_0 := blk_frozen BK776.out 0; have hfz13_1 := blk_frozen BK776.out 1; have hfz13_2 := blk_frozen BK776.out 2; have hfz13_3 := blk_frozen BK776.out 3) | ((with_reducible refine gate_callee (f := 25) rfl ?_); refine goesL_ (some 16) rfl rfl Try.func25 (by kernel_rfl) rfl #[.agg #[.slice A0_0 l0_0.length c0_0, .slice A0_1 l0_1.length c0_1, .slice A0_2 l0_2.length c0_2, .int .i64 a0_3], .int .i64 1048576] rfl (by (try simp only [List.map_toArray, List.map_cons, List.map_nil]); first | done | rfl | (simp only [List.length_drop, List.length_take]; rfl)) ?_; (with_reducible refine (laws_szStore.calls k _ _ l0_0 _ _ l0_1 _ _ l0_2 a0_3 1048576 t777 _ ?side1 ?side2 ?side3 ?side4 ?side5 ?side6 A2.out).mono ?_); (case side1 => exact cb HR0_0 HB); (case side2 => exact HC0_0.out); (case side3 => exact cb HR0_1 HB); (case side4 => exact HC0_1.out); (case side5 => exact cb HR0_2 HB); (case side6 => exact HC0_2.out); rintro e w14 ⟨rfl, hb⟩; refine ⟨_, rfl, ?_⟩; replace BK776 := nb BK776 hb; replace HB := Aside0.mk (below_step (bs1 HB GE776) hb); (try clear hb); (try clear hb2); (try clear hk); (try clear hi); have hcz15_0 : w14.cell? ⟨gb776, 0, none⟩ = some (.slice A0_0 l0_0.length c0_0) := (blk_cell BK776.out 0).trans rfl; have hcz15_1 : w14.cell? ⟨gb776, 1, none⟩ = some (.slice A0_1 l0_1.length c0_1) := (blk_cell BK776.out 1).trans rfl; have hcz15_2 : w14.cell? ⟨gb776, 2, none⟩ = some (.slice A0_2 l0_2.length c0_2) := (blk_cell BK776.out 2).trans rfl; have hcz15_3 : w14.cell? ⟨gb776, 3, none⟩ = some (.int .i64 a0_3) := (blk_cell BK776.out 3).trans rfl; have hfz15_0 := blk_frozen BK776.out 0; have hfz15_1 := blk_frozen BK776.out 1; have hfz15_2 := blk_frozen BK776.out 2; have hfz15_3 := blk_frozen BK776.out 3) | ((with_reducible refine gate_callee (f := 27) rfl ?_); refine goesL_ (some 21) rfl rfl Try.func27 (by kernel_rfl) rfl #[.agg #[.slice A0_0 l0_0.length c0_0, .slice A0_1 l0_1.length c0_1, .slice A0_2 l0_2.length c0_2, .int .i64 a0_3]] rfl (by (try simp only [List.map_toArray, List.map_cons, List.map_nil]); first | done | rfl | (simp only [List.length_drop, List.length_take]; rfl)) ?_; (with_reducible refine (laws_toStore.calls k _ _ l0_0 _ _ l0_1 _ _ l0_2 a0_3 t778 t781 t784 t787 _ ?side1 ?side2 ?side3 ?side4 ?side5 ?side6 A7.out).mono ?_); (case side1 => exact cb HR0_0 HB); (case side2 => exact HC0_0.out); (case side3 => exact cb HR0_1 HB); (case side4 => exact HC0_1.out); (case side5 => exact cb HR0_2 HB); (case side6 => exact HC0_2.out); rintro e w16 ⟨v779, v782, v785, rfl, ho0, ho1, ho2, hb⟩; refine ⟨_, rfl, ?_⟩; have HO780 := Aside0.mk (Kd.R_lower ho0 (below_size (bs1 HB GE776))); have HO783 := Aside0.mk (Kd.R_lower ho1 (below_size (bs1 HB GE776))); have HO786 := Aside0.mk (Kd.R_lower ho2 (below_size (bs1 HB GE776))); replace BK776 := nb BK776 hb; replace HB := Aside0.mk (below_step (bs1 HB GE776) hb); (try clear hb); (try clear hb2); (try clear hk); (try clear hi); (try clear ho0); (try clear ho1); (try clear ho2); obtain ⟨Ao17, co17, eo17⟩ := Kd.R_slice HO780.out; subst eo17; obtain ⟨Ao18, co18, eo18⟩ := Kd.R_slice HO783.out; subst eo18; obtain ⟨Ao19, co19, eo19⟩ := Kd.R_slice HO786.out; subst eo19) | ((with_reducible refine gate_callee (f := 41) rfl ?_); refine goesL_ (some 22) rfl rfl Try.func41 (by kernel_rfl) rfl #[.agg #[.slice Ao17 t778.length co17, .slice Ao18 t781.length co18, .slice Ao19 t784.length co19, .int .i64 t787]] rfl (by (try simp only [List.map_toArray, List.map_cons, List.map_nil]); first | done | rfl | (simp only [List.length_drop, List.length_take]; rfl)) ?_; (with_reducible refine (spec_SyncLog.calls k _ _ t778 _ _ t781 _ _ t784 t787 t788 t791 t794 t797 t798 _ ?side1 ?side2 ?side3 ?side4 ?side5 ?side6 A8.out).mono ?_); (case side1 => exact rc0 HO780); (case side2 => exact (Kd.R_reads' HO780.out).2.1); (case side3 => exact rc0 HO783); (case side4 => exact (Kd.R_reads' HO783.out).2.1); (case side5 => exact rc0 HO786); (case side6 => exact (Kd.R_reads' HO786.out).2.1); rintro e w20 ⟨v789, v792, v795, rfl, ho0, ho1, ho2, hb⟩; refine ⟨_, rfl, ?_⟩; have HO790 := Aside0.mk (Kd.R_lower (Kd.R_new' (Kd.R_new' ho0 (Kd.R_lt (rr HO780.out))) (Kd.R_lt (rr HO786.out))) (below_size (bs1 HB GE776))); have HO793 := Aside0.mk (Kd.R_lower (Kd.R_new' ho1 (Kd.R_lt (rr HO783.out))) (below_size (bs1 HB GE776))); replace HO783 := Aside0.mk (Kd.R_elder' (rr HO783.out) (Kd.R_base ho1) hb); have HO796 := Aside0.mk (Kd.R_lower (Kd.R_new' (Kd.R_new' ho2 (Kd.R_lt (rr HO780.out))) (Kd.R_lt (rr HO786.out))) (below_size (bs1 HB GE776))); replace HO780 := Aside0.mk (Kd.R_mono (Kd.R_told (Kd.R_told (Kd.R_old (rr HO780.out) hb) (Kd.R_base ho0)) (Kd.R_base ho2)) (fun _ h_ => h_.1)); replace HO786 := Aside0.mk (Kd.R_mono (Kd.R_told (Kd.R_told (Kd.R_old (rr HO786.out) hb) (Kd.R_base ho0)) (Kd.R_base ho2)) (fun _ h_ => h_.1)); replace BK776 := nb BK776 hb; replace HB := Aside0.mk (below_step (bs1 HB GE776) hb); (try clear hb); (try clear hb2); (try clear hk); (try clear hi); (try clear ho0); (try clear ho1); (try clear ho2)) | ((with_reducible refine gate_dst (N := 4) rfl ?_); refine box_event ?hg (N := 4) ?hd (cs := #[.slice none 0 0, .slice none 0 0, .slice none 0 0, .int .i64 0]) (t := 44) ?hr ?_; (case hd => rfl); (case hg => rfl); (case hr => first | (go_simp; done) | (go_simp; rfl)); intro gb799 hg w21 hbox hb; replace HO780 := nr HO780 hb; replace HO783 := nr HO783 hb; replace HO786 := nr HO786 hb; replace HO790 := nr HO790 hb; replace HO793 := nr HO793 hb; replace HO796 := nr HO796 hb; have BK799 := Aside0.mk (hbox); have GW799 := Aside0.mk ((by rw [hg]; exact (below_size (bs1 HB GE776)) : w.heap.size ≤ gb799)); have GE799 := Aside0.mk ((by rw [hg]; exact (below_size (bs1 HB GE776)) : w.heap.size ≤ gb799)); replace HB := Aside0.mk (below_step (bs1 HB GE776) hb); have NB776_799 := Aside0.mk ((bn BK776 hg : gb776 ≠ gb799)); have NB799_776 := Aside0.mk ((bm BK776 hg : gb799 ≠ gb776)); replace BK776 := nb BK776 hb; clear hb hbox hg; obtain ⟨Ao22, co22, eo22⟩ := Kd.R_slice HO790.out; subst eo22; have hnb23 := NB799_776.out; have hnc23 := NB776_799.out; have hcz24_0 : w21.cell? ⟨gb799, 0, none⟩ = some (.slice none 0 0) := (blk_cell BK799.out 0).trans rfl; have hcz24_1 : w21.cell? ⟨gb799, 1, none⟩ = some (.slice none 0 0) := (blk_cell BK799.out 1).trans rfl; have hcz24_2 : w21.cell? ⟨gb799, 2, none⟩ = some (.slice none 0 0) := (blk_cell BK799.out 2).trans rfl; have hcz24_3 : w21.cell? ⟨gb799, 3, none⟩ = some (.int .i64 0) := (blk_cell BK799.out 3).trans rfl; have hfz24_0 := blk_frozen BK799.out 0; have hfz24_1 := blk_frozen BK799.out 1; have hfz24_2 := blk_frozen BK799.out 2; have hfz24_3 := blk_frozen BK799.out 3; obtain ⟨Ao25, co25, eo25⟩ := Kd.R_slice HO793.out; subst eo25; obtain ⟨Ao26, co26, eo26⟩ := Kd.R_slice HO796.out; subst eo26; have hcz27_0 : w21.cell? ⟨gb776, 0, none⟩ = some (.slice A0_0 l0_0.length c0_0) := (blk_cell BK776.out 0).trans rfl; have hcz27_1 : w21.cell? ⟨gb776, 1, none⟩ = some (.slice A0_1 l0_1.length c0_1) := (blk_cell BK776.out 1).trans rfl; have hcz27_2 : w21.cell? ⟨gb776, 2, none⟩ = some (.slice A0_2 l0_2.length c0_2) := (blk_cell BK776.out 2).trans rfl; have hcz27_3 : w21.cell? ⟨gb776, 3, none⟩ = some (.int .i64 a0_3) := (blk_cell BK776.out 3).trans rfl; have hfz27_0 := blk_frozen BK776.out 0; have hfz27_1 := blk_frozen BK776.out 1; have hfz27_2 := blk_frozen BK776.out 2; have hfz27_3 := blk_frozen BK776.out 3) | ((with_reducible refine gate_callee (f := 27) rfl ?_); refine goesL_ (some 26) rfl rfl Try.func27 (by kernel_rfl) rfl #[.agg #[.slice A0_0 l0_0.length c0_0, .slice A0_1 l0_1.length c0_1, .slice A0_2 l0_2.length c0_2, .int .i64 a0_3]] rfl (by (try simp only [List.map_toArray, List.map_cons, List.map_nil]); first | done | rfl | (simp only [List.length_drop, List.length_take]; rfl)) ?_; (with_reducible refine (laws_toStore.calls k _ _ l0_0 _ _ l0_1 _ _ l0_2 a0_3 t800 t803 t806 t809 _ ?side1 ?side2 ?side3 ?side4 ?side5 ?side6 A9.out).mono ?_); (case side1 => exact Kd.C_below HR0_0.out (bs2 HB GE776 GE799)); (case side2 => exact HC0_0.out); (case side3 => exact Kd.C_below HR0_1.out (bs2 HB GE776 GE799)); (case side4 => exact HC0_1.out); (case side5 => exact Kd.C_below HR0_2.out (bs2 HB GE776 GE799)); (case side6 => exact HC0_2.out); rintro e w28 ⟨v801, v804, v807, rfl, ho0, ho1, ho2, hb⟩; refine ⟨_, rfl, ?_⟩; have HO802 := Aside0.mk (Kd.R_lower (Kd.R_new' (Kd.R_new' (Kd.R_new' (Kd.R_new' ho0 (Kd.R_lt (rf HO780 BK799))) (Kd.R_lt (rf HO786 BK799))) (Kd.R_lt (rf HO790 BK799))) (Kd.R_lt (rf HO796 BK799))) (below_size (bs2 HB GE776 GE799))); have HO805 := Aside0.mk (Kd.R_lower (Kd.R_new' (Kd.R_new' ho1 (Kd.R_lt (rf HO783 BK799))) (Kd.R_lt (rf HO793 BK799))) (below_size (bs2 HB GE776 GE799))); replace HO783 := Aside0.mk (Kd.R_elder' (rf HO783 BK799) (Kd.R_base ho1) hb); replace HO793 := Aside0.mk (Kd.R_elder' (rf HO793 BK799) (Kd.R_base ho1) hb); have HO808 := Aside0.mk (Kd.R_lower (Kd.R_new' (Kd.R_new' (Kd.R_new' (Kd.R_new' ho2 (Kd.R_lt (rf HO780 BK799))) (Kd.R_lt (rf HO786 BK799))) (Kd.R_lt (rf HO790 BK799))) (Kd.R_lt (rf HO796 BK799))) (below_size (bs2 HB GE776 GE799))); replace HO780 := Aside0.mk (Kd.R_mono (Kd.R_told (Kd.R_told (Kd.R_old (rf HO780 BK799) hb) (Kd.R_base ho0)) (Kd.R_base ho2)) (fun _ h_ => h_.1)); replace HO786 := Aside0.mk (Kd.R_mono (Kd.R_told (Kd.R_told (Kd.R_old (rf HO786 BK799) hb) (Kd.R_base ho0)) (Kd.R_base ho2)) (fun _ h_ => h_.1)); replace HO790 := Aside0.mk (Kd.R_mono (Kd.R_told (Kd.R_told (Kd.R_old (rf HO790 BK799) hb) (Kd.R_base ho0)) (Kd.R_base ho2)) (fun _ h_ => h_.1)); replace HO796 := Aside0.mk (Kd.R_mono (Kd.R_told (Kd.R_told (Kd.R_old (rf HO796 BK799) hb) (Kd.R_base ho0)) (Kd.R_base ho2)) (fun _ h_ => h_.1)); replace BK776 := Aside0.mk (blk_below (bf BK776 NB776_799) hb); replace BK799 := Aside0.mk (blk_below (g := gb799) (o := .cells #[.slice Ao22 t788.length co22, .slice Ao25 t791.length co25, .slice Ao26 t794.length co26, .int .i64 t797] 44 (0, 0)) (by (with_reducible repeat (first | refine blk_drewN ?_ _ | refine blk_drew ?_ | refine blk_alloc ?_ _)); refine blk_put (cs := #[.slice Ao22 t788.length co22, .slice Ao25 t791.length co25, .slice Ao26 t794.length co26, .int .i64 0]) ?_ 3 _ rfl; (with_reducible repeat (first | refine blk_drewN ?_ _ | refine blk_drew ?_ | refine blk_alloc ?_ _)); refine blk_put (cs := #[.slice Ao22 t788.length co22, .slice Ao25 t791.length co25, .slice none 0 0, .int .i64 0]) ?_ 2 _ rfl; (with_reducible repeat (first | refine blk_drewN ?_ _ | refine blk_drew ?_ | refine blk_alloc ?_ _)); refine blk_put (cs := #[.slice Ao22 t788.length co22, .slice none 0 0, .slice none 0 0, .int .i64 0]) ?_ 1 _ rfl; (with_reducible repeat (first | refine blk_drewN ?_ _ | refine blk_drew ?_ | refine blk_alloc ?_ _)); refine blk_put (cs := #[.slice none 0 0, .slice none 0 0, .slice none 0 0, .int .i64 0]) ?_ 0 _ rfl; (with_reducible repeat (first | refine blk_drewN ?_ _ | refine blk_drew ?_ | refine blk_alloc ?_ _)); exact BK799.out) hb); replace HB := Aside0.mk (below_step (bs2 HB GE776 GE799) hb); (try clear hb); (try clear hb2); (try clear hk); (try clear hi); (try clear ho0); (try clear ho1); (try clear ho2)) | ((with_reducible refine gate_dst (N := 6) rfl ?_); refine box_event ?hg (N := 6) ?hd (cs := #[.slice none 0 0, .slice none 0 0, .slice none 0 0, .int .i64 0]) (t := 44) ?hr ?_; (case hd => rfl); (case hg => rfl); (case hr => first | (go_simp; done) | (go_simp; rfl)); intro gb810 hg w29 hbox hb; replace HO780 := nr HO780 hb; replace HO783 := nr HO783 hb; replace HO786 := nr HO786 hb; replace HO790 := nr HO790 hb; replace HO793 := nr HO793 hb; replace HO796 := nr HO796 hb; replace HO802 := nr HO802 hb; replace HO805 := nr HO805 hb; replace HO808 := nr HO808 hb; have BK810 := Aside0.mk (hbox); have GW810 := Aside0.mk ((by rw [hg]; exact (below_size (bs2 HB GE776 GE799)) : w.heap.size ≤ gb810)); have GE810 := Aside0.mk ((by rw [hg]; exact (below_size (bs2 HB GE776 GE799)) : w.heap.size ≤ gb810)); replace HB := Aside0.mk (below_step (bs2 HB GE776 GE799) hb); have NB776_810 := Aside0.mk ((bn BK776 hg : gb776 ≠ gb810)); have NB810_776 := Aside0.mk ((bm BK776 hg : gb810 ≠ gb776)); replace BK776 := nb BK776 hb; have NB799_810 := Aside0.mk ((bn BK799 hg : gb799 ≠ gb810)); have NB810_799 := Aside0.mk ((bm BK799 hg : gb810 ≠ gb799)); replace BK799 := nb BK799 hb; clear hb hbox hg; obtain ⟨Ao30, co30, eo30⟩ := Kd.R_slice HO802.out; subst eo30; have hnb31 := NB810_776.out; have hnc31 := NB776_810.out; have hnb32 := NB810_799.out; have hnc32 := NB799_810.out; have hcz33_0 : w29.cell? ⟨gb810, 0, none⟩ = some (.slice none 0 0) := (blk_cell BK810.out 0).trans rfl; have hcz33_1 : w29.cell? ⟨gb810, 1, none⟩ = some (.slice none 0 0) := (blk_cell BK810.out 1).trans rfl; have hcz33_2 : w29.cell? ⟨gb810, 2, none⟩ = some (.slice none 0 0) := (blk_cell BK810.out 2).trans rfl; have hcz33_3 : w29.cell? ⟨gb810, 3, none⟩ = some (.int .i64 0) := (blk_cell BK810.out 3).trans rfl; have hfz33_0 := blk_frozen BK810.out 0; have hfz33_1 := blk_frozen BK810.out 1; have hfz33_2 := blk_frozen BK810.out 2; have hfz33_3 := blk_frozen BK810.out 3; obtain ⟨Ao34, co34, eo34⟩ := Kd.R_slice HO805.out; subst eo34; obtain ⟨Ao35, co35, eo35⟩ := Kd.R_slice HO808.out; subst eo35) | ((with_reducible refine gate_callee (f := 42) rfl ?_); refine goesL_ (some 29) rfl rfl Try.func42 (by kernel_rfl) rfl #[.agg #[.slice Ao30 t800.length co30, .slice Ao34 t803.length co34, .slice Ao35 t806.length co35, .int .i64 t809]] rfl (by (try simp only [List.map_toArray, List.map_cons, List.map_nil]); first | done | rfl | (simp only [List.length_drop, List.length_take]; rfl)) ?_; (with_reducible refine (impl_SyncLog.calls k _ _ t800 _ _ t803 _ _ t806 t809 t811 t814 t817 t820 t821 _ ?side1 ?side2 ?side3 ?side4 ?side5 ?side6 A10.out).mono ?_); (case side1 => exact rc HO802 BK810); (case side2 => exact (Kd.R_reads' HO802.out).2.1); (case side3 => exact rc HO805 BK810); (case side4 => exact (Kd.R_reads' HO805.out).2.1); (case side5 => exact rc HO808 BK810); (case side6 => exact (Kd.R_reads' HO808.out).2.1); rintro e w36 ⟨v812, v815, v818, rfl, ho0, ho1, ho2, hb⟩; refine ⟨_, rfl, ?_⟩; have HO813 := Aside0.mk (Kd.R_lower (Kd.R_new' (Kd.R_new' (Kd.R_new' (Kd.R_new' (Kd.R_new' (Kd.R_new' ho0 (Kd.R_lt (rf HO780 BK810))) (Kd.R_lt (rf HO786 BK810))) (Kd.R_lt (rf HO790 BK810))) (Kd.R_lt (rf HO796 BK810))) (Kd.R_lt (rf HO802 BK810))) (Kd.R_lt (rf HO808 BK810))) (below_size (bs3 HB GE776 GE799 GE810))); have HO816 := Aside0.mk (Kd.R_lower (Kd.R_new' (Kd.R_new' (Kd.R_new' ho1 (Kd.R_lt (rf HO783 BK810))) (Kd.R_lt (rf HO793 BK810))) (Kd.R_lt (rf HO805 BK810))) (below_size (bs3 HB GE776 GE799 GE810))); replace HO783 := Aside0.mk (Kd.R_elder' (rf HO783 BK810) (Kd.R_base ho1) hb); replace HO793 := Aside0.mk (Kd.R_elder' (rf HO793 BK810) (Kd.R_base ho1) hb); replace HO805 := Aside0.mk (Kd.R_elder' (rf HO805 BK810) (Kd.R_base ho1) hb); have HO819 := Aside0.mk (Kd.R_lower (Kd.R_new' (Kd.R_new' (Kd.R_new' (Kd.R_new' (Kd.R_new' (Kd.R_new' ho2 (Kd.R_lt (rf HO780 BK810))) (Kd.R_lt (rf HO786 BK810))) (Kd.R_lt (rf HO790 BK810))) (Kd.R_lt (rf HO796 BK810))) (Kd.R_lt (rf HO802 BK810))) (Kd.R_lt (rf HO808 BK810))) (below_size (bs3 HB GE776 GE799 GE810))); replace HO780 := Aside0.mk (Kd.R_mono (Kd.R_told (Kd.R_told (Kd.R_old (rf HO780 BK810) hb) (Kd.R_base ho0)) (Kd.R_base ho2)) (fun _ h_ => h_.1)); replace HO786 := Aside0.mk (Kd.R_mono (Kd.R_told (Kd.R_told (Kd.R_old (rf HO786 BK810) hb) (Kd.R_base ho0)) (Kd.R_base ho2)) (fun _ h_ => h_.1)); replace HO790 := Aside0.mk (Kd.R_mono (Kd.R_told (Kd.R_told (Kd.R_old (rf HO790 BK810) hb) (Kd.R_base ho0)) (Kd.R_base ho2)) (fun _ h_ => h_.1)); replace HO796 := Aside0.mk (Kd.R_mono (Kd.R_told (Kd.R_told (Kd.R_old (rf HO796 BK810) hb) (Kd.R_base ho0)) (Kd.R_base ho2)) (fun _ h_ => h_.1)); replace HO802 := Aside0.mk (Kd.R_mono (Kd.R_told (Kd.R_told (Kd.R_old (rf HO802 BK810) hb) (Kd.R_base ho0)) (Kd.R_base ho2)) (fun _ h_ => h_.1)); replace HO808 := Aside0.mk (Kd.R_mono (Kd.R_told (Kd.R_told (Kd.R_old (rf HO808 BK810) hb) (Kd.R_base ho0)) (Kd.R_base ho2)) (fun _ h_ => h_.1)); replace BK776 := Aside0.mk (blk_below (bf BK776 NB776_810) hb); replace BK799 := Aside0.mk (blk_below (bf BK799 NB799_810) hb); replace BK810 := Aside0.mk (blk_below (g := gb810) (o := .cells #[.slice Ao30 t800.length co30, .slice Ao34 t803.length co34, .slice Ao35 t806.length co35, .int .i64 t809] 44 (0, 0)) (by (with_reducible repeat (first | refine blk_drewN ?_ _ | refine blk_drew ?_ | refine blk_alloc ?_ _)); refine blk_put (cs := #[.slice Ao30 t800.length co30, .slice Ao34 t803.length co34, .slice Ao35 t806.length co35, .int .i64 0]) ?_ 3 _ rfl; (with_reducible repeat (first | refine blk_drewN ?_ _ | refine blk_drew ?_ | refine blk_alloc ?_ _)); refine blk_put (cs := #[.slice Ao30 t800.length co30, .slice Ao34 t803.length co34, .slice none 0 0, .int .i64 0]) ?_ 2 _ rfl; (with_reducible repeat (first | refine blk_drewN ?_ _ | refine blk_drew ?_ | refine blk_alloc ?_ _)); refine blk_put (cs := #[.slice Ao30 t800.length co30, .slice none 0 0, .slice none 0 0, .int .i64 0]) ?_ 1 _ rfl; (with_reducible repeat (first | refine blk_drewN ?_ _ | refine blk_drew ?_ | refine blk_alloc ?_ _)); refine blk_put (cs := #[.slice none 0 0, .slice none 0 0, .slice none 0 0, .int .i64 0]) ?_ 0 _ rfl; (with_reducible repeat (first | refine blk_drewN ?_ _ | refine blk_drew ?_ | refine blk_alloc ?_ _)); exact BK810.out) hb); replace HB := Aside0.mk (below_step (bs3 HB GE776 GE799 GE810) hb); (try clear hb); (try clear hb2); (try clear hk); (try clear hi); (try clear ho0); (try clear ho1); (try clear ho2)) | ((with_reducible refine gate_dst (N := 7) rfl ?_); refine box_event ?hg (N := 7) ?hd (cs := #[.slice none 0 0, .slice none 0 0, .slice none 0 0, .int .i64 0]) (t := 44) ?hr ?_; (case hd => rfl); (case hg => rfl); (case hr => first | (go_simp; done) | (go_simp; rfl)); intro gb822 hg w37 hbox hb; replace HO780 := nr HO780 hb; replace HO783 := nr HO783 hb; replace HO786 := nr HO786 hb; replace HO790 := nr HO790 hb; replace HO793 := nr HO793 hb; replace HO796 := nr HO796 hb; replace HO802 := nr HO802 hb; replace HO805 := nr HO805 hb; replace HO808 := nr HO808 hb; replace HO813 := nr HO813 hb; replace HO816 := nr HO816 hb; replace HO819 := nr HO819 hb; have BK822 := Aside0.mk (hbox); have GW822 := Aside0.mk ((by rw [hg]; exact (below_size (bs3 HB GE776 GE799 GE810)) : w.heap.size ≤ gb822)); have GE822 := Aside0.mk ((by rw [hg]; exact (below_size (bs3 HB GE776 GE799 GE810)) : w.heap.size ≤ gb822)); replace HB := Aside0.mk (below_step (bs3 HB GE776 GE799 GE810) hb); have NB776_822 := Aside0.mk ((bn BK776 hg : gb776 ≠ gb822)); have NB822_776 := Aside0.mk ((bm BK776 hg : gb822 ≠ gb776)); replace BK776 := nb BK776 hb; have NB799_822 := Aside0.mk ((bn BK799 hg : gb799 ≠ gb822)); have NB822_799 := Aside0.mk ((bm BK799 hg : gb822 ≠ gb799)); replace BK799 := nb BK799 hb; have NB810_822 := Aside0.mk ((bn BK810 hg : gb810 ≠ gb822)); have NB822_810 := Aside0.mk ((bm BK810 hg : gb822 ≠ gb810)); replace BK810 := nb BK810 hb; clear hb hbox hg; obtain ⟨Ao38, co38, eo38⟩ := Kd.R_slice HO813.out; subst eo38; have hnb39 := NB822_776.out; have hnc39 := NB776_822.out; have hnb40 := NB822_799.out; have hnc40 := NB799_822.out; have hnb41 := NB822_810.out; have hnc41 := NB810_822.out; have hcz42_0 : w37.cell? ⟨gb822, 0, none⟩ = some (.slice none 0 0) := (blk_cell BK822.out 0).trans rfl; have hcz42_1 : w37.cell? ⟨gb822, 1, none⟩ = some (.slice none 0 0) := (blk_cell BK822.out 1).trans rfl; have hcz42_2 : w37.cell? ⟨gb822, 2, none⟩ = some (.slice none 0 0) := (blk_cell BK822.out 2).trans rfl; have hcz42_3 : w37.cell? ⟨gb822, 3, none⟩ = some (.int .i64 0) := (blk_cell BK822.out 3).trans rfl; have hfz42_0 := blk_frozen BK822.out 0; have hfz42_1 := blk_frozen BK822.out 1; have hfz42_2 := blk_frozen BK822.out 2; have hfz42_3 := blk_frozen BK822.out 3; obtain ⟨Ao43, co43, eo43⟩ := Kd.R_slice HO816.out; subst eo43; obtain ⟨Ao44, co44, eo44⟩ := Kd.R_slice HO819.out; subst eo44))
  (try simp only [Act.put, List.setIfInBounds_toArray, List.set_cons_zero, List.set_cons_succ])
  go_cut [40] (fun v40 wc => ∃ (kq : Nat) (x40_10 : Bool), v40 = .bool x40_10 ∧ Aside0 (laws_FnExactSyncLog.j0 kq t798 t821 x40_10 l0_0 l0_1 l0_2 a0_3 t788 t791 t794 t797 t800 t803 t806 t809 t811 t814 t817 t820 = some r) ∧ Aside0 (kq ≤ k) ∧ Aside0 (Kd.R Kd.string 9 wc w.heap.size (fun k_ => some k_ ≠ ((.slice Ao26 t794.length co26) : Value).ownBlock ∧ some k_ ≠ ((.slice Ao30 t800.length co30) : Value).ownBlock ∧ some k_ ≠ ((.slice Ao35 t806.length co35) : Value).ownBlock ∧ some k_ ≠ ((.slice Ao38 t811.length co38) : Value).ownBlock ∧ some k_ ≠ ((.slice Ao44 t817.length co44) : Value).ownBlock) (.slice Ao22 t788.length co22) t788) ∧ Aside0 (Kd.R k72 72 wc w.heap.size (fun k_ => some k_ ≠ ((.slice Ao34 t803.length co34) : Value).ownBlock ∧ some k_ ≠ ((.slice Ao43 t814.length co43) : Value).ownBlock) (.slice Ao25 t791.length co25) t791) ∧ Aside0 (Kd.R Kd.string 9 wc w.heap.size (fun k_ => some k_ ≠ ((.slice Ao22 t788.length co22) : Value).ownBlock ∧ some k_ ≠ ((.slice Ao30 t800.length co30) : Value).ownBlock ∧ some k_ ≠ ((.slice Ao35 t806.length co35) : Value).ownBlock ∧ some k_ ≠ ((.slice Ao38 t811.length co38) : Value).ownBlock ∧ some k_ ≠ ((.slice Ao44 t817.length co44) : Value).ownBlock) (.slice Ao26 t794.length co26) t794) ∧ Aside0 (Kd.R Kd.string 9 wc w.heap.size (fun k_ => some k_ ≠ ((.slice Ao22 t788.length co22) : Value).ownBlock ∧ some k_ ≠ ((.slice Ao26 t794.length co26) : Value).ownBlock ∧ some k_ ≠ ((.slice Ao35 t806.length co35) : Value).ownBlock ∧ some k_ ≠ ((.slice Ao38 t811.length co38) : Value).ownBlock ∧ some k_ ≠ ((.slice Ao44 t817.length co44) : Value).ownBlock) (.slice Ao30 t800.length co30) t800) ∧ Aside0 (Kd.R k72 72 wc w.heap.size (fun k_ => some k_ ≠ ((.slice Ao25 t791.length co25) : Value).ownBlock ∧ some k_ ≠ ((.slice Ao43 t814.length co43) : Value).ownBlock) (.slice Ao34 t803.length co34) t803) ∧ Aside0 (Kd.R Kd.string 9 wc w.heap.size (fun k_ => some k_ ≠ ((.slice Ao22 t788.length co22) : Value).ownBlock ∧ some k_ ≠ ((.slice Ao26 t794.length co26) : Value).ownBlock ∧ some k_ ≠ ((.slice Ao30 t800.length co30) : Value).ownBlock ∧ some k_ ≠ ((.slice Ao38 t811.length co38) : Value).ownBlock ∧ some k_ ≠ ((.slice Ao44 t817.length co44) : Value).ownBlock) (.slice Ao35 t806.length co35) t806) ∧ Aside0 (Kd.R Kd.string 9 wc w.heap.size (fun k_ => some k_ ≠ ((.slice Ao22 t788.length co22) : Value).ownBlock ∧ some k_ ≠ ((.slice Ao26 t794.length co26) : Value).ownBlock ∧ some k_ ≠ ((.slice Ao30 t800.length co30) : Value).ownBlock ∧ some k_ ≠ ((.slice Ao35 t806.length co35) : Value).ownBlock ∧ some k_ ≠ ((.slice Ao44 t817.length co44) : Value).ownBlock) (.slice Ao38 t811.length co38) t811) ∧ Aside0 (Kd.R k72 72 wc w.heap.size (fun k_ => some k_ ≠ ((.slice Ao25 t791.length co25) : Value).ownBlock ∧ some k_ ≠ ((.slice Ao34 t803.length co34) : Value).ownBlock) (.slice Ao43 t814.length co43) t814) ∧ Aside0 (Kd.R Kd.string 9 wc w.heap.size (fun k_ => some k_ ≠ ((.slice Ao22 t788.length co22) : Value).ownBlock ∧ some k_ ≠ ((.slice Ao26 t794.length co26) : Value).ownBlock ∧ some k_ ≠ ((.slice Ao30 t800.length co30) : Value).ownBlock ∧ some k_ ≠ ((.slice Ao35 t806.length co35) : Value).ownBlock ∧ some k_ ≠ ((.slice Ao38 t811.length co38) : Value).ownBlock) (.slice Ao44 t817.length co44) t817) ∧ Aside0 (wc.heap[gb776]? = some (.cells #[(.slice A0_0 l0_0.length c0_0), (.slice A0_1 l0_1.length c0_1), (.slice A0_2 l0_2.length c0_2), .int .i64 a0_3] 38 (0, 0))) ∧ Aside0 (wc.heap[gb799]? = some (.cells #[(.slice Ao22 t788.length co22), (.slice Ao25 t791.length co25), (.slice Ao26 t794.length co26), .int .i64 t797] 44 (0, 0))) ∧ Aside0 (wc.heap[gb810]? = some (.cells #[(.slice Ao30 t800.length co30), (.slice Ao34 t803.length co34), (.slice Ao35 t806.length co35), .int .i64 t809] 44 (0, 0))) ∧ Aside0 (wc.heap[gb822]? = some (.cells #[(.slice Ao38 t811.length co38), (.slice Ao43 t814.length co43), (.slice Ao44 t817.length co44), .int .i64 t820] 44 (0, 0))) ∧ Aside0 (Below w.heap.size w wc))
  case first =>
   have H := HC11.out
   clear HC11
   replace H := Option.bind_eq_some_iff.mp H
   obtain ⟨t823, A450, H⟩ := H
   replace H : (if t823 = true then (laws_FnExactSyncLog.j0 k t798 t821 (t821 != t798) l0_0 l0_1 l0_2 a0_3 t788 t791 t794 t797 t800 t803 t806 t809 t811 t814 t817 t820) else (laws_FnExactSyncLog.j0 k t798 t821 true l0_0 l0_1 l0_2 a0_3 t788 t791 t794 t797 t800 t803 t806 t809 t811 t814 t817 t820)) = some r := H
   have A45 := Aside0.mk A450
   clear A450
   by_cases c46 : t823 = true
   ·
    subst c46
    rw [if_pos rfl] at H
    have H' := Aside0.mk H
    clear H
    have hnb47 := NB822_776.out
    have hnc47 := NB776_822.out
    have hnb48 := NB822_799.out
    have hnc48 := NB799_822.out
    have hnb49 := NB822_810.out
    have hnc49 := NB810_822.out
    have hcz50_0 : w37.cell? ⟨gb822, 0, none⟩ = some (.slice none 0 0) := (blk_cell BK822.out 0).trans rfl
    have hcz50_1 : w37.cell? ⟨gb822, 1, none⟩ = some (.slice none 0 0) := (blk_cell BK822.out 1).trans rfl
    have hcz50_2 : w37.cell? ⟨gb822, 2, none⟩ = some (.slice none 0 0) := (blk_cell BK822.out 2).trans rfl
    have hcz50_3 : w37.cell? ⟨gb822, 3, none⟩ = some (.int .i64 0) := (blk_cell BK822.out 3).trans rfl
    have hfz50_0 := blk_frozen BK822.out 0
    have hfz50_1 := blk_frozen BK822.out 1
    have hfz50_2 := blk_frozen BK822.out 2
    have hfz50_3 := blk_frozen BK822.out 3
    have hnb51 := NB799_776.out
    have hnc51 := NB776_799.out
    have hnb52 := NB799_810.out
    have hnc52 := NB810_799.out
    have hcz53_0 : w37.cell? ⟨gb799, 0, none⟩ = some (.slice Ao22 t788.length co22) := (blk_cell BK799.out 0).trans rfl
    have hcz53_1 : w37.cell? ⟨gb799, 1, none⟩ = some (.slice Ao25 t791.length co25) := (blk_cell BK799.out 1).trans rfl
    have hcz53_2 : w37.cell? ⟨gb799, 2, none⟩ = some (.slice Ao26 t794.length co26) := (blk_cell BK799.out 2).trans rfl
    have hcz53_3 : w37.cell? ⟨gb799, 3, none⟩ = some (.int .i64 t797) := (blk_cell BK799.out 3).trans rfl
    have hfz53_0 := blk_frozen BK799.out 0
    have hfz53_1 := blk_frozen BK799.out 1
    have hfz53_2 := blk_frozen BK799.out 2
    have hfz53_3 := blk_frozen BK799.out 3
    go_wp2_with (first | ((with_reducible refine gate_callee (f := 29) rfl ?_); refine goesL_ (some 34) rfl rfl Try.func29 (by kernel_rfl) rfl #[.agg #[.slice Ao38 t811.length co38, .slice Ao43 t814.length co43, .slice Ao44 t817.length co44, .int .i64 t820], .agg #[.slice Ao22 t788.length co22, .slice Ao25 t791.length co25, .slice Ao26 t794.length co26, .int .i64 t797]] rfl (by (try simp only [List.map_toArray, List.map_cons, List.map_nil]); first | done | rfl | (simp only [List.length_drop, List.length_take]; rfl)) ?_; (with_reducible refine (laws_eqStore.calls k _ _ t811 _ _ t814 _ _ t817 t820 _ _ t788 _ _ t791 _ _ t794 t797 true _ ?side1 ?side2 ?side3 ?side4 ?side5 ?side6 ?side7 ?side8 ?side9 ?side10 ?side11 ?side12 A45.out).mono ?_); (case side1 => exact rc HO813 BK822); (case side2 => exact (Kd.R_reads' HO813.out).2.1); (case side3 => exact rc HO816 BK822); (case side4 => exact (Kd.R_reads' HO816.out).2.1); (case side5 => exact rc HO819 BK822); (case side6 => exact (Kd.R_reads' HO819.out).2.1); (case side7 => exact rc HO790 BK822); (case side8 => exact (Kd.R_reads' HO790.out).2.1); (case side9 => exact rc HO793 BK822); (case side10 => exact (Kd.R_reads' HO793.out).2.1); (case side11 => exact rc HO796 BK822); (case side12 => exact (Kd.R_reads' HO796.out).2.1); rintro e w54 ⟨rfl, hb⟩; refine ⟨_, rfl, ?_⟩; replace HO780 := nf HO780 BK822 hb; replace HO783 := nf HO783 BK822 hb; replace HO786 := nf HO786 BK822 hb; replace HO790 := nf HO790 BK822 hb; replace HO793 := nf HO793 BK822 hb; replace HO796 := nf HO796 BK822 hb; replace HO802 := nf HO802 BK822 hb; replace HO805 := nf HO805 BK822 hb; replace HO808 := nf HO808 BK822 hb; replace HO813 := nf HO813 BK822 hb; replace HO816 := nf HO816 BK822 hb; replace HO819 := nf HO819 BK822 hb; replace BK776 := Aside0.mk (blk_below (bf BK776 NB776_822) hb); replace BK799 := Aside0.mk (blk_below (bf BK799 NB799_822) hb); replace BK810 := Aside0.mk (blk_below (bf BK810 NB810_822) hb); replace BK822 := Aside0.mk (blk_below (g := gb822) (o := .cells #[.slice Ao38 t811.length co38, .slice Ao43 t814.length co43, .slice Ao44 t817.length co44, .int .i64 t820] 44 (0, 0)) (by (with_reducible repeat (first | refine blk_drewN ?_ _ | refine blk_drew ?_ | refine blk_alloc ?_ _)); refine blk_put (cs := #[.slice Ao38 t811.length co38, .slice Ao43 t814.length co43, .slice Ao44 t817.length co44, .int .i64 0]) ?_ 3 _ rfl; (with_reducible repeat (first | refine blk_drewN ?_ _ | refine blk_drew ?_ | refine blk_alloc ?_ _)); refine blk_put (cs := #[.slice Ao38 t811.length co38, .slice Ao43 t814.length co43, .slice none 0 0, .int .i64 0]) ?_ 2 _ rfl; (with_reducible repeat (first | refine blk_drewN ?_ _ | refine blk_drew ?_ | refine blk_alloc ?_ _)); refine blk_put (cs := #[.slice Ao38 t811.length co38, .slice none 0 0, .slice none 0 0, .int .i64 0]) ?_ 1 _ rfl; (with_reducible repeat (first | refine blk_drewN ?_ _ | refine blk_drew ?_ | refine blk_alloc ?_ _)); refine blk_put (cs := #[.slice none 0 0, .slice none 0 0, .slice none 0 0, .int .i64 0]) ?_ 0 _ rfl; (with_reducible repeat (first | refine blk_drewN ?_ _ | refine blk_drew ?_ | refine blk_alloc ?_ _)); exact BK822.out) hb); replace HB := Aside0.mk (below_step (bs4 HB GE776 GE799 GE810 GE822) hb); (try clear hb); (try clear hb2); (try clear hk); (try clear hi)))
    go_meet
    case rel => exact ⟨_, ((t821 != t798)), (by first | rfl | (simp; done) | (simp [*]; done)), H', ⟨by first | omega | exact Nat.le_refl _⟩, rm HO790 (fun _ hk => ⟨hk.1.1.1.1.1.1, ⟨hk.1.1.1.2, ⟨hk.1.1.2, ⟨hk.1.2, hk.2⟩⟩⟩⟩), rm HO793 (fun _ hk => ⟨hk.1.2, hk.2⟩), rm HO796 (fun _ hk => ⟨hk.1.1.1.1.1.1, ⟨hk.1.1.1.2, ⟨hk.1.1.2, ⟨hk.1.2, hk.2⟩⟩⟩⟩), rm HO802 (fun _ hk => ⟨hk.1.1.1.2, ⟨hk.1.1.2, ⟨hk.1.1.1.1.1.1, ⟨hk.1.2, hk.2⟩⟩⟩⟩), rm HO805 (fun _ hk => ⟨hk.1.2, hk.2⟩), rm HO808 (fun _ hk => ⟨hk.1.1.1.2, ⟨hk.1.1.2, ⟨hk.1.1.1.1.1.1, ⟨hk.1.2, hk.2⟩⟩⟩⟩), rm HO813 (fun _ hk => ⟨hk.1.1.1.2, ⟨hk.1.1.2, ⟨hk.1.2, ⟨hk.2, hk.1.1.1.1.1.1⟩⟩⟩⟩), rm HO816 (fun _ hk => ⟨hk.1.2, hk.2⟩), rm HO819 (fun _ hk => ⟨hk.1.1.1.2, ⟨hk.1.1.2, ⟨hk.1.2, ⟨hk.2, hk.1.1.1.1.1.1⟩⟩⟩⟩), ⟨bk BK776⟩, ⟨bk BK799⟩, ⟨bk BK810⟩, ⟨bk BK822⟩, ⟨bs4 HB GE776 GE799 GE810 GE822⟩⟩
   ·
    replace c46 := Bool.eq_false_iff.mpr c46
    subst c46
    rw [if_neg (show ¬ (false = true) by decide)] at H
    have H' := Aside0.mk H
    clear H
    have hnb55 := NB822_776.out
    have hnc55 := NB776_822.out
    have hnb56 := NB822_799.out
    have hnc56 := NB799_822.out
    have hnb57 := NB822_810.out
    have hnc57 := NB810_822.out
    have hcz58_0 : w37.cell? ⟨gb822, 0, none⟩ = some (.slice none 0 0) := (blk_cell BK822.out 0).trans rfl
    have hcz58_1 : w37.cell? ⟨gb822, 1, none⟩ = some (.slice none 0 0) := (blk_cell BK822.out 1).trans rfl
    have hcz58_2 : w37.cell? ⟨gb822, 2, none⟩ = some (.slice none 0 0) := (blk_cell BK822.out 2).trans rfl
    have hcz58_3 : w37.cell? ⟨gb822, 3, none⟩ = some (.int .i64 0) := (blk_cell BK822.out 3).trans rfl
    have hfz58_0 := blk_frozen BK822.out 0
    have hfz58_1 := blk_frozen BK822.out 1
    have hfz58_2 := blk_frozen BK822.out 2
    have hfz58_3 := blk_frozen BK822.out 3
    have hnb59 := NB799_776.out
    have hnc59 := NB776_799.out
    have hnb60 := NB799_810.out
    have hnc60 := NB810_799.out
    have hcz61_0 : w37.cell? ⟨gb799, 0, none⟩ = some (.slice Ao22 t788.length co22) := (blk_cell BK799.out 0).trans rfl
    have hcz61_1 : w37.cell? ⟨gb799, 1, none⟩ = some (.slice Ao25 t791.length co25) := (blk_cell BK799.out 1).trans rfl
    have hcz61_2 : w37.cell? ⟨gb799, 2, none⟩ = some (.slice Ao26 t794.length co26) := (blk_cell BK799.out 2).trans rfl
    have hcz61_3 : w37.cell? ⟨gb799, 3, none⟩ = some (.int .i64 t797) := (blk_cell BK799.out 3).trans rfl
    have hfz61_0 := blk_frozen BK799.out 0
    have hfz61_1 := blk_frozen BK799.out 1
    have hfz61_2 := blk_frozen BK799.out 2
    have hfz61_3 := blk_frozen BK799.out 3
    go_wp2_with (first | ((with_reducible refine gate_callee (f := 29) rfl ?_); refine goesL_ (some 34) rfl rfl Try.func29 (by kernel_rfl) rfl #[.agg #[.slice Ao38 t811.length co38, .slice Ao43 t814.length co43, .slice Ao44 t817.length co44, .int .i64 t820], .agg #[.slice Ao22 t788.length co22, .slice Ao25 t791.length co25, .slice Ao26 t794.length co26, .int .i64 t797]] rfl (by (try simp only [List.map_toArray, List.map_cons, List.map_nil]); first | done | rfl | (simp only [List.length_drop, List.length_take]; rfl)) ?_; (with_reducible refine (laws_eqStore.calls k _ _ t811 _ _ t814 _ _ t817 t820 _ _ t788 _ _ t791 _ _ t794 t797 false _ ?side1 ?side2 ?side3 ?side4 ?side5 ?side6 ?side7 ?side8 ?side9 ?side10 ?side11 ?side12 A45.out).mono ?_); (case side1 => exact rc HO813 BK822); (case side2 => exact (Kd.R_reads' HO813.out).2.1); (case side3 => exact rc HO816 BK822); (case side4 => exact (Kd.R_reads' HO816.out).2.1); (case side5 => exact rc HO819 BK822); (case side6 => exact (Kd.R_reads' HO819.out).2.1); (case side7 => exact rc HO790 BK822); (case side8 => exact (Kd.R_reads' HO790.out).2.1); (case side9 => exact rc HO793 BK822); (case side10 => exact (Kd.R_reads' HO793.out).2.1); (case side11 => exact rc HO796 BK822); (case side12 => exact (Kd.R_reads' HO796.out).2.1); rintro e w62 ⟨rfl, hb⟩; refine ⟨_, rfl, ?_⟩; replace HO780 := nf HO780 BK822 hb; replace HO783 := nf HO783 BK822 hb; replace HO786 := nf HO786 BK822 hb; replace HO790 := nf HO790 BK822 hb; replace HO793 := nf HO793 BK822 hb; replace HO796 := nf HO796 BK822 hb; replace HO802 := nf HO802 BK822 hb; replace HO805 := nf HO805 BK822 hb; replace HO808 := nf HO808 BK822 hb; replace HO813 := nf HO813 BK822 hb; replace HO816 := nf HO816 BK822 hb; replace HO819 := nf HO819 BK822 hb; replace BK776 := Aside0.mk (blk_below (bf BK776 NB776_822) hb); replace BK799 := Aside0.mk (blk_below (bf BK799 NB799_822) hb); replace BK810 := Aside0.mk (blk_below (bf BK810 NB810_822) hb); replace BK822 := Aside0.mk (blk_below (g := gb822) (o := .cells #[.slice Ao38 t811.length co38, .slice Ao43 t814.length co43, .slice Ao44 t817.length co44, .int .i64 t820] 44 (0, 0)) (by (with_reducible repeat (first | refine blk_drewN ?_ _ | refine blk_drew ?_ | refine blk_alloc ?_ _)); refine blk_put (cs := #[.slice Ao38 t811.length co38, .slice Ao43 t814.length co43, .slice Ao44 t817.length co44, .int .i64 0]) ?_ 3 _ rfl; (with_reducible repeat (first | refine blk_drewN ?_ _ | refine blk_drew ?_ | refine blk_alloc ?_ _)); refine blk_put (cs := #[.slice Ao38 t811.length co38, .slice Ao43 t814.length co43, .slice none 0 0, .int .i64 0]) ?_ 2 _ rfl; (with_reducible repeat (first | refine blk_drewN ?_ _ | refine blk_drew ?_ | refine blk_alloc ?_ _)); refine blk_put (cs := #[.slice Ao38 t811.length co38, .slice none 0 0, .slice none 0 0, .int .i64 0]) ?_ 1 _ rfl; (with_reducible repeat (first | refine blk_drewN ?_ _ | refine blk_drew ?_ | refine blk_alloc ?_ _)); refine blk_put (cs := #[.slice none 0 0, .slice none 0 0, .slice none 0 0, .int .i64 0]) ?_ 0 _ rfl; (with_reducible repeat (first | refine blk_drewN ?_ _ | refine blk_drew ?_ | refine blk_alloc ?_ _)); exact BK822.out) hb); replace HB := Aside0.mk (below_step (bs4 HB GE776 GE799 GE810 GE822) hb); (try clear hb); (try clear hb2); (try clear hk); (try clear hi)))
    go_meet
    case rel => exact ⟨_, (true), (by first | rfl | (simp; done) | (simp [*]; done)), H', ⟨by first | omega | exact Nat.le_refl _⟩, rm HO790 (fun _ hk => ⟨hk.1.1.1.1.1.1, ⟨hk.1.1.1.2, ⟨hk.1.1.2, ⟨hk.1.2, hk.2⟩⟩⟩⟩), rm HO793 (fun _ hk => ⟨hk.1.2, hk.2⟩), rm HO796 (fun _ hk => ⟨hk.1.1.1.1.1.1, ⟨hk.1.1.1.2, ⟨hk.1.1.2, ⟨hk.1.2, hk.2⟩⟩⟩⟩), rm HO802 (fun _ hk => ⟨hk.1.1.1.2, ⟨hk.1.1.2, ⟨hk.1.1.1.1.1.1, ⟨hk.1.2, hk.2⟩⟩⟩⟩), rm HO805 (fun _ hk => ⟨hk.1.2, hk.2⟩), rm HO808 (fun _ hk => ⟨hk.1.1.1.2, ⟨hk.1.1.2, ⟨hk.1.1.1.1.1.1, ⟨hk.1.2, hk.2⟩⟩⟩⟩), rm HO813 (fun _ hk => ⟨hk.1.1.1.2, ⟨hk.1.1.2, ⟨hk.1.2, ⟨hk.2, hk.1.1.1.1.1.1⟩⟩⟩⟩), rm HO816 (fun _ hk => ⟨hk.1.2, hk.2⟩), rm HO819 (fun _ hk => ⟨hk.1.1.1.2, ⟨hk.1.1.2, ⟨hk.1.2, ⟨hk.2, hk.1.1.1.1.1.1⟩⟩⟩⟩), ⟨bk BK776⟩, ⟨bk BK799⟩, ⟨bk BK810⟩, ⟨bk BK822⟩, ⟨bs4 HB GE776 GE799 GE810 GE822⟩⟩
  case rest =>
   clear HC11
   try clear c2
   try clear p2
   try clear c3
   try clear c3b0
   try clear c4
   try clear c5
   try clear c6
   try clear c9
   try clear c23
   try clear c25
   try clear c27
   try clear c29
   try clear c31
   try clear c32
   try clear c39
   try clear c40
   try clear c41
   try clear c42
   try clear c46
   try clear c47
   try clear c48
   try clear c49
   try clear c51
   try clear c52
   try clear c55
   try clear c56
   try clear c57
   try clear c59
   try clear c60
   try clear hcz13_0
   try clear hcz13_1
   try clear hcz13_2
   try clear hcz13_3
   try clear hcz15_0
   try clear hcz15_1
   try clear hcz15_2
   try clear hcz15_3
   try clear hcz24_0
   try clear hcz24_1
   try clear hcz24_2
   try clear hcz24_3
   try clear hcz27_0
   try clear hcz27_1
   try clear hcz27_2
   try clear hcz27_3
   try clear hcz33_0
   try clear hcz33_1
   try clear hcz33_2
   try clear hcz33_3
   try clear hcz42_0
   try clear hcz42_1
   try clear hcz42_2
   try clear hcz42_3
   try clear hcz50_0
   try clear hcz50_1
   try clear hcz50_2
   try clear hcz50_3
   try clear hcz53_0
   try clear hcz53_1
   try clear hcz53_2
   try clear hcz53_3
   try clear hcz58_0
   try clear hcz58_1
   try clear hcz58_2
   try clear hcz58_3
   try clear hcz5_0
   try clear hcz5_1
   try clear hcz5_2
   try clear hcz5_3
   try clear hcz61_0
   try clear hcz61_1
   try clear hcz61_2
   try clear hcz61_3
   try clear hfz13_0
   try clear hfz13_1
   try clear hfz13_2
   try clear hfz13_3
   try clear hfz15_0
   try clear hfz15_1
   try clear hfz15_2
   try clear hfz15_3
   try clear hfz24_0
   try clear hfz24_1
   try clear hfz24_2
   try clear hfz24_3
   try clear hfz27_0
   try clear hfz27_1
   try clear hfz27_2
   try clear hfz27_3
   try clear hfz33_0
   try clear hfz33_1
   try clear hfz33_2
   try clear hfz33_3
   try clear hfz42_0
   try clear hfz42_1
   try clear hfz42_2
   try clear hfz42_3
   try clear hfz50_0
   try clear hfz50_1
   try clear hfz50_2
   try clear hfz50_3
   try clear hfz53_0
   try clear hfz53_1
   try clear hfz53_2
   try clear hfz53_3
   try clear hfz58_0
   try clear hfz58_1
   try clear hfz58_2
   try clear hfz58_3
   try clear hfz5_0
   try clear hfz5_1
   try clear hfz5_2
   try clear hfz5_3
   try clear hfz61_0
   try clear hfz61_1
   try clear hfz61_2
   try clear hfz61_3
   obtain ⟨kq, x40_10, rfl, HA, HJ10, HO_800000, HO_800001, HO_800002, HO_811000, HO_811001, HO_811002, HO_823000, HO_823001, HO_823002, BK776, BK799, BK810, BK822, HB⟩ := hcut
   cases kq with
   | zero => exact absurd HA.out (by simp [laws_FnExactSyncLog.j0])
   | succ kj10 =>
    have H := HA.out
    clear HA
    simp only [laws_FnExactSyncLog.j0] at H
    by_cases c63 : x40_10 = true
    ·
     subst c63
     rw [if_pos rfl] at H
     obtain rfl := Option.some.inj H
     go_wp2
     go_ret
     exact ⟨by first | rfl | (simp [errW_none, errW_some] <;> rfl) | (simp [*, errW_none, errW_some] <;> rfl), bs4 HB GE776 GE799 GE810 GE822⟩
    ·
     replace c63 := Bool.eq_false_iff.mpr c63
     subst c63
     rw [if_neg (show ¬ (false = true) by decide)] at H
     replace H := Option.bind_eq_some_iff.mp H
     obtain ⟨⟨t824, t827, t830, t833⟩, A640, H⟩ := H
     replace H : ((laws_eqStore.f kj10 t800 t803 t806 t809 t824 t827 t830 t833).bind fun t834 => (if t834 = true then ((laws_markStore.f kj10 t800 t803 t806 t809 1).bind fun bt835 => (if bt835.1 < 0 then (laws_FnExactSyncLog.j1 kj10 t798 true l0_0 l0_1 l0_2 a0_3 t788 t791 t794 t797 t811 t814 t817 t820) else ((laws_eqStore.f kj10 t811 t814 t817 t820 t788 t791 t794 t797).bind fun t839 => (if t839 = true then (laws_FnExactSyncLog.j1 kj10 t798 (t821 != t798) l0_0 l0_1 l0_2 a0_3 t788 t791 t794 t797 t811 t814 t817 t820) else (laws_FnExactSyncLog.j1 kj10 t798 true l0_0 l0_1 l0_2 a0_3 t788 t791 t794 t797 t811 t814 t817 t820))))) else (some false))) = some r := H
     have A64 := Aside0.mk A640
     clear A640
     replace H := Option.bind_eq_some_iff.mp H
     obtain ⟨t834, A650, H⟩ := H
     replace H : (if t834 = true then ((laws_markStore.f kj10 t800 t803 t806 t809 1).bind fun bt835 => (if bt835.1 < 0 then (laws_FnExactSyncLog.j1 kj10 t798 true l0_0 l0_1 l0_2 a0_3 t788 t791 t794 t797 t811 t814 t817 t820) else ((laws_eqStore.f kj10 t811 t814 t817 t820 t788 t791 t794 t797).bind fun t839 => (if t839 = true then (laws_FnExactSyncLog.j1 kj10 t798 (t821 != t798) l0_0 l0_1 l0_2 a0_3 t788 t791 t794 t797 t811 t814 t817 t820) else (laws_FnExactSyncLog.j1 kj10 t798 true l0_0 l0_1 l0_2 a0_3 t788 t791 t794 t797 t811 t814 t817 t820))))) else (some false)) = some r := H
     have A65 := Aside0.mk A650
     clear A650
     by_cases c66 : t834 = true
     ·
      subst c66
      rw [if_pos rfl] at H
      replace H := Option.bind_eq_some_iff.mp H
      obtain ⟨⟨t835, t836, t837, t838⟩, A670, H⟩ := H
      replace H : (if t835 < 0 then (laws_FnExactSyncLog.j1 kj10 t798 true l0_0 l0_1 l0_2 a0_3 t788 t791 t794 t797 t811 t814 t817 t820) else ((laws_eqStore.f kj10 t811 t814 t817 t820 t788 t791 t794 t797).bind fun t839 => (if t839 = true then (laws_FnExactSyncLog.j1 kj10 t798 (t821 != t798) l0_0 l0_1 l0_2 a0_3 t788 t791 t794 t797 t811 t814 t817 t820) else (laws_FnExactSyncLog.j1 kj10 t798 true l0_0 l0_1 l0_2 a0_3 t788 t791 t794 t797 t811 t814 t817 t820)))) = some r := H
      have A67 := Aside0.mk A670
      clear A670
      have HC68 := Aside0.mk H
      clear H
      try go_wp2
      have n0_ := Aside0.mk (Kd.R_drew HO_800000.out)
      have n1_ := Aside0.mk (Kd.R_drew HO_800001.out)
      have n2_ := Aside0.mk (Kd.R_drew HO_800002.out)
      have n3_ := Aside0.mk (Kd.R_drew HO_811000.out)
      have n4_ := Aside0.mk (Kd.R_drew HO_811001.out)
      have n5_ := Aside0.mk (Kd.R_drew HO_811002.out)
      have n6_ := Aside0.mk (Kd.R_drew HO_823000.out)
      have n7_ := Aside0.mk (Kd.R_drew HO_823001.out)
      have n8_ := Aside0.mk (Kd.R_drew HO_823002.out)
      have n9_ := Aside0.mk (blk_drew BK776.out)
      have n10_ := Aside0.mk (blk_drew BK799.out)
      have n11_ := Aside0.mk (blk_drew BK810.out)
      have n12_ := Aside0.mk (blk_drew BK822.out)
      have n13_ := Aside0.mk (below_drew1 HB.out)
      clear HO_800000
      clear HO_800001
      clear HO_800002
      clear HO_811000
      clear HO_811001
      clear HO_811002
      clear HO_823000
      clear HO_823001
      clear HO_823002
      clear BK776
      clear BK799
      clear BK810
      clear BK822
      clear HB
      have HO_800000 := n0_
      have HO_800001 := n1_
      have HO_800002 := n2_
      have HO_811000 := n3_
      have HO_811001 := n4_
      have HO_811002 := n5_
      have HO_823000 := n6_
      have HO_823001 := n7_
      have HO_823002 := n8_
      have BK776 := n9_
      have BK799 := n10_
      have BK810 := n11_
      have BK822 := n12_
      have HB := n13_
      clear n0_ n1_ n2_ n3_ n4_ n5_ n6_ n7_ n8_ n9_ n10_ n11_ n12_ n13_
      refine start_ (n := 5) (S := fun w' => w'.cell? ⟨gb810, 0, none⟩ = some (.slice Ao30 t800.length co30) ∧ w'.cell? ⟨gb810, 1, none⟩ = some (.slice Ao34 t803.length co34) ∧ w'.cell? ⟨gb810, 2, none⟩ = some (.slice Ao35 t806.length co35) ∧ w'.cell? ⟨gb810, 3, none⟩ = some (.int .i64 t809) ∧ w'.cell? ⟨gb776, 0, none⟩ = some (.slice A0_0 l0_0.length c0_0) ∧ w'.cell? ⟨gb776, 1, none⟩ = some (.slice A0_1 l0_1.length c0_1) ∧ w'.cell? ⟨gb776, 2, none⟩ = some (.slice A0_2 l0_2.length c0_2) ∧ w'.cell? ⟨gb776, 3, none⟩ = some (.int .i64 a0_3)) (ds := []) #[false, false, false, false, false] (by kernel_rfl) rfl rfl ⟨(blk_cell BK810.out 0).trans rfl, (blk_cell BK810.out 1).trans rfl, (blk_cell BK810.out 2).trans rfl, (blk_cell BK810.out 3).trans rfl, (blk_cell BK776.out 0).trans rfl, (blk_cell BK776.out 1).trans rfl, (blk_cell BK776.out 2).trans rfl, (blk_cell BK776.out 3).trans rfl⟩ (fun hHeld => ?_)
      generalize wc.drew = w69 at HO_800000 HO_800001 HO_800002 HO_811000 HO_811001 HO_811002 HO_823000 HO_823001 HO_823002 BK776 BK799 BK810 BK822 HB hHeld ⊢
      refine take_ (i := 0) (N := some 41) (v := ?_) (a' := ?_) #[true, false, false, false, false] rfl rfl (by kernel_rfl) (fun _ _ _ h => h) (Or.inl ⟨by rfl, ?_⟩) hHeld ?_ ?_
      rotate_left
      ·
       rintro w' ⟨s0, s1, s2, s3, s4, s5, s6, s7⟩
       go_simp
       with_reducible rfl
      rotate_left
      ·
       simp only [Act.put, List.setIfInBounds_toArray, List.set_cons_zero, List.set_cons_succ, i64_w, i32_w]
       rfl
      refine take_ (i := 1) (N := some 42) (v := ?_) (a' := ?_) #[true, true, false, false, false] rfl rfl (by kernel_rfl) (fun _ _ _ h => h) (Or.inl ⟨by rfl, ?_⟩) hHeld ?_ ?_
      rotate_left
      ·
       rintro w' ⟨s0, s1, s2, s3, s4, s5, s6, s7⟩
       go_simp
       with_reducible rfl
      rotate_left
      ·
       simp only [Act.put, List.setIfInBounds_toArray, List.set_cons_zero, List.set_cons_succ, i64_w, i32_w]
       rfl
      refine one_ (i := 2) (N := some 43) #[true, true, true, false, false] rfl rfl (by kernel_rfl) (by decide) (fun K hK => ?_)
      refine goes_ Try.func27 (by kernel_rfl) rfl #[.agg #[.slice A0_0 l0_0.length c0_0, .slice A0_1 l0_1.length c0_1, .slice A0_2 l0_2.length c0_2, .int .i64 a0_3]] (by rfl) rfl rfl (by (try simp only [List.map_toArray, List.map_cons, List.map_nil]); first | done | rfl | (simp only [List.length_drop, List.length_take]; rfl)) ?_
      with_reducible refine (laws_toStore.calls kj10 _ _ l0_0 _ _ l0_1 _ _ l0_2 a0_3 t824 t827 t830 t833 _ ?side1 ?side2 ?side3 ?side4 ?side5 ?side6 A64.out).mono ?_
      (case side1 => exact cb HR0_0 HB)
      (case side2 => exact HC0_0.out)
      (case side3 => exact cb HR0_1 HB)
      (case side4 => exact HC0_1.out)
      (case side5 => exact cb HR0_2 HB)
      (case side6 => exact HC0_2.out)
      rintro e w70 ⟨v825, v828, v831, rfl, ho0, ho1, ho2, hb⟩
      refine ⟨_, rfl, ?_⟩
      have n0_ := Aside0.mk (Kd.R_mono (Kd.R_told (Kd.R_told (Kd.R_old (rr HO_800000.out) hb) (Kd.R_base ho0)) (Kd.R_base ho2)) (fun _ h_ => h_.1))
      have n1_ := Aside0.mk (Kd.R_elder' (rr HO_800001.out) (Kd.R_base ho1) hb)
      have n2_ := Aside0.mk (Kd.R_mono (Kd.R_told (Kd.R_told (Kd.R_old (rr HO_800002.out) hb) (Kd.R_base ho0)) (Kd.R_base ho2)) (fun _ h_ => h_.1))
      have n3_ := Aside0.mk (Kd.R_mono (Kd.R_told (Kd.R_told (Kd.R_old (rr HO_811000.out) hb) (Kd.R_base ho0)) (Kd.R_base ho2)) (fun _ h_ => h_.1))
      have n4_ := Aside0.mk (Kd.R_elder' (rr HO_811001.out) (Kd.R_base ho1) hb)
      have n5_ := Aside0.mk (Kd.R_mono (Kd.R_told (Kd.R_told (Kd.R_old (rr HO_811002.out) hb) (Kd.R_base ho0)) (Kd.R_base ho2)) (fun _ h_ => h_.1))
      have n6_ := Aside0.mk (Kd.R_mono (Kd.R_told (Kd.R_told (Kd.R_old (rr HO_823000.out) hb) (Kd.R_base ho0)) (Kd.R_base ho2)) (fun _ h_ => h_.1))
      have n7_ := Aside0.mk (Kd.R_elder' (rr HO_823001.out) (Kd.R_base ho1) hb)
      have n8_ := Aside0.mk (Kd.R_mono (Kd.R_told (Kd.R_told (Kd.R_old (rr HO_823002.out) hb) (Kd.R_base ho0)) (Kd.R_base ho2)) (fun _ h_ => h_.1))
      have n9_ := Aside0.mk (Kd.R_lower (Kd.R_new' (Kd.R_new' (Kd.R_new' (Kd.R_new' (Kd.R_new' (Kd.R_new' ho0 (Kd.R_lt (rr HO_800000.out))) (Kd.R_lt (rr HO_800002.out))) (Kd.R_lt (rr HO_811000.out))) (Kd.R_lt (rr HO_811002.out))) (Kd.R_lt (rr HO_823000.out))) (Kd.R_lt (rr HO_823002.out))) (below_size (bs4 HB GE776 GE799 GE810 GE822)))
      have n10_ := Aside0.mk (Kd.R_lower (Kd.R_new' (Kd.R_new' (Kd.R_new' ho1 (Kd.R_lt (rr HO_800001.out))) (Kd.R_lt (rr HO_811001.out))) (Kd.R_lt (rr HO_823001.out))) (below_size (bs4 HB GE776 GE799 GE810 GE822)))
      have n11_ := Aside0.mk (Kd.R_lower (Kd.R_new' (Kd.R_new' (Kd.R_new' (Kd.R_new' (Kd.R_new' (Kd.R_new' ho2 (Kd.R_lt (rr HO_800000.out))) (Kd.R_lt (rr HO_800002.out))) (Kd.R_lt (rr HO_811000.out))) (Kd.R_lt (rr HO_811002.out))) (Kd.R_lt (rr HO_823000.out))) (Kd.R_lt (rr HO_823002.out))) (below_size (bs4 HB GE776 GE799 GE810 GE822)))
      have n12_ := Aside0.mk (bb BK776 hb)
      have n13_ := Aside0.mk (bb BK799 hb)
      have n14_ := Aside0.mk (bb BK810 hb)
      have n15_ := Aside0.mk (bb BK822 hb)
      have n16_ := Aside0.mk (below_step (bs4 HB GE776 GE799 GE810 GE822) hb)
      clear HO_800000
      clear HO_800001
      clear HO_800002
      clear HO_811000
      clear HO_811001
      clear HO_811002
      clear HO_823000
      clear HO_823001
      clear HO_823002
      clear BK776
      clear BK799
      clear BK810
      clear BK822
      clear HB
      have HO_800000 := n0_
      have HO_800001 := n1_
      have HO_800002 := n2_
      have HO_811000 := n3_
      have HO_811001 := n4_
      have HO_811002 := n5_
      have HO_823000 := n6_
      have HO_823001 := n7_
      have HO_823002 := n8_
      have HO826 := n9_
      have HO829 := n10_
      have HO832 := n11_
      have BK776 := n12_
      have BK799 := n13_
      have BK810 := n14_
      have BK822 := n15_
      have HB := n16_
      clear n0_ n1_ n2_ n3_ n4_ n5_ n6_ n7_ n8_ n9_ n10_ n11_ n12_ n13_ n14_ n15_ n16_
      (try clear hb)
      (try clear hb2)
      (try clear hk)
      (try clear hi)
      (try clear ho0)
      (try clear ho1)
      (try clear ho2)
      obtain ⟨Ao71, co71, eo71⟩ := Kd.R_slice HO826.out
      (first | subst eo71 | (injection eo71 with f1_ f2_ f3_; have f4_ := f1_.symm; have f5_ := f3_.symm; clear f1_ f2_ f3_; subst f4_; subst f5_))
      obtain ⟨Ao72, co72, eo72⟩ := Kd.R_slice HO829.out
      (first | subst eo72 | (injection eo72 with f1_ f2_ f3_; have f4_ := f1_.symm; have f5_ := f3_.symm; clear f1_ f2_ f3_; subst f4_; subst f5_))
      obtain ⟨Ao73, co73, eo73⟩ := Kd.R_slice HO832.out
      (first | subst eo73 | (injection eo73 with f1_ f2_ f3_; have f4_ := f1_.symm; have f5_ := f3_.symm; clear f1_ f2_ f3_; subst f4_; subst f5_))
      refine hK.out _ _ ⟨(blk_cell BK810.out 0).trans rfl, (blk_cell BK810.out 1).trans rfl, (blk_cell BK810.out 2).trans rfl, (blk_cell BK810.out 3).trans rfl, (blk_cell BK776.out 0).trans rfl, (blk_cell BK776.out 1).trans rfl, (blk_cell BK776.out 2).trans rfl, (blk_cell BK776.out 3).trans rfl⟩ (fun hHeld => ?_)
      clear hK K
      refine norm_ (a' := ?_) ?_ ?_
      rotate_left
      ·
       show Act.put _ (some 43) _ = _
       simp only [Act.put, List.setIfInBounds_toArray, List.set_cons_zero, List.set_cons_succ, i64_w, i32_w]
       rfl
      refine one_ (i := 3) (N := some 44) #[true, true, true, true, false] rfl rfl (by kernel_rfl) (by decide) (fun K hK => ?_)
      refine goes_ Try.func29 (by kernel_rfl) rfl #[.agg #[.slice Ao30 t800.length co30, .slice Ao34 t803.length co34, .slice Ao35 t806.length co35, .int .i64 t809], .agg #[.slice Ao71 t824.length co71, .slice Ao72 t827.length co72, .slice Ao73 t830.length co73, .int .i64 t833]] (by rfl) rfl rfl (by (try simp only [List.map_toArray, List.map_cons, List.map_nil]); first | done | rfl | (simp only [List.length_drop, List.length_take]; rfl)) ?_
      with_reducible refine (laws_eqStore.calls kj10 _ _ t800 _ _ t803 _ _ t806 t809 _ _ t824 _ _ t827 _ _ t830 t833 true _ ?side1 ?side2 ?side3 ?side4 ?side5 ?side6 ?side7 ?side8 ?side9 ?side10 ?side11 ?side12 A65.out).mono ?_
      (case side1 => exact rc0 HO_811000)
      (case side2 => exact (Kd.R_reads' HO_811000.out).2.1)
      (case side3 => exact rc0 HO_811001)
      (case side4 => exact (Kd.R_reads' HO_811001.out).2.1)
      (case side5 => exact rc0 HO_811002)
      (case side6 => exact (Kd.R_reads' HO_811002.out).2.1)
      (case side7 => exact rc0 HO826)
      (case side8 => exact (Kd.R_reads' HO826.out).2.1)
      (case side9 => exact rc0 HO829)
      (case side10 => exact (Kd.R_reads' HO829.out).2.1)
      (case side11 => exact rc0 HO832)
      (case side12 => exact (Kd.R_reads' HO832.out).2.1)
      rintro e w74 ⟨rfl, hb⟩
      refine ⟨_, rfl, ?_⟩
      have n0_ := Aside0.mk (Kd.R_below (rr HO_800000.out) hb)
      have n1_ := Aside0.mk (Kd.R_below (rr HO_800001.out) hb)
      have n2_ := Aside0.mk (Kd.R_below (rr HO_800002.out) hb)
      have n3_ := Aside0.mk (Kd.R_below (rr HO_811000.out) hb)
      have n4_ := Aside0.mk (Kd.R_below (rr HO_811001.out) hb)
      have n5_ := Aside0.mk (Kd.R_below (rr HO_811002.out) hb)
      have n6_ := Aside0.mk (Kd.R_below (rr HO_823000.out) hb)
      have n7_ := Aside0.mk (Kd.R_below (rr HO_823001.out) hb)
      have n8_ := Aside0.mk (Kd.R_below (rr HO_823002.out) hb)
      have n9_ := Aside0.mk (Kd.R_below (rr HO826.out) hb)
      have n10_ := Aside0.mk (Kd.R_below (rr HO829.out) hb)
      have n11_ := Aside0.mk (Kd.R_below (rr HO832.out) hb)
      have n12_ := Aside0.mk (bb BK776 hb)
      have n13_ := Aside0.mk (bb BK799 hb)
      have n14_ := Aside0.mk (bb BK810 hb)
      have n15_ := Aside0.mk (bb BK822 hb)
      have n16_ := Aside0.mk (below_step (bs4 HB GE776 GE799 GE810 GE822) hb)
      clear HO_800000
      clear HO_800001
      clear HO_800002
      clear HO_811000
      clear HO_811001
      clear HO_811002
      clear HO_823000
      clear HO_823001
      clear HO_823002
      clear HO826
      clear HO829
      clear HO832
      clear BK776
      clear BK799
      clear BK810
      clear BK822
      clear HB
      have HO_800000 := n0_
      have HO_800001 := n1_
      have HO_800002 := n2_
      have HO_811000 := n3_
      have HO_811001 := n4_
      have HO_811002 := n5_
      have HO_823000 := n6_
      have HO_823001 := n7_
      have HO_823002 := n8_
      have HO826 := n9_
      have HO829 := n10_
      have HO832 := n11_
      have BK776 := n12_
      have BK799 := n13_
      have BK810 := n14_
      have BK822 := n15_
      have HB := n16_
      clear n0_ n1_ n2_ n3_ n4_ n5_ n6_ n7_ n8_ n9_ n10_ n11_ n12_ n13_ n14_ n15_ n16_
      (try clear hb)
      (try clear hb2)
      (try clear hk)
      (try clear hi)
      refine hK.out _ _ ⟨(blk_cell BK810.out 0).trans rfl, (blk_cell BK810.out 1).trans rfl, (blk_cell BK810.out 2).trans rfl, (blk_cell BK810.out 3).trans rfl, (blk_cell BK776.out 0).trans rfl, (blk_cell BK776.out 1).trans rfl, (blk_cell BK776.out 2).trans rfl, (blk_cell BK776.out 3).trans rfl⟩ (fun hHeld => ?_)
      clear hK K
      refine norm_ (a' := ?_) ?_ ?_
      rotate_left
      ·
       show Act.put _ (some 44) _ = _
       simp only [Act.put, List.setIfInBounds_toArray, List.set_cons_zero, List.set_cons_succ, i64_w, i32_w]
       rfl
      refine pure_ (i := 4) (N := some 45) (v := ?_) (a' := ?_) #[true, true, true, true, true] rfl rfl (by kernel_rfl) (fun _ _ _ h => h) (Or.inl ⟨by rfl, ?_⟩) ?_ ?_
      rotate_left
      ·
       intro w'
       go_simp
       with_reducible rfl
      rotate_left
      ·
       simp only [Act.put, List.setIfInBounds_toArray, List.set_cons_zero, List.set_cons_succ, i64_w, i32_w]
       rfl
      refine done_ (by kernel_rfl) ?_
      have hnb75 := NB810_776.out
      have hnc75 := NB776_810.out
      have hnb76 := NB810_799.out
      have hnc76 := NB799_810.out
      have hnb77 := NB810_822.out
      have hnc77 := NB822_810.out
      have hcz78_0 : w74.cell? ⟨gb810, 0, none⟩ = some (.slice Ao30 t800.length co30) := (blk_cell BK810.out 0).trans rfl
      have hcz78_1 : w74.cell? ⟨gb810, 1, none⟩ = some (.slice Ao34 t803.length co34) := (blk_cell BK810.out 1).trans rfl
      have hcz78_2 : w74.cell? ⟨gb810, 2, none⟩ = some (.slice Ao35 t806.length co35) := (blk_cell BK810.out 2).trans rfl
      have hcz78_3 : w74.cell? ⟨gb810, 3, none⟩ = some (.int .i64 t809) := (blk_cell BK810.out 3).trans rfl
      have hfz78_0 := blk_frozen BK810.out 0
      have hfz78_1 := blk_frozen BK810.out 1
      have hfz78_2 := blk_frozen BK810.out 2
      have hfz78_3 := blk_frozen BK810.out 3
      go_upto_region 14 with (first | ((with_reducible refine gate_callee (f := 32) rfl ?_); refine goesL_ (some 48) rfl rfl Try.func32 (by kernel_rfl) rfl #[.agg #[.slice Ao30 t800.length co30, .slice Ao34 t803.length co34, .slice Ao35 t806.length co35, .int .i64 t809], .int .i64 1] rfl (by (try simp only [List.map_toArray, List.map_cons, List.map_nil]); first | done | rfl | (simp only [List.length_drop, List.length_take]; rfl)) ?_; (with_reducible refine (laws_markStore.calls kj10 (fun k_ => some k_ = (.slice Ao30 t800.length co30 : Value).ownBlock) (.slice Ao30 t800.length co30) t800 (fun k_ => some k_ = (.slice Ao34 t803.length co34 : Value).ownBlock) (.slice Ao34 t803.length co34) t803 (fun k_ => some k_ = (.slice Ao35 t806.length co35 : Value).ownBlock) (.slice Ao35 t806.length co35) t806 t809 1 t835 t836 t837 t838 w _ ?side1 ?side2 ?side3 ?side4 ?side5 ?side6 A67.out).mono ?_); (case side1 => repeat (first | (with_reducible first | exact HB.out | apply below_alloc | apply pw_below_drewN | apply below_drew1 | refine below_set ?_ GE776.out | refine below_set ?_ GE799.out | refine below_set ?_ GE810.out | refine below_set ?_ GE822.out) | exact HB.out)); (case side2 => exact Kd.R_tight rfl HO_811000.out); (case side3 => exact fun k_ e_ => (HO_811000.out.1 k_ e_.symm).1.1.2.2.1); (case side4 => exact Kd.R_tight rfl HO_811001.out); (case side5 => exact Kd.R_tight rfl HO_811002.out); (case side6 => exact fun k_ e_ => (HO_811002.out.1 k_ e_.symm).1.1.2.2.1); rintro e w79 ⟨rfl, hy0, hy1, hy2, hb, hkp⟩; refine ⟨_, rfl, ?_⟩; replace HO_800000 := Aside0.mk (Kd.R_mono (ok' := fun k_ => some k_ ≠ (.slice Ao26 t794.length co26 : Value).ownBlock ∧ some k_ ≠ (.slice Ao30 t800.length co30 : Value).ownBlock ∧ some k_ ≠ (.slice Ao35 t806.length co35 : Value).ownBlock ∧ some k_ ≠ (.slice Ao38 t811.length co38 : Value).ownBlock ∧ some k_ ≠ (.slice Ao44 t817.length co44 : Value).ownBlock ∧ some k_ ≠ (.slice Ao71 t824.length co71 : Value).ownBlock ∧ some k_ ≠ (.slice Ao73 t830.length co73 : Value).ownBlock) (Kd.R_keptB ((Kd.R_apart' HO_800000.out (Kd.R_typed HO_811001.out) (by decide))) hkp (fun k_ hk_ hs_ => Or.elim hs_ (fun e_ => (hk_.1.1.1.2.1) e_) (fun e_ => Or.elim e_ (fun e_ => (hk_.2) e_) (fun e_ => (hk_.1.1.1.2.2.1) e_)))) (fun k_ hk_ => ⟨hk_.1.1.1.1.1, hk_.1.1.1.1.2.1, hk_.1.1.1.1.2.2.1, hk_.1.1.1.1.2.2.2.1, hk_.1.1.1.1.2.2.2.2, hk_.1.1.1.2, hk_.1.1.2⟩)); replace HO_800001 := Aside0.mk (Kd.R_mono (ok' := fun k_ => some k_ ≠ (.slice Ao34 t803.length co34 : Value).ownBlock ∧ some k_ ≠ (.slice Ao43 t814.length co43 : Value).ownBlock ∧ some k_ ≠ (.slice Ao72 t827.length co72 : Value).ownBlock) (Kd.R_keptB ((Kd.R_apart' (Kd.R_apart' HO_800001.out (Kd.R_typed HO_811000.out) (by decide)) (Kd.R_typed HO_811002.out) (by decide))) hkp (fun k_ hk_ hs_ => Or.elim hs_ (fun e_ => (hk_.1.2) e_) (fun e_ => Or.elim e_ (fun e_ => (hk_.1.1.1.1) e_) (fun e_ => (hk_.2) e_)))) (fun k_ hk_ => ⟨hk_.1.1.1.1.1, hk_.1.1.1.1.2, hk_.1.1.1.2⟩)); replace HO_800002 := Aside0.mk (Kd.R_mono (ok' := fun k_ => some k_ ≠ (.slice Ao22 t788.length co22 : Value).ownBlock ∧ some k_ ≠ (.slice Ao30 t800.length co30 : Value).ownBlock ∧ some k_ ≠ (.slice Ao35 t806.length co35 : Value).ownBlock ∧ some k_ ≠ (.slice Ao38 t811.length co38 : Value).ownBlock ∧ some k_ ≠ (.slice Ao44 t817.length co44 : Value).ownBlock ∧ some k_ ≠ (.slice Ao71 t824.length co71 : Value).ownBlock ∧ some k_ ≠ (.slice Ao73 t830.length co73 : Value).ownBlock) (Kd.R_keptB ((Kd.R_apart' HO_800002.out (Kd.R_typed HO_811001.out) (by decide))) hkp (fun k_ hk_ hs_ => Or.elim hs_ (fun e_ => (hk_.1.1.1.2.1) e_) (fun e_ => Or.elim e_ (fun e_ => (hk_.2) e_) (fun e_ => (hk_.1.1.1.2.2.1) e_)))) (fun k_ hk_ => ⟨hk_.1.1.1.1.1, hk_.1.1.1.1.2.1, hk_.1.1.1.1.2.2.1, hk_.1.1.1.1.2.2.2.1, hk_.1.1.1.1.2.2.2.2, hk_.1.1.1.2, hk_.1.1.2⟩)); replace HO_823000 := Aside0.mk (Kd.R_mono (ok' := fun k_ => some k_ ≠ (.slice Ao22 t788.length co22 : Value).ownBlock ∧ some k_ ≠ (.slice Ao26 t794.length co26 : Value).ownBlock ∧ some k_ ≠ (.slice Ao30 t800.length co30 : Value).ownBlock ∧ some k_ ≠ (.slice Ao35 t806.length co35 : Value).ownBlock ∧ some k_ ≠ (.slice Ao44 t817.length co44 : Value).ownBlock ∧ some k_ ≠ (.slice Ao71 t824.length co71 : Value).ownBlock ∧ some k_ ≠ (.slice Ao73 t830.length co73 : Value).ownBlock) (Kd.R_keptB ((Kd.R_apart' HO_823000.out (Kd.R_typed HO_811001.out) (by decide))) hkp (fun k_ hk_ hs_ => Or.elim hs_ (fun e_ => (hk_.1.1.1.2.2.1) e_) (fun e_ => Or.elim e_ (fun e_ => (hk_.2) e_) (fun e_ => (hk_.1.1.1.2.2.2.1) e_)))) (fun k_ hk_ => ⟨hk_.1.1.1.1.1, hk_.1.1.1.1.2.1, hk_.1.1.1.1.2.2.1, hk_.1.1.1.1.2.2.2.1, hk_.1.1.1.1.2.2.2.2, hk_.1.1.1.2, hk_.1.1.2⟩)); replace HO_823001 := Aside0.mk (Kd.R_mono (ok' := fun k_ => some k_ ≠ (.slice Ao25 t791.length co25 : Value).ownBlock ∧ some k_ ≠ (.slice Ao34 t803.length co34 : Value).ownBlock ∧ some k_ ≠ (.slice Ao72 t827.length co72 : Value).ownBlock) (Kd.R_keptB ((Kd.R_apart' (Kd.R_apart' HO_823001.out (Kd.R_typed HO_811000.out) (by decide)) (Kd.R_typed HO_811002.out) (by decide))) hkp (fun k_ hk_ hs_ => Or.elim hs_ (fun e_ => (hk_.1.2) e_) (fun e_ => Or.elim e_ (fun e_ => (hk_.1.1.1.2) e_) (fun e_ => (hk_.2) e_)))) (fun k_ hk_ => ⟨hk_.1.1.1.1.1, hk_.1.1.1.1.2, hk_.1.1.1.2⟩)); replace HO_823002 := Aside0.mk (Kd.R_mono (ok' := fun k_ => some k_ ≠ (.slice Ao22 t788.length co22 : Value).ownBlock ∧ some k_ ≠ (.slice Ao26 t794.length co26 : Value).ownBlock ∧ some k_ ≠ (.slice Ao30 t800.length co30 : Value).ownBlock ∧ some k_ ≠ (.slice Ao35 t806.length co35 : Value).ownBlock ∧ some k_ ≠ (.slice Ao38 t811.length co38 : Value).ownBlock ∧ some k_ ≠ (.slice Ao71 t824.length co71 : Value).ownBlock ∧ some k_ ≠ (.slice Ao73 t830.length co73 : Value).ownBlock) (Kd.R_keptB ((Kd.R_apart' HO_823002.out (Kd.R_typed HO_811001.out) (by decide))) hkp (fun k_ hk_ hs_ => Or.elim hs_ (fun e_ => (hk_.1.1.1.2.2.1) e_) (fun e_ => Or.elim e_ (fun e_ => (hk_.2) e_) (fun e_ => (hk_.1.1.1.2.2.2.1) e_)))) (fun k_ hk_ => ⟨hk_.1.1.1.1.1, hk_.1.1.1.1.2.1, hk_.1.1.1.1.2.2.1, hk_.1.1.1.1.2.2.2.1, hk_.1.1.1.1.2.2.2.2, hk_.1.1.1.2, hk_.1.1.2⟩)); replace BK776 := Aside0.mk (blk_kept (bk BK776) hkp (fun hs_ => Or.elim hs_ (fun e_ => (fun e_ => (Kd.R_ne HO_811000.out BK776.out (by decide)) e_) e_) (fun e_ => Or.elim e_ (fun e_ => (fun e_ => (Kd.R_ne HO_811001.out BK776.out (by decide)) e_) e_) (fun e_ => (fun e_ => (Kd.R_ne HO_811002.out BK776.out (by decide)) e_) e_)))); replace BK799 := Aside0.mk (blk_kept (bk BK799) hkp (fun hs_ => Or.elim hs_ (fun e_ => (fun e_ => (Kd.R_ne HO_811000.out BK799.out (by decide)) e_) e_) (fun e_ => Or.elim e_ (fun e_ => (fun e_ => (Kd.R_ne HO_811001.out BK799.out (by decide)) e_) e_) (fun e_ => (fun e_ => (Kd.R_ne HO_811002.out BK799.out (by decide)) e_) e_)))); replace BK810 := Aside0.mk (blk_kept (bk BK810) hkp (fun hs_ => Or.elim hs_ (fun e_ => (fun e_ => (Kd.R_ne HO_811000.out BK810.out (by decide)) e_) e_) (fun e_ => Or.elim e_ (fun e_ => (fun e_ => (Kd.R_ne HO_811001.out BK810.out (by decide)) e_) e_) (fun e_ => (fun e_ => (Kd.R_ne HO_811002.out BK810.out (by decide)) e_) e_)))); replace BK822 := Aside0.mk (blk_kept (bk BK822) hkp (fun hs_ => Or.elim hs_ (fun e_ => (fun e_ => (Kd.R_ne HO_811000.out BK822.out (by decide)) e_) e_) (fun e_ => Or.elim e_ (fun e_ => (fun e_ => (Kd.R_ne HO_811001.out BK822.out (by decide)) e_) e_) (fun e_ => (fun e_ => (Kd.R_ne HO_811002.out BK822.out (by decide)) e_) e_)))); replace HO826 := Aside0.mk (Kd.R_mono (ok' := fun k_ => some k_ ≠ (.slice Ao22 t788.length co22 : Value).ownBlock ∧ some k_ ≠ (.slice Ao26 t794.length co26 : Value).ownBlock ∧ some k_ ≠ (.slice Ao30 t800.length co30 : Value).ownBlock ∧ some k_ ≠ (.slice Ao35 t806.length co35 : Value).ownBlock ∧ some k_ ≠ (.slice Ao38 t811.length co38 : Value).ownBlock ∧ some k_ ≠ (.slice Ao44 t817.length co44 : Value).ownBlock ∧ some k_ ≠ (.slice Ao73 t830.length co73 : Value).ownBlock) (Kd.R_keptB ((Kd.R_apart' HO826.out (Kd.R_typed HO_811001.out) (by decide))) hkp (fun k_ hk_ hs_ => Or.elim hs_ (fun e_ => (hk_.1.1.1.1.2) e_) (fun e_ => Or.elim e_ (fun e_ => (hk_.2) e_) (fun e_ => (hk_.1.1.1.2) e_)))) (fun k_ hk_ => ⟨hk_.1.1.1.1.1.1.1.2, hk_.1.1.1.1.1.1.2, hk_.1.1.1.1.1.2, hk_.1.1.1.1.2, hk_.1.1.1.2, hk_.1.1.2, hk_.1.1.1.1.1.1.1.1⟩)); replace HO829 := Aside0.mk (Kd.R_mono (ok' := fun k_ => some k_ ≠ (.slice Ao25 t791.length co25 : Value).ownBlock ∧ some k_ ≠ (.slice Ao34 t803.length co34 : Value).ownBlock ∧ some k_ ≠ (.slice Ao43 t814.length co43 : Value).ownBlock) (Kd.R_keptB ((Kd.R_apart' (Kd.R_apart' HO829.out (Kd.R_typed HO_811000.out) (by decide)) (Kd.R_typed HO_811002.out) (by decide))) hkp (fun k_ hk_ hs_ => Or.elim hs_ (fun e_ => (hk_.1.2) e_) (fun e_ => Or.elim e_ (fun e_ => (hk_.1.1.1.2) e_) (fun e_ => (hk_.2) e_)))) (fun k_ hk_ => ⟨hk_.1.1.1.1.1.2, hk_.1.1.1.1.2, hk_.1.1.1.2⟩)); replace HO_811000 := Aside0.mk (Kd.R_reok rfl hy0 (fun k_ e_ => HO_811000.out.1 k_ e_)); replace HO_811002 := Aside0.mk (Kd.R_reok rfl hy2 (fun k_ e_ => HO_811002.out.1 k_ e_)); replace HO832 := Aside0.mk (Kd.R_mono (ok' := fun k_ => some k_ ≠ (.slice Ao22 t788.length co22 : Value).ownBlock ∧ some k_ ≠ (.slice Ao26 t794.length co26 : Value).ownBlock ∧ some k_ ≠ (.slice Ao30 t800.length co30 : Value).ownBlock ∧ some k_ ≠ (.slice Ao35 t806.length co35 : Value).ownBlock ∧ some k_ ≠ (.slice Ao38 t811.length co38 : Value).ownBlock ∧ some k_ ≠ (.slice Ao44 t817.length co44 : Value).ownBlock ∧ some k_ ≠ (.slice Ao71 t824.length co71 : Value).ownBlock) (Kd.R_keptB ((Kd.R_apart' HO832.out (Kd.R_typed HO_811001.out) (by decide))) hkp (fun k_ hk_ hs_ => Or.elim hs_ (fun e_ => (hk_.1.1.1.1.2) e_) (fun e_ => Or.elim e_ (fun e_ => (hk_.2) e_) (fun e_ => (hk_.1.1.1.2) e_)))) (fun k_ hk_ => ⟨hk_.1.1.1.1.1.1.1.2, hk_.1.1.1.1.1.1.2, hk_.1.1.1.1.1.2, hk_.1.1.1.1.2, hk_.1.1.1.2, hk_.1.1.2, hk_.1.1.1.1.1.1.1.1⟩)); replace HO_811001 := Aside0.mk (Kd.R_reok rfl hy1 (fun k_ e_ => HO_811001.out.1 k_ e_)); replace HB := Aside0.mk (hb); (try clear hb); (try clear hkp); (try clear hy0); (try clear hy1); (try clear hy2)))
      (try simp only [Act.put, List.setIfInBounds_toArray, List.set_cons_zero, List.set_cons_succ])
      go_cut [61] (fun v61 wc => ∃ (kq : Nat) (x61_67 : Bool), v61 = .bool x61_67 ∧ Aside0 (laws_FnExactSyncLog.j1 kq t798 x61_67 l0_0 l0_1 l0_2 a0_3 t788 t791 t794 t797 t811 t814 t817 t820 = some r) ∧ Aside0 (kq ≤ kj10) ∧ Aside0 (Kd.R Kd.string 9 wc w.heap.size (fun k_ => some k_ ≠ ((.slice Ao26 t794.length co26) : Value).ownBlock ∧ some k_ ≠ ((.slice Ao30 t800.length co30) : Value).ownBlock ∧ some k_ ≠ ((.slice Ao35 t806.length co35) : Value).ownBlock ∧ some k_ ≠ ((.slice Ao38 t811.length co38) : Value).ownBlock ∧ some k_ ≠ ((.slice Ao44 t817.length co44) : Value).ownBlock) (.slice Ao22 t788.length co22) t788) ∧ Aside0 (Kd.R k72 72 wc w.heap.size (fun k_ => some k_ ≠ ((.slice Ao34 t803.length co34) : Value).ownBlock ∧ some k_ ≠ ((.slice Ao43 t814.length co43) : Value).ownBlock) (.slice Ao25 t791.length co25) t791) ∧ Aside0 (Kd.R Kd.string 9 wc w.heap.size (fun k_ => some k_ ≠ ((.slice Ao22 t788.length co22) : Value).ownBlock ∧ some k_ ≠ ((.slice Ao30 t800.length co30) : Value).ownBlock ∧ some k_ ≠ ((.slice Ao35 t806.length co35) : Value).ownBlock ∧ some k_ ≠ ((.slice Ao38 t811.length co38) : Value).ownBlock ∧ some k_ ≠ ((.slice Ao44 t817.length co44) : Value).ownBlock) (.slice Ao26 t794.length co26) t794) ∧ Aside0 (Kd.R Kd.string 9 wc w.heap.size (fun k_ => some k_ ≠ ((.slice Ao22 t788.length co22) : Value).ownBlock ∧ some k_ ≠ ((.slice Ao26 t794.length co26) : Value).ownBlock ∧ some k_ ≠ ((.slice Ao35 t806.length co35) : Value).ownBlock ∧ some k_ ≠ ((.slice Ao38 t811.length co38) : Value).ownBlock ∧ some k_ ≠ ((.slice Ao44 t817.length co44) : Value).ownBlock) (.slice Ao30 t800.length co30) t836) ∧ Aside0 (Kd.R k72 72 wc w.heap.size (fun k_ => some k_ ≠ ((.slice Ao25 t791.length co25) : Value).ownBlock ∧ some k_ ≠ ((.slice Ao43 t814.length co43) : Value).ownBlock) (.slice Ao34 t803.length co34) t837) ∧ Aside0 (Kd.R Kd.string 9 wc w.heap.size (fun k_ => some k_ ≠ ((.slice Ao22 t788.length co22) : Value).ownBlock ∧ some k_ ≠ ((.slice Ao26 t794.length co26) : Value).ownBlock ∧ some k_ ≠ ((.slice Ao30 t800.length co30) : Value).ownBlock ∧ some k_ ≠ ((.slice Ao38 t811.length co38) : Value).ownBlock ∧ some k_ ≠ ((.slice Ao44 t817.length co44) : Value).ownBlock) (.slice Ao35 t806.length co35) t838) ∧ Aside0 (Kd.R Kd.string 9 wc w.heap.size (fun k_ => some k_ ≠ ((.slice Ao22 t788.length co22) : Value).ownBlock ∧ some k_ ≠ ((.slice Ao26 t794.length co26) : Value).ownBlock ∧ some k_ ≠ ((.slice Ao30 t800.length co30) : Value).ownBlock ∧ some k_ ≠ ((.slice Ao35 t806.length co35) : Value).ownBlock ∧ some k_ ≠ ((.slice Ao44 t817.length co44) : Value).ownBlock) (.slice Ao38 t811.length co38) t811) ∧ Aside0 (Kd.R k72 72 wc w.heap.size (fun k_ => some k_ ≠ ((.slice Ao25 t791.length co25) : Value).ownBlock ∧ some k_ ≠ ((.slice Ao34 t803.length co34) : Value).ownBlock) (.slice Ao43 t814.length co43) t814) ∧ Aside0 (Kd.R Kd.string 9 wc w.heap.size (fun k_ => some k_ ≠ ((.slice Ao22 t788.length co22) : Value).ownBlock ∧ some k_ ≠ ((.slice Ao26 t794.length co26) : Value).ownBlock ∧ some k_ ≠ ((.slice Ao30 t800.length co30) : Value).ownBlock ∧ some k_ ≠ ((.slice Ao35 t806.length co35) : Value).ownBlock ∧ some k_ ≠ ((.slice Ao38 t811.length co38) : Value).ownBlock) (.slice Ao44 t817.length co44) t817) ∧ Aside0 (wc.heap[gb776]? = some (.cells #[(.slice A0_0 l0_0.length c0_0), (.slice A0_1 l0_1.length c0_1), (.slice A0_2 l0_2.length c0_2), .int .i64 a0_3] 38 (0, 0))) ∧ Aside0 (wc.heap[gb799]? = some (.cells #[(.slice Ao22 t788.length co22), (.slice Ao25 t791.length co25), (.slice Ao26 t794.length co26), .int .i64 t797] 44 (0, 0))) ∧ Aside0 (wc.heap[gb810]? = some (.cells #[(.slice Ao30 t800.length co30), (.slice Ao34 t803.length co34), (.slice Ao35 t806.length co35), .int .i64 t809] 44 (0, 0))) ∧ Aside0 (wc.heap[gb822]? = some (.cells #[(.slice Ao38 t811.length co38), (.slice Ao43 t814.length co43), (.slice Ao44 t817.length co44), .int .i64 t820] 44 (0, 0))) ∧ Aside0 (Below w.heap.size w wc))
      case first =>
       have H := HC68.out
       clear HC68
       by_cases c80 : t835 < 0
       ·
        rw [if_pos c80] at H
        have c80b0 : decide (t835 < 0) = true := decide_eq_true c80
        clear c80
        (first | rw [c80b0] | (simp only [i64_w, i32_w]; rw [c80b0]) | (simp only [c80b2, Bool.not_false, Bool.not_true]) | skip)
        have H' := Aside0.mk H
        clear H
        go_wp2
        go_meet
        case rel => exact ⟨_, (true), (by first | rfl | (simp; done) | (simp [*]; done)), H', ⟨by have := HJ10.out; first | omega | exact Nat.le_refl _⟩, rm HO_800000 (fun _ hk => ⟨hk.1, ⟨hk.2.1, ⟨hk.2.2.1, ⟨hk.2.2.2.1, hk.2.2.2.2.1⟩⟩⟩⟩), rm HO_800001 (fun _ hk => ⟨hk.1, hk.2.1⟩), rm HO_800002 (fun _ hk => ⟨hk.1, ⟨hk.2.1, ⟨hk.2.2.1, ⟨hk.2.2.2.1, hk.2.2.2.2.1⟩⟩⟩⟩), rm HO_811000 (fun _ hk => ⟨hk.1.1.1, ⟨hk.1.1.2.1, ⟨hk.1.1.2.2.1, ⟨hk.1.1.2.2.2.1, hk.1.1.2.2.2.2⟩⟩⟩⟩), rm HO_811001 (fun _ hk => ⟨hk.1.1, hk.1.2⟩), rm HO_811002 (fun _ hk => ⟨hk.1.1.1, ⟨hk.1.1.2.1, ⟨hk.1.1.2.2.1, ⟨hk.1.1.2.2.2.1, hk.1.1.2.2.2.2⟩⟩⟩⟩), rm HO_823000 (fun _ hk => ⟨hk.1, ⟨hk.2.1, ⟨hk.2.2.1, ⟨hk.2.2.2.1, hk.2.2.2.2.1⟩⟩⟩⟩), rm HO_823001 (fun _ hk => ⟨hk.1, hk.2.1⟩), rm HO_823002 (fun _ hk => ⟨hk.1, ⟨hk.2.1, ⟨hk.2.2.1, ⟨hk.2.2.2.1, hk.2.2.2.2.1⟩⟩⟩⟩), ⟨bk BK776⟩, ⟨bk BK799⟩, ⟨bk BK810⟩, ⟨bk BK822⟩, ⟨bs4 HB GE776 GE799 GE810 GE822⟩⟩
       ·
        rw [if_neg c80] at H
        have c80b0 : decide (t835 < 0) = false := decide_eq_false c80
        clear c80
        (first | rw [c80b0] | (simp only [i64_w, i32_w]; rw [c80b0]) | (simp only [c80b2, Bool.not_false, Bool.not_true]) | skip)
        replace H := Option.bind_eq_some_iff.mp H
        obtain ⟨t839, A810, H⟩ := H
        replace H : (if t839 = true then (laws_FnExactSyncLog.j1 kj10 t798 (t821 != t798) l0_0 l0_1 l0_2 a0_3 t788 t791 t794 t797 t811 t814 t817 t820) else (laws_FnExactSyncLog.j1 kj10 t798 true l0_0 l0_1 l0_2 a0_3 t788 t791 t794 t797 t811 t814 t817 t820)) = some r := H
        have A81 := Aside0.mk A810
        clear A810
        by_cases c82 : t839 = true
        ·
         subst c82
         rw [if_pos rfl] at H
         have H' := Aside0.mk H
         clear H
         have hnb83 := NB822_776.out
         have hnc83 := NB776_822.out
         have hnb84 := NB822_799.out
         have hnc84 := NB799_822.out
         have hnb85 := NB822_810.out
         have hnc85 := NB810_822.out
         have hcz86_0 : w79.cell? ⟨gb822, 0, none⟩ = some (.slice Ao38 t811.length co38) := (blk_cell BK822.out 0).trans rfl
         have hcz86_1 : w79.cell? ⟨gb822, 1, none⟩ = some (.slice Ao43 t814.length co43) := (blk_cell BK822.out 1).trans rfl
         have hcz86_2 : w79.cell? ⟨gb822, 2, none⟩ = some (.slice Ao44 t817.length co44) := (blk_cell BK822.out 2).trans rfl
         have hcz86_3 : w79.cell? ⟨gb822, 3, none⟩ = some (.int .i64 t820) := (blk_cell BK822.out 3).trans rfl
         have hfz86_0 := blk_frozen BK822.out 0
         have hfz86_1 := blk_frozen BK822.out 1
         have hfz86_2 := blk_frozen BK822.out 2
         have hfz86_3 := blk_frozen BK822.out 3
         have hnb87 := NB799_776.out
         have hnc87 := NB776_799.out
         have hnb88 := NB799_810.out
         have hnc88 := NB810_799.out
         have hcz89_0 : w79.cell? ⟨gb799, 0, none⟩ = some (.slice Ao22 t788.length co22) := (blk_cell BK799.out 0).trans rfl
         have hcz89_1 : w79.cell? ⟨gb799, 1, none⟩ = some (.slice Ao25 t791.length co25) := (blk_cell BK799.out 1).trans rfl
         have hcz89_2 : w79.cell? ⟨gb799, 2, none⟩ = some (.slice Ao26 t794.length co26) := (blk_cell BK799.out 2).trans rfl
         have hcz89_3 : w79.cell? ⟨gb799, 3, none⟩ = some (.int .i64 t797) := (blk_cell BK799.out 3).trans rfl
         have hfz89_0 := blk_frozen BK799.out 0
         have hfz89_1 := blk_frozen BK799.out 1
         have hfz89_2 := blk_frozen BK799.out 2
         have hfz89_3 := blk_frozen BK799.out 3
         go_wp2_with (first | (go_at_call 29; (with_reducible refine (laws_eqStore.calls kj10 _ _ t811 _ _ t814 _ _ t817 t820 _ _ t788 _ _ t791 _ _ t794 t797 true _ ?side1 ?side2 ?side3 ?side4 ?side5 ?side6 ?side7 ?side8 ?side9 ?side10 ?side11 ?side12 A81.out).mono ?_); (case side1 => exact rc0 HO_823000); (case side2 => exact (Kd.R_reads' HO_823000.out).2.1); (case side3 => exact rc0 HO_823001); (case side4 => exact (Kd.R_reads' HO_823001.out).2.1); (case side5 => exact rc0 HO_823002); (case side6 => exact (Kd.R_reads' HO_823002.out).2.1); (case side7 => exact rc0 HO_800000); (case side8 => exact (Kd.R_reads' HO_800000.out).2.1); (case side9 => exact rc0 HO_800001); (case side10 => exact (Kd.R_reads' HO_800001.out).2.1); (case side11 => exact rc0 HO_800002); (case side12 => exact (Kd.R_reads' HO_800002.out).2.1); rintro e w90 ⟨rfl, hb⟩; replace HO_800000 := nr HO_800000 hb; replace HO_800001 := nr HO_800001 hb; replace HO_800002 := nr HO_800002 hb; replace HO_811000 := nr HO_811000 hb; replace HO_811001 := nr HO_811001 hb; replace HO_811002 := nr HO_811002 hb; replace HO_823000 := nr HO_823000 hb; replace HO_823001 := nr HO_823001 hb; replace HO_823002 := nr HO_823002 hb; replace HO826 := nr HO826 hb; replace HO829 := nr HO829 hb; replace HO832 := nr HO832 hb; replace BK776 := nb BK776 hb; replace BK799 := nb BK799 hb; replace BK810 := nb BK810 hb; replace BK822 := nb BK822 hb; replace HB := Aside0.mk (below_step (bs4 HB GE776 GE799 GE810 GE822) hb); (try clear hb); (try clear hb2); (try clear hk); (try clear hi)))
         go_meet
         case rel => exact ⟨_, ((t821 != t798)), (by first | rfl | (simp; done) | (simp [*]; done)), H', ⟨by have := HJ10.out; first | omega | exact Nat.le_refl _⟩, rm HO_800000 (fun _ hk => ⟨hk.1, ⟨hk.2.1, ⟨hk.2.2.1, ⟨hk.2.2.2.1, hk.2.2.2.2.1⟩⟩⟩⟩), rm HO_800001 (fun _ hk => ⟨hk.1, hk.2.1⟩), rm HO_800002 (fun _ hk => ⟨hk.1, ⟨hk.2.1, ⟨hk.2.2.1, ⟨hk.2.2.2.1, hk.2.2.2.2.1⟩⟩⟩⟩), rm HO_811000 (fun _ hk => ⟨hk.1.1.1, ⟨hk.1.1.2.1, ⟨hk.1.1.2.2.1, ⟨hk.1.1.2.2.2.1, hk.1.1.2.2.2.2⟩⟩⟩⟩), rm HO_811001 (fun _ hk => ⟨hk.1.1, hk.1.2⟩), rm HO_811002 (fun _ hk => ⟨hk.1.1.1, ⟨hk.1.1.2.1, ⟨hk.1.1.2.2.1, ⟨hk.1.1.2.2.2.1, hk.1.1.2.2.2.2⟩⟩⟩⟩), rm HO_823000 (fun _ hk => ⟨hk.1, ⟨hk.2.1, ⟨hk.2.2.1, ⟨hk.2.2.2.1, hk.2.2.2.2.1⟩⟩⟩⟩), rm HO_823001 (fun _ hk => ⟨hk.1, hk.2.1⟩), rm HO_823002 (fun _ hk => ⟨hk.1, ⟨hk.2.1, ⟨hk.2.2.1, ⟨hk.2.2.2.1, hk.2.2.2.2.1⟩⟩⟩⟩), ⟨bk BK776⟩, ⟨bk BK799⟩, ⟨bk BK810⟩, ⟨bk BK822⟩, ⟨bs4 HB GE776 GE799 GE810 GE822⟩⟩
        ·
         replace c82 := Bool.eq_false_iff.mpr c82
         subst c82
         rw [if_neg (show ¬ (false = true) by decide)] at H
         have H' := Aside0.mk H
         clear H
         have hnb91 := NB822_776.out
         have hnc91 := NB776_822.out
         have hnb92 := NB822_799.out
         have hnc92 := NB799_822.out
         have hnb93 := NB822_810.out
         have hnc93 := NB810_822.out
         have hcz94_0 : w79.cell? ⟨gb822, 0, none⟩ = some (.slice Ao38 t811.length co38) := (blk_cell BK822.out 0).trans rfl
         have hcz94_1 : w79.cell? ⟨gb822, 1, none⟩ = some (.slice Ao43 t814.length co43) := (blk_cell BK822.out 1).trans rfl
         have hcz94_2 : w79.cell? ⟨gb822, 2, none⟩ = some (.slice Ao44 t817.length co44) := (blk_cell BK822.out 2).trans rfl
         have hcz94_3 : w79.cell? ⟨gb822, 3, none⟩ = some (.int .i64 t820) := (blk_cell BK822.out 3).trans rfl
         have hfz94_0 := blk_frozen BK822.out 0
         have hfz94_1 := blk_frozen BK822.out 1
         have hfz94_2 := blk_frozen BK822.out 2
         have hfz94_3 := blk_frozen BK822.out 3
         have hnb95 := NB799_776.out
         have hnc95 := NB776_799.out
         have hnb96 := NB799_810.out
         have hnc96 := NB810_799.out
         have hcz97_0 : w79.cell? ⟨gb799, 0, none⟩ = some (.slice Ao22 t788.length co22) := (blk_cell BK799.out 0).trans rfl
         have hcz97_1 : w79.cell? ⟨gb799, 1, none⟩ = some (.slice Ao25 t791.length co25) := (blk_cell BK799.out 1).trans rfl
         have hcz97_2 : w79.cell? ⟨gb799, 2, none⟩ = some (.slice Ao26 t794.length co26) := (blk_cell BK799.out 2).trans rfl
         have hcz97_3 : w79.cell? ⟨gb799, 3, none⟩ = some (.int .i64 t797) := (blk_cell BK799.out 3).trans rfl
         have hfz97_0 := blk_frozen BK799.out 0
         have hfz97_1 := blk_frozen BK799.out 1
         have hfz97_2 := blk_frozen BK799.out 2
         have hfz97_3 := blk_frozen BK799.out 3
         go_wp2_with (first | (go_at_call 29; (with_reducible refine (laws_eqStore.calls kj10 _ _ t811 _ _ t814 _ _ t817 t820 _ _ t788 _ _ t791 _ _ t794 t797 false _ ?side1 ?side2 ?side3 ?side4 ?side5 ?side6 ?side7 ?side8 ?side9 ?side10 ?side11 ?side12 A81.out).mono ?_); (case side1 => exact rc0 HO_823000); (case side2 => exact (Kd.R_reads' HO_823000.out).2.1); (case side3 => exact rc0 HO_823001); (case side4 => exact (Kd.R_reads' HO_823001.out).2.1); (case side5 => exact rc0 HO_823002); (case side6 => exact (Kd.R_reads' HO_823002.out).2.1); (case side7 => exact rc0 HO_800000); (case side8 => exact (Kd.R_reads' HO_800000.out).2.1); (case side9 => exact rc0 HO_800001); (case side10 => exact (Kd.R_reads' HO_800001.out).2.1); (case side11 => exact rc0 HO_800002); (case side12 => exact (Kd.R_reads' HO_800002.out).2.1); rintro e w98 ⟨rfl, hb⟩; replace HO_800000 := nr HO_800000 hb; replace HO_800001 := nr HO_800001 hb; replace HO_800002 := nr HO_800002 hb; replace HO_811000 := nr HO_811000 hb; replace HO_811001 := nr HO_811001 hb; replace HO_811002 := nr HO_811002 hb; replace HO_823000 := nr HO_823000 hb; replace HO_823001 := nr HO_823001 hb; replace HO_823002 := nr HO_823002 hb; replace HO826 := nr HO826 hb; replace HO829 := nr HO829 hb; replace HO832 := nr HO832 hb; replace BK776 := nb BK776 hb; replace BK799 := nb BK799 hb; replace BK810 := nb BK810 hb; replace BK822 := nb BK822 hb; replace HB := Aside0.mk (below_step (bs4 HB GE776 GE799 GE810 GE822) hb); (try clear hb); (try clear hb2); (try clear hk); (try clear hi)))
         go_meet
         case rel => exact ⟨_, (true), (by first | rfl | (simp; done) | (simp [*]; done)), H', ⟨by have := HJ10.out; first | omega | exact Nat.le_refl _⟩, rm HO_800000 (fun _ hk => ⟨hk.1, ⟨hk.2.1, ⟨hk.2.2.1, ⟨hk.2.2.2.1, hk.2.2.2.2.1⟩⟩⟩⟩), rm HO_800001 (fun _ hk => ⟨hk.1, hk.2.1⟩), rm HO_800002 (fun _ hk => ⟨hk.1, ⟨hk.2.1, ⟨hk.2.2.1, ⟨hk.2.2.2.1, hk.2.2.2.2.1⟩⟩⟩⟩), rm HO_811000 (fun _ hk => ⟨hk.1.1.1, ⟨hk.1.1.2.1, ⟨hk.1.1.2.2.1, ⟨hk.1.1.2.2.2.1, hk.1.1.2.2.2.2⟩⟩⟩⟩), rm HO_811001 (fun _ hk => ⟨hk.1.1, hk.1.2⟩), rm HO_811002 (fun _ hk => ⟨hk.1.1.1, ⟨hk.1.1.2.1, ⟨hk.1.1.2.2.1, ⟨hk.1.1.2.2.2.1, hk.1.1.2.2.2.2⟩⟩⟩⟩), rm HO_823000 (fun _ hk => ⟨hk.1, ⟨hk.2.1, ⟨hk.2.2.1, ⟨hk.2.2.2.1, hk.2.2.2.2.1⟩⟩⟩⟩), rm HO_823001 (fun _ hk => ⟨hk.1, hk.2.1⟩), rm HO_823002 (fun _ hk => ⟨hk.1, ⟨hk.2.1, ⟨hk.2.2.1, ⟨hk.2.2.2.1, hk.2.2.2.2.1⟩⟩⟩⟩), ⟨bk BK776⟩, ⟨bk BK799⟩, ⟨bk BK810⟩, ⟨bk BK822⟩, ⟨bs4 HB GE776 GE799 GE810 GE822⟩⟩
      case rest =>
       clear HC68
       try clear c2
       try clear p2
       try clear c3
       try clear c3b0
       try clear c4
       try clear c5
       try clear c6
       try clear c7
       try clear c8
       try clear c9
       try clear c23
       try clear c25
       try clear c27
       try clear c29
       try clear c31
       try clear c32
       try clear c39
       try clear c40
       try clear c41
       try clear c42
       try clear c46
       try clear c47
       try clear c48
       try clear c49
       try clear c51
       try clear c52
       try clear c55
       try clear c56
       try clear c57
       try clear c59
       try clear c60
       try clear c63
       try clear c66
       try clear c75
       try clear c76
       try clear c77
       try clear c80
       try clear c80b0
       try clear c82
       try clear c83
       try clear c84
       try clear c85
       try clear c87
       try clear c88
       try clear c91
       try clear c92
       try clear c93
       try clear c95
       try clear c96
       try clear hcz13_0
       try clear hcz13_1
       try clear hcz13_2
       try clear hcz13_3
       try clear hcz15_0
       try clear hcz15_1
       try clear hcz15_2
       try clear hcz15_3
       try clear hcz24_0
       try clear hcz24_1
       try clear hcz24_2
       try clear hcz24_3
       try clear hcz27_0
       try clear hcz27_1
       try clear hcz27_2
       try clear hcz27_3
       try clear hcz33_0
       try clear hcz33_1
       try clear hcz33_2
       try clear hcz33_3
       try clear hcz42_0
       try clear hcz42_1
       try clear hcz42_2
       try clear hcz42_3
       try clear hcz50_0
       try clear hcz50_1
       try clear hcz50_2
       try clear hcz50_3
       try clear hcz53_0
       try clear hcz53_1
       try clear hcz53_2
       try clear hcz53_3
       try clear hcz58_0
       try clear hcz58_1
       try clear hcz58_2
       try clear hcz58_3
       try clear hcz5_0
       try clear hcz5_1
       try clear hcz5_2
       try clear hcz5_3
       try clear hcz61_0
       try clear hcz61_1
       try clear hcz61_2
       try clear hcz61_3
       try clear hcz78_0
       try clear hcz78_1
       try clear hcz78_2
       try clear hcz78_3
       try clear hcz86_0
       try clear hcz86_1
       try clear hcz86_2
       try clear hcz86_3
       try clear hcz89_0
       try clear hcz89_1
       try clear hcz89_2
       try clear hcz89_3
       try clear hcz94_0
       try clear hcz94_1
       try clear hcz94_2
       try clear hcz94_3
       try clear hcz97_0
       try clear hcz97_1
       try clear hcz97_2
       try clear hcz97_3
       try clear hfz13_0
       try clear hfz13_1
       try clear hfz13_2
       try clear hfz13_3
       try clear hfz15_0
       try clear hfz15_1
       try clear hfz15_2
       try clear hfz15_3
       try clear hfz24_0
       try clear hfz24_1
       try clear hfz24_2
       try clear hfz24_3
       try clear hfz27_0
       try clear hfz27_1
       try clear hfz27_2
       try clear hfz27_3
       try clear hfz33_0
       try clear hfz33_1
       try clear hfz33_2
       try clear hfz33_3
       try clear hfz42_0
       try clear hfz42_1
       try clear hfz42_2
       try clear hfz42_3
       try clear hfz50_0
       try clear hfz50_1
       try clear hfz50_2
       try clear hfz50_3
       try clear hfz53_0
       try clear hfz53_1
       try clear hfz53_2
       try clear hfz53_3
       try clear hfz58_0
       try clear hfz58_1
       try clear hfz58_2
       try clear hfz58_3
       try clear hfz5_0
       try clear hfz5_1
       try clear hfz5_2
       try clear hfz5_3
       try clear hfz61_0
       try clear hfz61_1
       try clear hfz61_2
       try clear hfz61_3
       try clear hfz78_0
       try clear hfz78_1
       try clear hfz78_2
       try clear hfz78_3
       try clear hfz86_0
       try clear hfz86_1
       try clear hfz86_2
       try clear hfz86_3
       try clear hfz89_0
       try clear hfz89_1
       try clear hfz89_2
       try clear hfz89_3
       try clear hfz94_0
       try clear hfz94_1
       try clear hfz94_2
       try clear hfz94_3
       try clear hfz97_0
       try clear hfz97_1
       try clear hfz97_2
       try clear hfz97_3
       try clear p2
       obtain ⟨kq, x61_67, rfl, HA, HJ67, HO_800000, HO_800001, HO_800002, HO_811000, HO_811001, HO_811002, HO_823000, HO_823001, HO_823002, BK776, BK799, BK810, BK822, HB⟩ := hcut
       have hl811000_67 := (Kd.R_reads' HO_811000.out).1
       rw [hl811000_67] at HO_811000
       (try simp only [hl811000_67])
       (try simp only [hl811000_67] at BK776)
       (try simp only [hl811000_67] at BK799)
       (try simp only [hl811000_67] at BK810)
       (try simp only [hl811000_67] at BK822)
       (try simp only [hl811000_67] at HO_800000)
       (try simp only [hl811000_67] at HO_800001)
       (try simp only [hl811000_67] at HO_800002)
       (try simp only [hl811000_67] at HO_811001)
       (try simp only [hl811000_67] at HO_811002)
       (try simp only [hl811000_67] at HO_823000)
       (try simp only [hl811000_67] at HO_823001)
       (try simp only [hl811000_67] at HO_823002)
       have hl811001_67 := (Kd.R_reads' HO_811001.out).1
       rw [hl811001_67] at HO_811001
       (try simp only [hl811001_67])
       (try simp only [hl811001_67] at BK776)
       (try simp only [hl811001_67] at BK799)
       (try simp only [hl811001_67] at BK810)
       (try simp only [hl811001_67] at BK822)
       (try simp only [hl811001_67] at HO_800000)
       (try simp only [hl811001_67] at HO_800001)
       (try simp only [hl811001_67] at HO_800002)
       (try simp only [hl811001_67] at HO_811000)
       (try simp only [hl811001_67] at HO_811002)
       (try simp only [hl811001_67] at HO_823000)
       (try simp only [hl811001_67] at HO_823001)
       (try simp only [hl811001_67] at HO_823002)
       have hl811002_67 := (Kd.R_reads' HO_811002.out).1
       rw [hl811002_67] at HO_811002
       (try simp only [hl811002_67])
       (try simp only [hl811002_67] at BK776)
       (try simp only [hl811002_67] at BK799)
       (try simp only [hl811002_67] at BK810)
       (try simp only [hl811002_67] at BK822)
       (try simp only [hl811002_67] at HO_800000)
       (try simp only [hl811002_67] at HO_800001)
       (try simp only [hl811002_67] at HO_800002)
       (try simp only [hl811002_67] at HO_811000)
       (try simp only [hl811002_67] at HO_811001)
       (try simp only [hl811002_67] at HO_823000)
       (try simp only [hl811002_67] at HO_823001)
       (try simp only [hl811002_67] at HO_823002)
       cases kq with
       | zero => exact absurd HA.out (by simp [laws_FnExactSyncLog.j1])
       | succ kj67 =>
        have H := HA.out
        clear HA
        simp only [laws_FnExactSyncLog.j1] at H
        by_cases c99 : x61_67 = true
        ·
         subst c99
         rw [if_pos rfl] at H
         obtain rfl := Option.some.inj H
         go_wp2
         go_ret
         exact ⟨by first | rfl | (simp [errW_none, errW_some] <;> rfl) | (simp [*, errW_none, errW_some] <;> rfl), bs4 HB GE776 GE799 GE810 GE822⟩
        ·
         replace c99 := Bool.eq_false_iff.mpr c99
         subst c99
         rw [if_neg (show ¬ (false = true) by decide)] at H
         replace H := Option.bind_eq_some_iff.mp H
         obtain ⟨⟨t840, t841, t842, t843⟩, A1000, H⟩ := H
         replace H : ((laws_heldStore.f kj67 t841 t842 t843 t820 1).bind fun t844 => (if t844 < 0 then (some false) else (if t844 = t840 then ((laws_toStore.f kj67 l0_0 l0_1 l0_2 a0_3).bind fun bt845 => ((impl_SyncLog.f kj67 bt845.1 bt845.2.1 bt845.2.2.1 bt845.2.2.2).bind fun bt855 => ((laws_eqStore.f kj67 bt855.1 bt855.2.1 bt855.2.2.1 bt855.2.2.2.1 t788 t791 t794 t797).bind fun t867 => (if t867 = true then (laws_FnExactSyncLog.j2 kj67 t840 (bt855.2.2.2.2 != t798) t841 t842 t843 t820) else (laws_FnExactSyncLog.j2 kj67 t840 true t841 t842 t843 t820))))) else (some false)))) = some r := H
         have A100 := Aside0.mk A1000
         clear A1000
         replace H := Option.bind_eq_some_iff.mp H
         obtain ⟨t844, A1010, H⟩ := H
         replace H : (if t844 < 0 then (some false) else (if t844 = t840 then ((laws_toStore.f kj67 l0_0 l0_1 l0_2 a0_3).bind fun bt845 => ((impl_SyncLog.f kj67 bt845.1 bt845.2.1 bt845.2.2.1 bt845.2.2.2).bind fun bt855 => ((laws_eqStore.f kj67 bt855.1 bt855.2.1 bt855.2.2.1 bt855.2.2.2.1 t788 t791 t794 t797).bind fun t867 => (if t867 = true then (laws_FnExactSyncLog.j2 kj67 t840 (bt855.2.2.2.2 != t798) t841 t842 t843 t820) else (laws_FnExactSyncLog.j2 kj67 t840 true t841 t842 t843 t820))))) else (some false))) = some r := H
         have A101 := Aside0.mk A1010
         clear A1010
         by_cases c102 : t844 < 0
         ·
          rw [if_pos c102] at H
          have c102b0 : decide (t844 < 0) = true := decide_eq_true c102
          clear c102
          obtain rfl := Option.some.inj H
          have hnb103 := NB822_776.out
          have hnc103 := NB776_822.out
          have hnb104 := NB822_799.out
          have hnc104 := NB799_822.out
          have hnb105 := NB822_810.out
          have hnc105 := NB810_822.out
          have hcz106_0 : wc.cell? ⟨gb822, 0, none⟩ = some (.slice Ao38 t811.length co38) := (blk_cell BK822.out 0).trans rfl
          have hcz106_1 : wc.cell? ⟨gb822, 1, none⟩ = some (.slice Ao43 t814.length co43) := (blk_cell BK822.out 1).trans rfl
          have hcz106_2 : wc.cell? ⟨gb822, 2, none⟩ = some (.slice Ao44 t817.length co44) := (blk_cell BK822.out 2).trans rfl
          have hcz106_3 : wc.cell? ⟨gb822, 3, none⟩ = some (.int .i64 t820) := (blk_cell BK822.out 3).trans rfl
          have hfz106_0 := blk_frozen BK822.out 0
          have hfz106_1 := blk_frozen BK822.out 1
          have hfz106_2 := blk_frozen BK822.out 2
          have hfz106_3 := blk_frozen BK822.out 3
          go_wp2_with (first | ((with_reducible refine gate_callee (f := 32) rfl ?_); refine goesL_ (some 64) rfl rfl Try.func32 (by kernel_rfl) rfl #[.agg #[.slice Ao38 t811.length co38, .slice Ao43 t814.length co43, .slice Ao44 t817.length co44, .int .i64 t820], .int .i64 1] rfl (by (try simp only [List.map_toArray, List.map_cons, List.map_nil]); first | done | rfl | (simp only [List.length_drop, List.length_take]; rfl)) ?_; (with_reducible refine (laws_markStore.calls kj67 (fun k_ => some k_ = (.slice Ao38 t811.length co38 : Value).ownBlock) (.slice Ao38 t811.length co38) t811 (fun k_ => some k_ = (.slice Ao43 t814.length co43 : Value).ownBlock) (.slice Ao43 t814.length co43) t814 (fun k_ => some k_ = (.slice Ao44 t817.length co44 : Value).ownBlock) (.slice Ao44 t817.length co44) t817 t820 1 t840 t841 t842 t843 w _ ?side1 ?side2 ?side3 ?side4 ?side5 ?side6 A100.out).mono ?_); (case side1 => repeat (first | (with_reducible first | exact HB.out | apply below_alloc | apply pw_below_drewN | apply below_drew1 | refine below_set ?_ GE776.out | refine below_set ?_ GE799.out | refine below_set ?_ GE810.out | refine below_set ?_ GE822.out) | exact HB.out)); (case side2 => exact Kd.R_tight rfl HO_823000.out); (case side3 => exact fun k_ e_ => (HO_823000.out.1 k_ e_.symm).2.2.2.2); (case side4 => exact Kd.R_tight rfl HO_823001.out); (case side5 => exact Kd.R_tight rfl HO_823002.out); (case side6 => exact fun k_ e_ => (HO_823002.out.1 k_ e_.symm).2.2.2.2); rintro e w107 ⟨rfl, hy0, hy1, hy2, hb, hkp⟩; refine ⟨_, rfl, ?_⟩; replace HO_800000 := Aside0.mk (Kd.R_mono (ok' := fun k_ => some k_ ≠ (.slice Ao26 t794.length co26 : Value).ownBlock ∧ some k_ ≠ (.slice Ao30 t836.length co30 : Value).ownBlock ∧ some k_ ≠ (.slice Ao35 t838.length co35 : Value).ownBlock ∧ some k_ ≠ (.slice Ao38 t811.length co38 : Value).ownBlock ∧ some k_ ≠ (.slice Ao44 t817.length co44 : Value).ownBlock) (Kd.R_keptB ((Kd.R_apart' HO_800000.out (Kd.R_typed HO_823001.out) (by decide))) hkp (fun k_ hk_ hs_ => Or.elim hs_ (fun e_ => (hk_.1.2.2.2.1) e_) (fun e_ => Or.elim e_ (fun e_ => (hk_.2) e_) (fun e_ => (hk_.1.2.2.2.2) e_)))) (fun k_ hk_ => ⟨hk_.1.1.1, hk_.1.1.2.1, hk_.1.1.2.2.1, hk_.1.1.2.2.2.1, hk_.1.1.2.2.2.2⟩)); replace HO_800001 := Aside0.mk (Kd.R_mono (ok' := fun k_ => some k_ ≠ (.slice Ao34 t837.length co34 : Value).ownBlock ∧ some k_ ≠ (.slice Ao43 t814.length co43 : Value).ownBlock) (Kd.R_keptB ((Kd.R_apart' (Kd.R_apart' HO_800001.out (Kd.R_typed HO_823000.out) (by decide)) (Kd.R_typed HO_823002.out) (by decide))) hkp (fun k_ hk_ hs_ => Or.elim hs_ (fun e_ => (hk_.1.2) e_) (fun e_ => Or.elim e_ (fun e_ => (hk_.1.1.2) e_) (fun e_ => (hk_.2) e_)))) (fun k_ hk_ => ⟨hk_.1.1.1.1, hk_.1.1.1.2⟩)); replace HO_800002 := Aside0.mk (Kd.R_mono (ok' := fun k_ => some k_ ≠ (.slice Ao22 t788.length co22 : Value).ownBlock ∧ some k_ ≠ (.slice Ao30 t836.length co30 : Value).ownBlock ∧ some k_ ≠ (.slice Ao35 t838.length co35 : Value).ownBlock ∧ some k_ ≠ (.slice Ao38 t811.length co38 : Value).ownBlock ∧ some k_ ≠ (.slice Ao44 t817.length co44 : Value).ownBlock) (Kd.R_keptB ((Kd.R_apart' HO_800002.out (Kd.R_typed HO_823001.out) (by decide))) hkp (fun k_ hk_ hs_ => Or.elim hs_ (fun e_ => (hk_.1.2.2.2.1) e_) (fun e_ => Or.elim e_ (fun e_ => (hk_.2) e_) (fun e_ => (hk_.1.2.2.2.2) e_)))) (fun k_ hk_ => ⟨hk_.1.1.1, hk_.1.1.2.1, hk_.1.1.2.2.1, hk_.1.1.2.2.2.1, hk_.1.1.2.2.2.2⟩)); replace HO_811000 := Aside0.mk (Kd.R_mono (ok' := fun k_ => some k_ ≠ (.slice Ao22 t788.length co22 : Value).ownBlock ∧ some k_ ≠ (.slice Ao26 t794.length co26 : Value).ownBlock ∧ some k_ ≠ (.slice Ao35 t838.length co35 : Value).ownBlock ∧ some k_ ≠ (.slice Ao38 t811.length co38 : Value).ownBlock ∧ some k_ ≠ (.slice Ao44 t817.length co44 : Value).ownBlock) (Kd.R_keptB ((Kd.R_apart' HO_811000.out (Kd.R_typed HO_823001.out) (by decide))) hkp (fun k_ hk_ hs_ => Or.elim hs_ (fun e_ => (hk_.1.2.2.2.1) e_) (fun e_ => Or.elim e_ (fun e_ => (hk_.2) e_) (fun e_ => (hk_.1.2.2.2.2) e_)))) (fun k_ hk_ => ⟨hk_.1.1.1, hk_.1.1.2.1, hk_.1.1.2.2.1, hk_.1.1.2.2.2.1, hk_.1.1.2.2.2.2⟩)); replace HO_811001 := Aside0.mk (Kd.R_mono (ok' := fun k_ => some k_ ≠ (.slice Ao25 t791.length co25 : Value).ownBlock ∧ some k_ ≠ (.slice Ao43 t814.length co43 : Value).ownBlock) (Kd.R_keptB ((Kd.R_apart' (Kd.R_apart' HO_811001.out (Kd.R_typed HO_823000.out) (by decide)) (Kd.R_typed HO_823002.out) (by decide))) hkp (fun k_ hk_ hs_ => Or.elim hs_ (fun e_ => (hk_.1.2) e_) (fun e_ => Or.elim e_ (fun e_ => (hk_.1.1.2) e_) (fun e_ => (hk_.2) e_)))) (fun k_ hk_ => ⟨hk_.1.1.1.1, hk_.1.1.1.2⟩)); replace HO_811002 := Aside0.mk (Kd.R_mono (ok' := fun k_ => some k_ ≠ (.slice Ao22 t788.length co22 : Value).ownBlock ∧ some k_ ≠ (.slice Ao26 t794.length co26 : Value).ownBlock ∧ some k_ ≠ (.slice Ao30 t836.length co30 : Value).ownBlock ∧ some k_ ≠ (.slice Ao38 t811.length co38 : Value).ownBlock ∧ some k_ ≠ (.slice Ao44 t817.length co44 : Value).ownBlock) (Kd.R_keptB ((Kd.R_apart' HO_811002.out (Kd.R_typed HO_823001.out) (by decide))) hkp (fun k_ hk_ hs_ => Or.elim hs_ (fun e_ => (hk_.1.2.2.2.1) e_) (fun e_ => Or.elim e_ (fun e_ => (hk_.2) e_) (fun e_ => (hk_.1.2.2.2.2) e_)))) (fun k_ hk_ => ⟨hk_.1.1.1, hk_.1.1.2.1, hk_.1.1.2.2.1, hk_.1.1.2.2.2.1, hk_.1.1.2.2.2.2⟩)); replace BK776 := Aside0.mk (blk_kept (bk BK776) hkp (fun hs_ => Or.elim hs_ (fun e_ => (fun e_ => (Kd.R_ne HO_823000.out BK776.out (by decide)) e_) e_) (fun e_ => Or.elim e_ (fun e_ => (fun e_ => (Kd.R_ne HO_823001.out BK776.out (by decide)) e_) e_) (fun e_ => (fun e_ => (Kd.R_ne HO_823002.out BK776.out (by decide)) e_) e_)))); replace BK799 := Aside0.mk (blk_kept (bk BK799) hkp (fun hs_ => Or.elim hs_ (fun e_ => (fun e_ => (Kd.R_ne HO_823000.out BK799.out (by decide)) e_) e_) (fun e_ => Or.elim e_ (fun e_ => (fun e_ => (Kd.R_ne HO_823001.out BK799.out (by decide)) e_) e_) (fun e_ => (fun e_ => (Kd.R_ne HO_823002.out BK799.out (by decide)) e_) e_)))); replace BK810 := Aside0.mk (blk_kept (bk BK810) hkp (fun hs_ => Or.elim hs_ (fun e_ => (fun e_ => (Kd.R_ne HO_823000.out BK810.out (by decide)) e_) e_) (fun e_ => Or.elim e_ (fun e_ => (fun e_ => (Kd.R_ne HO_823001.out BK810.out (by decide)) e_) e_) (fun e_ => (fun e_ => (Kd.R_ne HO_823002.out BK810.out (by decide)) e_) e_)))); replace BK822 := Aside0.mk (blk_kept (bk BK822) hkp (fun hs_ => Or.elim hs_ (fun e_ => (fun e_ => (Kd.R_ne HO_823000.out BK822.out (by decide)) e_) e_) (fun e_ => Or.elim e_ (fun e_ => (fun e_ => (Kd.R_ne HO_823001.out BK822.out (by decide)) e_) e_) (fun e_ => (fun e_ => (Kd.R_ne HO_823002.out BK822.out (by decide)) e_) e_)))); replace HO_823000 := Aside0.mk (Kd.R_reok rfl hy0 (fun k_ e_ => HO_823000.out.1 k_ e_)); replace HO_823001 := Aside0.mk (Kd.R_reok rfl hy1 (fun k_ e_ => HO_823001.out.1 k_ e_)); replace HO_823002 := Aside0.mk (Kd.R_reok rfl hy2 (fun k_ e_ => HO_823002.out.1 k_ e_)); replace HB := Aside0.mk (hb); (try clear hb); (try clear hkp); (try clear hy0); (try clear hy1); (try clear hy2); have hcz108_0 : w107.cell? ⟨gb822, 0, none⟩ = some (.slice Ao38 t811.length co38) := (blk_cell BK822.out 0).trans rfl; have hcz108_1 : w107.cell? ⟨gb822, 1, none⟩ = some (.slice Ao43 t814.length co43) := (blk_cell BK822.out 1).trans rfl; have hcz108_2 : w107.cell? ⟨gb822, 2, none⟩ = some (.slice Ao44 t817.length co44) := (blk_cell BK822.out 2).trans rfl; have hcz108_3 : w107.cell? ⟨gb822, 3, none⟩ = some (.int .i64 t820) := (blk_cell BK822.out 3).trans rfl; have hfz108_0 := blk_frozen BK822.out 0; have hfz108_1 := blk_frozen BK822.out 1; have hfz108_2 := blk_frozen BK822.out 2; have hfz108_3 := blk_frozen BK822.out 3) | ((with_reducible refine gate_callee (f := 33) rfl ?_); refine goesL_ (some 67) rfl rfl Try.func33 (by kernel_rfl) rfl #[.agg #[.slice Ao38 t841.length co38, .slice Ao43 t842.length co43, .slice Ao44 t843.length co44, .int .i64 t820], .int .i64 1] rfl (by (try simp only [List.map_toArray, List.map_cons, List.map_nil]); first | done | (rw [show t841.length = t811.length from (Kd.R_reads' HO_823000.out).1.symm, show t842.length = t814.length from (Kd.R_reads' HO_823001.out).1.symm, show t843.length = t817.length from (Kd.R_reads' HO_823002.out).1.symm] <;> rfl) | rfl | (simp only [List.length_drop, List.length_take]; rfl)) ?_; (with_reducible refine (laws_heldStore.calls kj67 _ _ t841 _ _ t842 _ _ t843 t820 1 t844 _ ?side1 ?side2 ?side3 ?side4 ?side5 ?side6 A101.out).mono ?_); (case side1 => exact rc0 HO_823000); (case side2 => rw [show t841.length = t811.length from (Kd.R_reads' HO_823000.out).1.symm]; exact (Kd.R_reads' HO_823000.out).2.1); (case side3 => exact rc0 HO_823001); (case side4 => rw [show t842.length = t814.length from (Kd.R_reads' HO_823001.out).1.symm]; exact (Kd.R_reads' HO_823001.out).2.1); (case side5 => exact rc0 HO_823002); (case side6 => rw [show t843.length = t817.length from (Kd.R_reads' HO_823002.out).1.symm]; exact (Kd.R_reads' HO_823002.out).2.1); rintro e w109 ⟨rfl, hb⟩; refine ⟨_, rfl, ?_⟩; replace HO_800000 := nr HO_800000 hb; replace HO_800001 := nr HO_800001 hb; replace HO_800002 := nr HO_800002 hb; replace HO_811000 := nr HO_811000 hb; replace HO_811001 := nr HO_811001 hb; replace HO_811002 := nr HO_811002 hb; replace HO_823000 := nr HO_823000 hb; replace HO_823001 := nr HO_823001 hb; replace HO_823002 := nr HO_823002 hb; replace BK776 := nb BK776 hb; replace BK799 := nb BK799 hb; replace BK810 := nb BK810 hb; replace BK822 := nb BK822 hb; replace HB := Aside0.mk (below_step (bs4 HB GE776 GE799 GE810 GE822) hb); (try clear hb); (try clear hb2); (try clear hk); (try clear hi)))
          go_ret
          exact ⟨by first | rfl | (simp [errW_none, errW_some] <;> rfl) | (simp [*, errW_none, errW_some] <;> rfl), bs4 HB GE776 GE799 GE810 GE822⟩
         ·
          rw [if_neg c102] at H
          have c102b0 : decide (t844 < 0) = false := decide_eq_false c102
          clear c102
          by_cases c110 : t844 = t840
          ·
           rw [if_pos c110] at H
           have c110b0 : (t844 == t840) = true := beq_iff_eq.mpr c110
           have c110b1 : (t844 != t840) = false := bne_eq_false_iff_eq.mpr c110
           clear c110
           replace H := Option.bind_eq_some_iff.mp H
           obtain ⟨⟨t845, t848, t851, t854⟩, A1110, H⟩ := H
           replace H : ((impl_SyncLog.f kj67 t845 t848 t851 t854).bind fun bt855 => ((laws_eqStore.f kj67 bt855.1 bt855.2.1 bt855.2.2.1 bt855.2.2.2.1 t788 t791 t794 t797).bind fun t867 => (if t867 = true then (laws_FnExactSyncLog.j2 kj67 t840 (bt855.2.2.2.2 != t798) t841 t842 t843 t820) else (laws_FnExactSyncLog.j2 kj67 t840 true t841 t842 t843 t820)))) = some r := H
           have A111 := Aside0.mk A1110
           clear A1110
           replace H := Option.bind_eq_some_iff.mp H
           obtain ⟨⟨t855, t858, t861, t864, t865⟩, A1120, H⟩ := H
           replace H : ((laws_eqStore.f kj67 t855 t858 t861 t864 t788 t791 t794 t797).bind fun t867 => (if t867 = true then (laws_FnExactSyncLog.j2 kj67 t840 (t865 != t798) t841 t842 t843 t820) else (laws_FnExactSyncLog.j2 kj67 t840 true t841 t842 t843 t820))) = some r := H
           have A112 := Aside0.mk A1120
           clear A1120
           have HC113 := Aside0.mk H
           clear H
           have hnb114 := NB822_776.out
           have hnc114 := NB776_822.out
           have hnb115 := NB822_799.out
           have hnc115 := NB799_822.out
           have hnb116 := NB822_810.out
           have hnc116 := NB810_822.out
           have hcz117_0 : wc.cell? ⟨gb822, 0, none⟩ = some (.slice Ao38 t811.length co38) := (blk_cell BK822.out 0).trans rfl
           have hcz117_1 : wc.cell? ⟨gb822, 1, none⟩ = some (.slice Ao43 t814.length co43) := (blk_cell BK822.out 1).trans rfl
           have hcz117_2 : wc.cell? ⟨gb822, 2, none⟩ = some (.slice Ao44 t817.length co44) := (blk_cell BK822.out 2).trans rfl
           have hcz117_3 : wc.cell? ⟨gb822, 3, none⟩ = some (.int .i64 t820) := (blk_cell BK822.out 3).trans rfl
           have hfz117_0 := blk_frozen BK822.out 0
           have hfz117_1 := blk_frozen BK822.out 1
           have hfz117_2 := blk_frozen BK822.out 2
           have hfz117_3 := blk_frozen BK822.out 3
           go_upto_region 25 with (first | ((with_reducible refine gate_callee (f := 32) rfl ?_); refine goesL_ (some 64) rfl rfl Try.func32 (by kernel_rfl) rfl #[.agg #[.slice Ao38 t811.length co38, .slice Ao43 t814.length co43, .slice Ao44 t817.length co44, .int .i64 t820], .int .i64 1] rfl (by (try simp only [List.map_toArray, List.map_cons, List.map_nil]); first | done | rfl | (simp only [List.length_drop, List.length_take]; rfl)) ?_; (with_reducible refine (laws_markStore.calls kj67 (fun k_ => some k_ = (.slice Ao38 t811.length co38 : Value).ownBlock) (.slice Ao38 t811.length co38) t811 (fun k_ => some k_ = (.slice Ao43 t814.length co43 : Value).ownBlock) (.slice Ao43 t814.length co43) t814 (fun k_ => some k_ = (.slice Ao44 t817.length co44 : Value).ownBlock) (.slice Ao44 t817.length co44) t817 t820 1 t840 t841 t842 t843 w _ ?side1 ?side2 ?side3 ?side4 ?side5 ?side6 A100.out).mono ?_); (case side1 => repeat (first | (with_reducible first | exact HB.out | apply below_alloc | apply pw_below_drewN | apply below_drew1 | refine below_set ?_ GE776.out | refine below_set ?_ GE799.out | refine below_set ?_ GE810.out | refine below_set ?_ GE822.out) | exact HB.out)); (case side2 => exact Kd.R_tight rfl HO_823000.out); (case side3 => exact fun k_ e_ => (HO_823000.out.1 k_ e_.symm).2.2.2.2); (case side4 => exact Kd.R_tight rfl HO_823001.out); (case side5 => exact Kd.R_tight rfl HO_823002.out); (case side6 => exact fun k_ e_ => (HO_823002.out.1 k_ e_.symm).2.2.2.2); rintro e w118 ⟨rfl, hy0, hy1, hy2, hb, hkp⟩; refine ⟨_, rfl, ?_⟩; replace HO_800000 := Aside0.mk (Kd.R_mono (ok' := fun k_ => some k_ ≠ (.slice Ao26 t794.length co26 : Value).ownBlock ∧ some k_ ≠ (.slice Ao30 t836.length co30 : Value).ownBlock ∧ some k_ ≠ (.slice Ao35 t838.length co35 : Value).ownBlock ∧ some k_ ≠ (.slice Ao38 t811.length co38 : Value).ownBlock ∧ some k_ ≠ (.slice Ao44 t817.length co44 : Value).ownBlock) (Kd.R_keptB ((Kd.R_apart' HO_800000.out (Kd.R_typed HO_823001.out) (by decide))) hkp (fun k_ hk_ hs_ => Or.elim hs_ (fun e_ => (hk_.1.2.2.2.1) e_) (fun e_ => Or.elim e_ (fun e_ => (hk_.2) e_) (fun e_ => (hk_.1.2.2.2.2) e_)))) (fun k_ hk_ => ⟨hk_.1.1.1, hk_.1.1.2.1, hk_.1.1.2.2.1, hk_.1.1.2.2.2.1, hk_.1.1.2.2.2.2⟩)); replace HO_800001 := Aside0.mk (Kd.R_mono (ok' := fun k_ => some k_ ≠ (.slice Ao34 t837.length co34 : Value).ownBlock ∧ some k_ ≠ (.slice Ao43 t814.length co43 : Value).ownBlock) (Kd.R_keptB ((Kd.R_apart' (Kd.R_apart' HO_800001.out (Kd.R_typed HO_823000.out) (by decide)) (Kd.R_typed HO_823002.out) (by decide))) hkp (fun k_ hk_ hs_ => Or.elim hs_ (fun e_ => (hk_.1.2) e_) (fun e_ => Or.elim e_ (fun e_ => (hk_.1.1.2) e_) (fun e_ => (hk_.2) e_)))) (fun k_ hk_ => ⟨hk_.1.1.1.1, hk_.1.1.1.2⟩)); replace HO_800002 := Aside0.mk (Kd.R_mono (ok' := fun k_ => some k_ ≠ (.slice Ao22 t788.length co22 : Value).ownBlock ∧ some k_ ≠ (.slice Ao30 t836.length co30 : Value).ownBlock ∧ some k_ ≠ (.slice Ao35 t838.length co35 : Value).ownBlock ∧ some k_ ≠ (.slice Ao38 t811.length co38 : Value).ownBlock ∧ some k_ ≠ (.slice Ao44 t817.length co44 : Value).ownBlock) (Kd.R_keptB ((Kd.R_apart' HO_800002.out (Kd.R_typed HO_823001.out) (by decide))) hkp (fun k_ hk_ hs_ => Or.elim hs_ (fun e_ => (hk_.1.2.2.2.1) e_) (fun e_ => Or.elim e_ (fun e_ => (hk_.2) e_) (fun e_ => (hk_.1.2.2.2.2) e_)))) (fun k_ hk_ => ⟨hk_.1.1.1, hk_.1.1.2.1, hk_.1.1.2.2.1, hk_.1.1.2.2.2.1, hk_.1.1.2.2.2.2⟩)); replace HO_811000 := Aside0.mk (Kd.R_mono (ok' := fun k_ => some k_ ≠ (.slice Ao22 t788.length co22 : Value).ownBlock ∧ some k_ ≠ (.slice Ao26 t794.length co26 : Value).ownBlock ∧ some k_ ≠ (.slice Ao35 t838.length co35 : Value).ownBlock ∧ some k_ ≠ (.slice Ao38 t811.length co38 : Value).ownBlock ∧ some k_ ≠ (.slice Ao44 t817.length co44 : Value).ownBlock) (Kd.R_keptB ((Kd.R_apart' HO_811000.out (Kd.R_typed HO_823001.out) (by decide))) hkp (fun k_ hk_ hs_ => Or.elim hs_ (fun e_ => (hk_.1.2.2.2.1) e_) (fun e_ => Or.elim e_ (fun e_ => (hk_.2) e_) (fun e_ => (hk_.1.2.2.2.2) e_)))) (fun k_ hk_ => ⟨hk_.1.1.1, hk_.1.1.2.1, hk_.1.1.2.2.1, hk_.1.1.2.2.2.1, hk_.1.1.2.2.2.2⟩)); replace HO_811001 := Aside0.mk (Kd.R_mono (ok' := fun k_ => some k_ ≠ (.slice Ao25 t791.length co25 : Value).ownBlock ∧ some k_ ≠ (.slice Ao43 t814.length co43 : Value).ownBlock) (Kd.R_keptB ((Kd.R_apart' (Kd.R_apart' HO_811001.out (Kd.R_typed HO_823000.out) (by decide)) (Kd.R_typed HO_823002.out) (by decide))) hkp (fun k_ hk_ hs_ => Or.elim hs_ (fun e_ => (hk_.1.2) e_) (fun e_ => Or.elim e_ (fun e_ => (hk_.1.1.2) e_) (fun e_ => (hk_.2) e_)))) (fun k_ hk_ => ⟨hk_.1.1.1.1, hk_.1.1.1.2⟩)); replace HO_811002 := Aside0.mk (Kd.R_mono (ok' := fun k_ => some k_ ≠ (.slice Ao22 t788.length co22 : Value).ownBlock ∧ some k_ ≠ (.slice Ao26 t794.length co26 : Value).ownBlock ∧ some k_ ≠ (.slice Ao30 t836.length co30 : Value).ownBlock ∧ some k_ ≠ (.slice Ao38 t811.length co38 : Value).ownBlock ∧ some k_ ≠ (.slice Ao44 t817.length co44 : Value).ownBlock) (Kd.R_keptB ((Kd.R_apart' HO_811002.out (Kd.R_typed HO_823001.out) (by decide))) hkp (fun k_ hk_ hs_ => Or.elim hs_ (fun e_ => (hk_.1.2.2.2.1) e_) (fun e_ => Or.elim e_ (fun e_ => (hk_.2) e_) (fun e_ => (hk_.1.2.2.2.2) e_)))) (fun k_ hk_ => ⟨hk_.1.1.1, hk_.1.1.2.1, hk_.1.1.2.2.1, hk_.1.1.2.2.2.1, hk_.1.1.2.2.2.2⟩)); replace BK776 := Aside0.mk (blk_kept (bk BK776) hkp (fun hs_ => Or.elim hs_ (fun e_ => (fun e_ => (Kd.R_ne HO_823000.out BK776.out (by decide)) e_) e_) (fun e_ => Or.elim e_ (fun e_ => (fun e_ => (Kd.R_ne HO_823001.out BK776.out (by decide)) e_) e_) (fun e_ => (fun e_ => (Kd.R_ne HO_823002.out BK776.out (by decide)) e_) e_)))); replace BK799 := Aside0.mk (blk_kept (bk BK799) hkp (fun hs_ => Or.elim hs_ (fun e_ => (fun e_ => (Kd.R_ne HO_823000.out BK799.out (by decide)) e_) e_) (fun e_ => Or.elim e_ (fun e_ => (fun e_ => (Kd.R_ne HO_823001.out BK799.out (by decide)) e_) e_) (fun e_ => (fun e_ => (Kd.R_ne HO_823002.out BK799.out (by decide)) e_) e_)))); replace BK810 := Aside0.mk (blk_kept (bk BK810) hkp (fun hs_ => Or.elim hs_ (fun e_ => (fun e_ => (Kd.R_ne HO_823000.out BK810.out (by decide)) e_) e_) (fun e_ => Or.elim e_ (fun e_ => (fun e_ => (Kd.R_ne HO_823001.out BK810.out (by decide)) e_) e_) (fun e_ => (fun e_ => (Kd.R_ne HO_823002.out BK810.out (by decide)) e_) e_)))); replace BK822 := Aside0.mk (blk_kept (bk BK822) hkp (fun hs_ => Or.elim hs_ (fun e_ => (fun e_ => (Kd.R_ne HO_823000.out BK822.out (by decide)) e_) e_) (fun e_ => Or.elim e_ (fun e_ => (fun e_ => (Kd.R_ne HO_823001.out BK822.out (by decide)) e_) e_) (fun e_ => (fun e_ => (Kd.R_ne HO_823002.out BK822.out (by decide)) e_) e_)))); replace HO_823000 := Aside0.mk (Kd.R_reok rfl hy0 (fun k_ e_ => HO_823000.out.1 k_ e_)); replace HO_823001 := Aside0.mk (Kd.R_reok rfl hy1 (fun k_ e_ => HO_823001.out.1 k_ e_)); replace HO_823002 := Aside0.mk (Kd.R_reok rfl hy2 (fun k_ e_ => HO_823002.out.1 k_ e_)); replace HB := Aside0.mk (hb); (try clear hb); (try clear hkp); (try clear hy0); (try clear hy1); (try clear hy2); have hcz119_0 : w118.cell? ⟨gb822, 0, none⟩ = some (.slice Ao38 t811.length co38) := (blk_cell BK822.out 0).trans rfl; have hcz119_1 : w118.cell? ⟨gb822, 1, none⟩ = some (.slice Ao43 t814.length co43) := (blk_cell BK822.out 1).trans rfl; have hcz119_2 : w118.cell? ⟨gb822, 2, none⟩ = some (.slice Ao44 t817.length co44) := (blk_cell BK822.out 2).trans rfl; have hcz119_3 : w118.cell? ⟨gb822, 3, none⟩ = some (.int .i64 t820) := (blk_cell BK822.out 3).trans rfl; have hfz119_0 := blk_frozen BK822.out 0; have hfz119_1 := blk_frozen BK822.out 1; have hfz119_2 := blk_frozen BK822.out 2; have hfz119_3 := blk_frozen BK822.out 3) | ((with_reducible refine gate_callee (f := 33) rfl ?_); refine goesL_ (some 67) rfl rfl Try.func33 (by kernel_rfl) rfl #[.agg #[.slice Ao38 t841.length co38, .slice Ao43 t842.length co43, .slice Ao44 t843.length co44, .int .i64 t820], .int .i64 1] rfl (by (try simp only [List.map_toArray, List.map_cons, List.map_nil]); first | done | (rw [show t841.length = t811.length from (Kd.R_reads' HO_823000.out).1.symm, show t842.length = t814.length from (Kd.R_reads' HO_823001.out).1.symm, show t843.length = t817.length from (Kd.R_reads' HO_823002.out).1.symm] <;> rfl) | rfl | (simp only [List.length_drop, List.length_take]; rfl)) ?_; (with_reducible refine (laws_heldStore.calls kj67 _ _ t841 _ _ t842 _ _ t843 t820 1 t844 _ ?side1 ?side2 ?side3 ?side4 ?side5 ?side6 A101.out).mono ?_); (case side1 => exact rc0 HO_823000); (case side2 => rw [show t841.length = t811.length from (Kd.R_reads' HO_823000.out).1.symm]; exact (Kd.R_reads' HO_823000.out).2.1); (case side3 => exact rc0 HO_823001); (case side4 => rw [show t842.length = t814.length from (Kd.R_reads' HO_823001.out).1.symm]; exact (Kd.R_reads' HO_823001.out).2.1); (case side5 => exact rc0 HO_823002); (case side6 => rw [show t843.length = t817.length from (Kd.R_reads' HO_823002.out).1.symm]; exact (Kd.R_reads' HO_823002.out).2.1); rintro e w120 ⟨rfl, hb⟩; refine ⟨_, rfl, ?_⟩; replace HO_800000 := nr HO_800000 hb; replace HO_800001 := nr HO_800001 hb; replace HO_800002 := nr HO_800002 hb; replace HO_811000 := nr HO_811000 hb; replace HO_811001 := nr HO_811001 hb; replace HO_811002 := nr HO_811002 hb; replace HO_823000 := nr HO_823000 hb; replace HO_823001 := nr HO_823001 hb; replace HO_823002 := nr HO_823002 hb; replace BK776 := nb BK776 hb; replace BK799 := nb BK799 hb; replace BK810 := nb BK810 hb; replace BK822 := nb BK822 hb; replace HB := Aside0.mk (below_step (bs4 HB GE776 GE799 GE810 GE822) hb); (try clear hb); (try clear hb2); (try clear hk); (try clear hi); have hnb121 := NB776_799.out; have hnc121 := NB799_776.out; have hnb122 := NB776_810.out; have hnc122 := NB810_776.out; have hcz123_0 : w120.cell? ⟨gb776, 0, none⟩ = some (.slice A0_0 l0_0.length c0_0) := (blk_cell BK776.out 0).trans rfl; have hcz123_1 : w120.cell? ⟨gb776, 1, none⟩ = some (.slice A0_1 l0_1.length c0_1) := (blk_cell BK776.out 1).trans rfl; have hcz123_2 : w120.cell? ⟨gb776, 2, none⟩ = some (.slice A0_2 l0_2.length c0_2) := (blk_cell BK776.out 2).trans rfl; have hcz123_3 : w120.cell? ⟨gb776, 3, none⟩ = some (.int .i64 a0_3) := (blk_cell BK776.out 3).trans rfl; have hfz123_0 := blk_frozen BK776.out 0; have hfz123_1 := blk_frozen BK776.out 1; have hfz123_2 := blk_frozen BK776.out 2; have hfz123_3 := blk_frozen BK776.out 3) | ((with_reducible refine gate_callee (f := 27) rfl ?_); refine goesL_ (some 75) rfl rfl Try.func27 (by kernel_rfl) rfl #[.agg #[.slice A0_0 l0_0.length c0_0, .slice A0_1 l0_1.length c0_1, .slice A0_2 l0_2.length c0_2, .int .i64 a0_3]] rfl (by (try simp only [List.map_toArray, List.map_cons, List.map_nil]); first | done | rfl | (simp only [List.length_drop, List.length_take]; rfl)) ?_; (with_reducible refine (laws_toStore.calls kj67 _ _ l0_0 _ _ l0_1 _ _ l0_2 a0_3 t845 t848 t851 t854 _ ?side1 ?side2 ?side3 ?side4 ?side5 ?side6 A111.out).mono ?_); (case side1 => exact cb HR0_0 HB); (case side2 => exact HC0_0.out); (case side3 => exact cb HR0_1 HB); (case side4 => exact HC0_1.out); (case side5 => exact cb HR0_2 HB); (case side6 => exact HC0_2.out); rintro e w124 ⟨v846, v849, v852, rfl, ho0, ho1, ho2, hb⟩; refine ⟨_, rfl, ?_⟩; have HO847 := Aside0.mk (Kd.R_lower (Kd.R_new' (Kd.R_new' (Kd.R_new' (Kd.R_new' (Kd.R_new' (Kd.R_new' ho0 (Kd.R_lt (rr HO_800000.out))) (Kd.R_lt (rr HO_800002.out))) (Kd.R_lt (rr HO_811000.out))) (Kd.R_lt (rr HO_811002.out))) (Kd.R_lt (rr HO_823000.out))) (Kd.R_lt (rr HO_823002.out))) (below_size (bs4 HB GE776 GE799 GE810 GE822))); have HO850 := Aside0.mk (Kd.R_lower (Kd.R_new' (Kd.R_new' (Kd.R_new' ho1 (Kd.R_lt (rr HO_800001.out))) (Kd.R_lt (rr HO_811001.out))) (Kd.R_lt (rr HO_823001.out))) (below_size (bs4 HB GE776 GE799 GE810 GE822))); replace HO_800001 := Aside0.mk (Kd.R_elder' (rr HO_800001.out) (Kd.R_base ho1) hb); replace HO_811001 := Aside0.mk (Kd.R_elder' (rr HO_811001.out) (Kd.R_base ho1) hb); replace HO_823001 := Aside0.mk (Kd.R_elder' (rr HO_823001.out) (Kd.R_base ho1) hb); have HO853 := Aside0.mk (Kd.R_lower (Kd.R_new' (Kd.R_new' (Kd.R_new' (Kd.R_new' (Kd.R_new' (Kd.R_new' ho2 (Kd.R_lt (rr HO_800000.out))) (Kd.R_lt (rr HO_800002.out))) (Kd.R_lt (rr HO_811000.out))) (Kd.R_lt (rr HO_811002.out))) (Kd.R_lt (rr HO_823000.out))) (Kd.R_lt (rr HO_823002.out))) (below_size (bs4 HB GE776 GE799 GE810 GE822))); replace HO_800000 := Aside0.mk (Kd.R_mono (Kd.R_told (Kd.R_told (Kd.R_old (rr HO_800000.out) hb) (Kd.R_base ho0)) (Kd.R_base ho2)) (fun _ h_ => h_.1)); replace HO_800002 := Aside0.mk (Kd.R_mono (Kd.R_told (Kd.R_told (Kd.R_old (rr HO_800002.out) hb) (Kd.R_base ho0)) (Kd.R_base ho2)) (fun _ h_ => h_.1)); replace HO_811000 := Aside0.mk (Kd.R_mono (Kd.R_told (Kd.R_told (Kd.R_old (rr HO_811000.out) hb) (Kd.R_base ho0)) (Kd.R_base ho2)) (fun _ h_ => h_.1)); replace HO_811002 := Aside0.mk (Kd.R_mono (Kd.R_told (Kd.R_told (Kd.R_old (rr HO_811002.out) hb) (Kd.R_base ho0)) (Kd.R_base ho2)) (fun _ h_ => h_.1)); replace HO_823000 := Aside0.mk (Kd.R_mono (Kd.R_told (Kd.R_told (Kd.R_old (rr HO_823000.out) hb) (Kd.R_base ho0)) (Kd.R_base ho2)) (fun _ h_ => h_.1)); replace HO_823002 := Aside0.mk (Kd.R_mono (Kd.R_told (Kd.R_told (Kd.R_old (rr HO_823002.out) hb) (Kd.R_base ho0)) (Kd.R_base ho2)) (fun _ h_ => h_.1)); replace BK776 := nb BK776 hb; replace BK799 := nb BK799 hb; replace BK810 := nb BK810 hb; replace BK822 := nb BK822 hb; replace HB := Aside0.mk (below_step (bs4 HB GE776 GE799 GE810 GE822) hb); (try clear hb); (try clear hb2); (try clear hk); (try clear hi); (try clear ho0); (try clear ho1); (try clear ho2); obtain ⟨Ao125, co125, eo125⟩ := Kd.R_slice HO847.out; subst eo125; obtain ⟨Ao126, co126, eo126⟩ := Kd.R_slice HO850.out; subst eo126; obtain ⟨Ao127, co127, eo127⟩ := Kd.R_slice HO853.out; subst eo127) | ((with_reducible refine gate_callee (f := 42) rfl ?_); refine goesL_ (some 76) rfl rfl Try.func42 (by kernel_rfl) rfl #[.agg #[.slice Ao125 t845.length co125, .slice Ao126 t848.length co126, .slice Ao127 t851.length co127, .int .i64 t854]] rfl (by (try simp only [List.map_toArray, List.map_cons, List.map_nil]); first | done | rfl | (simp only [List.length_drop, List.length_take]; rfl)) ?_; (with_reducible refine (impl_SyncLog.calls kj67 _ _ t845 _ _ t848 _ _ t851 t854 t855 t858 t861 t864 t865 _ ?side1 ?side2 ?side3 ?side4 ?side5 ?side6 A112.out).mono ?_); (case side1 => exact rc0 HO847); (case side2 => exact (Kd.R_reads' HO847.out).2.1); (case side3 => exact rc0 HO850); (case side4 => exact (Kd.R_reads' HO850.out).2.1); (case side5 => exact rc0 HO853); (case side6 => exact (Kd.R_reads' HO853.out).2.1); rintro e w128 ⟨v856, v859, v862, rfl, ho0, ho1, ho2, hb⟩; refine ⟨_, rfl, ?_⟩; have HO857 := Aside0.mk (Kd.R_lower (Kd.R_new' (Kd.R_new' (Kd.R_new' (Kd.R_new' (Kd.R_new' (Kd.R_new' (Kd.R_new' (Kd.R_new' ho0 (Kd.R_lt (rr HO_800000.out))) (Kd.R_lt (rr HO_800002.out))) (Kd.R_lt (rr HO_811000.out))) (Kd.R_lt (rr HO_811002.out))) (Kd.R_lt (rr HO_823000.out))) (Kd.R_lt (rr HO_823002.out))) (Kd.R_lt (rr HO847.out))) (Kd.R_lt (rr HO853.out))) (below_size (bs4 HB GE776 GE799 GE810 GE822))); have HO860 := Aside0.mk (Kd.R_lower (Kd.R_new' (Kd.R_new' (Kd.R_new' (Kd.R_new' ho1 (Kd.R_lt (rr HO_800001.out))) (Kd.R_lt (rr HO_811001.out))) (Kd.R_lt (rr HO_823001.out))) (Kd.R_lt (rr HO850.out))) (below_size (bs4 HB GE776 GE799 GE810 GE822))); replace HO_800001 := Aside0.mk (Kd.R_elder' (rr HO_800001.out) (Kd.R_base ho1) hb); replace HO_811001 := Aside0.mk (Kd.R_elder' (rr HO_811001.out) (Kd.R_base ho1) hb); replace HO_823001 := Aside0.mk (Kd.R_elder' (rr HO_823001.out) (Kd.R_base ho1) hb); replace HO850 := Aside0.mk (Kd.R_elder' (rr HO850.out) (Kd.R_base ho1) hb); have HO863 := Aside0.mk (Kd.R_lower (Kd.R_new' (Kd.R_new' (Kd.R_new' (Kd.R_new' (Kd.R_new' (Kd.R_new' (Kd.R_new' (Kd.R_new' ho2 (Kd.R_lt (rr HO_800000.out))) (Kd.R_lt (rr HO_800002.out))) (Kd.R_lt (rr HO_811000.out))) (Kd.R_lt (rr HO_811002.out))) (Kd.R_lt (rr HO_823000.out))) (Kd.R_lt (rr HO_823002.out))) (Kd.R_lt (rr HO847.out))) (Kd.R_lt (rr HO853.out))) (below_size (bs4 HB GE776 GE799 GE810 GE822))); replace HO_800000 := Aside0.mk (Kd.R_mono (Kd.R_told (Kd.R_told (Kd.R_old (rr HO_800000.out) hb) (Kd.R_base ho0)) (Kd.R_base ho2)) (fun _ h_ => h_.1)); replace HO_800002 := Aside0.mk (Kd.R_mono (Kd.R_told (Kd.R_told (Kd.R_old (rr HO_800002.out) hb) (Kd.R_base ho0)) (Kd.R_base ho2)) (fun _ h_ => h_.1)); replace HO_811000 := Aside0.mk (Kd.R_mono (Kd.R_told (Kd.R_told (Kd.R_old (rr HO_811000.out) hb) (Kd.R_base ho0)) (Kd.R_base ho2)) (fun _ h_ => h_.1)); replace HO_811002 := Aside0.mk (Kd.R_mono (Kd.R_told (Kd.R_told (Kd.R_old (rr HO_811002.out) hb) (Kd.R_base ho0)) (Kd.R_base ho2)) (fun _ h_ => h_.1)); replace HO_823000 := Aside0.mk (Kd.R_mono (Kd.R_told (Kd.R_told (Kd.R_old (rr HO_823000.out) hb) (Kd.R_base ho0)) (Kd.R_base ho2)) (fun _ h_ => h_.1)); replace HO_823002 := Aside0.mk (Kd.R_mono (Kd.R_told (Kd.R_told (Kd.R_old (rr HO_823002.out) hb) (Kd.R_base ho0)) (Kd.R_base ho2)) (fun _ h_ => h_.1)); replace HO847 := Aside0.mk (Kd.R_mono (Kd.R_told (Kd.R_told (Kd.R_old (rr HO847.out) hb) (Kd.R_base ho0)) (Kd.R_base ho2)) (fun _ h_ => h_.1)); replace HO853 := Aside0.mk (Kd.R_mono (Kd.R_told (Kd.R_told (Kd.R_old (rr HO853.out) hb) (Kd.R_base ho0)) (Kd.R_base ho2)) (fun _ h_ => h_.1)); replace BK776 := nb BK776 hb; replace BK799 := nb BK799 hb; replace BK810 := nb BK810 hb; replace BK822 := nb BK822 hb; replace HB := Aside0.mk (below_step (bs4 HB GE776 GE799 GE810 GE822) hb); (try clear hb); (try clear hb2); (try clear hk); (try clear hi); (try clear ho0); (try clear ho1); (try clear ho2)) | ((with_reducible refine gate_dst (N := 12) rfl ?_); refine box_event ?hg (N := 12) ?hd (cs := #[.slice none 0 0, .slice none 0 0, .slice none 0 0, .int .i64 0]) (t := 44) ?hr ?_; (case hd => rfl); (case hg => rfl); (case hr => first | (go_simp; done) | (go_simp; rfl)); intro gb866 hg w129 hbox hb; replace HO_800000 := nr HO_800000 hb; replace HO_800001 := nr HO_800001 hb; replace HO_800002 := nr HO_800002 hb; replace HO_811000 := nr HO_811000 hb; replace HO_811001 := nr HO_811001 hb; replace HO_811002 := nr HO_811002 hb; replace HO_823000 := nr HO_823000 hb; replace HO_823001 := nr HO_823001 hb; replace HO_823002 := nr HO_823002 hb; replace HO847 := nr HO847 hb; replace HO850 := nr HO850 hb; replace HO853 := nr HO853 hb; replace HO857 := nr HO857 hb; replace HO860 := nr HO860 hb; replace HO863 := nr HO863 hb; have BK866 := Aside0.mk (hbox); have GW866 := Aside0.mk ((by rw [hg]; exact (below_size (bs4 HB GE776 GE799 GE810 GE822)) : w.heap.size ≤ gb866)); have GE866 := Aside0.mk ((by rw [hg]; exact (below_size (bs4 HB GE776 GE799 GE810 GE822)) : w.heap.size ≤ gb866)); replace HB := Aside0.mk (below_step (bs4 HB GE776 GE799 GE810 GE822) hb); have NB776_866 := Aside0.mk ((bn BK776 hg : gb776 ≠ gb866)); have NB866_776 := Aside0.mk ((bm BK776 hg : gb866 ≠ gb776)); replace BK776 := nb BK776 hb; have NB799_866 := Aside0.mk ((bn BK799 hg : gb799 ≠ gb866)); have NB866_799 := Aside0.mk ((bm BK799 hg : gb866 ≠ gb799)); replace BK799 := nb BK799 hb; have NB810_866 := Aside0.mk ((bn BK810 hg : gb810 ≠ gb866)); have NB866_810 := Aside0.mk ((bm BK810 hg : gb866 ≠ gb810)); replace BK810 := nb BK810 hb; have NB822_866 := Aside0.mk ((bn BK822 hg : gb822 ≠ gb866)); have NB866_822 := Aside0.mk ((bm BK822 hg : gb866 ≠ gb822)); replace BK822 := nb BK822 hb; clear hb hbox hg; obtain ⟨Ao130, co130, eo130⟩ := Kd.R_slice HO857.out; subst eo130; have hnb131 := NB866_776.out; have hnc131 := NB776_866.out; have hnb132 := NB866_799.out; have hnc132 := NB799_866.out; have hnb133 := NB866_810.out; have hnc133 := NB810_866.out; have hnb134 := NB866_822.out; have hnc134 := NB822_866.out; have hcz135_0 : w129.cell? ⟨gb866, 0, none⟩ = some (.slice none 0 0) := (blk_cell BK866.out 0).trans rfl; have hcz135_1 : w129.cell? ⟨gb866, 1, none⟩ = some (.slice none 0 0) := (blk_cell BK866.out 1).trans rfl; have hcz135_2 : w129.cell? ⟨gb866, 2, none⟩ = some (.slice none 0 0) := (blk_cell BK866.out 2).trans rfl; have hcz135_3 : w129.cell? ⟨gb866, 3, none⟩ = some (.int .i64 0) := (blk_cell BK866.out 3).trans rfl; have hfz135_0 := blk_frozen BK866.out 0; have hfz135_1 := blk_frozen BK866.out 1; have hfz135_2 := blk_frozen BK866.out 2; have hfz135_3 := blk_frozen BK866.out 3; obtain ⟨Ao136, co136, eo136⟩ := Kd.R_slice HO860.out; subst eo136; obtain ⟨Ao137, co137, eo137⟩ := Kd.R_slice HO863.out; subst eo137))
           (try simp only [Act.put, List.setIfInBounds_toArray, List.set_cons_zero, List.set_cons_succ])
           go_cut [87] (fun v87 wc => ∃ (kq : Nat) (x87_112 : Bool), v87 = .bool x87_112 ∧ Aside0 (laws_FnExactSyncLog.j2 kq t840 x87_112 t841 t842 t843 t820 = some r) ∧ Aside0 (kq ≤ kj67) ∧ Aside0 (Kd.R Kd.string 9 wc w.heap.size (fun k_ => some k_ ≠ ((.slice Ao26 t794.length co26) : Value).ownBlock ∧ some k_ ≠ ((.slice Ao30 t836.length co30) : Value).ownBlock ∧ some k_ ≠ ((.slice Ao35 t838.length co35) : Value).ownBlock ∧ some k_ ≠ ((.slice Ao38 t811.length co38) : Value).ownBlock ∧ some k_ ≠ ((.slice Ao44 t817.length co44) : Value).ownBlock ∧ some k_ ≠ ((.slice Ao130 t855.length co130) : Value).ownBlock ∧ some k_ ≠ ((.slice Ao137 t861.length co137) : Value).ownBlock) (.slice Ao22 t788.length co22) t788) ∧ Aside0 (Kd.R k72 72 wc w.heap.size (fun k_ => some k_ ≠ ((.slice Ao34 t837.length co34) : Value).ownBlock ∧ some k_ ≠ ((.slice Ao43 t814.length co43) : Value).ownBlock ∧ some k_ ≠ ((.slice Ao136 t858.length co136) : Value).ownBlock) (.slice Ao25 t791.length co25) t791) ∧ Aside0 (Kd.R Kd.string 9 wc w.heap.size (fun k_ => some k_ ≠ ((.slice Ao22 t788.length co22) : Value).ownBlock ∧ some k_ ≠ ((.slice Ao30 t836.length co30) : Value).ownBlock ∧ some k_ ≠ ((.slice Ao35 t838.length co35) : Value).ownBlock ∧ some k_ ≠ ((.slice Ao38 t811.length co38) : Value).ownBlock ∧ some k_ ≠ ((.slice Ao44 t817.length co44) : Value).ownBlock ∧ some k_ ≠ ((.slice Ao130 t855.length co130) : Value).ownBlock ∧ some k_ ≠ ((.slice Ao137 t861.length co137) : Value).ownBlock) (.slice Ao26 t794.length co26) t794) ∧ Aside0 (Kd.R Kd.string 9 wc w.heap.size (fun k_ => some k_ ≠ ((.slice Ao22 t788.length co22) : Value).ownBlock ∧ some k_ ≠ ((.slice Ao26 t794.length co26) : Value).ownBlock ∧ some k_ ≠ ((.slice Ao35 t838.length co35) : Value).ownBlock ∧ some k_ ≠ ((.slice Ao38 t811.length co38) : Value).ownBlock ∧ some k_ ≠ ((.slice Ao44 t817.length co44) : Value).ownBlock ∧ some k_ ≠ ((.slice Ao130 t855.length co130) : Value).ownBlock ∧ some k_ ≠ ((.slice Ao137 t861.length co137) : Value).ownBlock) (.slice Ao30 t836.length co30) t836) ∧ Aside0 (Kd.R k72 72 wc w.heap.size (fun k_ => some k_ ≠ ((.slice Ao25 t791.length co25) : Value).ownBlock ∧ some k_ ≠ ((.slice Ao43 t814.length co43) : Value).ownBlock ∧ some k_ ≠ ((.slice Ao136 t858.length co136) : Value).ownBlock) (.slice Ao34 t837.length co34) t837) ∧ Aside0 (Kd.R Kd.string 9 wc w.heap.size (fun k_ => some k_ ≠ ((.slice Ao22 t788.length co22) : Value).ownBlock ∧ some k_ ≠ ((.slice Ao26 t794.length co26) : Value).ownBlock ∧ some k_ ≠ ((.slice Ao30 t836.length co30) : Value).ownBlock ∧ some k_ ≠ ((.slice Ao38 t811.length co38) : Value).ownBlock ∧ some k_ ≠ ((.slice Ao44 t817.length co44) : Value).ownBlock ∧ some k_ ≠ ((.slice Ao130 t855.length co130) : Value).ownBlock ∧ some k_ ≠ ((.slice Ao137 t861.length co137) : Value).ownBlock) (.slice Ao35 t838.length co35) t838) ∧ Aside0 (Kd.R Kd.string 9 wc w.heap.size (fun k_ => some k_ ≠ ((.slice Ao22 t788.length co22) : Value).ownBlock ∧ some k_ ≠ ((.slice Ao26 t794.length co26) : Value).ownBlock ∧ some k_ ≠ ((.slice Ao30 t836.length co30) : Value).ownBlock ∧ some k_ ≠ ((.slice Ao35 t838.length co35) : Value).ownBlock ∧ some k_ ≠ ((.slice Ao44 t817.length co44) : Value).ownBlock ∧ some k_ ≠ ((.slice Ao130 t855.length co130) : Value).ownBlock ∧ some k_ ≠ ((.slice Ao137 t861.length co137) : Value).ownBlock) (.slice Ao38 t811.length co38) t841) ∧ Aside0 (Kd.R k72 72 wc w.heap.size (fun k_ => some k_ ≠ ((.slice Ao25 t791.length co25) : Value).ownBlock ∧ some k_ ≠ ((.slice Ao34 t837.length co34) : Value).ownBlock ∧ some k_ ≠ ((.slice Ao136 t858.length co136) : Value).ownBlock) (.slice Ao43 t814.length co43) t842) ∧ Aside0 (Kd.R Kd.string 9 wc w.heap.size (fun k_ => some k_ ≠ ((.slice Ao22 t788.length co22) : Value).ownBlock ∧ some k_ ≠ ((.slice Ao26 t794.length co26) : Value).ownBlock ∧ some k_ ≠ ((.slice Ao30 t836.length co30) : Value).ownBlock ∧ some k_ ≠ ((.slice Ao35 t838.length co35) : Value).ownBlock ∧ some k_ ≠ ((.slice Ao38 t811.length co38) : Value).ownBlock ∧ some k_ ≠ ((.slice Ao130 t855.length co130) : Value).ownBlock ∧ some k_ ≠ ((.slice Ao137 t861.length co137) : Value).ownBlock) (.slice Ao44 t817.length co44) t843) ∧ Aside0 (Kd.R Kd.string 9 wc w.heap.size (fun k_ => some k_ ≠ ((.slice Ao22 t788.length co22) : Value).ownBlock ∧ some k_ ≠ ((.slice Ao26 t794.length co26) : Value).ownBlock ∧ some k_ ≠ ((.slice Ao30 t836.length co30) : Value).ownBlock ∧ some k_ ≠ ((.slice Ao35 t838.length co35) : Value).ownBlock ∧ some k_ ≠ ((.slice Ao38 t811.length co38) : Value).ownBlock ∧ some k_ ≠ ((.slice Ao44 t817.length co44) : Value).ownBlock ∧ some k_ ≠ ((.slice Ao137 t861.length co137) : Value).ownBlock) (.slice Ao130 t855.length co130) t855) ∧ Aside0 (Kd.R k72 72 wc w.heap.size (fun k_ => some k_ ≠ ((.slice Ao25 t791.length co25) : Value).ownBlock ∧ some k_ ≠ ((.slice Ao34 t837.length co34) : Value).ownBlock ∧ some k_ ≠ ((.slice Ao43 t814.length co43) : Value).ownBlock) (.slice Ao136 t858.length co136) t858) ∧ Aside0 (Kd.R Kd.string 9 wc w.heap.size (fun k_ => some k_ ≠ ((.slice Ao22 t788.length co22) : Value).ownBlock ∧ some k_ ≠ ((.slice Ao26 t794.length co26) : Value).ownBlock ∧ some k_ ≠ ((.slice Ao30 t836.length co30) : Value).ownBlock ∧ some k_ ≠ ((.slice Ao35 t838.length co35) : Value).ownBlock ∧ some k_ ≠ ((.slice Ao38 t811.length co38) : Value).ownBlock ∧ some k_ ≠ ((.slice Ao44 t817.length co44) : Value).ownBlock ∧ some k_ ≠ ((.slice Ao130 t855.length co130) : Value).ownBlock) (.slice Ao137 t861.length co137) t861) ∧ Aside0 (wc.heap[gb776]? = some (.cells #[(.slice A0_0 l0_0.length c0_0), (.slice A0_1 l0_1.length c0_1), (.slice A0_2 l0_2.length c0_2), .int .i64 a0_3] 38 (0, 0))) ∧ Aside0 (wc.heap[gb799]? = some (.cells #[(.slice Ao22 t788.length co22), (.slice Ao25 t791.length co25), (.slice Ao26 t794.length co26), .int .i64 t797] 44 (0, 0))) ∧ Aside0 (wc.heap[gb810]? = some (.cells #[(.slice Ao30 t836.length co30), (.slice Ao34 t837.length co34), (.slice Ao35 t838.length co35), .int .i64 t809] 44 (0, 0))) ∧ Aside0 (wc.heap[gb822]? = some (.cells #[(.slice Ao38 t811.length co38), (.slice Ao43 t814.length co43), (.slice Ao44 t817.length co44), .int .i64 t820] 44 (0, 0))) ∧ Aside0 (wc.heap[gb866]? = some (.cells #[(.slice Ao130 t855.length co130), (.slice Ao136 t858.length co136), (.slice Ao137 t861.length co137), .int .i64 t864] 44 (0, 0))) ∧ Aside0 (Below w.heap.size w wc))
           case first =>
            have H := HC113.out
            clear HC113
            replace H := Option.bind_eq_some_iff.mp H
            obtain ⟨t867, A1380, H⟩ := H
            replace H : (if t867 = true then (laws_FnExactSyncLog.j2 kj67 t840 (t865 != t798) t841 t842 t843 t820) else (laws_FnExactSyncLog.j2 kj67 t840 true t841 t842 t843 t820)) = some r := H
            have A138 := Aside0.mk A1380
            clear A1380
            by_cases c139 : t867 = true
            ·
             subst c139
             rw [if_pos rfl] at H
             have H' := Aside0.mk H
             clear H
             have hnb140 := NB866_776.out
             have hnc140 := NB776_866.out
             have hnb141 := NB866_799.out
             have hnc141 := NB799_866.out
             have hnb142 := NB866_810.out
             have hnc142 := NB810_866.out
             have hnb143 := NB866_822.out
             have hnc143 := NB822_866.out
             have hcz144_0 : w129.cell? ⟨gb866, 0, none⟩ = some (.slice none 0 0) := (blk_cell BK866.out 0).trans rfl
             have hcz144_1 : w129.cell? ⟨gb866, 1, none⟩ = some (.slice none 0 0) := (blk_cell BK866.out 1).trans rfl
             have hcz144_2 : w129.cell? ⟨gb866, 2, none⟩ = some (.slice none 0 0) := (blk_cell BK866.out 2).trans rfl
             have hcz144_3 : w129.cell? ⟨gb866, 3, none⟩ = some (.int .i64 0) := (blk_cell BK866.out 3).trans rfl
             have hfz144_0 := blk_frozen BK866.out 0
             have hfz144_1 := blk_frozen BK866.out 1
             have hfz144_2 := blk_frozen BK866.out 2
             have hfz144_3 := blk_frozen BK866.out 3
             have hnb145 := NB799_776.out
             have hnc145 := NB776_799.out
             have hnb146 := NB799_810.out
             have hnc146 := NB810_799.out
             have hnb147 := NB799_822.out
             have hnc147 := NB822_799.out
             have hcz148_0 : w129.cell? ⟨gb799, 0, none⟩ = some (.slice Ao22 t788.length co22) := (blk_cell BK799.out 0).trans rfl
             have hcz148_1 : w129.cell? ⟨gb799, 1, none⟩ = some (.slice Ao25 t791.length co25) := (blk_cell BK799.out 1).trans rfl
             have hcz148_2 : w129.cell? ⟨gb799, 2, none⟩ = some (.slice Ao26 t794.length co26) := (blk_cell BK799.out 2).trans rfl
             have hcz148_3 : w129.cell? ⟨gb799, 3, none⟩ = some (.int .i64 t797) := (blk_cell BK799.out 3).trans rfl
             have hfz148_0 := blk_frozen BK799.out 0
             have hfz148_1 := blk_frozen BK799.out 1
             have hfz148_2 := blk_frozen BK799.out 2
             have hfz148_3 := blk_frozen BK799.out 3
             go_wp2_with (first | ((with_reducible refine gate_callee (f := 29) rfl ?_); refine goesL_ (some 81) rfl rfl Try.func29 (by kernel_rfl) rfl #[.agg #[.slice Ao130 t855.length co130, .slice Ao136 t858.length co136, .slice Ao137 t861.length co137, .int .i64 t864], .agg #[.slice Ao22 t788.length co22, .slice Ao25 t791.length co25, .slice Ao26 t794.length co26, .int .i64 t797]] rfl (by (try simp only [List.map_toArray, List.map_cons, List.map_nil]); first | done | rfl | (simp only [List.length_drop, List.length_take]; rfl)) ?_; (with_reducible refine (laws_eqStore.calls kj67 _ _ t855 _ _ t858 _ _ t861 t864 _ _ t788 _ _ t791 _ _ t794 t797 true _ ?side1 ?side2 ?side3 ?side4 ?side5 ?side6 ?side7 ?side8 ?side9 ?side10 ?side11 ?side12 A138.out).mono ?_); (case side1 => exact rc HO857 BK866); (case side2 => exact (Kd.R_reads' HO857.out).2.1); (case side3 => exact rc HO860 BK866); (case side4 => exact (Kd.R_reads' HO860.out).2.1); (case side5 => exact rc HO863 BK866); (case side6 => exact (Kd.R_reads' HO863.out).2.1); (case side7 => exact rc HO_800000 BK866); (case side8 => exact (Kd.R_reads' HO_800000.out).2.1); (case side9 => exact rc HO_800001 BK866); (case side10 => exact (Kd.R_reads' HO_800001.out).2.1); (case side11 => exact rc HO_800002 BK866); (case side12 => exact (Kd.R_reads' HO_800002.out).2.1); rintro e w149 ⟨rfl, hb⟩; refine ⟨_, rfl, ?_⟩; replace HO_800000 := nf HO_800000 BK866 hb; replace HO_800001 := nf HO_800001 BK866 hb; replace HO_800002 := nf HO_800002 BK866 hb; replace HO_811000 := nf HO_811000 BK866 hb; replace HO_811001 := nf HO_811001 BK866 hb; replace HO_811002 := nf HO_811002 BK866 hb; replace HO_823000 := nf HO_823000 BK866 hb; replace HO_823001 := nf HO_823001 BK866 hb; replace HO_823002 := nf HO_823002 BK866 hb; replace HO847 := nf HO847 BK866 hb; replace HO850 := nf HO850 BK866 hb; replace HO853 := nf HO853 BK866 hb; replace HO857 := nf HO857 BK866 hb; replace HO860 := nf HO860 BK866 hb; replace HO863 := nf HO863 BK866 hb; replace BK776 := Aside0.mk (blk_below (bf BK776 NB776_866) hb); replace BK799 := Aside0.mk (blk_below (bf BK799 NB799_866) hb); replace BK810 := Aside0.mk (blk_below (bf BK810 NB810_866) hb); replace BK822 := Aside0.mk (blk_below (bf BK822 NB822_866) hb); replace BK866 := Aside0.mk (blk_below (g := gb866) (o := .cells #[.slice Ao130 t855.length co130, .slice Ao136 t858.length co136, .slice Ao137 t861.length co137, .int .i64 t864] 44 (0, 0)) (by (with_reducible repeat (first | refine blk_drewN ?_ _ | refine blk_drew ?_ | refine blk_alloc ?_ _)); refine blk_put (cs := #[.slice Ao130 t855.length co130, .slice Ao136 t858.length co136, .slice Ao137 t861.length co137, .int .i64 0]) ?_ 3 _ rfl; (with_reducible repeat (first | refine blk_drewN ?_ _ | refine blk_drew ?_ | refine blk_alloc ?_ _)); refine blk_put (cs := #[.slice Ao130 t855.length co130, .slice Ao136 t858.length co136, .slice none 0 0, .int .i64 0]) ?_ 2 _ rfl; (with_reducible repeat (first | refine blk_drewN ?_ _ | refine blk_drew ?_ | refine blk_alloc ?_ _)); refine blk_put (cs := #[.slice Ao130 t855.length co130, .slice none 0 0, .slice none 0 0, .int .i64 0]) ?_ 1 _ rfl; (with_reducible repeat (first | refine blk_drewN ?_ _ | refine blk_drew ?_ | refine blk_alloc ?_ _)); refine blk_put (cs := #[.slice none 0 0, .slice none 0 0, .slice none 0 0, .int .i64 0]) ?_ 0 _ rfl; (with_reducible repeat (first | refine blk_drewN ?_ _ | refine blk_drew ?_ | refine blk_alloc ?_ _)); exact BK866.out) hb); replace HB := Aside0.mk (below_step (bs5 HB GE776 GE799 GE810 GE822 GE866) hb); (try clear hb); (try clear hb2); (try clear hk); (try clear hi)))
             go_meet
             case rel => exact ⟨_, ((t865 != t798)), (by first | rfl | (simp; done) | (simp [*]; done)), H', ⟨by have := HJ10.out; have := HJ67.out; first | omega | exact Nat.le_refl _⟩, ⟨by (try simp only [hl811000_67]); (try simp only [hl811001_67]); (try simp only [hl811002_67]); (with_reducible repeat (first | apply Kd.R_alloc | apply Kd.R_drewN | apply Kd.R_drew)); exact Kd.R_mono HO_800000.out (fun _ hk => ⟨hk.1.1.1.1.1, ⟨hk.1.1.1.1.2.1, ⟨hk.1.1.1.1.2.2.1, ⟨hk.1.1.1.1.2.2.2.1, ⟨hk.1.1.1.1.2.2.2.2, ⟨hk.1.2, hk.2⟩⟩⟩⟩⟩⟩)⟩, ⟨by (try simp only [hl811000_67]); (try simp only [hl811001_67]); (try simp only [hl811002_67]); (with_reducible repeat (first | apply Kd.R_alloc | apply Kd.R_drewN | apply Kd.R_drew)); exact Kd.R_mono HO_800001.out (fun _ hk => ⟨hk.1.1.1, ⟨hk.1.1.2, hk.2⟩⟩)⟩, ⟨by (try simp only [hl811000_67]); (try simp only [hl811001_67]); (try simp only [hl811002_67]); (with_reducible repeat (first | apply Kd.R_alloc | apply Kd.R_drewN | apply Kd.R_drew)); exact Kd.R_mono HO_800002.out (fun _ hk => ⟨hk.1.1.1.1.1, ⟨hk.1.1.1.1.2.1, ⟨hk.1.1.1.1.2.2.1, ⟨hk.1.1.1.1.2.2.2.1, ⟨hk.1.1.1.1.2.2.2.2, ⟨hk.1.2, hk.2⟩⟩⟩⟩⟩⟩)⟩, ⟨by (try simp only [hl811000_67]); (try simp only [hl811001_67]); (try simp only [hl811002_67]); (with_reducible repeat (first | apply Kd.R_alloc | apply Kd.R_drewN | apply Kd.R_drew)); exact Kd.R_mono HO_811000.out (fun _ hk => ⟨hk.1.1.1.1.1, ⟨hk.1.1.1.1.2.1, ⟨hk.1.1.1.1.2.2.1, ⟨hk.1.1.1.1.2.2.2.1, ⟨hk.1.1.1.1.2.2.2.2, ⟨hk.1.2, hk.2⟩⟩⟩⟩⟩⟩)⟩, ⟨by (try simp only [hl811000_67]); (try simp only [hl811001_67]); (try simp only [hl811002_67]); (with_reducible repeat (first | apply Kd.R_alloc | apply Kd.R_drewN | apply Kd.R_drew)); exact Kd.R_mono HO_811001.out (fun _ hk => ⟨hk.1.1.1, ⟨hk.1.1.2, hk.2⟩⟩)⟩, ⟨by (try simp only [hl811000_67]); (try simp only [hl811001_67]); (try simp only [hl811002_67]); (with_reducible repeat (first | apply Kd.R_alloc | apply Kd.R_drewN | apply Kd.R_drew)); exact Kd.R_mono HO_811002.out (fun _ hk => ⟨hk.1.1.1.1.1, ⟨hk.1.1.1.1.2.1, ⟨hk.1.1.1.1.2.2.1, ⟨hk.1.1.1.1.2.2.2.1, ⟨hk.1.1.1.1.2.2.2.2, ⟨hk.1.2, hk.2⟩⟩⟩⟩⟩⟩)⟩, ⟨by (try simp only [hl811000_67]); (try simp only [hl811001_67]); (try simp only [hl811002_67]); (with_reducible repeat (first | apply Kd.R_alloc | apply Kd.R_drewN | apply Kd.R_drew)); exact Kd.R_mono HO_823000.out (fun _ hk => ⟨hk.1.1.1.1.1, ⟨hk.1.1.1.1.2.1, ⟨hk.1.1.1.1.2.2.1, ⟨hk.1.1.1.1.2.2.2.1, ⟨hk.1.1.1.1.2.2.2.2, ⟨hk.1.2, hk.2⟩⟩⟩⟩⟩⟩)⟩, ⟨by (try simp only [hl811000_67]); (try simp only [hl811001_67]); (try simp only [hl811002_67]); (with_reducible repeat (first | apply Kd.R_alloc | apply Kd.R_drewN | apply Kd.R_drew)); exact Kd.R_mono HO_823001.out (fun _ hk => ⟨hk.1.1.1, ⟨hk.1.1.2, hk.2⟩⟩)⟩, ⟨by (try simp only [hl811000_67]); (try simp only [hl811001_67]); (try simp only [hl811002_67]); (with_reducible repeat (first | apply Kd.R_alloc | apply Kd.R_drewN | apply Kd.R_drew)); exact Kd.R_mono HO_823002.out (fun _ hk => ⟨hk.1.1.1.1.1, ⟨hk.1.1.1.1.2.1, ⟨hk.1.1.1.1.2.2.1, ⟨hk.1.1.1.1.2.2.2.1, ⟨hk.1.1.1.1.2.2.2.2, ⟨hk.1.2, hk.2⟩⟩⟩⟩⟩⟩)⟩, ⟨by (try simp only [hl811000_67]); (try simp only [hl811001_67]); (try simp only [hl811002_67]); (with_reducible repeat (first | apply Kd.R_alloc | apply Kd.R_drewN | apply Kd.R_drew)); exact Kd.R_mono HO857.out (fun _ hk => ⟨hk.1.1.1.1.1.1.1.2, ⟨hk.1.1.1.1.1.1.2, ⟨hk.1.1.1.1.1.2, ⟨hk.1.1.1.1.2, ⟨hk.1.1.1.2, ⟨hk.1.1.2, hk.1.1.1.1.1.1.1.1⟩⟩⟩⟩⟩⟩)⟩, ⟨by (try simp only [hl811000_67]); (try simp only [hl811001_67]); (try simp only [hl811002_67]); (with_reducible repeat (first | apply Kd.R_alloc | apply Kd.R_drewN | apply Kd.R_drew)); exact Kd.R_mono HO860.out (fun _ hk => ⟨hk.1.1.1.2, ⟨hk.1.1.2, hk.1.2⟩⟩)⟩, ⟨by (try simp only [hl811000_67]); (try simp only [hl811001_67]); (try simp only [hl811002_67]); (with_reducible repeat (first | apply Kd.R_alloc | apply Kd.R_drewN | apply Kd.R_drew)); exact Kd.R_mono HO863.out (fun _ hk => ⟨hk.1.1.1.1.1.1.1.2, ⟨hk.1.1.1.1.1.1.2, ⟨hk.1.1.1.1.1.2, ⟨hk.1.1.1.1.2, ⟨hk.1.1.1.2, ⟨hk.1.1.2, hk.1.1.1.1.1.1.1.1⟩⟩⟩⟩⟩⟩)⟩, ⟨by (try simp only [hl811000_67]); (try simp only [hl811001_67]); (try simp only [hl811002_67]); (with_reducible repeat (first | refine blk_drewN ?_ _ | refine blk_drew ?_ | refine blk_alloc ?_ _)); exact BK776.out⟩, ⟨by (try simp only [hl811000_67]); (try simp only [hl811001_67]); (try simp only [hl811002_67]); (with_reducible repeat (first | refine blk_drewN ?_ _ | refine blk_drew ?_ | refine blk_alloc ?_ _)); exact BK799.out⟩, ⟨by (try simp only [hl811000_67]); (try simp only [hl811001_67]); (try simp only [hl811002_67]); (with_reducible repeat (first | refine blk_drewN ?_ _ | refine blk_drew ?_ | refine blk_alloc ?_ _)); exact BK810.out⟩, ⟨by (try simp only [hl811000_67]); (try simp only [hl811001_67]); (try simp only [hl811002_67]); (with_reducible repeat (first | refine blk_drewN ?_ _ | refine blk_drew ?_ | refine blk_alloc ?_ _)); exact BK822.out⟩, ⟨by (try simp only [hl811000_67]); (try simp only [hl811001_67]); (try simp only [hl811002_67]); (with_reducible repeat (first | refine blk_drewN ?_ _ | refine blk_drew ?_ | refine blk_alloc ?_ _)); exact BK866.out⟩, ⟨bs5 HB GE776 GE799 GE810 GE822 GE866⟩⟩
            ·
             replace c139 := Bool.eq_false_iff.mpr c139
             subst c139
             rw [if_neg (show ¬ (false = true) by decide)] at H
             have H' := Aside0.mk H
             clear H
             have hnb150 := NB866_776.out
             have hnc150 := NB776_866.out
             have hnb151 := NB866_799.out
             have hnc151 := NB799_866.out
             have hnb152 := NB866_810.out
             have hnc152 := NB810_866.out
             have hnb153 := NB866_822.out
             have hnc153 := NB822_866.out
             have hcz154_0 : w129.cell? ⟨gb866, 0, none⟩ = some (.slice none 0 0) := (blk_cell BK866.out 0).trans rfl
             have hcz154_1 : w129.cell? ⟨gb866, 1, none⟩ = some (.slice none 0 0) := (blk_cell BK866.out 1).trans rfl
             have hcz154_2 : w129.cell? ⟨gb866, 2, none⟩ = some (.slice none 0 0) := (blk_cell BK866.out 2).trans rfl
             have hcz154_3 : w129.cell? ⟨gb866, 3, none⟩ = some (.int .i64 0) := (blk_cell BK866.out 3).trans rfl
             have hfz154_0 := blk_frozen BK866.out 0
             have hfz154_1 := blk_frozen BK866.out 1
             have hfz154_2 := blk_frozen BK866.out 2
             have hfz154_3 := blk_frozen BK866.out 3
             have hnb155 := NB799_776.out
             have hnc155 := NB776_799.out
             have hnb156 := NB799_810.out
             have hnc156 := NB810_799.out
             have hnb157 := NB799_822.out
             have hnc157 := NB822_799.out
             have hcz158_0 : w129.cell? ⟨gb799, 0, none⟩ = some (.slice Ao22 t788.length co22) := (blk_cell BK799.out 0).trans rfl
             have hcz158_1 : w129.cell? ⟨gb799, 1, none⟩ = some (.slice Ao25 t791.length co25) := (blk_cell BK799.out 1).trans rfl
             have hcz158_2 : w129.cell? ⟨gb799, 2, none⟩ = some (.slice Ao26 t794.length co26) := (blk_cell BK799.out 2).trans rfl
             have hcz158_3 : w129.cell? ⟨gb799, 3, none⟩ = some (.int .i64 t797) := (blk_cell BK799.out 3).trans rfl
             have hfz158_0 := blk_frozen BK799.out 0
             have hfz158_1 := blk_frozen BK799.out 1
             have hfz158_2 := blk_frozen BK799.out 2
             have hfz158_3 := blk_frozen BK799.out 3
             go_wp2_with (first | ((with_reducible refine gate_callee (f := 29) rfl ?_); refine goesL_ (some 81) rfl rfl Try.func29 (by kernel_rfl) rfl #[.agg #[.slice Ao130 t855.length co130, .slice Ao136 t858.length co136, .slice Ao137 t861.length co137, .int .i64 t864], .agg #[.slice Ao22 t788.length co22, .slice Ao25 t791.length co25, .slice Ao26 t794.length co26, .int .i64 t797]] rfl (by (try simp only [List.map_toArray, List.map_cons, List.map_nil]); first | done | rfl | (simp only [List.length_drop, List.length_take]; rfl)) ?_; (with_reducible refine (laws_eqStore.calls kj67 _ _ t855 _ _ t858 _ _ t861 t864 _ _ t788 _ _ t791 _ _ t794 t797 false _ ?side1 ?side2 ?side3 ?side4 ?side5 ?side6 ?side7 ?side8 ?side9 ?side10 ?side11 ?side12 A138.out).mono ?_); (case side1 => exact rc HO857 BK866); (case side2 => exact (Kd.R_reads' HO857.out).2.1); (case side3 => exact rc HO860 BK866); (case side4 => exact (Kd.R_reads' HO860.out).2.1); (case side5 => exact rc HO863 BK866); (case side6 => exact (Kd.R_reads' HO863.out).2.1); (case side7 => exact rc HO_800000 BK866); (case side8 => exact (Kd.R_reads' HO_800000.out).2.1); (case side9 => exact rc HO_800001 BK866); (case side10 => exact (Kd.R_reads' HO_800001.out).2.1); (case side11 => exact rc HO_800002 BK866); (case side12 => exact (Kd.R_reads' HO_800002.out).2.1); rintro e w159 ⟨rfl, hb⟩; refine ⟨_, rfl, ?_⟩; replace HO_800000 := nf HO_800000 BK866 hb; replace HO_800001 := nf HO_800001 BK866 hb; replace HO_800002 := nf HO_800002 BK866 hb; replace HO_811000 := nf HO_811000 BK866 hb; replace HO_811001 := nf HO_811001 BK866 hb; replace HO_811002 := nf HO_811002 BK866 hb; replace HO_823000 := nf HO_823000 BK866 hb; replace HO_823001 := nf HO_823001 BK866 hb; replace HO_823002 := nf HO_823002 BK866 hb; replace HO847 := nf HO847 BK866 hb; replace HO850 := nf HO850 BK866 hb; replace HO853 := nf HO853 BK866 hb; replace HO857 := nf HO857 BK866 hb; replace HO860 := nf HO860 BK866 hb; replace HO863 := nf HO863 BK866 hb; replace BK776 := Aside0.mk (blk_below (bf BK776 NB776_866) hb); replace BK799 := Aside0.mk (blk_below (bf BK799 NB799_866) hb); replace BK810 := Aside0.mk (blk_below (bf BK810 NB810_866) hb); replace BK822 := Aside0.mk (blk_below (bf BK822 NB822_866) hb); replace BK866 := Aside0.mk (blk_below (g := gb866) (o := .cells #[.slice Ao130 t855.length co130, .slice Ao136 t858.length co136, .slice Ao137 t861.length co137, .int .i64 t864] 44 (0, 0)) (by (with_reducible repeat (first | refine blk_drewN ?_ _ | refine blk_drew ?_ | refine blk_alloc ?_ _)); refine blk_put (cs := #[.slice Ao130 t855.length co130, .slice Ao136 t858.length co136, .slice Ao137 t861.length co137, .int .i64 0]) ?_ 3 _ rfl; (with_reducible repeat (first | refine blk_drewN ?_ _ | refine blk_drew ?_ | refine blk_alloc ?_ _)); refine blk_put (cs := #[.slice Ao130 t855.length co130, .slice Ao136 t858.length co136, .slice none 0 0, .int .i64 0]) ?_ 2 _ rfl; (with_reducible repeat (first | refine blk_drewN ?_ _ | refine blk_drew ?_ | refine blk_alloc ?_ _)); refine blk_put (cs := #[.slice Ao130 t855.length co130, .slice none 0 0, .slice none 0 0, .int .i64 0]) ?_ 1 _ rfl; (with_reducible repeat (first | refine blk_drewN ?_ _ | refine blk_drew ?_ | refine blk_alloc ?_ _)); refine blk_put (cs := #[.slice none 0 0, .slice none 0 0, .slice none 0 0, .int .i64 0]) ?_ 0 _ rfl; (with_reducible repeat (first | refine blk_drewN ?_ _ | refine blk_drew ?_ | refine blk_alloc ?_ _)); exact BK866.out) hb); replace HB := Aside0.mk (below_step (bs5 HB GE776 GE799 GE810 GE822 GE866) hb); (try clear hb); (try clear hb2); (try clear hk); (try clear hi)))
             go_meet
             case rel => exact ⟨_, (true), (by first | rfl | (simp; done) | (simp [*]; done)), H', ⟨by have := HJ10.out; have := HJ67.out; first | omega | exact Nat.le_refl _⟩, ⟨by (try simp only [hl811000_67]); (try simp only [hl811001_67]); (try simp only [hl811002_67]); (with_reducible repeat (first | apply Kd.R_alloc | apply Kd.R_drewN | apply Kd.R_drew)); exact Kd.R_mono HO_800000.out (fun _ hk => ⟨hk.1.1.1.1.1, ⟨hk.1.1.1.1.2.1, ⟨hk.1.1.1.1.2.2.1, ⟨hk.1.1.1.1.2.2.2.1, ⟨hk.1.1.1.1.2.2.2.2, ⟨hk.1.2, hk.2⟩⟩⟩⟩⟩⟩)⟩, ⟨by (try simp only [hl811000_67]); (try simp only [hl811001_67]); (try simp only [hl811002_67]); (with_reducible repeat (first | apply Kd.R_alloc | apply Kd.R_drewN | apply Kd.R_drew)); exact Kd.R_mono HO_800001.out (fun _ hk => ⟨hk.1.1.1, ⟨hk.1.1.2, hk.2⟩⟩)⟩, ⟨by (try simp only [hl811000_67]); (try simp only [hl811001_67]); (try simp only [hl811002_67]); (with_reducible repeat (first | apply Kd.R_alloc | apply Kd.R_drewN | apply Kd.R_drew)); exact Kd.R_mono HO_800002.out (fun _ hk => ⟨hk.1.1.1.1.1, ⟨hk.1.1.1.1.2.1, ⟨hk.1.1.1.1.2.2.1, ⟨hk.1.1.1.1.2.2.2.1, ⟨hk.1.1.1.1.2.2.2.2, ⟨hk.1.2, hk.2⟩⟩⟩⟩⟩⟩)⟩, ⟨by (try simp only [hl811000_67]); (try simp only [hl811001_67]); (try simp only [hl811002_67]); (with_reducible repeat (first | apply Kd.R_alloc | apply Kd.R_drewN | apply Kd.R_drew)); exact Kd.R_mono HO_811000.out (fun _ hk => ⟨hk.1.1.1.1.1, ⟨hk.1.1.1.1.2.1, ⟨hk.1.1.1.1.2.2.1, ⟨hk.1.1.1.1.2.2.2.1, ⟨hk.1.1.1.1.2.2.2.2, ⟨hk.1.2, hk.2⟩⟩⟩⟩⟩⟩)⟩, ⟨by (try simp only [hl811000_67]); (try simp only [hl811001_67]); (try simp only [hl811002_67]); (with_reducible repeat (first | apply Kd.R_alloc | apply Kd.R_drewN | apply Kd.R_drew)); exact Kd.R_mono HO_811001.out (fun _ hk => ⟨hk.1.1.1, ⟨hk.1.1.2, hk.2⟩⟩)⟩, ⟨by (try simp only [hl811000_67]); (try simp only [hl811001_67]); (try simp only [hl811002_67]); (with_reducible repeat (first | apply Kd.R_alloc | apply Kd.R_drewN | apply Kd.R_drew)); exact Kd.R_mono HO_811002.out (fun _ hk => ⟨hk.1.1.1.1.1, ⟨hk.1.1.1.1.2.1, ⟨hk.1.1.1.1.2.2.1, ⟨hk.1.1.1.1.2.2.2.1, ⟨hk.1.1.1.1.2.2.2.2, ⟨hk.1.2, hk.2⟩⟩⟩⟩⟩⟩)⟩, ⟨by (try simp only [hl811000_67]); (try simp only [hl811001_67]); (try simp only [hl811002_67]); (with_reducible repeat (first | apply Kd.R_alloc | apply Kd.R_drewN | apply Kd.R_drew)); exact Kd.R_mono HO_823000.out (fun _ hk => ⟨hk.1.1.1.1.1, ⟨hk.1.1.1.1.2.1, ⟨hk.1.1.1.1.2.2.1, ⟨hk.1.1.1.1.2.2.2.1, ⟨hk.1.1.1.1.2.2.2.2, ⟨hk.1.2, hk.2⟩⟩⟩⟩⟩⟩)⟩, ⟨by (try simp only [hl811000_67]); (try simp only [hl811001_67]); (try simp only [hl811002_67]); (with_reducible repeat (first | apply Kd.R_alloc | apply Kd.R_drewN | apply Kd.R_drew)); exact Kd.R_mono HO_823001.out (fun _ hk => ⟨hk.1.1.1, ⟨hk.1.1.2, hk.2⟩⟩)⟩, ⟨by (try simp only [hl811000_67]); (try simp only [hl811001_67]); (try simp only [hl811002_67]); (with_reducible repeat (first | apply Kd.R_alloc | apply Kd.R_drewN | apply Kd.R_drew)); exact Kd.R_mono HO_823002.out (fun _ hk => ⟨hk.1.1.1.1.1, ⟨hk.1.1.1.1.2.1, ⟨hk.1.1.1.1.2.2.1, ⟨hk.1.1.1.1.2.2.2.1, ⟨hk.1.1.1.1.2.2.2.2, ⟨hk.1.2, hk.2⟩⟩⟩⟩⟩⟩)⟩, ⟨by (try simp only [hl811000_67]); (try simp only [hl811001_67]); (try simp only [hl811002_67]); (with_reducible repeat (first | apply Kd.R_alloc | apply Kd.R_drewN | apply Kd.R_drew)); exact Kd.R_mono HO857.out (fun _ hk => ⟨hk.1.1.1.1.1.1.1.2, ⟨hk.1.1.1.1.1.1.2, ⟨hk.1.1.1.1.1.2, ⟨hk.1.1.1.1.2, ⟨hk.1.1.1.2, ⟨hk.1.1.2, hk.1.1.1.1.1.1.1.1⟩⟩⟩⟩⟩⟩)⟩, ⟨by (try simp only [hl811000_67]); (try simp only [hl811001_67]); (try simp only [hl811002_67]); (with_reducible repeat (first | apply Kd.R_alloc | apply Kd.R_drewN | apply Kd.R_drew)); exact Kd.R_mono HO860.out (fun _ hk => ⟨hk.1.1.1.2, ⟨hk.1.1.2, hk.1.2⟩⟩)⟩, ⟨by (try simp only [hl811000_67]); (try simp only [hl811001_67]); (try simp only [hl811002_67]); (with_reducible repeat (first | apply Kd.R_alloc | apply Kd.R_drewN | apply Kd.R_drew)); exact Kd.R_mono HO863.out (fun _ hk => ⟨hk.1.1.1.1.1.1.1.2, ⟨hk.1.1.1.1.1.1.2, ⟨hk.1.1.1.1.1.2, ⟨hk.1.1.1.1.2, ⟨hk.1.1.1.2, ⟨hk.1.1.2, hk.1.1.1.1.1.1.1.1⟩⟩⟩⟩⟩⟩)⟩, ⟨by (try simp only [hl811000_67]); (try simp only [hl811001_67]); (try simp only [hl811002_67]); (with_reducible repeat (first | refine blk_drewN ?_ _ | refine blk_drew ?_ | refine blk_alloc ?_ _)); exact BK776.out⟩, ⟨by (try simp only [hl811000_67]); (try simp only [hl811001_67]); (try simp only [hl811002_67]); (with_reducible repeat (first | refine blk_drewN ?_ _ | refine blk_drew ?_ | refine blk_alloc ?_ _)); exact BK799.out⟩, ⟨by (try simp only [hl811000_67]); (try simp only [hl811001_67]); (try simp only [hl811002_67]); (with_reducible repeat (first | refine blk_drewN ?_ _ | refine blk_drew ?_ | refine blk_alloc ?_ _)); exact BK810.out⟩, ⟨by (try simp only [hl811000_67]); (try simp only [hl811001_67]); (try simp only [hl811002_67]); (with_reducible repeat (first | refine blk_drewN ?_ _ | refine blk_drew ?_ | refine blk_alloc ?_ _)); exact BK822.out⟩, ⟨by (try simp only [hl811000_67]); (try simp only [hl811001_67]); (try simp only [hl811002_67]); (with_reducible repeat (first | refine blk_drewN ?_ _ | refine blk_drew ?_ | refine blk_alloc ?_ _)); exact BK866.out⟩, ⟨bs5 HB GE776 GE799 GE810 GE822 GE866⟩⟩
           case rest =>
            clear HC113
            try clear c1
            try clear c2
            try clear p2
            try clear c3
            try clear c3b0
            try clear c4
            try clear c5
            try clear c6
            try clear c7
            try clear c8
            try clear c9
            try clear c10
            try clear c11
            try clear c12
            try clear c13
            try clear c14
            try clear c15
            try clear c23
            try clear c25
            try clear c27
            try clear c29
            try clear c31
            try clear c32
            try clear c33
            try clear c39
            try clear c40
            try clear c41
            try clear c42
            try clear c46
            try clear c47
            try clear c48
            try clear c49
            try clear c51
            try clear c52
            try clear c55
            try clear c56
            try clear c57
            try clear c59
            try clear c60
            try clear c63
            try clear c66
            try clear c75
            try clear c76
            try clear c77
            try clear c80
            try clear c80b0
            try clear c82
            try clear c83
            try clear c84
            try clear c85
            try clear c87
            try clear c88
            try clear c91
            try clear c92
            try clear c93
            try clear c95
            try clear c96
            try clear c99
            try clear c102
            try clear c102b0
            try clear c103
            try clear c104
            try clear c105
            try clear c110
            try clear c110b0
            try clear c110b1
            try clear c114
            try clear c115
            try clear c116
            try clear c121
            try clear c122
            try clear c131
            try clear c132
            try clear c133
            try clear c134
            try clear c139
            try clear c140
            try clear c141
            try clear c142
            try clear c143
            try clear c145
            try clear c146
            try clear c147
            try clear c150
            try clear c151
            try clear c152
            try clear c153
            try clear c155
            try clear c156
            try clear c157
            try clear hcz106_0
            try clear hcz106_1
            try clear hcz106_2
            try clear hcz106_3
            try clear hcz108_0
            try clear hcz108_1
            try clear hcz108_2
            try clear hcz108_3
            try clear hcz117_0
            try clear hcz117_1
            try clear hcz117_2
            try clear hcz117_3
            try clear hcz119_0
            try clear hcz119_1
            try clear hcz119_2
            try clear hcz119_3
            try clear hcz123_0
            try clear hcz123_1
            try clear hcz123_2
            try clear hcz123_3
            try clear hcz135_0
            try clear hcz135_1
            try clear hcz135_2
            try clear hcz135_3
            try clear hcz13_0
            try clear hcz13_1
            try clear hcz13_2
            try clear hcz13_3
            try clear hcz144_0
            try clear hcz144_1
            try clear hcz144_2
            try clear hcz144_3
            try clear hcz148_0
            try clear hcz148_1
            try clear hcz148_2
            try clear hcz148_3
            try clear hcz154_0
            try clear hcz154_1
            try clear hcz154_2
            try clear hcz154_3
            try clear hcz158_0
            try clear hcz158_1
            try clear hcz158_2
            try clear hcz158_3
            try clear hcz15_0
            try clear hcz15_1
            try clear hcz15_2
            try clear hcz15_3
            try clear hcz24_0
            try clear hcz24_1
            try clear hcz24_2
            try clear hcz24_3
            try clear hcz27_0
            try clear hcz27_1
            try clear hcz27_2
            try clear hcz27_3
            try clear hcz33_0
            try clear hcz33_1
            try clear hcz33_2
            try clear hcz33_3
            try clear hcz42_0
            try clear hcz42_1
            try clear hcz42_2
            try clear hcz42_3
            try clear hcz50_0
            try clear hcz50_1
            try clear hcz50_2
            try clear hcz50_3
            try clear hcz53_0
            try clear hcz53_1
            try clear hcz53_2
            try clear hcz53_3
            try clear hcz58_0
            try clear hcz58_1
            try clear hcz58_2
            try clear hcz58_3
            try clear hcz5_0
            try clear hcz5_1
            try clear hcz5_2
            try clear hcz5_3
            try clear hcz61_0
            try clear hcz61_1
            try clear hcz61_2
            try clear hcz61_3
            try clear hcz78_0
            try clear hcz78_1
            try clear hcz78_2
            try clear hcz78_3
            try clear hcz86_0
            try clear hcz86_1
            try clear hcz86_2
            try clear hcz86_3
            try clear hcz89_0
            try clear hcz89_1
            try clear hcz89_2
            try clear hcz89_3
            try clear hcz94_0
            try clear hcz94_1
            try clear hcz94_2
            try clear hcz94_3
            try clear hcz97_0
            try clear hcz97_1
            try clear hcz97_2
            try clear hcz97_3
            try clear hfz106_0
            try clear hfz106_1
            try clear hfz106_2
            try clear hfz106_3
            try clear hfz108_0
            try clear hfz108_1
            try clear hfz108_2
            try clear hfz108_3
            try clear hfz117_0
            try clear hfz117_1
            try clear hfz117_2
            try clear hfz117_3
            try clear hfz119_0
            try clear hfz119_1
            try clear hfz119_2
            try clear hfz119_3
            try clear hfz123_0
            try clear hfz123_1
            try clear hfz123_2
            try clear hfz123_3
            try clear hfz135_0
            try clear hfz135_1
            try clear hfz135_2
            try clear hfz135_3
            try clear hfz13_0
            try clear hfz13_1
            try clear hfz13_2
            try clear hfz13_3
            try clear hfz144_0
            try clear hfz144_1
            try clear hfz144_2
            try clear hfz144_3
            try clear hfz148_0
            try clear hfz148_1
            try clear hfz148_2
            try clear hfz148_3
            try clear hfz154_0
            try clear hfz154_1
            try clear hfz154_2
            try clear hfz154_3
            try clear hfz158_0
            try clear hfz158_1
            try clear hfz158_2
            try clear hfz158_3
            try clear hfz15_0
            try clear hfz15_1
            try clear hfz15_2
            try clear hfz15_3
            try clear hfz24_0
            try clear hfz24_1
            try clear hfz24_2
            try clear hfz24_3
            try clear hfz27_0
            try clear hfz27_1
            try clear hfz27_2
            try clear hfz27_3
            try clear hfz33_0
            try clear hfz33_1
            try clear hfz33_2
            try clear hfz33_3
            try clear hfz42_0
            try clear hfz42_1
            try clear hfz42_2
            try clear hfz42_3
            try clear hfz50_0
            try clear hfz50_1
            try clear hfz50_2
            try clear hfz50_3
            try clear hfz53_0
            try clear hfz53_1
            try clear hfz53_2
            try clear hfz53_3
            try clear hfz58_0
            try clear hfz58_1
            try clear hfz58_2
            try clear hfz58_3
            try clear hfz5_0
            try clear hfz5_1
            try clear hfz5_2
            try clear hfz5_3
            try clear hfz61_0
            try clear hfz61_1
            try clear hfz61_2
            try clear hfz61_3
            try clear hfz78_0
            try clear hfz78_1
            try clear hfz78_2
            try clear hfz78_3
            try clear hfz86_0
            try clear hfz86_1
            try clear hfz86_2
            try clear hfz86_3
            try clear hfz89_0
            try clear hfz89_1
            try clear hfz89_2
            try clear hfz89_3
            try clear hfz94_0
            try clear hfz94_1
            try clear hfz94_2
            try clear hfz94_3
            try clear hfz97_0
            try clear hfz97_1
            try clear hfz97_2
            try clear hfz97_3
            try clear p2
            obtain ⟨kq, x87_112, rfl, HA, HJ112, HO_800000, HO_800001, HO_800002, HO_811000, HO_811001, HO_811002, HO_823000, HO_823001, HO_823002, HO_867000, HO_867001, HO_867002, BK776, BK799, BK810, BK822, BK866, HB⟩ := hcut
            have hl823000_112 := (Kd.R_reads' HO_823000.out).1
            rw [hl823000_112] at HO_823000
            (try simp only [hl823000_112])
            (try simp only [hl823000_112] at BK776)
            (try simp only [hl823000_112] at BK799)
            (try simp only [hl823000_112] at BK810)
            (try simp only [hl823000_112] at BK822)
            (try simp only [hl823000_112] at BK866)
            (try simp only [hl823000_112] at HO_800000)
            (try simp only [hl823000_112] at HO_800001)
            (try simp only [hl823000_112] at HO_800002)
            (try simp only [hl823000_112] at HO_811000)
            (try simp only [hl823000_112] at HO_811001)
            (try simp only [hl823000_112] at HO_811002)
            (try simp only [hl823000_112] at HO_823001)
            (try simp only [hl823000_112] at HO_823002)
            (try simp only [hl823000_112] at HO_867000)
            (try simp only [hl823000_112] at HO_867001)
            (try simp only [hl823000_112] at HO_867002)
            have hl823001_112 := (Kd.R_reads' HO_823001.out).1
            rw [hl823001_112] at HO_823001
            (try simp only [hl823001_112])
            (try simp only [hl823001_112] at BK776)
            (try simp only [hl823001_112] at BK799)
            (try simp only [hl823001_112] at BK810)
            (try simp only [hl823001_112] at BK822)
            (try simp only [hl823001_112] at BK866)
            (try simp only [hl823001_112] at HO_800000)
            (try simp only [hl823001_112] at HO_800001)
            (try simp only [hl823001_112] at HO_800002)
            (try simp only [hl823001_112] at HO_811000)
            (try simp only [hl823001_112] at HO_811001)
            (try simp only [hl823001_112] at HO_811002)
            (try simp only [hl823001_112] at HO_823000)
            (try simp only [hl823001_112] at HO_823002)
            (try simp only [hl823001_112] at HO_867000)
            (try simp only [hl823001_112] at HO_867001)
            (try simp only [hl823001_112] at HO_867002)
            have hl823002_112 := (Kd.R_reads' HO_823002.out).1
            rw [hl823002_112] at HO_823002
            (try simp only [hl823002_112])
            (try simp only [hl823002_112] at BK776)
            (try simp only [hl823002_112] at BK799)
            (try simp only [hl823002_112] at BK810)
            (try simp only [hl823002_112] at BK822)
            (try simp only [hl823002_112] at BK866)
            (try simp only [hl823002_112] at HO_800000)
            (try simp only [hl823002_112] at HO_800001)
            (try simp only [hl823002_112] at HO_800002)
            (try simp only [hl823002_112] at HO_811000)
            (try simp only [hl823002_112] at HO_811001)
            (try simp only [hl823002_112] at HO_811002)
            (try simp only [hl823002_112] at HO_823000)
            (try simp only [hl823002_112] at HO_823001)
            (try simp only [hl823002_112] at HO_867000)
            (try simp only [hl823002_112] at HO_867001)
            (try simp only [hl823002_112] at HO_867002)
            cases kq with
            | zero => exact absurd HA.out (by simp [laws_FnExactSyncLog.j2])
            | succ kj112 =>
             have H := HA.out
             clear HA
             simp only [laws_FnExactSyncLog.j2] at H
             by_cases c160 : x87_112 = true
             ·
              subst c160
              rw [if_pos rfl] at H
              obtain rfl := Option.some.inj H
              go_wp2
              go_ret
              exact ⟨by first | rfl | (simp [errW_none, errW_some] <;> rfl) | (simp [*, errW_none, errW_some] <;> rfl), bs5 HB GE776 GE799 GE810 GE822 GE866⟩
             ·
              replace c160 := Bool.eq_false_iff.mpr c160
              subst c160
              rw [if_neg (show ¬ (false = true) by decide)] at H
              replace H := Option.bind_eq_some_iff.mp H
              obtain ⟨t868, A1610, H⟩ := H
              replace H : (if t868 < 0 then (some false) else (if t868 = t840 then (some true) else (some false))) = some r := H
              have A161 := Aside0.mk A1610
              clear A1610
              by_cases c162 : t868 < 0
              ·
               rw [if_pos c162] at H
               have c162b0 : decide (t868 < 0) = true := decide_eq_true c162
               clear c162
               obtain rfl := Option.some.inj H
               have hnb163 := NB822_776.out
               have hnc163 := NB776_822.out
               have hnb164 := NB822_799.out
               have hnc164 := NB799_822.out
               have hnb165 := NB822_810.out
               have hnc165 := NB810_822.out
               have hnb166 := NB822_866.out
               have hnc166 := NB866_822.out
               have hcz167_0 : wc.cell? ⟨gb822, 0, none⟩ = some (.slice Ao38 t841.length co38) := (blk_cell BK822.out 0).trans rfl
               have hcz167_1 : wc.cell? ⟨gb822, 1, none⟩ = some (.slice Ao43 t842.length co43) := (blk_cell BK822.out 1).trans rfl
               have hcz167_2 : wc.cell? ⟨gb822, 2, none⟩ = some (.slice Ao44 t843.length co44) := (blk_cell BK822.out 2).trans rfl
               have hcz167_3 : wc.cell? ⟨gb822, 3, none⟩ = some (.int .i64 t820) := (blk_cell BK822.out 3).trans rfl
               have hfz167_0 := blk_frozen BK822.out 0
               have hfz167_1 := blk_frozen BK822.out 1
               have hfz167_2 := blk_frozen BK822.out 2
               have hfz167_3 := blk_frozen BK822.out 3
               go_wp2_with (first | ((with_reducible refine gate_callee (f := 33) rfl ?_); refine goesL_ (some 90) rfl rfl Try.func33 (by kernel_rfl) rfl #[.agg #[.slice Ao38 t841.length co38, .slice Ao43 t842.length co43, .slice Ao44 t843.length co44, .int .i64 t820], .int .i64 1] rfl (by (try simp only [List.map_toArray, List.map_cons, List.map_nil]); first | done | rfl | (simp only [List.length_drop, List.length_take]; rfl)) ?_; (with_reducible refine (laws_heldStore.calls kj112 _ _ t841 _ _ t842 _ _ t843 t820 1 t868 _ ?side1 ?side2 ?side3 ?side4 ?side5 ?side6 A161.out).mono ?_); (case side1 => exact rc0 HO_823000); (case side2 => exact (Kd.R_reads' HO_823000.out).2.1); (case side3 => exact rc0 HO_823001); (case side4 => exact (Kd.R_reads' HO_823001.out).2.1); (case side5 => exact rc0 HO_823002); (case side6 => exact (Kd.R_reads' HO_823002.out).2.1); rintro e w168 ⟨rfl, hb⟩; refine ⟨_, rfl, ?_⟩; replace HO_800000 := nr HO_800000 hb; replace HO_800001 := nr HO_800001 hb; replace HO_800002 := nr HO_800002 hb; replace HO_811000 := nr HO_811000 hb; replace HO_811001 := nr HO_811001 hb; replace HO_811002 := nr HO_811002 hb; replace HO_823000 := nr HO_823000 hb; replace HO_823001 := nr HO_823001 hb; replace HO_823002 := nr HO_823002 hb; replace HO_867000 := nr HO_867000 hb; replace HO_867001 := nr HO_867001 hb; replace HO_867002 := nr HO_867002 hb; replace BK776 := nb BK776 hb; replace BK799 := nb BK799 hb; replace BK810 := nb BK810 hb; replace BK822 := nb BK822 hb; replace BK866 := nb BK866 hb; replace HB := Aside0.mk (below_step (bs5 HB GE776 GE799 GE810 GE822 GE866) hb); (try clear hb); (try clear hb2); (try clear hk); (try clear hi)))
               go_ret
               exact ⟨by first | rfl | (simp [errW_none, errW_some] <;> rfl) | (simp [*, errW_none, errW_some] <;> rfl), bs5 HB GE776 GE799 GE810 GE822 GE866⟩
              ·
               rw [if_neg c162] at H
               have c162b0 : decide (t868 < 0) = false := decide_eq_false c162
               clear c162
               by_cases c169 : t868 = t840
               ·
                rw [if_pos c169] at H
                have c169b0 : (t868 == t840) = true := beq_iff_eq.mpr c169
                have c169b1 : (t868 != t840) = false := bne_eq_false_iff_eq.mpr c169
                clear c169
                obtain rfl := Option.some.inj H
                have hnb170 := NB822_776.out
                have hnc170 := NB776_822.out
                have hnb171 := NB822_799.out
                have hnc171 := NB799_822.out
                have hnb172 := NB822_810.out
                have hnc172 := NB810_822.out
                have hnb173 := NB822_866.out
                have hnc173 := NB866_822.out
                have hcz174_0 : wc.cell? ⟨gb822, 0, none⟩ = some (.slice Ao38 t841.length co38) := (blk_cell BK822.out 0).trans rfl
                have hcz174_1 : wc.cell? ⟨gb822, 1, none⟩ = some (.slice Ao43 t842.length co43) := (blk_cell BK822.out 1).trans rfl
                have hcz174_2 : wc.cell? ⟨gb822, 2, none⟩ = some (.slice Ao44 t843.length co44) := (blk_cell BK822.out 2).trans rfl
                have hcz174_3 : wc.cell? ⟨gb822, 3, none⟩ = some (.int .i64 t820) := (blk_cell BK822.out 3).trans rfl
                have hfz174_0 := blk_frozen BK822.out 0
                have hfz174_1 := blk_frozen BK822.out 1
                have hfz174_2 := blk_frozen BK822.out 2
                have hfz174_3 := blk_frozen BK822.out 3
                go_wp2_with (first | ((with_reducible refine gate_callee (f := 33) rfl ?_); refine goesL_ (some 90) rfl rfl Try.func33 (by kernel_rfl) rfl #[.agg #[.slice Ao38 t841.length co38, .slice Ao43 t842.length co43, .slice Ao44 t843.length co44, .int .i64 t820], .int .i64 1] rfl (by (try simp only [List.map_toArray, List.map_cons, List.map_nil]); first | done | rfl | (simp only [List.length_drop, List.length_take]; rfl)) ?_; (with_reducible refine (laws_heldStore.calls kj112 _ _ t841 _ _ t842 _ _ t843 t820 1 t868 _ ?side1 ?side2 ?side3 ?side4 ?side5 ?side6 A161.out).mono ?_); (case side1 => exact rc0 HO_823000); (case side2 => exact (Kd.R_reads' HO_823000.out).2.1); (case side3 => exact rc0 HO_823001); (case side4 => exact (Kd.R_reads' HO_823001.out).2.1); (case side5 => exact rc0 HO_823002); (case side6 => exact (Kd.R_reads' HO_823002.out).2.1); rintro e w175 ⟨rfl, hb⟩; refine ⟨_, rfl, ?_⟩; replace HO_800000 := nr HO_800000 hb; replace HO_800001 := nr HO_800001 hb; replace HO_800002 := nr HO_800002 hb; replace HO_811000 := nr HO_811000 hb; replace HO_811001 := nr HO_811001 hb; replace HO_811002 := nr HO_811002 hb; replace HO_823000 := nr HO_823000 hb; replace HO_823001 := nr HO_823001 hb; replace HO_823002 := nr HO_823002 hb; replace HO_867000 := nr HO_867000 hb; replace HO_867001 := nr HO_867001 hb; replace HO_867002 := nr HO_867002 hb; replace BK776 := nb BK776 hb; replace BK799 := nb BK799 hb; replace BK810 := nb BK810 hb; replace BK822 := nb BK822 hb; replace BK866 := nb BK866 hb; replace HB := Aside0.mk (below_step (bs5 HB GE776 GE799 GE810 GE822 GE866) hb); (try clear hb); (try clear hb2); (try clear hk); (try clear hi)))
                go_ret
                exact ⟨by first | rfl | (simp [errW_none, errW_some] <;> rfl) | (simp [*, errW_none, errW_some] <;> rfl), bs5 HB GE776 GE799 GE810 GE822 GE866⟩
               ·
                rw [if_neg c169] at H
                have c169b0 : (t868 == t840) = false := beq_eq_false_iff_ne.mpr c169
                have c169b1 : (t868 != t840) = true := bne_iff_ne.mpr c169
                obtain rfl := Option.some.inj H
                have hnb176 := NB822_776.out
                have hnc176 := NB776_822.out
                have hnb177 := NB822_799.out
                have hnc177 := NB799_822.out
                have hnb178 := NB822_810.out
                have hnc178 := NB810_822.out
                have hnb179 := NB822_866.out
                have hnc179 := NB866_822.out
                have hcz180_0 : wc.cell? ⟨gb822, 0, none⟩ = some (.slice Ao38 t841.length co38) := (blk_cell BK822.out 0).trans rfl
                have hcz180_1 : wc.cell? ⟨gb822, 1, none⟩ = some (.slice Ao43 t842.length co43) := (blk_cell BK822.out 1).trans rfl
                have hcz180_2 : wc.cell? ⟨gb822, 2, none⟩ = some (.slice Ao44 t843.length co44) := (blk_cell BK822.out 2).trans rfl
                have hcz180_3 : wc.cell? ⟨gb822, 3, none⟩ = some (.int .i64 t820) := (blk_cell BK822.out 3).trans rfl
                have hfz180_0 := blk_frozen BK822.out 0
                have hfz180_1 := blk_frozen BK822.out 1
                have hfz180_2 := blk_frozen BK822.out 2
                have hfz180_3 := blk_frozen BK822.out 3
                go_wp2_with (first | ((with_reducible refine gate_callee (f := 33) rfl ?_); refine goesL_ (some 90) rfl rfl Try.func33 (by kernel_rfl) rfl #[.agg #[.slice Ao38 t841.length co38, .slice Ao43 t842.length co43, .slice Ao44 t843.length co44, .int .i64 t820], .int .i64 1] rfl (by (try simp only [List.map_toArray, List.map_cons, List.map_nil]); first | done | rfl | (simp only [List.length_drop, List.length_take]; rfl)) ?_; (with_reducible refine (laws_heldStore.calls kj112 _ _ t841 _ _ t842 _ _ t843 t820 1 t868 _ ?side1 ?side2 ?side3 ?side4 ?side5 ?side6 A161.out).mono ?_); (case side1 => exact rc0 HO_823000); (case side2 => exact (Kd.R_reads' HO_823000.out).2.1); (case side3 => exact rc0 HO_823001); (case side4 => exact (Kd.R_reads' HO_823001.out).2.1); (case side5 => exact rc0 HO_823002); (case side6 => exact (Kd.R_reads' HO_823002.out).2.1); rintro e w181 ⟨rfl, hb⟩; refine ⟨_, rfl, ?_⟩; replace HO_800000 := nr HO_800000 hb; replace HO_800001 := nr HO_800001 hb; replace HO_800002 := nr HO_800002 hb; replace HO_811000 := nr HO_811000 hb; replace HO_811001 := nr HO_811001 hb; replace HO_811002 := nr HO_811002 hb; replace HO_823000 := nr HO_823000 hb; replace HO_823001 := nr HO_823001 hb; replace HO_823002 := nr HO_823002 hb; replace HO_867000 := nr HO_867000 hb; replace HO_867001 := nr HO_867001 hb; replace HO_867002 := nr HO_867002 hb; replace BK776 := nb BK776 hb; replace BK799 := nb BK799 hb; replace BK810 := nb BK810 hb; replace BK822 := nb BK822 hb; replace BK866 := nb BK866 hb; replace HB := Aside0.mk (below_step (bs5 HB GE776 GE799 GE810 GE822 GE866) hb); (try clear hb); (try clear hb2); (try clear hk); (try clear hi)))
                go_ret
                exact ⟨by first | rfl | (simp [errW_none, errW_some] <;> rfl) | (simp [*, errW_none, errW_some] <;> rfl), bs5 HB GE776 GE799 GE810 GE822 GE866⟩
          ·
           rw [if_neg c110] at H
           have c110b0 : (t844 == t840) = false := beq_eq_false_iff_ne.mpr c110
           have c110b1 : (t844 != t840) = true := bne_iff_ne.mpr c110
           obtain rfl := Option.some.inj H
           have hnb182 := NB822_776.out
           have hnc182 := NB776_822.out
           have hnb183 := NB822_799.out
           have hnc183 := NB799_822.out
           have hnb184 := NB822_810.out
           have hnc184 := NB810_822.out
           have hcz185_0 : wc.cell? ⟨gb822, 0, none⟩ = some (.slice Ao38 t811.length co38) := (blk_cell BK822.out 0).trans rfl
           have hcz185_1 : wc.cell? ⟨gb822, 1, none⟩ = some (.slice Ao43 t814.length co43) := (blk_cell BK822.out 1).trans rfl
           have hcz185_2 : wc.cell? ⟨gb822, 2, none⟩ = some (.slice Ao44 t817.length co44) := (blk_cell BK822.out 2).trans rfl
           have hcz185_3 : wc.cell? ⟨gb822, 3, none⟩ = some (.int .i64 t820) := (blk_cell BK822.out 3).trans rfl
           have hfz185_0 := blk_frozen BK822.out 0
           have hfz185_1 := blk_frozen BK822.out 1
           have hfz185_2 := blk_frozen BK822.out 2
           have hfz185_3 := blk_frozen BK822.out 3
           go_wp2_with (first | ((with_reducible refine gate_callee (f := 32) rfl ?_); refine goesL_ (some 64) rfl rfl Try.func32 (by kernel_rfl) rfl #[.agg #[.slice Ao38 t811.length co38, .slice Ao43 t814.length co43, .slice Ao44 t817.length co44, .int .i64 t820], .int .i64 1] rfl (by (try simp only [List.map_toArray, List.map_cons, List.map_nil]); first | done | rfl | (simp only [List.length_drop, List.length_take]; rfl)) ?_; (with_reducible refine (laws_markStore.calls kj67 (fun k_ => some k_ = (.slice Ao38 t811.length co38 : Value).ownBlock) (.slice Ao38 t811.length co38) t811 (fun k_ => some k_ = (.slice Ao43 t814.length co43 : Value).ownBlock) (.slice Ao43 t814.length co43) t814 (fun k_ => some k_ = (.slice Ao44 t817.length co44 : Value).ownBlock) (.slice Ao44 t817.length co44) t817 t820 1 t840 t841 t842 t843 w _ ?side1 ?side2 ?side3 ?side4 ?side5 ?side6 A100.out).mono ?_); (case side1 => repeat (first | (with_reducible first | exact HB.out | apply below_alloc | apply pw_below_drewN | apply below_drew1 | refine below_set ?_ GE776.out | refine below_set ?_ GE799.out | refine below_set ?_ GE810.out | refine below_set ?_ GE822.out) | exact HB.out)); (case side2 => exact Kd.R_tight rfl HO_823000.out); (case side3 => exact fun k_ e_ => (HO_823000.out.1 k_ e_.symm).2.2.2.2); (case side4 => exact Kd.R_tight rfl HO_823001.out); (case side5 => exact Kd.R_tight rfl HO_823002.out); (case side6 => exact fun k_ e_ => (HO_823002.out.1 k_ e_.symm).2.2.2.2); rintro e w186 ⟨rfl, hy0, hy1, hy2, hb, hkp⟩; refine ⟨_, rfl, ?_⟩; replace HO_800000 := Aside0.mk (Kd.R_mono (ok' := fun k_ => some k_ ≠ (.slice Ao26 t794.length co26 : Value).ownBlock ∧ some k_ ≠ (.slice Ao30 t836.length co30 : Value).ownBlock ∧ some k_ ≠ (.slice Ao35 t838.length co35 : Value).ownBlock ∧ some k_ ≠ (.slice Ao38 t811.length co38 : Value).ownBlock ∧ some k_ ≠ (.slice Ao44 t817.length co44 : Value).ownBlock) (Kd.R_keptB ((Kd.R_apart' HO_800000.out (Kd.R_typed HO_823001.out) (by decide))) hkp (fun k_ hk_ hs_ => Or.elim hs_ (fun e_ => (hk_.1.2.2.2.1) e_) (fun e_ => Or.elim e_ (fun e_ => (hk_.2) e_) (fun e_ => (hk_.1.2.2.2.2) e_)))) (fun k_ hk_ => ⟨hk_.1.1.1, hk_.1.1.2.1, hk_.1.1.2.2.1, hk_.1.1.2.2.2.1, hk_.1.1.2.2.2.2⟩)); replace HO_800001 := Aside0.mk (Kd.R_mono (ok' := fun k_ => some k_ ≠ (.slice Ao34 t837.length co34 : Value).ownBlock ∧ some k_ ≠ (.slice Ao43 t814.length co43 : Value).ownBlock) (Kd.R_keptB ((Kd.R_apart' (Kd.R_apart' HO_800001.out (Kd.R_typed HO_823000.out) (by decide)) (Kd.R_typed HO_823002.out) (by decide))) hkp (fun k_ hk_ hs_ => Or.elim hs_ (fun e_ => (hk_.1.2) e_) (fun e_ => Or.elim e_ (fun e_ => (hk_.1.1.2) e_) (fun e_ => (hk_.2) e_)))) (fun k_ hk_ => ⟨hk_.1.1.1.1, hk_.1.1.1.2⟩)); replace HO_800002 := Aside0.mk (Kd.R_mono (ok' := fun k_ => some k_ ≠ (.slice Ao22 t788.length co22 : Value).ownBlock ∧ some k_ ≠ (.slice Ao30 t836.length co30 : Value).ownBlock ∧ some k_ ≠ (.slice Ao35 t838.length co35 : Value).ownBlock ∧ some k_ ≠ (.slice Ao38 t811.length co38 : Value).ownBlock ∧ some k_ ≠ (.slice Ao44 t817.length co44 : Value).ownBlock) (Kd.R_keptB ((Kd.R_apart' HO_800002.out (Kd.R_typed HO_823001.out) (by decide))) hkp (fun k_ hk_ hs_ => Or.elim hs_ (fun e_ => (hk_.1.2.2.2.1) e_) (fun e_ => Or.elim e_ (fun e_ => (hk_.2) e_) (fun e_ => (hk_.1.2.2.2.2) e_)))) (fun k_ hk_ => ⟨hk_.1.1.1, hk_.1.1.2.1, hk_.1.1.2.2.1, hk_.1.1.2.2.2.1, hk_.1.1.2.2.2.2⟩)); replace HO_811000 := Aside0.mk (Kd.R_mono (ok' := fun k_ => some k_ ≠ (.slice Ao22 t788.length co22 : Value).ownBlock ∧ some k_ ≠ (.slice Ao26 t794.length co26 : Value).ownBlock ∧ some k_ ≠ (.slice Ao35 t838.length co35 : Value).ownBlock ∧ some k_ ≠ (.slice Ao38 t811.length co38 : Value).ownBlock ∧ some k_ ≠ (.slice Ao44 t817.length co44 : Value).ownBlock) (Kd.R_keptB ((Kd.R_apart' HO_811000.out (Kd.R_typed HO_823001.out) (by decide))) hkp (fun k_ hk_ hs_ => Or.elim hs_ (fun e_ => (hk_.1.2.2.2.1) e_) (fun e_ => Or.elim e_ (fun e_ => (hk_.2) e_) (fun e_ => (hk_.1.2.2.2.2) e_)))) (fun k_ hk_ => ⟨hk_.1.1.1, hk_.1.1.2.1, hk_.1.1.2.2.1, hk_.1.1.2.2.2.1, hk_.1.1.2.2.2.2⟩)); replace HO_811001 := Aside0.mk (Kd.R_mono (ok' := fun k_ => some k_ ≠ (.slice Ao25 t791.length co25 : Value).ownBlock ∧ some k_ ≠ (.slice Ao43 t814.length co43 : Value).ownBlock) (Kd.R_keptB ((Kd.R_apart' (Kd.R_apart' HO_811001.out (Kd.R_typed HO_823000.out) (by decide)) (Kd.R_typed HO_823002.out) (by decide))) hkp (fun k_ hk_ hs_ => Or.elim hs_ (fun e_ => (hk_.1.2) e_) (fun e_ => Or.elim e_ (fun e_ => (hk_.1.1.2) e_) (fun e_ => (hk_.2) e_)))) (fun k_ hk_ => ⟨hk_.1.1.1.1, hk_.1.1.1.2⟩)); replace HO_811002 := Aside0.mk (Kd.R_mono (ok' := fun k_ => some k_ ≠ (.slice Ao22 t788.length co22 : Value).ownBlock ∧ some k_ ≠ (.slice Ao26 t794.length co26 : Value).ownBlock ∧ some k_ ≠ (.slice Ao30 t836.length co30 : Value).ownBlock ∧ some k_ ≠ (.slice Ao38 t811.length co38 : Value).ownBlock ∧ some k_ ≠ (.slice Ao44 t817.length co44 : Value).ownBlock) (Kd.R_keptB ((Kd.R_apart' HO_811002.out (Kd.R_typed HO_823001.out) (by decide))) hkp (fun k_ hk_ hs_ => Or.elim hs_ (fun e_ => (hk_.1.2.2.2.1) e_) (fun e_ => Or.elim e_ (fun e_ => (hk_.2) e_) (fun e_ => (hk_.1.2.2.2.2) e_)))) (fun k_ hk_ => ⟨hk_.1.1.1, hk_.1.1.2.1, hk_.1.1.2.2.1, hk_.1.1.2.2.2.1, hk_.1.1.2.2.2.2⟩)); replace BK776 := Aside0.mk (blk_kept (bk BK776) hkp (fun hs_ => Or.elim hs_ (fun e_ => (fun e_ => (Kd.R_ne HO_823000.out BK776.out (by decide)) e_) e_) (fun e_ => Or.elim e_ (fun e_ => (fun e_ => (Kd.R_ne HO_823001.out BK776.out (by decide)) e_) e_) (fun e_ => (fun e_ => (Kd.R_ne HO_823002.out BK776.out (by decide)) e_) e_)))); replace BK799 := Aside0.mk (blk_kept (bk BK799) hkp (fun hs_ => Or.elim hs_ (fun e_ => (fun e_ => (Kd.R_ne HO_823000.out BK799.out (by decide)) e_) e_) (fun e_ => Or.elim e_ (fun e_ => (fun e_ => (Kd.R_ne HO_823001.out BK799.out (by decide)) e_) e_) (fun e_ => (fun e_ => (Kd.R_ne HO_823002.out BK799.out (by decide)) e_) e_)))); replace BK810 := Aside0.mk (blk_kept (bk BK810) hkp (fun hs_ => Or.elim hs_ (fun e_ => (fun e_ => (Kd.R_ne HO_823000.out BK810.out (by decide)) e_) e_) (fun e_ => Or.elim e_ (fun e_ => (fun e_ => (Kd.R_ne HO_823001.out BK810.out (by decide)) e_) e_) (fun e_ => (fun e_ => (Kd.R_ne HO_823002.out BK810.out (by decide)) e_) e_)))); replace BK822 := Aside0.mk (blk_kept (bk BK822) hkp (fun hs_ => Or.elim hs_ (fun e_ => (fun e_ => (Kd.R_ne HO_823000.out BK822.out (by decide)) e_) e_) (fun e_ => Or.elim e_ (fun e_ => (fun e_ => (Kd.R_ne HO_823001.out BK822.out (by decide)) e_) e_) (fun e_ => (fun e_ => (Kd.R_ne HO_823002.out BK822.out (by decide)) e_) e_)))); replace HO_823000 := Aside0.mk (Kd.R_reok rfl hy0 (fun k_ e_ => HO_823000.out.1 k_ e_)); replace HO_823001 := Aside0.mk (Kd.R_reok rfl hy1 (fun k_ e_ => HO_823001.out.1 k_ e_)); replace HO_823002 := Aside0.mk (Kd.R_reok rfl hy2 (fun k_ e_ => HO_823002.out.1 k_ e_)); replace HB := Aside0.mk (hb); (try clear hb); (try clear hkp); (try clear hy0); (try clear hy1); (try clear hy2); have hcz187_0 : w186.cell? ⟨gb822, 0, none⟩ = some (.slice Ao38 t811.length co38) := (blk_cell BK822.out 0).trans rfl; have hcz187_1 : w186.cell? ⟨gb822, 1, none⟩ = some (.slice Ao43 t814.length co43) := (blk_cell BK822.out 1).trans rfl; have hcz187_2 : w186.cell? ⟨gb822, 2, none⟩ = some (.slice Ao44 t817.length co44) := (blk_cell BK822.out 2).trans rfl; have hcz187_3 : w186.cell? ⟨gb822, 3, none⟩ = some (.int .i64 t820) := (blk_cell BK822.out 3).trans rfl; have hfz187_0 := blk_frozen BK822.out 0; have hfz187_1 := blk_frozen BK822.out 1; have hfz187_2 := blk_frozen BK822.out 2; have hfz187_3 := blk_frozen BK822.out 3) | ((with_reducible refine gate_callee (f := 33) rfl ?_); refine goesL_ (some 67) rfl rfl Try.func33 (by kernel_rfl) rfl #[.agg #[.slice Ao38 t841.length co38, .slice Ao43 t842.length co43, .slice Ao44 t843.length co44, .int .i64 t820], .int .i64 1] rfl (by (try simp only [List.map_toArray, List.map_cons, List.map_nil]); first | done | (rw [show t841.length = t811.length from (Kd.R_reads' HO_823000.out).1.symm, show t842.length = t814.length from (Kd.R_reads' HO_823001.out).1.symm, show t843.length = t817.length from (Kd.R_reads' HO_823002.out).1.symm] <;> rfl) | rfl | (simp only [List.length_drop, List.length_take]; rfl)) ?_; (with_reducible refine (laws_heldStore.calls kj67 _ _ t841 _ _ t842 _ _ t843 t820 1 t844 _ ?side1 ?side2 ?side3 ?side4 ?side5 ?side6 A101.out).mono ?_); (case side1 => exact rc0 HO_823000); (case side2 => rw [show t841.length = t811.length from (Kd.R_reads' HO_823000.out).1.symm]; exact (Kd.R_reads' HO_823000.out).2.1); (case side3 => exact rc0 HO_823001); (case side4 => rw [show t842.length = t814.length from (Kd.R_reads' HO_823001.out).1.symm]; exact (Kd.R_reads' HO_823001.out).2.1); (case side5 => exact rc0 HO_823002); (case side6 => rw [show t843.length = t817.length from (Kd.R_reads' HO_823002.out).1.symm]; exact (Kd.R_reads' HO_823002.out).2.1); rintro e w188 ⟨rfl, hb⟩; refine ⟨_, rfl, ?_⟩; replace HO_800000 := nr HO_800000 hb; replace HO_800001 := nr HO_800001 hb; replace HO_800002 := nr HO_800002 hb; replace HO_811000 := nr HO_811000 hb; replace HO_811001 := nr HO_811001 hb; replace HO_811002 := nr HO_811002 hb; replace HO_823000 := nr HO_823000 hb; replace HO_823001 := nr HO_823001 hb; replace HO_823002 := nr HO_823002 hb; replace BK776 := nb BK776 hb; replace BK799 := nb BK799 hb; replace BK810 := nb BK810 hb; replace BK822 := nb BK822 hb; replace HB := Aside0.mk (below_step (bs4 HB GE776 GE799 GE810 GE822) hb); (try clear hb); (try clear hb2); (try clear hk); (try clear hi)))
           go_ret
           exact ⟨by first | rfl | (simp [errW_none, errW_some] <;> rfl) | (simp [*, errW_none, errW_some] <;> rfl), bs4 HB GE776 GE799 GE810 GE822⟩
     ·
      replace c66 := Bool.eq_false_iff.mpr c66
      subst c66
      rw [if_neg (show ¬ (false = true) by decide)] at H
      obtain rfl := Option.some.inj H
      try go_wp2
      have n0_ := Aside0.mk (Kd.R_drew HO_800000.out)
      have n1_ := Aside0.mk (Kd.R_drew HO_800001.out)
      have n2_ := Aside0.mk (Kd.R_drew HO_800002.out)
      have n3_ := Aside0.mk (Kd.R_drew HO_811000.out)
      have n4_ := Aside0.mk (Kd.R_drew HO_811001.out)
      have n5_ := Aside0.mk (Kd.R_drew HO_811002.out)
      have n6_ := Aside0.mk (Kd.R_drew HO_823000.out)
      have n7_ := Aside0.mk (Kd.R_drew HO_823001.out)
      have n8_ := Aside0.mk (Kd.R_drew HO_823002.out)
      have n9_ := Aside0.mk (blk_drew BK776.out)
      have n10_ := Aside0.mk (blk_drew BK799.out)
      have n11_ := Aside0.mk (blk_drew BK810.out)
      have n12_ := Aside0.mk (blk_drew BK822.out)
      have n13_ := Aside0.mk (below_drew1 HB.out)
      clear HO_800000
      clear HO_800001
      clear HO_800002
      clear HO_811000
      clear HO_811001
      clear HO_811002
      clear HO_823000
      clear HO_823001
      clear HO_823002
      clear BK776
      clear BK799
      clear BK810
      clear BK822
      clear HB
      have HO_800000 := n0_
      have HO_800001 := n1_
      have HO_800002 := n2_
      have HO_811000 := n3_
      have HO_811001 := n4_
      have HO_811002 := n5_
      have HO_823000 := n6_
      have HO_823001 := n7_
      have HO_823002 := n8_
      have BK776 := n9_
      have BK799 := n10_
      have BK810 := n11_
      have BK822 := n12_
      have HB := n13_
      clear n0_ n1_ n2_ n3_ n4_ n5_ n6_ n7_ n8_ n9_ n10_ n11_ n12_ n13_
      refine start_ (n := 5) (S := fun w' => w'.cell? ⟨gb810, 0, none⟩ = some (.slice Ao30 t800.length co30) ∧ w'.cell? ⟨gb810, 1, none⟩ = some (.slice Ao34 t803.length co34) ∧ w'.cell? ⟨gb810, 2, none⟩ = some (.slice Ao35 t806.length co35) ∧ w'.cell? ⟨gb810, 3, none⟩ = some (.int .i64 t809) ∧ w'.cell? ⟨gb776, 0, none⟩ = some (.slice A0_0 l0_0.length c0_0) ∧ w'.cell? ⟨gb776, 1, none⟩ = some (.slice A0_1 l0_1.length c0_1) ∧ w'.cell? ⟨gb776, 2, none⟩ = some (.slice A0_2 l0_2.length c0_2) ∧ w'.cell? ⟨gb776, 3, none⟩ = some (.int .i64 a0_3)) (ds := []) #[false, false, false, false, false] (by kernel_rfl) rfl rfl ⟨(blk_cell BK810.out 0).trans rfl, (blk_cell BK810.out 1).trans rfl, (blk_cell BK810.out 2).trans rfl, (blk_cell BK810.out 3).trans rfl, (blk_cell BK776.out 0).trans rfl, (blk_cell BK776.out 1).trans rfl, (blk_cell BK776.out 2).trans rfl, (blk_cell BK776.out 3).trans rfl⟩ (fun hHeld => ?_)
      generalize wc.drew = w189 at HO_800000 HO_800001 HO_800002 HO_811000 HO_811001 HO_811002 HO_823000 HO_823001 HO_823002 BK776 BK799 BK810 BK822 HB hHeld ⊢
      refine take_ (i := 0) (N := some 41) (v := ?_) (a' := ?_) #[true, false, false, false, false] rfl rfl (by kernel_rfl) (fun _ _ _ h => h) (Or.inl ⟨by rfl, ?_⟩) hHeld ?_ ?_
      rotate_left
      ·
       rintro w' ⟨s0, s1, s2, s3, s4, s5, s6, s7⟩
       go_simp
       with_reducible rfl
      rotate_left
      ·
       simp only [Act.put, List.setIfInBounds_toArray, List.set_cons_zero, List.set_cons_succ, i64_w, i32_w]
       rfl
      refine take_ (i := 1) (N := some 42) (v := ?_) (a' := ?_) #[true, true, false, false, false] rfl rfl (by kernel_rfl) (fun _ _ _ h => h) (Or.inl ⟨by rfl, ?_⟩) hHeld ?_ ?_
      rotate_left
      ·
       rintro w' ⟨s0, s1, s2, s3, s4, s5, s6, s7⟩
       go_simp
       with_reducible rfl
      rotate_left
      ·
       simp only [Act.put, List.setIfInBounds_toArray, List.set_cons_zero, List.set_cons_succ, i64_w, i32_w]
       rfl
      refine one_ (i := 2) (N := some 43) #[true, true, true, false, false] rfl rfl (by kernel_rfl) (by decide) (fun K hK => ?_)
      refine goes_ Try.func27 (by kernel_rfl) rfl #[.agg #[.slice A0_0 l0_0.length c0_0, .slice A0_1 l0_1.length c0_1, .slice A0_2 l0_2.length c0_2, .int .i64 a0_3]] (by rfl) rfl rfl (by (try simp only [List.map_toArray, List.map_cons, List.map_nil]); first | done | rfl | (simp only [List.length_drop, List.length_take]; rfl)) ?_
      with_reducible refine (laws_toStore.calls kj10 _ _ l0_0 _ _ l0_1 _ _ l0_2 a0_3 t824 t827 t830 t833 _ ?side1 ?side2 ?side3 ?side4 ?side5 ?side6 A64.out).mono ?_
      (case side1 => exact cb HR0_0 HB)
      (case side2 => exact HC0_0.out)
      (case side3 => exact cb HR0_1 HB)
      (case side4 => exact HC0_1.out)
      (case side5 => exact cb HR0_2 HB)
      (case side6 => exact HC0_2.out)
      rintro e w190 ⟨v825, v828, v831, rfl, ho0, ho1, ho2, hb⟩
      refine ⟨_, rfl, ?_⟩
      have n0_ := Aside0.mk (Kd.R_mono (Kd.R_told (Kd.R_told (Kd.R_old (rr HO_800000.out) hb) (Kd.R_base ho0)) (Kd.R_base ho2)) (fun _ h_ => h_.1))
      have n1_ := Aside0.mk (Kd.R_elder' (rr HO_800001.out) (Kd.R_base ho1) hb)
      have n2_ := Aside0.mk (Kd.R_mono (Kd.R_told (Kd.R_told (Kd.R_old (rr HO_800002.out) hb) (Kd.R_base ho0)) (Kd.R_base ho2)) (fun _ h_ => h_.1))
      have n3_ := Aside0.mk (Kd.R_mono (Kd.R_told (Kd.R_told (Kd.R_old (rr HO_811000.out) hb) (Kd.R_base ho0)) (Kd.R_base ho2)) (fun _ h_ => h_.1))
      have n4_ := Aside0.mk (Kd.R_elder' (rr HO_811001.out) (Kd.R_base ho1) hb)
      have n5_ := Aside0.mk (Kd.R_mono (Kd.R_told (Kd.R_told (Kd.R_old (rr HO_811002.out) hb) (Kd.R_base ho0)) (Kd.R_base ho2)) (fun _ h_ => h_.1))
      have n6_ := Aside0.mk (Kd.R_mono (Kd.R_told (Kd.R_told (Kd.R_old (rr HO_823000.out) hb) (Kd.R_base ho0)) (Kd.R_base ho2)) (fun _ h_ => h_.1))
      have n7_ := Aside0.mk (Kd.R_elder' (rr HO_823001.out) (Kd.R_base ho1) hb)
      have n8_ := Aside0.mk (Kd.R_mono (Kd.R_told (Kd.R_told (Kd.R_old (rr HO_823002.out) hb) (Kd.R_base ho0)) (Kd.R_base ho2)) (fun _ h_ => h_.1))
      have n9_ := Aside0.mk (Kd.R_lower (Kd.R_new' (Kd.R_new' (Kd.R_new' (Kd.R_new' (Kd.R_new' (Kd.R_new' ho0 (Kd.R_lt (rr HO_800000.out))) (Kd.R_lt (rr HO_800002.out))) (Kd.R_lt (rr HO_811000.out))) (Kd.R_lt (rr HO_811002.out))) (Kd.R_lt (rr HO_823000.out))) (Kd.R_lt (rr HO_823002.out))) (below_size (bs4 HB GE776 GE799 GE810 GE822)))
      have n10_ := Aside0.mk (Kd.R_lower (Kd.R_new' (Kd.R_new' (Kd.R_new' ho1 (Kd.R_lt (rr HO_800001.out))) (Kd.R_lt (rr HO_811001.out))) (Kd.R_lt (rr HO_823001.out))) (below_size (bs4 HB GE776 GE799 GE810 GE822)))
      have n11_ := Aside0.mk (Kd.R_lower (Kd.R_new' (Kd.R_new' (Kd.R_new' (Kd.R_new' (Kd.R_new' (Kd.R_new' ho2 (Kd.R_lt (rr HO_800000.out))) (Kd.R_lt (rr HO_800002.out))) (Kd.R_lt (rr HO_811000.out))) (Kd.R_lt (rr HO_811002.out))) (Kd.R_lt (rr HO_823000.out))) (Kd.R_lt (rr HO_823002.out))) (below_size (bs4 HB GE776 GE799 GE810 GE822)))
      have n12_ := Aside0.mk (bb BK776 hb)
      have n13_ := Aside0.mk (bb BK799 hb)
      have n14_ := Aside0.mk (bb BK810 hb)
      have n15_ := Aside0.mk (bb BK822 hb)
      have n16_ := Aside0.mk (below_step (bs4 HB GE776 GE799 GE810 GE822) hb)
      clear HO_800000
      clear HO_800001
      clear HO_800002
      clear HO_811000
      clear HO_811001
      clear HO_811002
      clear HO_823000
      clear HO_823001
      clear HO_823002
      clear BK776
      clear BK799
      clear BK810
      clear BK822
      clear HB
      have HO_800000 := n0_
      have HO_800001 := n1_
      have HO_800002 := n2_
      have HO_811000 := n3_
      have HO_811001 := n4_
      have HO_811002 := n5_
      have HO_823000 := n6_
      have HO_823001 := n7_
      have HO_823002 := n8_
      have HO826 := n9_
      have HO829 := n10_
      have HO832 := n11_
      have BK776 := n12_
      have BK799 := n13_
      have BK810 := n14_
      have BK822 := n15_
      have HB := n16_
      clear n0_ n1_ n2_ n3_ n4_ n5_ n6_ n7_ n8_ n9_ n10_ n11_ n12_ n13_ n14_ n15_ n16_
      (try clear hb)
      (try clear hb2)
      (try clear hk)
      (try clear hi)
      (try clear ho0)
      (try clear ho1)
      (try clear ho2)
      obtain ⟨Ao191, co191, eo191⟩ := Kd.R_slice HO826.out
      (first | subst eo191 | (injection eo191 with f1_ f2_ f3_; have f4_ := f1_.symm; have f5_ := f3_.symm; clear f1_ f2_ f3_; subst f4_; subst f5_))
      obtain ⟨Ao192, co192, eo192⟩ := Kd.R_slice HO829.out
      (first | subst eo192 | (injection eo192 with f1_ f2_ f3_; have f4_ := f1_.symm; have f5_ := f3_.symm; clear f1_ f2_ f3_; subst f4_; subst f5_))
      obtain ⟨Ao193, co193, eo193⟩ := Kd.R_slice HO832.out
      (first | subst eo193 | (injection eo193 with f1_ f2_ f3_; have f4_ := f1_.symm; have f5_ := f3_.symm; clear f1_ f2_ f3_; subst f4_; subst f5_))
      refine hK.out _ _ ⟨(blk_cell BK810.out 0).trans rfl, (blk_cell BK810.out 1).trans rfl, (blk_cell BK810.out 2).trans rfl, (blk_cell BK810.out 3).trans rfl, (blk_cell BK776.out 0).trans rfl, (blk_cell BK776.out 1).trans rfl, (blk_cell BK776.out 2).trans rfl, (blk_cell BK776.out 3).trans rfl⟩ (fun hHeld => ?_)
      clear hK K
      refine norm_ (a' := ?_) ?_ ?_
      rotate_left
      ·
       show Act.put _ (some 43) _ = _
       simp only [Act.put, List.setIfInBounds_toArray, List.set_cons_zero, List.set_cons_succ, i64_w, i32_w]
       rfl
      refine one_ (i := 3) (N := some 44) #[true, true, true, true, false] rfl rfl (by kernel_rfl) (by decide) (fun K hK => ?_)
      refine goes_ Try.func29 (by kernel_rfl) rfl #[.agg #[.slice Ao30 t800.length co30, .slice Ao34 t803.length co34, .slice Ao35 t806.length co35, .int .i64 t809], .agg #[.slice Ao191 t824.length co191, .slice Ao192 t827.length co192, .slice Ao193 t830.length co193, .int .i64 t833]] (by rfl) rfl rfl (by (try simp only [List.map_toArray, List.map_cons, List.map_nil]); first | done | rfl | (simp only [List.length_drop, List.length_take]; rfl)) ?_
      with_reducible refine (laws_eqStore.calls kj10 _ _ t800 _ _ t803 _ _ t806 t809 _ _ t824 _ _ t827 _ _ t830 t833 false _ ?side1 ?side2 ?side3 ?side4 ?side5 ?side6 ?side7 ?side8 ?side9 ?side10 ?side11 ?side12 A65.out).mono ?_
      (case side1 => exact rc0 HO_811000)
      (case side2 => exact (Kd.R_reads' HO_811000.out).2.1)
      (case side3 => exact rc0 HO_811001)
      (case side4 => exact (Kd.R_reads' HO_811001.out).2.1)
      (case side5 => exact rc0 HO_811002)
      (case side6 => exact (Kd.R_reads' HO_811002.out).2.1)
      (case side7 => exact rc0 HO826)
      (case side8 => exact (Kd.R_reads' HO826.out).2.1)
      (case side9 => exact rc0 HO829)
      (case side10 => exact (Kd.R_reads' HO829.out).2.1)
      (case side11 => exact rc0 HO832)
      (case side12 => exact (Kd.R_reads' HO832.out).2.1)
      rintro e w194 ⟨rfl, hb⟩
      refine ⟨_, rfl, ?_⟩
      have n0_ := Aside0.mk (Kd.R_below (rr HO_800000.out) hb)
      have n1_ := Aside0.mk (Kd.R_below (rr HO_800001.out) hb)
      have n2_ := Aside0.mk (Kd.R_below (rr HO_800002.out) hb)
      have n3_ := Aside0.mk (Kd.R_below (rr HO_811000.out) hb)
      have n4_ := Aside0.mk (Kd.R_below (rr HO_811001.out) hb)
      have n5_ := Aside0.mk (Kd.R_below (rr HO_811002.out) hb)
      have n6_ := Aside0.mk (Kd.R_below (rr HO_823000.out) hb)
      have n7_ := Aside0.mk (Kd.R_below (rr HO_823001.out) hb)
      have n8_ := Aside0.mk (Kd.R_below (rr HO_823002.out) hb)
      have n9_ := Aside0.mk (Kd.R_below (rr HO826.out) hb)
      have n10_ := Aside0.mk (Kd.R_below (rr HO829.out) hb)
      have n11_ := Aside0.mk (Kd.R_below (rr HO832.out) hb)
      have n12_ := Aside0.mk (bb BK776 hb)
      have n13_ := Aside0.mk (bb BK799 hb)
      have n14_ := Aside0.mk (bb BK810 hb)
      have n15_ := Aside0.mk (bb BK822 hb)
      have n16_ := Aside0.mk (below_step (bs4 HB GE776 GE799 GE810 GE822) hb)
      clear HO_800000
      clear HO_800001
      clear HO_800002
      clear HO_811000
      clear HO_811001
      clear HO_811002
      clear HO_823000
      clear HO_823001
      clear HO_823002
      clear HO826
      clear HO829
      clear HO832
      clear BK776
      clear BK799
      clear BK810
      clear BK822
      clear HB
      have HO_800000 := n0_
      have HO_800001 := n1_
      have HO_800002 := n2_
      have HO_811000 := n3_
      have HO_811001 := n4_
      have HO_811002 := n5_
      have HO_823000 := n6_
      have HO_823001 := n7_
      have HO_823002 := n8_
      have HO826 := n9_
      have HO829 := n10_
      have HO832 := n11_
      have BK776 := n12_
      have BK799 := n13_
      have BK810 := n14_
      have BK822 := n15_
      have HB := n16_
      clear n0_ n1_ n2_ n3_ n4_ n5_ n6_ n7_ n8_ n9_ n10_ n11_ n12_ n13_ n14_ n15_ n16_
      (try clear hb)
      (try clear hb2)
      (try clear hk)
      (try clear hi)
      refine hK.out _ _ ⟨(blk_cell BK810.out 0).trans rfl, (blk_cell BK810.out 1).trans rfl, (blk_cell BK810.out 2).trans rfl, (blk_cell BK810.out 3).trans rfl, (blk_cell BK776.out 0).trans rfl, (blk_cell BK776.out 1).trans rfl, (blk_cell BK776.out 2).trans rfl, (blk_cell BK776.out 3).trans rfl⟩ (fun hHeld => ?_)
      clear hK K
      refine norm_ (a' := ?_) ?_ ?_
      rotate_left
      ·
       show Act.put _ (some 44) _ = _
       simp only [Act.put, List.setIfInBounds_toArray, List.set_cons_zero, List.set_cons_succ, i64_w, i32_w]
       rfl
      refine pure_ (i := 4) (N := some 45) (v := ?_) (a' := ?_) #[true, true, true, true, true] rfl rfl (by kernel_rfl) (fun _ _ _ h => h) (Or.inl ⟨by rfl, ?_⟩) ?_ ?_
      rotate_left
      ·
       intro w'
       go_simp
       with_reducible rfl
      rotate_left
      ·
       simp only [Act.put, List.setIfInBounds_toArray, List.set_cons_zero, List.set_cons_succ, i64_w, i32_w]
       rfl
      refine done_ (by kernel_rfl) ?_
      try go_wp2
      go_ret
      exact ⟨by first | rfl | (simp [errW_none, errW_some] <;> rfl) | (simp [*, errW_none, errW_some] <;> rfl), bs4 HB GE776 GE799 GE810 GE822⟩

/-- THE ONE PURE STATEMENT of laws_FnExactSyncLog. -/
def laws_FnExactSyncLog.Pure : Prop := ∀ (l0_0 : List ByteArray) (l0_1 : List (S76)) (l0_2 : List ByteArray) (a0_3 : Int), ok38 (⟨(⟨l0_0, l0_1⟩ : S36), l0_2, a0_3⟩ : S38) → ∃ k, laws_FnExactSyncLog.f k l0_0 l0_1 l0_2 a0_3 = some true

end Go.Proofs.Ytcdkgenfggdpaaa.G
