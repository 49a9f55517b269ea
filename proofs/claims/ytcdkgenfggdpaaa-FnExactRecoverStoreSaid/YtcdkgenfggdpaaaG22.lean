-- Printed by a program of this session (drive.py, by way of the kit's print). Not trusted: Lean checks it.
import Derived.Test.YtcdkgenfggdpaaaG0
import Derived.Test.YtcdkgenfggdpaaaG6
import Derived.Test.YtcdkgenfggdpaaaG7
import Derived.Test.YtcdkgenfggdpaaaG9
import Derived.Test.YtcdkgenfggdpaaaG10
import Derived.Test.YtcdkgenfggdpaaaG11
import Derived.Test.YtcdkgenfggdpaaaG13
namespace Go.Proofs.Ytcdkgenfggdpaaa.G
open Go.RowKit Go.Proofs.YtcdkgenfggdpaaaW.PrintWords Go.Proofs.YtcdkgenfggdpaaaW.PrintLast Go.Proofs.YtcdkgenfggdpaaaW.PrintMore
attribute [local go_sem] max2_int min2_int max_two min_two max_three min_three max_four min_four   -- for this text's walks alone
set_option linter.unusedVariables false
set_option linter.unusedSimpArgs false

/-! ### spec_RecoverStore: function 43 -/
def spec_RecoverStore.j0 : Nat → Bool → List ByteArray → List (S72) → List ByteArray → Int → Option (List ByteArray × (List (S72)) × List ByteArray × Int × Bool)
 | 0, _, _, _, _, _ => none
 | k + 1, x16, x870000, x870001, x870002, x870003 => if x16 = true then (some (([] : List ByteArray), ([] : List (S72)), ([] : List ByteArray), 0, false)) else ((spec_l11Writes.f k x870002 (x870000.length : Int)).bind fun bt872 => ((spec_l1Done.f k x870000 x870001).bind fun t876 => ((spec_l1Done.f k t876 bt872.1).bind fun t879 => (some (t879, ([] : List (S72)), ([] : List ByteArray), 0, true)))))
def spec_RecoverStore.f (k : Nat) (l0_0 : List ByteArray) (l0_1 : List (S72)) (l0_2 : List ByteArray) (a0_3 : Int) : Option (List ByteArray × (List (S72)) × List ByteArray × Int × Bool) := (spec_GoodStore.f k l0_0 l0_1 l0_2 a0_3).bind fun t871 => (if t871 = true then (spec_RecoverStore.j0 k (a0_3 != (l0_2.length : Int)) l0_0 l0_1 l0_2 a0_3) else (spec_RecoverStore.j0 k true l0_0 l0_1 l0_2 a0_3))
theorem spec_RecoverStore.mono_l : ∀ k, (∀ y0 y1 y2 y3 y4, LeO (spec_RecoverStore.j0 k y0 y1 y2 y3 y4) (spec_RecoverStore.j0 (k + 1) y0 y1 y2 y3 y4))
 | 0 => fun _ _ _ _ _ r h => by simp [spec_RecoverStore.j0] at h
 | k + 1 => by
  have ih0 := spec_RecoverStore.mono_l k
  ·
   intro y0 y1 y2 y3 y4
   unfold spec_RecoverStore.j0
   repeat' first
   | (with_reducible exact ih0 _ _ _ _ _)
   | (with_reducible exact spec_GoodStore.mono _ _ _ _ _)
   | (with_reducible exact spec_l11Writes.mono _ _ _)
   | (with_reducible exact spec_l1Done.mono _ _ _)
   | (with_reducible exact LeO.refl _)
   | (with_reducible exact LeO.none _)
   | (with_reducible refine LeO.ite ?_ ?_)
   | (with_reducible refine LeO.bind ?_ (fun _ => ?_))
   | exact ih0 _ _ _ _ _
   | exact spec_GoodStore.mono _ _ _ _ _
   | exact spec_l11Writes.mono _ _ _
   | exact spec_l1Done.mono _ _ _
   | exact LeO.none _
   | refine LeO.ite ?_ ?_
   | refine LeO.bind ?_ (fun _ => ?_)
theorem spec_RecoverStore.mono : ∀ a0 a1 a2 a3 k, LeO (spec_RecoverStore.f k a0 a1 a2 a3) (spec_RecoverStore.f (k + 1) a0 a1 a2 a3) := by
 intro a0 a1 a2 a3 k
 have ih0 := spec_RecoverStore.mono_l k
 unfold spec_RecoverStore.f
 repeat' first
   | (with_reducible exact ih0 _ _ _ _ _)
   | (with_reducible exact spec_GoodStore.mono _ _ _ _ _)
   | (with_reducible exact spec_l11Writes.mono _ _ _)
   | (with_reducible exact spec_l1Done.mono _ _ _)
   | (with_reducible exact LeO.refl _)
   | (with_reducible exact LeO.none _)
   | (with_reducible refine LeO.ite ?_ ?_)
   | (with_reducible refine LeO.bind ?_ (fun _ => ?_))
   | exact ih0 _ _ _ _ _
   | exact spec_GoodStore.mono _ _ _ _ _
   | exact spec_l11Writes.mono _ _ _
   | exact spec_l1Done.mono _ _ _
   | exact LeO.none _
   | refine LeO.ite ?_ ?_
   | refine LeO.bind ?_ (fun _ => ?_)
set_option maxHeartbeats 8000000 in
set_option maxRecDepth 100000 in
theorem spec_RecoverStore.calls (k : Nat) (A0_0 : Option Addr) (c0_0 : Nat) (l0_0 : List ByteArray) (A0_1 : Option Addr) (c0_1 : Nat) (l0_1 : List (S72)) (A0_2 : Option Addr) (c0_2 : Nat) (l0_2 : List ByteArray) (a0_3 : Int) (r1 : List ByteArray) (r2 : List (S72)) (r3 : List ByteArray) (r4 : Int) (r5 : Bool) (w : World) (hr0_0 : Kd.C Kd.string w A0_0 l0_0.length l0_0) (hc0_0 : l0_0.length ≤ c0_0) (hr0_1 : Kd.C k72 w A0_1 l0_1.length l0_1) (hc0_1 : l0_1.length ≤ c0_1) (hr0_2 : Kd.C Kd.string w A0_2 l0_2.length l0_2) (hc0_2 : l0_2.length ≤ c0_2) (h : spec_RecoverStore.f k l0_0 l0_1 l0_2 a0_3 = some (r1, r2, r3, r4, r5)) :
  Calls Try.prog 43 #[.agg #[.slice A0_0 l0_0.length c0_0, .slice A0_1 l0_1.length c0_1, .slice A0_2 l0_2.length c0_2, .int .i64 a0_3]] w fun e w' => ∃ v0_ v1_ v2_ : Value, e = .returned (.tuple #[.agg #[v0_, v1_, v2_, .int .i64 r4], .bool r5]) ∧ Kd.R Kd.string 9 w' w.heap.size (fun k_ => some k_ ≠ (v2_ : Value).ownBlock) v0_ r1 ∧ Kd.R k72 72 w' w.heap.size (fun _ => True) v1_ r2 ∧ Kd.R Kd.string 9 w' w.heap.size (fun k_ => some k_ ≠ (v0_ : Value).ownBlock) v2_ r3 ∧ Below w.heap.size w w' := by
 have hu44 := Try.underlying44
 have hu42 := Try.underlying42
 have HR0_0 := Aside0.mk hr0_0
 have HC0_0 := Aside0.mk hc0_0
 clear hr0_0 hc0_0
 have HR0_1 := Aside0.mk hr0_1
 have HC0_1 := Aside0.mk hc0_1
 clear hr0_1 hc0_1
 have HR0_2 := Aside0.mk hr0_2
 have HC0_2 := Aside0.mk hc0_2
 clear hr0_2 hc0_2
 have HB := Aside0.mk (Below.refl w.heap.size w)
 have H : ((spec_GoodStore.f k l0_0 l0_1 l0_2 a0_3).bind fun t871 => (if t871 = true then (spec_RecoverStore.j0 k (a0_3 != (l0_2.length : Int)) l0_0 l0_1 l0_2 a0_3) else (spec_RecoverStore.j0 k true l0_0 l0_1 l0_2 a0_3))) = some (r1, r2, r3, r4, r5) := h
 clear h
 have HC2 := Aside0.mk H
 clear H
 go_enter Try.func43, Try.ntmps43
 go_upto_region 1 with (first | ((with_reducible refine gate_dst (N := 1) rfl ?_); (try (refine gate_guard (by rfl) ?_; dsimp only)); refine box_event ?hg (N := 1) ?hd (cs := #[.slice A0_0 l0_0.length c0_0, .slice A0_1 l0_1.length c0_1, .slice A0_2 l0_2.length c0_2, .int .i64 a0_3]) (t := 44) ?hr ?_; (case hd => rfl); (case hg => rfl); (case hr => first | (go_simp; done) | (go_simp; rfl)); intro gb869 hg w3 hbox hb; have BK869 := Aside0.mk (hbox); have GW869 := Aside0.mk ((by rw [hg]; exact (below_size (bs HB)) : w.heap.size ≤ gb869)); have GE869 := Aside0.mk ((by rw [hg]; exact (below_size (bs HB)) : w.heap.size ≤ gb869)); replace HB := Aside0.mk (below_step (bs HB) hb); clear hb hbox hg) | ((with_reducible refine gate_dst (N := 2) rfl ?_); (try (refine gate_guard (by rfl) ?_; dsimp only)); refine box_event ?hg (N := 2) ?hd (cs := #[.slice none 0 0, .slice none 0 0, .slice none 0 0, .int .i64 0]) (t := 44) ?hr ?_; (case hd => rfl); (case hg => rfl); (case hr => first | (go_simp; done) | (go_simp; rfl)); intro gb870 hg w4 hbox hb; have BK870 := Aside0.mk (hbox); have GW870 := Aside0.mk ((by rw [hg]; exact (below_size (bs1 HB GE869)) : w.heap.size ≤ gb870)); have GE870 := Aside0.mk ((by rw [hg]; exact (below_size (bs1 HB GE869)) : w.heap.size ≤ gb870)); replace HB := Aside0.mk (below_step (bs1 HB GE869) hb); have NB869_870 := Aside0.mk ((bn BK869 hg : gb869 ≠ gb870)); have NB870_869 := Aside0.mk ((bm BK869 hg : gb870 ≠ gb869)); replace BK869 := nb BK869 hb; clear hb hbox hg))
 (try simp only [Act.put, List.setIfInBounds_toArray, List.set_cons_zero, List.set_cons_succ])
 go_cut [16] (fun v16 wc => ∃ (kq : Nat) (x16_1 : Bool), v16 = .bool x16_1 ∧ Aside0 (spec_RecoverStore.j0 kq x16_1 l0_0 l0_1 l0_2 a0_3 = some (r1, r2, r3, r4, r5)) ∧ Aside0 (kq ≤ k) ∧ Aside0 (wc.heap[gb869]? = some (.cells #[(.slice A0_0 l0_0.length c0_0), (.slice A0_1 l0_1.length c0_1), (.slice A0_2 l0_2.length c0_2), .int .i64 a0_3] 44 (0, 0))) ∧ Aside0 (wc.heap[gb870]? = some (.cells #[(.slice none 0 0), (.slice none 0 0), (.slice none 0 0), .int .i64 0] 44 (0, 0))) ∧ Aside0 (Below w.heap.size w wc))
 case first =>
  have H := HC2.out
  clear HC2
  replace H := Option.bind_eq_some_iff.mp H
  obtain ⟨t871, A50, H⟩ := H
  replace H : (if t871 = true then (spec_RecoverStore.j0 k (a0_3 != (l0_2.length : Int)) l0_0 l0_1 l0_2 a0_3) else (spec_RecoverStore.j0 k true l0_0 l0_1 l0_2 a0_3)) = some (r1, r2, r3, r4, r5) := H
  have A5 := Aside0.mk A50
  clear A50
  by_cases c6 : t871 = true
  ·
   subst c6
   rw [if_pos rfl] at H
   have H' := Aside0.mk H
   clear H
   have hnb7 := NB869_870.out
   have hnc7 := NB870_869.out
   obtain ⟨hcz8_0, hcz8_1, hcz8_2, hcz8_3⟩ := cz4 BK869
   obtain ⟨hfz8_0, hfz8_1, hfz8_2, hfz8_3⟩ := fz4 BK869
   go_wp2_with (first | ((with_reducible refine gate_callee (f := 26) rfl ?_); refine gL (some 7) rfl rfl Try.func26 (by kernel_rfl) rfl #[.agg #[.slice A0_0 l0_0.length c0_0, .slice A0_1 l0_1.length c0_1, .slice A0_2 l0_2.length c0_2, .int .i64 a0_3]] rfl ?_; (with_reducible refine (spec_GoodStore.calls k _ _ l0_0 _ _ l0_1 _ _ l0_2 a0_3 true _ ?side1 ?side2 ?side3 ?side4 ?side5 ?side6 A5.out).mono ?_); (case side1 => exact cb HR0_0 HB); (case side2 => exact HC0_0.out); (case side3 => exact cb HR0_1 HB); (case side4 => exact HC0_1.out); (case side5 => exact cb HR0_2 HB); (case side6 => exact HC0_2.out); rintro e w9 ⟨rfl, hb⟩; refine ⟨_, rfl, ?_⟩; replace BK869 := nb BK869 hb; replace BK870 := nb BK870 hb; replace HB := Aside0.mk (below_step (bs2 HB GE869 GE870) hb); (try clear hb); (try clear hb2); (try clear hk); (try clear hi); obtain ⟨hcz10_0, hcz10_1, hcz10_2, hcz10_3⟩ := cz4 BK869; obtain ⟨hfz10_0, hfz10_1, hfz10_2, hfz10_3⟩ := fz4 BK869))
   go_meet
   case rel => exact ⟨_, ((a0_3 != (l0_2.length : Int))), (by first | rfl | (simp; done) | (simp [*]; done)), H', ⟨by first | omega | exact Nat.le_refl _⟩, ⟨bk BK869⟩, ⟨bk BK870⟩, ⟨bs2 HB GE869 GE870⟩⟩
  ·
   replace c6 := Bool.eq_false_iff.mpr c6
   subst c6
   rw [if_neg (show ¬ (false = true) by decide)] at H
   have H' := Aside0.mk H
   clear H
   have hnb11 := NB869_870.out
   have hnc11 := NB870_869.out
   obtain ⟨hcz12_0, hcz12_1, hcz12_2, hcz12_3⟩ := cz4 BK869
   obtain ⟨hfz12_0, hfz12_1, hfz12_2, hfz12_3⟩ := fz4 BK869
   go_wp2_with (first | ((with_reducible refine gate_callee (f := 26) rfl ?_); refine gL (some 7) rfl rfl Try.func26 (by kernel_rfl) rfl #[.agg #[.slice A0_0 l0_0.length c0_0, .slice A0_1 l0_1.length c0_1, .slice A0_2 l0_2.length c0_2, .int .i64 a0_3]] rfl ?_; (with_reducible refine (spec_GoodStore.calls k _ _ l0_0 _ _ l0_1 _ _ l0_2 a0_3 false _ ?side1 ?side2 ?side3 ?side4 ?side5 ?side6 A5.out).mono ?_); (case side1 => exact cb HR0_0 HB); (case side2 => exact HC0_0.out); (case side3 => exact cb HR0_1 HB); (case side4 => exact HC0_1.out); (case side5 => exact cb HR0_2 HB); (case side6 => exact HC0_2.out); rintro e w13 ⟨rfl, hb⟩; refine ⟨_, rfl, ?_⟩; replace BK869 := nb BK869 hb; replace BK870 := nb BK870 hb; replace HB := Aside0.mk (below_step (bs2 HB GE869 GE870) hb); (try clear hb); (try clear hb2); (try clear hk); (try clear hi)))
   go_meet
   case rel => exact ⟨_, (true), (by first | rfl | (simp; done) | (simp [*]; done)), H', ⟨by first | omega | exact Nat.le_refl _⟩, ⟨bk BK869⟩, ⟨bk BK870⟩, ⟨bs2 HB GE869 GE870⟩⟩
 case rest =>
  clear HC2
  try clear c1
  try clear c2
  try clear p2
  try clear c4
  try clear c6
  try clear c7
  try clear c11
  try clear hcz10_0 hcz10_1 hcz10_2 hcz10_3
  try clear hcz12_0 hcz12_1 hcz12_2 hcz12_3
  try clear hcz8_0 hcz8_1 hcz8_2 hcz8_3
  try clear hfz10_0 hfz10_1 hfz10_2 hfz10_3
  try clear hfz12_0 hfz12_1 hfz12_2 hfz12_3
  try clear hfz8_0 hfz8_1 hfz8_2 hfz8_3
  obtain ⟨kq, x16_1, rfl, HA, HJ1, BK869, BK870, HB⟩ := hcut
  cases kq with
  | zero => exact absurd HA.out (by simp [spec_RecoverStore.j0])
  | succ kj1 =>
   have H := HA.out
   clear HA
   simp only [spec_RecoverStore.j0] at H
   by_cases c14 : x16_1 = true
   ·
    subst c14
    rw [if_pos rfl] at H
    simp only [Option.some.injEq, Prod.mk.injEq] at H
    obtain ⟨rfl, rfl, rfl, rfl, rfl⟩ := H
    have hnb15 := NB870_869.out
    have hnc15 := NB869_870.out
    obtain ⟨hcz16_0, hcz16_1, hcz16_2, hcz16_3⟩ := cz4 BK870
    obtain ⟨hfz16_0, hfz16_1, hfz16_2, hfz16_3⟩ := fz4 BK870
    go_wp2
    refine bodyPost_ret (results_ct rfl _ _ gb870 44 #[.slice none 0 0, .slice none 0 0, .slice none 0 0, .int .i64 0] (0, 0) _ rfl (by (with_reducible repeat (first | refine blk_drewN ?_ _ | refine blk_drew ?_ | refine blk_alloc ?_ _)); refine blk_put (cs := #[.slice none 0 0, .slice none 0 0, .slice none 0 0, .int .i64 0]) ?_ 3 _ rfl; (with_reducible repeat (first | refine blk_drewN ?_ _ | refine blk_drew ?_ | refine blk_alloc ?_ _)); refine blk_put (cs := #[.slice none 0 0, .slice none 0 0, .slice none 0 0, .int .i64 0]) ?_ 2 _ rfl; (with_reducible repeat (first | refine blk_drewN ?_ _ | refine blk_drew ?_ | refine blk_alloc ?_ _)); refine blk_put (cs := #[.slice none 0 0, .slice none 0 0, .slice none 0 0, .int .i64 0]) ?_ 1 _ rfl; (with_reducible repeat (first | refine blk_drewN ?_ _ | refine blk_drew ?_ | refine blk_alloc ?_ _)); refine blk_put (cs := #[.slice none 0 0, .slice none 0 0, .slice none 0 0, .int .i64 0]) ?_ 0 _ rfl; (with_reducible repeat (first | refine blk_drewN ?_ _ | refine blk_drew ?_ | refine blk_alloc ?_ _)); exact BK870.out) Try.underlying44 rfl (by kernel_rfl)) rfl ?_
    exact ⟨_, _, _, by first | rfl | (simp [errW_none, errW_some] <;> rfl) | (simp [*, errW_none, errW_some] <;> rfl), by first | exact Kd.R_nil _ _ _ _ _ | exact Kd.N_nil _ _ _ _ _ | exact Kd.V_nil _ _ _ _ _ | exact Kd.Q_nil _ _ _ _ _ | exact Kd.S_nil _ _ _ _ _, by first | exact Kd.R_nil _ _ _ _ _ | exact Kd.N_nil _ _ _ _ _ | exact Kd.V_nil _ _ _ _ _ | exact Kd.Q_nil _ _ _ _ _ | exact Kd.S_nil _ _ _ _ _, by first | exact Kd.R_nil _ _ _ _ _ | exact Kd.N_nil _ _ _ _ _ | exact Kd.V_nil _ _ _ _ _ | exact Kd.Q_nil _ _ _ _ _ | exact Kd.S_nil _ _ _ _ _, bs2 HB GE869 GE870⟩
   ·
    replace c14 := Bool.eq_false_iff.mpr c14
    subst c14
    rw [if_neg (show ¬ (false = true) by decide)] at H
    replace H := Option.bind_eq_some_iff.mp H
    obtain ⟨⟨t872, t873⟩, A170, H⟩ := H
    replace H : ((spec_l1Done.f kj1 l0_0 l0_1).bind fun t876 => ((spec_l1Done.f kj1 t876 t872).bind fun t879 => (some (t879, ([] : List (S72)), ([] : List ByteArray), 0, true)))) = some (r1, r2, r3, r4, r5) := H
    have A17 := Aside0.mk A170
    clear A170
    replace H := Option.bind_eq_some_iff.mp H
    obtain ⟨t876, A180, H⟩ := H
    replace H : ((spec_l1Done.f kj1 t876 t872).bind fun t879 => (some (t879, ([] : List (S72)), ([] : List ByteArray), 0, true))) = some (r1, r2, r3, r4, r5) := H
    have A18 := Aside0.mk A180
    clear A180
    replace H := Option.bind_eq_some_iff.mp H
    obtain ⟨t879, A190, H⟩ := H
    replace H : (some (t879, ([] : List (S72)), ([] : List ByteArray), 0, true)) = some (r1, r2, r3, r4, r5) := H
    have A19 := Aside0.mk A190
    clear A190
    simp only [Option.some.injEq, Prod.mk.injEq] at H
    obtain ⟨rfl, rfl, rfl, rfl, rfl⟩ := H
    have hnb20 := NB869_870.out
    have hnc20 := NB870_869.out
    obtain ⟨hcz21_0, hcz21_1, hcz21_2, hcz21_3⟩ := cz4 BK869
    obtain ⟨hfz21_0, hfz21_1, hfz21_2, hfz21_3⟩ := fz4 BK869
    go_wp2_with (first | ((with_reducible refine gate_callee (f := 73) rfl ?_); refine gL (some 25) rfl rfl Try.func73 (by kernel_rfl) rfl #[.slice A0_2 l0_2.length c0_2, .int .i64 (l0_0.length : Int)] rfl ?_; (with_reducible refine (spec_l11Writes.calls kj1 _ _ l0_2 (l0_0.length : Int) t872 t873 _ ?side1 ?side2 A17.out).mono ?_); (case side1 => exact cb HR0_2 HB); (case side2 => exact HC0_2.out); rintro e w22 ⟨v874, rfl, ho0, hb⟩; refine ⟨_, rfl, ?_⟩; have HO875 := Aside0.mk (Kd.R_lower ho0 (below_size (bs2 HB GE869 GE870))); replace BK869 := nb BK869 hb; replace BK870 := nb BK870 hb; replace HB := Aside0.mk (below_step (bs2 HB GE869 GE870) hb); (try clear hb); (try clear hb2); (try clear hk); (try clear hi); (try clear ho0); obtain ⟨hcz23_0, hcz23_1, hcz23_2, hcz23_3⟩ := cz4 BK869; obtain ⟨hfz23_0, hfz23_1, hfz23_2, hfz23_3⟩ := fz4 BK869) | ((with_reducible refine gate_callee (f := 87) rfl ?_); refine gL (some 34) rfl rfl Try.func87 (by kernel_rfl) rfl #[.slice A0_0 l0_0.length c0_0, .slice A0_1 l0_1.length c0_1] rfl ?_; (with_reducible refine (spec_l1Done.calls kj1 _ _ l0_0 _ _ l0_1 t876 _ ?side1 ?side2 ?side3 ?side4 A18.out).mono ?_); (case side1 => exact cb HR0_0 HB); (case side2 => exact HC0_0.out); (case side3 => exact cb HR0_1 HB); (case side4 => exact HC0_1.out); rintro e w24 ⟨v877, rfl, ho0, hb⟩; refine ⟨_, rfl, ?_⟩; replace HO875 := nr HO875 hb; have HO878 := Aside0.mk (Kd.R_lower ho0 (below_size (bs2 HB GE869 GE870))); replace BK869 := nb BK869 hb; replace BK870 := nb BK870 hb; replace HB := Aside0.mk (below_step (bs2 HB GE869 GE870) hb); (try clear hb); (try clear hb2); (try clear hk); (try clear hi); (try clear ho0); obtain ⟨Ao25, co25, eo25⟩ := Kd.R_slice HO878.out; subst eo25; obtain ⟨Ao26, co26, eo26⟩ := Kd.R_slice HO875.out; subst eo26) | ((with_reducible refine gate_callee (f := 87) rfl ?_); refine gL (some 36) rfl rfl Try.func87 (by kernel_rfl) rfl #[.slice Ao25 t876.length co25, .slice Ao26 t872.length co26] rfl ?_; (with_reducible refine (spec_l1Done.calls kj1 _ _ t876 _ _ t872 t879 _ ?side1 ?side2 ?side3 ?side4 A19.out).mono ?_); (case side1 => exact rc0 HO878); (case side2 => exact (Kd.R_reads' HO878.out).2.1); (case side3 => exact rc0 HO875); (case side4 => exact (Kd.R_reads' HO875.out).2.1); rintro e w27 ⟨v880, rfl, ho0, hb⟩; refine ⟨_, rfl, ?_⟩; replace HO875 := nr HO875 hb; have HO881 := Aside0.mk (Kd.R_lower (Kd.R_new' ho0 (Kd.R_lt (rr HO878.out))) (below_size (bs2 HB GE869 GE870))); replace HO878 := Aside0.mk (Kd.R_elder' (rr HO878.out) (Kd.R_base ho0) hb); replace BK869 := nb BK869 hb; replace BK870 := nb BK870 hb; replace HB := Aside0.mk (below_step (bs2 HB GE869 GE870) hb); (try clear hb); (try clear hb2); (try clear hk); (try clear hi); (try clear ho0); obtain ⟨Ao28, co28, eo28⟩ := Kd.R_slice HO881.out; subst eo28; obtain ⟨hcz29_0, hcz29_1, hcz29_2, hcz29_3⟩ := cz4 BK870; obtain ⟨hfz29_0, hfz29_1, hfz29_2, hfz29_3⟩ := fz4 BK870))
    refine bodyPost_ret (results_ct rfl _ _ gb870 44 #[.slice Ao28 t879.length co28, .slice none 0 0, .slice none 0 0, .int .i64 0] (0, 0) _ rfl (by (with_reducible repeat (first | refine blk_drewN ?_ _ | refine blk_drew ?_ | refine blk_alloc ?_ _)); refine blk_put (cs := #[.slice Ao28 t879.length co28, .slice none 0 0, .slice none 0 0, .int .i64 0]) ?_ 3 _ rfl; (with_reducible repeat (first | refine blk_drewN ?_ _ | refine blk_drew ?_ | refine blk_alloc ?_ _)); refine blk_put (cs := #[.slice Ao28 t879.length co28, .slice none 0 0, .slice none 0 0, .int .i64 0]) ?_ 2 _ rfl; (with_reducible repeat (first | refine blk_drewN ?_ _ | refine blk_drew ?_ | refine blk_alloc ?_ _)); refine blk_put (cs := #[.slice Ao28 t879.length co28, .slice none 0 0, .slice none 0 0, .int .i64 0]) ?_ 1 _ rfl; (with_reducible repeat (first | refine blk_drewN ?_ _ | refine blk_drew ?_ | refine blk_alloc ?_ _)); refine blk_put (cs := #[.slice none 0 0, .slice none 0 0, .slice none 0 0, .int .i64 0]) ?_ 0 _ rfl; (with_reducible repeat (first | refine blk_drewN ?_ _ | refine blk_drew ?_ | refine blk_alloc ?_ _)); exact BK870.out) Try.underlying44 rfl (by kernel_rfl)) rfl ?_
    exact ⟨_, _, _, by first | rfl | (simp [errW_none, errW_some] <;> rfl) | (simp [*, errW_none, errW_some] <;> rfl), by (with_reducible repeat (first | apply Kd.R_alloc | apply Kd.R_drewN | apply Kd.R_drew)); exact Kd.R_mono (Kd.R_far (p := ⟨gb870, 3, none⟩) (Kd.R_far (p := ⟨gb870, 2, none⟩) (Kd.R_far (p := ⟨gb870, 1, none⟩) (Kd.R_far (p := ⟨gb870, 0, none⟩) (Kd.R_types HO881.out BK870.out (by decide)) (fun _ hk => hk.2) (.slice Ao28 t879.length co28)) (fun _ hk => hk.2) (.slice none 0 0)) (fun _ hk => hk.2) (.slice none 0 0)) (fun _ hk => hk.2) (.int .i64 0)) (fun _ hk => (by simp [Value.ownBlock])), by first | exact Kd.R_nil _ _ _ _ _ | exact Kd.N_nil _ _ _ _ _ | exact Kd.V_nil _ _ _ _ _ | exact Kd.Q_nil _ _ _ _ _ | exact Kd.S_nil _ _ _ _ _, by first | exact Kd.R_nil _ _ _ _ _ | exact Kd.N_nil _ _ _ _ _ | exact Kd.V_nil _ _ _ _ _ | exact Kd.Q_nil _ _ _ _ _ | exact Kd.S_nil _ _ _ _ _, bs2 HB GE869 GE870⟩

/-! ### impl_RecoverStore: function 44 -/
def impl_RecoverStore.f (k : Nat) (l0_0 : List ByteArray) (l0_1 : List (S72)) (l0_2 : List ByteArray) (a0_3 : Int) : Option (List ByteArray × (List (S72)) × List ByteArray × Int × Bool) := (impl_ViewOf.f k l0_0 l0_1 l0_2 a0_3).bind fun bt884 => (if bt884.2 = true then (if a0_3 = (l0_2.length : Int) then (some (bt884.1, ([] : List (S72)), ([] : List ByteArray), 0, true)) else (some (([] : List ByteArray), ([] : List (S72)), ([] : List ByteArray), 0, false))) else (some (([] : List ByteArray), ([] : List (S72)), ([] : List ByteArray), 0, false)))
theorem impl_RecoverStore.mono : ∀ a0 a1 a2 a3 k, LeO (impl_RecoverStore.f k a0 a1 a2 a3) (impl_RecoverStore.f (k + 1) a0 a1 a2 a3) := by
 intro a0 a1 a2 a3 k
 unfold impl_RecoverStore.f
 repeat' first
   | (with_reducible exact impl_ViewOf.mono _ _ _ _ _)
   | (with_reducible exact LeO.refl _)
   | (with_reducible exact LeO.none _)
   | (with_reducible refine LeO.ite ?_ ?_)
   | (with_reducible refine LeO.bind ?_ (fun _ => ?_))
   | exact impl_ViewOf.mono _ _ _ _ _
   | exact LeO.none _
   | refine LeO.ite ?_ ?_
   | refine LeO.bind ?_ (fun _ => ?_)
set_option maxHeartbeats 8000000 in
set_option maxRecDepth 100000 in
theorem impl_RecoverStore.calls (k : Nat) (A0_0 : Option Addr) (c0_0 : Nat) (l0_0 : List ByteArray) (A0_1 : Option Addr) (c0_1 : Nat) (l0_1 : List (S72)) (A0_2 : Option Addr) (c0_2 : Nat) (l0_2 : List ByteArray) (a0_3 : Int) (r1 : List ByteArray) (r2 : List (S72)) (r3 : List ByteArray) (r4 : Int) (r5 : Bool) (w : World) (hr0_0 : Kd.C Kd.string w A0_0 l0_0.length l0_0) (hc0_0 : l0_0.length ≤ c0_0) (hr0_1 : Kd.C k72 w A0_1 l0_1.length l0_1) (hc0_1 : l0_1.length ≤ c0_1) (hr0_2 : Kd.C Kd.string w A0_2 l0_2.length l0_2) (hc0_2 : l0_2.length ≤ c0_2) (h : impl_RecoverStore.f k l0_0 l0_1 l0_2 a0_3 = some (r1, r2, r3, r4, r5)) :
  Calls Try.prog 44 #[.agg #[.slice A0_0 l0_0.length c0_0, .slice A0_1 l0_1.length c0_1, .slice A0_2 l0_2.length c0_2, .int .i64 a0_3]] w fun e w' => ∃ v0_ v1_ v2_ : Value, e = .returned (.tuple #[.agg #[v0_, v1_, v2_, .int .i64 r4], .bool r5]) ∧ Kd.R Kd.string 9 w' w.heap.size (fun k_ => some k_ ≠ (v2_ : Value).ownBlock) v0_ r1 ∧ Kd.R k72 72 w' w.heap.size (fun _ => True) v1_ r2 ∧ Kd.R Kd.string 9 w' w.heap.size (fun k_ => some k_ ≠ (v0_ : Value).ownBlock) v2_ r3 ∧ Below w.heap.size w w' := by
 have hu44 := Try.underlying44
 have hu42 := Try.underlying42
 have HR0_0 := Aside0.mk hr0_0
 have HC0_0 := Aside0.mk hc0_0
 clear hr0_0 hc0_0
 have HR0_1 := Aside0.mk hr0_1
 have HC0_1 := Aside0.mk hc0_1
 clear hr0_1 hc0_1
 have HR0_2 := Aside0.mk hr0_2
 have HC0_2 := Aside0.mk hc0_2
 clear hr0_2 hc0_2
 have HB := Aside0.mk (Below.refl w.heap.size w)
 have H : ((impl_ViewOf.f k l0_0 l0_1 l0_2 a0_3).bind fun bt884 => (if bt884.2 = true then (if a0_3 = (l0_2.length : Int) then (some (bt884.1, ([] : List (S72)), ([] : List ByteArray), 0, true)) else (some (([] : List ByteArray), ([] : List (S72)), ([] : List ByteArray), 0, false))) else (some (([] : List ByteArray), ([] : List (S72)), ([] : List ByteArray), 0, false)))) = some (r1, r2, r3, r4, r5) := h
 clear h
 replace H := Option.bind_eq_some_iff.mp H
 obtain ⟨⟨t884, t887⟩, A20, H⟩ := H
 replace H : (if t887 = true then (if a0_3 = (l0_2.length : Int) then (some (t884, ([] : List (S72)), ([] : List ByteArray), 0, true)) else (some (([] : List ByteArray), ([] : List (S72)), ([] : List ByteArray), 0, false))) else (some (([] : List ByteArray), ([] : List (S72)), ([] : List ByteArray), 0, false))) = some (r1, r2, r3, r4, r5) := H
 have A2 := Aside0.mk A20
 clear A20
 by_cases c3 : t887 = true
 ·
  subst c3
  rw [if_pos rfl] at H
  by_cases c4 : a0_3 = (l0_2.length : Int)
  ·
   rw [if_pos c4] at H
   have c4b0 : (a0_3 == (l0_2.length : Int)) = true := beq_iff_eq.mpr c4
   have c4b1 : (a0_3 != (l0_2.length : Int)) = false := bne_eq_false_iff_eq.mpr c4
   clear c4
   simp only [Option.some.injEq, Prod.mk.injEq] at H
   obtain ⟨rfl, rfl, rfl, rfl, rfl⟩ := H
   go_enter Try.func44, Try.ntmps44
   go_wp2_with (first | ((with_reducible refine gate_dst (N := 1) rfl ?_); (try (refine gate_guard (by rfl) ?_; dsimp only)); refine box_event ?hg (N := 1) ?hd (cs := #[.slice A0_0 l0_0.length c0_0, .slice A0_1 l0_1.length c0_1, .slice A0_2 l0_2.length c0_2, .int .i64 a0_3]) (t := 44) ?hr ?_; (case hd => rfl); (case hg => rfl); (case hr => first | (go_simp; done) | (go_simp; rfl)); intro gb882 hg w5 hbox hb; have BK882 := Aside0.mk (hbox); have GW882 := Aside0.mk ((by rw [hg]; exact (below_size (bs HB)) : w.heap.size ≤ gb882)); have GE882 := Aside0.mk ((by rw [hg]; exact (below_size (bs HB)) : w.heap.size ≤ gb882)); replace HB := Aside0.mk (below_step (bs HB) hb); clear hb hbox hg) | ((with_reducible refine gate_dst (N := 2) rfl ?_); (try (refine gate_guard (by rfl) ?_; dsimp only)); refine box_event ?hg (N := 2) ?hd (cs := #[.slice none 0 0, .slice none 0 0, .slice none 0 0, .int .i64 0]) (t := 44) ?hr ?_; (case hd => rfl); (case hg => rfl); (case hr => first | (go_simp; done) | (go_simp; rfl)); intro gb883 hg w6 hbox hb; have BK883 := Aside0.mk (hbox); have GW883 := Aside0.mk ((by rw [hg]; exact (below_size (bs1 HB GE882)) : w.heap.size ≤ gb883)); have GE883 := Aside0.mk ((by rw [hg]; exact (below_size (bs1 HB GE882)) : w.heap.size ≤ gb883)); replace HB := Aside0.mk (below_step (bs1 HB GE882) hb); have NB882_883 := Aside0.mk ((bn BK882 hg : gb882 ≠ gb883)); have NB883_882 := Aside0.mk ((bm BK882 hg : gb883 ≠ gb882)); replace BK882 := nb BK882 hb; clear hb hbox hg; have hnb7 := NB882_883.out; have hnc7 := NB883_882.out; obtain ⟨hcz8_0, hcz8_1, hcz8_2, hcz8_3⟩ := cz4 BK882; obtain ⟨hfz8_0, hfz8_1, hfz8_2, hfz8_3⟩ := fz4 BK882) | ((with_reducible refine gate_callee (f := 35) rfl ?_); refine gL (some 8) rfl rfl Try.func35 (by kernel_rfl) rfl #[.agg #[.slice A0_0 l0_0.length c0_0, .slice A0_1 l0_1.length c0_1, .slice A0_2 l0_2.length c0_2, .int .i64 a0_3]] rfl ?_; (with_reducible refine (impl_ViewOf.calls k _ _ l0_0 _ _ l0_1 _ _ l0_2 a0_3 t884 true _ ?side1 ?side2 ?side3 ?side4 ?side5 ?side6 A2.out).mono ?_); (case side1 => exact cb HR0_0 HB); (case side2 => exact HC0_0.out); (case side3 => exact cb HR0_1 HB); (case side4 => exact HC0_1.out); (case side5 => exact cb HR0_2 HB); (case side6 => exact HC0_2.out); rintro e w9 ⟨v885, rfl, ho0, hb⟩; refine ⟨_, rfl, ?_⟩; have HO886 := Aside0.mk (Kd.R_lower ho0 (below_size (bs2 HB GE882 GE883))); replace BK882 := nb BK882 hb; replace BK883 := nb BK883 hb; replace HB := Aside0.mk (below_step (bs2 HB GE882 GE883) hb); (try clear hb); (try clear hb2); (try clear hk); (try clear hi); (try clear ho0); obtain ⟨hcz10_0, hcz10_1, hcz10_2, hcz10_3⟩ := cz4 BK882; obtain ⟨hfz10_0, hfz10_1, hfz10_2, hfz10_3⟩ := fz4 BK882; obtain ⟨Ao11, co11, eo11⟩ := Kd.R_slice HO886.out; subst eo11; obtain ⟨hcz12_0, hcz12_1, hcz12_2, hcz12_3⟩ := cz4 BK883; obtain ⟨hfz12_0, hfz12_1, hfz12_2, hfz12_3⟩ := fz4 BK883))
   refine bodyPost_ret (results_ct rfl _ _ gb883 44 #[.slice Ao11 t884.length co11, .slice none 0 0, .slice none 0 0, .int .i64 0] (0, 0) _ rfl (by (with_reducible repeat (first | refine blk_drewN ?_ _ | refine blk_drew ?_ | refine blk_alloc ?_ _)); refine blk_put (cs := #[.slice Ao11 t884.length co11, .slice none 0 0, .slice none 0 0, .int .i64 0]) ?_ 3 _ rfl; (with_reducible repeat (first | refine blk_drewN ?_ _ | refine blk_drew ?_ | refine blk_alloc ?_ _)); refine blk_put (cs := #[.slice Ao11 t884.length co11, .slice none 0 0, .slice none 0 0, .int .i64 0]) ?_ 2 _ rfl; (with_reducible repeat (first | refine blk_drewN ?_ _ | refine blk_drew ?_ | refine blk_alloc ?_ _)); refine blk_put (cs := #[.slice Ao11 t884.length co11, .slice none 0 0, .slice none 0 0, .int .i64 0]) ?_ 1 _ rfl; (with_reducible repeat (first | refine blk_drewN ?_ _ | refine blk_drew ?_ | refine blk_alloc ?_ _)); refine blk_put (cs := #[.slice none 0 0, .slice none 0 0, .slice none 0 0, .int .i64 0]) ?_ 0 _ rfl; (with_reducible repeat (first | refine blk_drewN ?_ _ | refine blk_drew ?_ | refine blk_alloc ?_ _)); exact BK883.out) Try.underlying44 rfl (by kernel_rfl)) rfl ?_
   exact ⟨_, _, _, by first | rfl | (simp [errW_none, errW_some] <;> rfl) | (simp [*, errW_none, errW_some] <;> rfl), by (with_reducible repeat (first | apply Kd.R_alloc | apply Kd.R_drewN | apply Kd.R_drew)); exact Kd.R_mono (Kd.R_far (p := ⟨gb883, 3, none⟩) (Kd.R_far (p := ⟨gb883, 2, none⟩) (Kd.R_far (p := ⟨gb883, 1, none⟩) (Kd.R_far (p := ⟨gb883, 0, none⟩) (Kd.R_types HO886.out BK883.out (by decide)) (fun _ hk => hk.2) (.slice Ao11 t884.length co11)) (fun _ hk => hk.2) (.slice none 0 0)) (fun _ hk => hk.2) (.slice none 0 0)) (fun _ hk => hk.2) (.int .i64 0)) (fun _ hk => (by simp [Value.ownBlock])), by first | exact Kd.R_nil _ _ _ _ _ | exact Kd.N_nil _ _ _ _ _ | exact Kd.V_nil _ _ _ _ _ | exact Kd.Q_nil _ _ _ _ _ | exact Kd.S_nil _ _ _ _ _, by first | exact Kd.R_nil _ _ _ _ _ | exact Kd.N_nil _ _ _ _ _ | exact Kd.V_nil _ _ _ _ _ | exact Kd.Q_nil _ _ _ _ _ | exact Kd.S_nil _ _ _ _ _, bs2 HB GE882 GE883⟩
  ·
   rw [if_neg c4] at H
   have c4b0 : (a0_3 == (l0_2.length : Int)) = false := beq_eq_false_iff_ne.mpr c4
   have c4b1 : (a0_3 != (l0_2.length : Int)) = true := bne_iff_ne.mpr c4
   simp only [Option.some.injEq, Prod.mk.injEq] at H
   obtain ⟨rfl, rfl, rfl, rfl, rfl⟩ := H
   go_enter Try.func44, Try.ntmps44
   go_wp2_with (first | ((with_reducible refine gate_dst (N := 1) rfl ?_); (try (refine gate_guard (by rfl) ?_; dsimp only)); refine box_event ?hg (N := 1) ?hd (cs := #[.slice A0_0 l0_0.length c0_0, .slice A0_1 l0_1.length c0_1, .slice A0_2 l0_2.length c0_2, .int .i64 a0_3]) (t := 44) ?hr ?_; (case hd => rfl); (case hg => rfl); (case hr => first | (go_simp; done) | (go_simp; rfl)); intro gb882 hg w13 hbox hb; have BK882 := Aside0.mk (hbox); have GW882 := Aside0.mk ((by rw [hg]; exact (below_size (bs HB)) : w.heap.size ≤ gb882)); have GE882 := Aside0.mk ((by rw [hg]; exact (below_size (bs HB)) : w.heap.size ≤ gb882)); replace HB := Aside0.mk (below_step (bs HB) hb); clear hb hbox hg) | ((with_reducible refine gate_dst (N := 2) rfl ?_); (try (refine gate_guard (by rfl) ?_; dsimp only)); refine box_event ?hg (N := 2) ?hd (cs := #[.slice none 0 0, .slice none 0 0, .slice none 0 0, .int .i64 0]) (t := 44) ?hr ?_; (case hd => rfl); (case hg => rfl); (case hr => first | (go_simp; done) | (go_simp; rfl)); intro gb883 hg w14 hbox hb; have BK883 := Aside0.mk (hbox); have GW883 := Aside0.mk ((by rw [hg]; exact (below_size (bs1 HB GE882)) : w.heap.size ≤ gb883)); have GE883 := Aside0.mk ((by rw [hg]; exact (below_size (bs1 HB GE882)) : w.heap.size ≤ gb883)); replace HB := Aside0.mk (below_step (bs1 HB GE882) hb); have NB882_883 := Aside0.mk ((bn BK882 hg : gb882 ≠ gb883)); have NB883_882 := Aside0.mk ((bm BK882 hg : gb883 ≠ gb882)); replace BK882 := nb BK882 hb; clear hb hbox hg; have hnb15 := NB882_883.out; have hnc15 := NB883_882.out; obtain ⟨hcz16_0, hcz16_1, hcz16_2, hcz16_3⟩ := cz4 BK882; obtain ⟨hfz16_0, hfz16_1, hfz16_2, hfz16_3⟩ := fz4 BK882) | ((with_reducible refine gate_callee (f := 35) rfl ?_); refine gL (some 8) rfl rfl Try.func35 (by kernel_rfl) rfl #[.agg #[.slice A0_0 l0_0.length c0_0, .slice A0_1 l0_1.length c0_1, .slice A0_2 l0_2.length c0_2, .int .i64 a0_3]] rfl ?_; (with_reducible refine (impl_ViewOf.calls k _ _ l0_0 _ _ l0_1 _ _ l0_2 a0_3 t884 true _ ?side1 ?side2 ?side3 ?side4 ?side5 ?side6 A2.out).mono ?_); (case side1 => exact cb HR0_0 HB); (case side2 => exact HC0_0.out); (case side3 => exact cb HR0_1 HB); (case side4 => exact HC0_1.out); (case side5 => exact cb HR0_2 HB); (case side6 => exact HC0_2.out); rintro e w17 ⟨v885, rfl, ho0, hb⟩; refine ⟨_, rfl, ?_⟩; have HO886 := Aside0.mk (Kd.R_lower ho0 (below_size (bs2 HB GE882 GE883))); replace BK882 := nb BK882 hb; replace BK883 := nb BK883 hb; replace HB := Aside0.mk (below_step (bs2 HB GE882 GE883) hb); (try clear hb); (try clear hb2); (try clear hk); (try clear hi); (try clear ho0); obtain ⟨hcz18_0, hcz18_1, hcz18_2, hcz18_3⟩ := cz4 BK882; obtain ⟨hfz18_0, hfz18_1, hfz18_2, hfz18_3⟩ := fz4 BK882; obtain ⟨hcz19_0, hcz19_1, hcz19_2, hcz19_3⟩ := cz4 BK883; obtain ⟨hfz19_0, hfz19_1, hfz19_2, hfz19_3⟩ := fz4 BK883))
   refine bodyPost_ret (results_ct rfl _ _ gb883 44 #[.slice none 0 0, .slice none 0 0, .slice none 0 0, .int .i64 0] (0, 0) _ rfl (by (with_reducible repeat (first | refine blk_drewN ?_ _ | refine blk_drew ?_ | refine blk_alloc ?_ _)); refine blk_put (cs := #[.slice none 0 0, .slice none 0 0, .slice none 0 0, .int .i64 0]) ?_ 3 _ rfl; (with_reducible repeat (first | refine blk_drewN ?_ _ | refine blk_drew ?_ | refine blk_alloc ?_ _)); refine blk_put (cs := #[.slice none 0 0, .slice none 0 0, .slice none 0 0, .int .i64 0]) ?_ 2 _ rfl; (with_reducible repeat (first | refine blk_drewN ?_ _ | refine blk_drew ?_ | refine blk_alloc ?_ _)); refine blk_put (cs := #[.slice none 0 0, .slice none 0 0, .slice none 0 0, .int .i64 0]) ?_ 1 _ rfl; (with_reducible repeat (first | refine blk_drewN ?_ _ | refine blk_drew ?_ | refine blk_alloc ?_ _)); refine blk_put (cs := #[.slice none 0 0, .slice none 0 0, .slice none 0 0, .int .i64 0]) ?_ 0 _ rfl; (with_reducible repeat (first | refine blk_drewN ?_ _ | refine blk_drew ?_ | refine blk_alloc ?_ _)); exact BK883.out) Try.underlying44 rfl (by kernel_rfl)) rfl ?_
   exact ⟨_, _, _, by first | rfl | (simp [errW_none, errW_some] <;> rfl) | (simp [*, errW_none, errW_some] <;> rfl), by first | exact Kd.R_nil _ _ _ _ _ | exact Kd.N_nil _ _ _ _ _ | exact Kd.V_nil _ _ _ _ _ | exact Kd.Q_nil _ _ _ _ _ | exact Kd.S_nil _ _ _ _ _, by first | exact Kd.R_nil _ _ _ _ _ | exact Kd.N_nil _ _ _ _ _ | exact Kd.V_nil _ _ _ _ _ | exact Kd.Q_nil _ _ _ _ _ | exact Kd.S_nil _ _ _ _ _, by first | exact Kd.R_nil _ _ _ _ _ | exact Kd.N_nil _ _ _ _ _ | exact Kd.V_nil _ _ _ _ _ | exact Kd.Q_nil _ _ _ _ _ | exact Kd.S_nil _ _ _ _ _, bs2 HB GE882 GE883⟩
 ·
  replace c3 := Bool.eq_false_iff.mpr c3
  subst c3
  rw [if_neg (show ¬ (false = true) by decide)] at H
  simp only [Option.some.injEq, Prod.mk.injEq] at H
  obtain ⟨rfl, rfl, rfl, rfl, rfl⟩ := H
  go_enter Try.func44, Try.ntmps44
  go_wp2_with (first | ((with_reducible refine gate_dst (N := 1) rfl ?_); (try (refine gate_guard (by rfl) ?_; dsimp only)); refine box_event ?hg (N := 1) ?hd (cs := #[.slice A0_0 l0_0.length c0_0, .slice A0_1 l0_1.length c0_1, .slice A0_2 l0_2.length c0_2, .int .i64 a0_3]) (t := 44) ?hr ?_; (case hd => rfl); (case hg => rfl); (case hr => first | (go_simp; done) | (go_simp; rfl)); intro gb882 hg w20 hbox hb; have BK882 := Aside0.mk (hbox); have GW882 := Aside0.mk ((by rw [hg]; exact (below_size (bs HB)) : w.heap.size ≤ gb882)); have GE882 := Aside0.mk ((by rw [hg]; exact (below_size (bs HB)) : w.heap.size ≤ gb882)); replace HB := Aside0.mk (below_step (bs HB) hb); clear hb hbox hg) | ((with_reducible refine gate_dst (N := 2) rfl ?_); (try (refine gate_guard (by rfl) ?_; dsimp only)); refine box_event ?hg (N := 2) ?hd (cs := #[.slice none 0 0, .slice none 0 0, .slice none 0 0, .int .i64 0]) (t := 44) ?hr ?_; (case hd => rfl); (case hg => rfl); (case hr => first | (go_simp; done) | (go_simp; rfl)); intro gb883 hg w21 hbox hb; have BK883 := Aside0.mk (hbox); have GW883 := Aside0.mk ((by rw [hg]; exact (below_size (bs1 HB GE882)) : w.heap.size ≤ gb883)); have GE883 := Aside0.mk ((by rw [hg]; exact (below_size (bs1 HB GE882)) : w.heap.size ≤ gb883)); replace HB := Aside0.mk (below_step (bs1 HB GE882) hb); have NB882_883 := Aside0.mk ((bn BK882 hg : gb882 ≠ gb883)); have NB883_882 := Aside0.mk ((bm BK882 hg : gb883 ≠ gb882)); replace BK882 := nb BK882 hb; clear hb hbox hg; have hnb22 := NB882_883.out; have hnc22 := NB883_882.out; obtain ⟨hcz23_0, hcz23_1, hcz23_2, hcz23_3⟩ := cz4 BK882; obtain ⟨hfz23_0, hfz23_1, hfz23_2, hfz23_3⟩ := fz4 BK882) | ((with_reducible refine gate_callee (f := 35) rfl ?_); refine gL (some 8) rfl rfl Try.func35 (by kernel_rfl) rfl #[.agg #[.slice A0_0 l0_0.length c0_0, .slice A0_1 l0_1.length c0_1, .slice A0_2 l0_2.length c0_2, .int .i64 a0_3]] rfl ?_; (with_reducible refine (impl_ViewOf.calls k _ _ l0_0 _ _ l0_1 _ _ l0_2 a0_3 t884 false _ ?side1 ?side2 ?side3 ?side4 ?side5 ?side6 A2.out).mono ?_); (case side1 => exact cb HR0_0 HB); (case side2 => exact HC0_0.out); (case side3 => exact cb HR0_1 HB); (case side4 => exact HC0_1.out); (case side5 => exact cb HR0_2 HB); (case side6 => exact HC0_2.out); rintro e w24 ⟨v885, rfl, ho0, hb⟩; refine ⟨_, rfl, ?_⟩; have HO886 := Aside0.mk (Kd.R_lower ho0 (below_size (bs2 HB GE882 GE883))); replace BK882 := nb BK882 hb; replace BK883 := nb BK883 hb; replace HB := Aside0.mk (below_step (bs2 HB GE882 GE883) hb); (try clear hb); (try clear hb2); (try clear hk); (try clear hi); (try clear ho0); obtain ⟨hcz25_0, hcz25_1, hcz25_2, hcz25_3⟩ := cz4 BK883; obtain ⟨hfz25_0, hfz25_1, hfz25_2, hfz25_3⟩ := fz4 BK883))
  refine bodyPost_ret (results_ct rfl _ _ gb883 44 #[.slice none 0 0, .slice none 0 0, .slice none 0 0, .int .i64 0] (0, 0) _ rfl (by (with_reducible repeat (first | refine blk_drewN ?_ _ | refine blk_drew ?_ | refine blk_alloc ?_ _)); refine blk_put (cs := #[.slice none 0 0, .slice none 0 0, .slice none 0 0, .int .i64 0]) ?_ 3 _ rfl; (with_reducible repeat (first | refine blk_drewN ?_ _ | refine blk_drew ?_ | refine blk_alloc ?_ _)); refine blk_put (cs := #[.slice none 0 0, .slice none 0 0, .slice none 0 0, .int .i64 0]) ?_ 2 _ rfl; (with_reducible repeat (first | refine blk_drewN ?_ _ | refine blk_drew ?_ | refine blk_alloc ?_ _)); refine blk_put (cs := #[.slice none 0 0, .slice none 0 0, .slice none 0 0, .int .i64 0]) ?_ 1 _ rfl; (with_reducible repeat (first | refine blk_drewN ?_ _ | refine blk_drew ?_ | refine blk_alloc ?_ _)); refine blk_put (cs := #[.slice none 0 0, .slice none 0 0, .slice none 0 0, .int .i64 0]) ?_ 0 _ rfl; (with_reducible repeat (first | refine blk_drewN ?_ _ | refine blk_drew ?_ | refine blk_alloc ?_ _)); exact BK883.out) Try.underlying44 rfl (by kernel_rfl)) rfl ?_
  exact ⟨_, _, _, by first | rfl | (simp [errW_none, errW_some] <;> rfl) | (simp [*, errW_none, errW_some] <;> rfl), by first | exact Kd.R_nil _ _ _ _ _ | exact Kd.N_nil _ _ _ _ _ | exact Kd.V_nil _ _ _ _ _ | exact Kd.Q_nil _ _ _ _ _ | exact Kd.S_nil _ _ _ _ _, by first | exact Kd.R_nil _ _ _ _ _ | exact Kd.N_nil _ _ _ _ _ | exact Kd.V_nil _ _ _ _ _ | exact Kd.Q_nil _ _ _ _ _ | exact Kd.S_nil _ _ _ _ _, by first | exact Kd.R_nil _ _ _ _ _ | exact Kd.N_nil _ _ _ _ _ | exact Kd.V_nil _ _ _ _ _ | exact Kd.Q_nil _ _ _ _ _ | exact Kd.S_nil _ _ _ _ _, bs2 HB GE882 GE883⟩

/-! ### laws_FnExactRecoverStore: function 10 -/
mutual
def laws_FnExactRecoverStore.j0 : Nat → Bool → Bool → Bool → List ByteArray → List (S76) → List ByteArray → Int → List ByteArray → List (S72) → List ByteArray → Int → List ByteArray → List (S72) → List ByteArray → Int → List ByteArray → List (S72) → List ByteArray → Int → Option (Bool)
 | 0, _, _, _, _, _, _, _, _, _, _, _, _, _, _, _, _, _, _, _ => none
 | k + 1, x5, x8, x40, x889000, x889001, x889002, x889003, x912000, x912001, x912002, x912003, x923000, x923001, x923002, x923003, x935000, x935001, x935002, x935003 => if x40 = true then (some false) else ((laws_toStore.f k x889000 x889001 x889002 x889003).bind fun bt936 => ((laws_eqStore.f k x923000 x923001 x923002 x923003 bt936.1 bt936.2.1 bt936.2.2.1 bt936.2.2.2).bind fun t946 => (if t946 = true then ((laws_markStore.f k x923000 x923001 x923002 x923003 1).bind fun bt947 => (if bt947.1 < 0 then (laws_FnExactRecoverStore.j1 k x5 true x889000 x889001 x889002 x889003 x912000 x912001 x912002 x912003 x935000 x935001 x935002 x935003) else ((laws_eqStore.f k x935000 x935001 x935002 x935003 x912000 x912001 x912002 x912003).bind fun t951 => (if t951 = true then (laws_FnExactRecoverStore.j1 k x5 (x8 != x5) x889000 x889001 x889002 x889003 x912000 x912001 x912002 x912003 x935000 x935001 x935002 x935003) else (laws_FnExactRecoverStore.j1 k x5 true x889000 x889001 x889002 x889003 x912000 x912001 x912002 x912003 x935000 x935001 x935002 x935003))))) else (some false))))
def laws_FnExactRecoverStore.j1 : Nat → Bool → Bool → List ByteArray → List (S76) → List ByteArray → Int → List ByteArray → List (S72) → List ByteArray → Int → List ByteArray → List (S72) → List ByteArray → Int → Option (Bool)
 | 0, _, _, _, _, _, _, _, _, _, _, _, _, _, _ => none
 | k + 1, x5, x61, x889000, x889001, x889002, x889003, x912000, x912001, x912002, x912003, x935000, x935001, x935002, x935003 => if x61 = true then (some false) else ((laws_markStore.f k x935000 x935001 x935002 x935003 1).bind fun bt952 => ((laws_heldStore.f k bt952.2.1 bt952.2.2.1 bt952.2.2.2 x935003 1).bind fun t956 => (if t956 < 0 then (some false) else (if t956 = bt952.1 then ((laws_toStore.f k x889000 x889001 x889002 x889003).bind fun bt957 => ((impl_RecoverStore.f k bt957.1 bt957.2.1 bt957.2.2.1 bt957.2.2.2).bind fun bt967 => ((laws_eqStore.f k bt967.1 bt967.2.1 bt967.2.2.1 bt967.2.2.2.1 x912000 x912001 x912002 x912003).bind fun t979 => (if t979 = true then (laws_FnExactRecoverStore.j2 k bt952.1 (bt967.2.2.2.2 != x5) bt952.2.1 bt952.2.2.1 bt952.2.2.2 x935003) else (laws_FnExactRecoverStore.j2 k bt952.1 true bt952.2.1 bt952.2.2.1 bt952.2.2.2 x935003))))) else (some false)))))
def laws_FnExactRecoverStore.j2 : Nat → Int → Bool → List ByteArray → List (S72) → List ByteArray → Int → Option (Bool)
 | 0, _, _, _, _, _, _ => none
 | k + 1, x10, x87, x935000, x935001, x935002, x935003 => if x87 = true then (some false) else ((laws_heldStore.f k x935000 x935001 x935002 x935003 1).bind fun t980 => (if t980 < 0 then (some false) else (if t980 = x10 then (some true) else (some false))))
end
def laws_FnExactRecoverStore.f (k : Nat) (l0_0 : List ByteArray) (l0_1 : List (S76)) (l0_2 : List ByteArray) (a0_3 : Int) : Option (Bool) := (laws_szStore.f k l0_0 l0_1 l0_2 a0_3 1048576).bind fun t889 => (if t889 < 0 then (some true) else ((laws_toStore.f k l0_0 l0_1 l0_2 a0_3).bind fun bt890 => ((spec_RecoverStore.f k bt890.1 bt890.2.1 bt890.2.2.1 bt890.2.2.2).bind fun bt900 => ((laws_toStore.f k l0_0 l0_1 l0_2 a0_3).bind fun bt912 => ((impl_RecoverStore.f k bt912.1 bt912.2.1 bt912.2.2.1 bt912.2.2.2).bind fun bt923 => ((laws_eqStore.f k bt923.1 bt923.2.1 bt923.2.2.1 bt923.2.2.2.1 bt900.1 bt900.2.1 bt900.2.2.1 bt900.2.2.2.1).bind fun t935 => (if t935 = true then (laws_FnExactRecoverStore.j0 k bt900.2.2.2.2 bt923.2.2.2.2 (bt923.2.2.2.2 != bt900.2.2.2.2) l0_0 l0_1 l0_2 a0_3 bt900.1 bt900.2.1 bt900.2.2.1 bt900.2.2.2.1 bt912.1 bt912.2.1 bt912.2.2.1 bt912.2.2.2 bt923.1 bt923.2.1 bt923.2.2.1 bt923.2.2.2.1) else (laws_FnExactRecoverStore.j0 k bt900.2.2.2.2 bt923.2.2.2.2 true l0_0 l0_1 l0_2 a0_3 bt900.1 bt900.2.1 bt900.2.2.1 bt900.2.2.2.1 bt912.1 bt912.2.1 bt912.2.2.1 bt912.2.2.2 bt923.1 bt923.2.1 bt923.2.2.1 bt923.2.2.2.1))))))))
theorem laws_FnExactRecoverStore.mono_l : ∀ k, (∀ y0 y1 y2 y3 y4 y5 y6 y7 y8 y9 y10 y11 y12 y13 y14 y15 y16 y17 y18, LeO (laws_FnExactRecoverStore.j0 k y0 y1 y2 y3 y4 y5 y6 y7 y8 y9 y10 y11 y12 y13 y14 y15 y16 y17 y18) (laws_FnExactRecoverStore.j0 (k + 1) y0 y1 y2 y3 y4 y5 y6 y7 y8 y9 y10 y11 y12 y13 y14 y15 y16 y17 y18)) ∧ (∀ y0 y1 y2 y3 y4 y5 y6 y7 y8 y9 y10 y11 y12 y13, LeO (laws_FnExactRecoverStore.j1 k y0 y1 y2 y3 y4 y5 y6 y7 y8 y9 y10 y11 y12 y13) (laws_FnExactRecoverStore.j1 (k + 1) y0 y1 y2 y3 y4 y5 y6 y7 y8 y9 y10 y11 y12 y13)) ∧ (∀ y0 y1 y2 y3 y4 y5, LeO (laws_FnExactRecoverStore.j2 k y0 y1 y2 y3 y4 y5) (laws_FnExactRecoverStore.j2 (k + 1) y0 y1 y2 y3 y4 y5))
 | 0 => ⟨fun _ _ _ _ _ _ _ _ _ _ _ _ _ _ _ _ _ _ _ r h => by simp [laws_FnExactRecoverStore.j0] at h, fun _ _ _ _ _ _ _ _ _ _ _ _ _ _ r h => by simp [laws_FnExactRecoverStore.j1] at h, fun _ _ _ _ _ _ r h => by simp [laws_FnExactRecoverStore.j2] at h⟩
 | k + 1 => by
  obtain ⟨ih0, ih1, ih2⟩ := laws_FnExactRecoverStore.mono_l k
  refine ⟨?_, ?_, ?_⟩
  ·
   intro y0 y1 y2 y3 y4 y5 y6 y7 y8 y9 y10 y11 y12 y13 y14 y15 y16 y17 y18
   unfold laws_FnExactRecoverStore.j0
   repeat' first
   | (with_reducible exact ih0 _ _ _ _ _ _ _ _ _ _ _ _ _ _ _ _ _ _ _)
   | (with_reducible exact ih1 _ _ _ _ _ _ _ _ _ _ _ _ _ _)
   | (with_reducible exact ih2 _ _ _ _ _ _)
   | (with_reducible exact impl_RecoverStore.mono _ _ _ _ _)
   | (with_reducible exact laws_eqStore.mono _ _ _ _ _ _ _ _ _)
   | (with_reducible exact laws_heldStore.mono _ _ _ _ _ _)
   | (with_reducible exact laws_markStore.mono _ _ _ _ _ _)
   | (with_reducible exact laws_szStore.mono _ _ _ _ _ _)
   | (with_reducible exact laws_toStore.mono _ _ _ _ _)
   | (with_reducible exact spec_RecoverStore.mono _ _ _ _ _)
   | (with_reducible exact LeO.refl _)
   | (with_reducible exact LeO.none _)
   | (with_reducible refine LeO.ite ?_ ?_)
   | (with_reducible refine LeO.bind ?_ (fun _ => ?_))
   | exact ih0 _ _ _ _ _ _ _ _ _ _ _ _ _ _ _ _ _ _ _
   | exact ih1 _ _ _ _ _ _ _ _ _ _ _ _ _ _
   | exact ih2 _ _ _ _ _ _
   | exact impl_RecoverStore.mono _ _ _ _ _
   | exact laws_eqStore.mono _ _ _ _ _ _ _ _ _
   | exact laws_heldStore.mono _ _ _ _ _ _
   | exact laws_markStore.mono _ _ _ _ _ _
   | exact laws_szStore.mono _ _ _ _ _ _
   | exact laws_toStore.mono _ _ _ _ _
   | exact spec_RecoverStore.mono _ _ _ _ _
   | exact LeO.none _
   | refine LeO.ite ?_ ?_
   | refine LeO.bind ?_ (fun _ => ?_)
  ·
   intro y0 y1 y2 y3 y4 y5 y6 y7 y8 y9 y10 y11 y12 y13
   unfold laws_FnExactRecoverStore.j1
   repeat' first
   | (with_reducible exact ih0 _ _ _ _ _ _ _ _ _ _ _ _ _ _ _ _ _ _ _)
   | (with_reducible exact ih1 _ _ _ _ _ _ _ _ _ _ _ _ _ _)
   | (with_reducible exact ih2 _ _ _ _ _ _)
   | (with_reducible exact impl_RecoverStore.mono _ _ _ _ _)
   | (with_reducible exact laws_eqStore.mono _ _ _ _ _ _ _ _ _)
   | (with_reducible exact laws_heldStore.mono _ _ _ _ _ _)
   | (with_reducible exact laws_markStore.mono _ _ _ _ _ _)
   | (with_reducible exact laws_szStore.mono _ _ _ _ _ _)
   | (with_reducible exact laws_toStore.mono _ _ _ _ _)
   | (with_reducible exact spec_RecoverStore.mono _ _ _ _ _)
   | (with_reducible exact LeO.refl _)
   | (with_reducible exact LeO.none _)
   | (with_reducible refine LeO.ite ?_ ?_)
   | (with_reducible refine LeO.bind ?_ (fun _ => ?_))
   | exact ih0 _ _ _ _ _ _ _ _ _ _ _ _ _ _ _ _ _ _ _
   | exact ih1 _ _ _ _ _ _ _ _ _ _ _ _ _ _
   | exact ih2 _ _ _ _ _ _
   | exact impl_RecoverStore.mono _ _ _ _ _
   | exact laws_eqStore.mono _ _ _ _ _ _ _ _ _
   | exact laws_heldStore.mono _ _ _ _ _ _
   | exact laws_markStore.mono _ _ _ _ _ _
   | exact laws_szStore.mono _ _ _ _ _ _
   | exact laws_toStore.mono _ _ _ _ _
   | exact spec_RecoverStore.mono _ _ _ _ _
   | exact LeO.none _
   | refine LeO.ite ?_ ?_
   | refine LeO.bind ?_ (fun _ => ?_)
  ·
   intro y0 y1 y2 y3 y4 y5
   unfold laws_FnExactRecoverStore.j2
   repeat' first
   | (with_reducible exact ih0 _ _ _ _ _ _ _ _ _ _ _ _ _ _ _ _ _ _ _)
   | (with_reducible exact ih1 _ _ _ _ _ _ _ _ _ _ _ _ _ _)
   | (with_reducible exact ih2 _ _ _ _ _ _)
   | (with_reducible exact impl_RecoverStore.mono _ _ _ _ _)
   | (with_reducible exact laws_eqStore.mono _ _ _ _ _ _ _ _ _)
   | (with_reducible exact laws_heldStore.mono _ _ _ _ _ _)
   | (with_reducible exact laws_markStore.mono _ _ _ _ _ _)
   | (with_reducible exact laws_szStore.mono _ _ _ _ _ _)
   | (with_reducible exact laws_toStore.mono _ _ _ _ _)
   | (with_reducible exact spec_RecoverStore.mono _ _ _ _ _)
   | (with_reducible exact LeO.refl _)
   | (with_reducible exact LeO.none _)
   | (with_reducible refine LeO.ite ?_ ?_)
   | (with_reducible refine LeO.bind ?_ (fun _ => ?_))
   | exact ih0 _ _ _ _ _ _ _ _ _ _ _ _ _ _ _ _ _ _ _
   | exact ih1 _ _ _ _ _ _ _ _ _ _ _ _ _ _
   | exact ih2 _ _ _ _ _ _
   | exact impl_RecoverStore.mono _ _ _ _ _
   | exact laws_eqStore.mono _ _ _ _ _ _ _ _ _
   | exact laws_heldStore.mono _ _ _ _ _ _
   | exact laws_markStore.mono _ _ _ _ _ _
   | exact laws_szStore.mono _ _ _ _ _ _
   | exact laws_toStore.mono _ _ _ _ _
   | exact spec_RecoverStore.mono _ _ _ _ _
   | exact LeO.none _
   | refine LeO.ite ?_ ?_
   | refine LeO.bind ?_ (fun _ => ?_)
theorem laws_FnExactRecoverStore.mono : ∀ a0 a1 a2 a3 k, LeO (laws_FnExactRecoverStore.f k a0 a1 a2 a3) (laws_FnExactRecoverStore.f (k + 1) a0 a1 a2 a3) := by
 intro a0 a1 a2 a3 k
 obtain ⟨ih0, ih1, ih2⟩ := laws_FnExactRecoverStore.mono_l k
 unfold laws_FnExactRecoverStore.f
 repeat' first
   | (with_reducible exact ih0 _ _ _ _ _ _ _ _ _ _ _ _ _ _ _ _ _ _ _)
   | (with_reducible exact ih1 _ _ _ _ _ _ _ _ _ _ _ _ _ _)
   | (with_reducible exact ih2 _ _ _ _ _ _)
   | (with_reducible exact impl_RecoverStore.mono _ _ _ _ _)
   | (with_reducible exact laws_eqStore.mono _ _ _ _ _ _ _ _ _)
   | (with_reducible exact laws_heldStore.mono _ _ _ _ _ _)
   | (with_reducible exact laws_markStore.mono _ _ _ _ _ _)
   | (with_reducible exact laws_szStore.mono _ _ _ _ _ _)
   | (with_reducible exact laws_toStore.mono _ _ _ _ _)
   | (with_reducible exact spec_RecoverStore.mono _ _ _ _ _)
   | (with_reducible exact LeO.refl _)
   | (with_reducible exact LeO.none _)
   | (with_reducible refine LeO.ite ?_ ?_)
   | (with_reducible refine LeO.bind ?_ (fun _ => ?_))
   | exact ih0 _ _ _ _ _ _ _ _ _ _ _ _ _ _ _ _ _ _ _
   | exact ih1 _ _ _ _ _ _ _ _ _ _ _ _ _ _
   | exact ih2 _ _ _ _ _ _
   | exact impl_RecoverStore.mono _ _ _ _ _
   | exact laws_eqStore.mono _ _ _ _ _ _ _ _ _
   | exact laws_heldStore.mono _ _ _ _ _ _
   | exact laws_markStore.mono _ _ _ _ _ _
   | exact laws_szStore.mono _ _ _ _ _ _
   | exact laws_toStore.mono _ _ _ _ _
   | exact spec_RecoverStore.mono _ _ _ _ _
   | exact LeO.none _
   | refine LeO.ite ?_ ?_
   | refine LeO.bind ?_ (fun _ => ?_)
set_option maxHeartbeats 8000000 in
set_option maxRecDepth 100000 in
theorem laws_FnExactRecoverStore.calls (k : Nat) (A0_0 : Option Addr) (c0_0 : Nat) (l0_0 : List ByteArray) (A0_1 : Option Addr) (c0_1 : Nat) (l0_1 : List (S76)) (A0_2 : Option Addr) (c0_2 : Nat) (l0_2 : List ByteArray) (a0_3 : Int) (r : Bool) (w : World) (hr0_0 : Kd.C Kd.string w A0_0 l0_0.length l0_0) (hc0_0 : l0_0.length ≤ c0_0) (hr0_1 : Kd.C k76 w A0_1 l0_1.length l0_1) (hc0_1 : l0_1.length ≤ c0_1) (hr0_2 : Kd.C Kd.string w A0_2 l0_2.length l0_2) (hc0_2 : l0_2.length ≤ c0_2) (h : laws_FnExactRecoverStore.f k l0_0 l0_1 l0_2 a0_3 = some r) :
  Calls Try.prog 10 #[.agg #[.slice A0_0 l0_0.length c0_0, .slice A0_1 l0_1.length c0_1, .slice A0_2 l0_2.length c0_2, .int .i64 a0_3]] w fun e w' => e = .returned (.bool r) ∧ Below w.heap.size w w' := by
 have hu38 := Try.underlying38
 have hu44 := Try.underlying44
 have HR0_0 := Aside0.mk hr0_0
 have HC0_0 := Aside0.mk hc0_0
 clear hr0_0 hc0_0
 have HR0_1 := Aside0.mk hr0_1
 have HC0_1 := Aside0.mk hc0_1
 clear hr0_1 hc0_1
 have HR0_2 := Aside0.mk hr0_2
 have HC0_2 := Aside0.mk hc0_2
 clear hr0_2 hc0_2
 have HB := Aside0.mk (Below.refl w.heap.size w)
 have H : ((laws_szStore.f k l0_0 l0_1 l0_2 a0_3 1048576).bind fun t889 => (if t889 < 0 then (some true) else ((laws_toStore.f k l0_0 l0_1 l0_2 a0_3).bind fun bt890 => ((spec_RecoverStore.f k bt890.1 bt890.2.1 bt890.2.2.1 bt890.2.2.2).bind fun bt900 => ((laws_toStore.f k l0_0 l0_1 l0_2 a0_3).bind fun bt912 => ((impl_RecoverStore.f k bt912.1 bt912.2.1 bt912.2.2.1 bt912.2.2.2).bind fun bt923 => ((laws_eqStore.f k bt923.1 bt923.2.1 bt923.2.2.1 bt923.2.2.2.1 bt900.1 bt900.2.1 bt900.2.2.1 bt900.2.2.2.1).bind fun t935 => (if t935 = true then (laws_FnExactRecoverStore.j0 k bt900.2.2.2.2 bt923.2.2.2.2 (bt923.2.2.2.2 != bt900.2.2.2.2) l0_0 l0_1 l0_2 a0_3 bt900.1 bt900.2.1 bt900.2.2.1 bt900.2.2.2.1 bt912.1 bt912.2.1 bt912.2.2.1 bt912.2.2.2 bt923.1 bt923.2.1 bt923.2.2.1 bt923.2.2.2.1) else (laws_FnExactRecoverStore.j0 k bt900.2.2.2.2 bt923.2.2.2.2 true l0_0 l0_1 l0_2 a0_3 bt900.1 bt900.2.1 bt900.2.2.1 bt900.2.2.2.1 bt912.1 bt912.2.1 bt912.2.2.1 bt912.2.2.2 bt923.1 bt923.2.1 bt923.2.2.1 bt923.2.2.2.1))))))))) = some r := h
 clear h
 replace H := Option.bind_eq_some_iff.mp H
 obtain ⟨t889, A20, H⟩ := H
 replace H : (if t889 < 0 then (some true) else ((laws_toStore.f k l0_0 l0_1 l0_2 a0_3).bind fun bt890 => ((spec_RecoverStore.f k bt890.1 bt890.2.1 bt890.2.2.1 bt890.2.2.2).bind fun bt900 => ((laws_toStore.f k l0_0 l0_1 l0_2 a0_3).bind fun bt912 => ((impl_RecoverStore.f k bt912.1 bt912.2.1 bt912.2.2.1 bt912.2.2.2).bind fun bt923 => ((laws_eqStore.f k bt923.1 bt923.2.1 bt923.2.2.1 bt923.2.2.2.1 bt900.1 bt900.2.1 bt900.2.2.1 bt900.2.2.2.1).bind fun t935 => (if t935 = true then (laws_FnExactRecoverStore.j0 k bt900.2.2.2.2 bt923.2.2.2.2 (bt923.2.2.2.2 != bt900.2.2.2.2) l0_0 l0_1 l0_2 a0_3 bt900.1 bt900.2.1 bt900.2.2.1 bt900.2.2.2.1 bt912.1 bt912.2.1 bt912.2.2.1 bt912.2.2.2 bt923.1 bt923.2.1 bt923.2.2.1 bt923.2.2.2.1) else (laws_FnExactRecoverStore.j0 k bt900.2.2.2.2 bt923.2.2.2.2 true l0_0 l0_1 l0_2 a0_3 bt900.1 bt900.2.1 bt900.2.2.1 bt900.2.2.2.1 bt912.1 bt912.2.1 bt912.2.2.1 bt912.2.2.2 bt923.1 bt923.2.1 bt923.2.2.1 bt923.2.2.2.1)))))))) = some r := H
 have A2 := Aside0.mk A20
 clear A20
 by_cases c3 : t889 < 0
 ·
  rw [if_pos c3] at H
  have c3b0 : decide (t889 < 0) = true := decide_eq_true c3
  clear c3
  obtain rfl := Option.some.inj H
  go_enter Try.func10, Try.ntmps10
  go_wp2_with (first | ((with_reducible refine gate_dst (N := 1) rfl ?_); refine box_event ?hg (N := 1) ?hd (cs := #[.slice A0_0 l0_0.length c0_0, .slice A0_1 l0_1.length c0_1, .slice A0_2 l0_2.length c0_2, .int .i64 a0_3]) (t := 38) ?hr ?_; (case hd => rfl); (case hg => rfl); (case hr => first | (go_simp; done) | (go_simp; rfl)); intro gb888 hg w4 hbox hb; have BK888 := Aside0.mk (hbox); have GW888 := Aside0.mk ((by rw [hg]; exact (below_size (bs HB)) : w.heap.size ≤ gb888)); have GE888 := Aside0.mk ((by rw [hg]; exact (below_size (bs HB)) : w.heap.size ≤ gb888)); replace HB := Aside0.mk (below_step (bs HB) hb); clear hb hbox hg; obtain ⟨hcz5_0, hcz5_1, hcz5_2, hcz5_3⟩ := cz4 BK888; obtain ⟨hfz5_0, hfz5_1, hfz5_2, hfz5_3⟩ := fz4 BK888) | ((with_reducible refine gate_callee (f := 25) rfl ?_); refine gL (some 16) rfl rfl Try.func25 (by kernel_rfl) rfl #[.agg #[.slice A0_0 l0_0.length c0_0, .slice A0_1 l0_1.length c0_1, .slice A0_2 l0_2.length c0_2, .int .i64 a0_3], .int .i64 1048576] rfl ?_; (with_reducible refine (laws_szStore.calls k _ _ l0_0 _ _ l0_1 _ _ l0_2 a0_3 1048576 t889 _ ?side1 ?side2 ?side3 ?side4 ?side5 ?side6 A2.out).mono ?_); (case side1 => exact cb HR0_0 HB); (case side2 => exact HC0_0.out); (case side3 => exact cb HR0_1 HB); (case side4 => exact HC0_1.out); (case side5 => exact cb HR0_2 HB); (case side6 => exact HC0_2.out); rintro e w6 ⟨rfl, hb⟩; refine ⟨_, rfl, ?_⟩; replace BK888 := nb BK888 hb; replace HB := Aside0.mk (below_step (bs1 HB GE888) hb); (try clear hb); (try clear hb2); (try clear hk); (try clear hi)))
  go_ret
  exact ⟨by first | rfl | (simp [errW_none, errW_some] <;> rfl) | (simp [*, errW_none, errW_some] <;> rfl), bs1 HB GE888⟩
 ·
  rw [if_neg c3] at H
  have c3b0 : decide (t889 < 0) = false := decide_eq_false c3
  clear c3
  replace H := Option.bind_eq_some_iff.mp H
  obtain ⟨⟨t890, t893, t896, t899⟩, A70, H⟩ := H
  replace H : ((spec_RecoverStore.f k t890 t893 t896 t899).bind fun bt900 => ((laws_toStore.f k l0_0 l0_1 l0_2 a0_3).bind fun bt912 => ((impl_RecoverStore.f k bt912.1 bt912.2.1 bt912.2.2.1 bt912.2.2.2).bind fun bt923 => ((laws_eqStore.f k bt923.1 bt923.2.1 bt923.2.2.1 bt923.2.2.2.1 bt900.1 bt900.2.1 bt900.2.2.1 bt900.2.2.2.1).bind fun t935 => (if t935 = true then (laws_FnExactRecoverStore.j0 k bt900.2.2.2.2 bt923.2.2.2.2 (bt923.2.2.2.2 != bt900.2.2.2.2) l0_0 l0_1 l0_2 a0_3 bt900.1 bt900.2.1 bt900.2.2.1 bt900.2.2.2.1 bt912.1 bt912.2.1 bt912.2.2.1 bt912.2.2.2 bt923.1 bt923.2.1 bt923.2.2.1 bt923.2.2.2.1) else (laws_FnExactRecoverStore.j0 k bt900.2.2.2.2 bt923.2.2.2.2 true l0_0 l0_1 l0_2 a0_3 bt900.1 bt900.2.1 bt900.2.2.1 bt900.2.2.2.1 bt912.1 bt912.2.1 bt912.2.2.1 bt912.2.2.2 bt923.1 bt923.2.1 bt923.2.2.1 bt923.2.2.2.1)))))) = some r := H
  have A7 := Aside0.mk A70
  clear A70
  replace H := Option.bind_eq_some_iff.mp H
  obtain ⟨⟨t900, t903, t906, t909, t910⟩, A80, H⟩ := H
  replace H : ((laws_toStore.f k l0_0 l0_1 l0_2 a0_3).bind fun bt912 => ((impl_RecoverStore.f k bt912.1 bt912.2.1 bt912.2.2.1 bt912.2.2.2).bind fun bt923 => ((laws_eqStore.f k bt923.1 bt923.2.1 bt923.2.2.1 bt923.2.2.2.1 t900 t903 t906 t909).bind fun t935 => (if t935 = true then (laws_FnExactRecoverStore.j0 k t910 bt923.2.2.2.2 (bt923.2.2.2.2 != t910) l0_0 l0_1 l0_2 a0_3 t900 t903 t906 t909 bt912.1 bt912.2.1 bt912.2.2.1 bt912.2.2.2 bt923.1 bt923.2.1 bt923.2.2.1 bt923.2.2.2.1) else (laws_FnExactRecoverStore.j0 k t910 bt923.2.2.2.2 true l0_0 l0_1 l0_2 a0_3 t900 t903 t906 t909 bt912.1 bt912.2.1 bt912.2.2.1 bt912.2.2.2 bt923.1 bt923.2.1 bt923.2.2.1 bt923.2.2.2.1))))) = some r := H
  have A8 := Aside0.mk A80
  clear A80
  replace H := Option.bind_eq_some_iff.mp H
  obtain ⟨⟨t912, t915, t918, t921⟩, A90, H⟩ := H
  replace H : ((impl_RecoverStore.f k t912 t915 t918 t921).bind fun bt923 => ((laws_eqStore.f k bt923.1 bt923.2.1 bt923.2.2.1 bt923.2.2.2.1 t900 t903 t906 t909).bind fun t935 => (if t935 = true then (laws_FnExactRecoverStore.j0 k t910 bt923.2.2.2.2 (bt923.2.2.2.2 != t910) l0_0 l0_1 l0_2 a0_3 t900 t903 t906 t909 t912 t915 t918 t921 bt923.1 bt923.2.1 bt923.2.2.1 bt923.2.2.2.1) else (laws_FnExactRecoverStore.j0 k t910 bt923.2.2.2.2 true l0_0 l0_1 l0_2 a0_3 t900 t903 t906 t909 t912 t915 t918 t921 bt923.1 bt923.2.1 bt923.2.2.1 bt923.2.2.2.1)))) = some r := H
  have A9 := Aside0.mk A90
  clear A90
  replace H := Option.bind_eq_some_iff.mp H
  obtain ⟨⟨t923, t926, t929, t932, t933⟩, A100, H⟩ := H
  replace H : ((laws_eqStore.f k t923 t926 t929 t932 t900 t903 t906 t909).bind fun t935 => (if t935 = true then (laws_FnExactRecoverStore.j0 k t910 t933 (t933 != t910) l0_0 l0_1 l0_2 a0_3 t900 t903 t906 t909 t912 t915 t918 t921 t923 t926 t929 t932) else (laws_FnExactRecoverStore.j0 k t910 t933 true l0_0 l0_1 l0_2 a0_3 t900 t903 t906 t909 t912 t915 t918 t921 t923 t926 t929 t932))) = some r := H
  have A10 := Aside0.mk A100
  clear A100
  have HC11 := Aside0.mk H
  clear H
  go_enter Try.func10, Try.ntmps10
  go_upto_region 8 with (first | ((with_reducible refine gate_dst (N := 1) rfl ?_); refine box_event ?hg (N := 1) ?hd (cs := #[.slice A0_0 l0_0.length c0_0, .slice A0_1 l0_1.length c0_1, .slice A0_2 l0_2.length c0_2, .int .i64 a0_3]) (t := 38) ?hr ?_; (case hd => rfl); (case hg => rfl); (case hr => first | (go_simp; done) | (go_simp; rfl)); intro gb888 hg w12 hbox hb; have BK888 := Aside0.mk (hbox); have GW888 := Aside0.mk ((by rw [hg]; exact (below_size (bs HB)) : w.heap.size ≤ gb888)); have GE888 := Aside0.mk ((by rw [hg]; exact (below_size (bs HB)) : w.heap.size ≤ gb888)); replace HB := Aside0.mk (below_step (bs HB) hb); clear hb hbox hg; obtain ⟨hcz13_0, hcz13_1, hcz13_2, hcz13_3⟩ := cz4 BK888; obtain ⟨hfz13_0, hfz13_1, hfz13_2, hfz13_3⟩ := fz4 BK888) | ((with_reducible refine gate_callee (f := 25) rfl ?_); refine gL (some 16) rfl rfl Try.func25 (by kernel_rfl) rfl #[.agg #[.slice A0_0 l0_0.length c0_0, .slice A0_1 l0_1.length c0_1, .slice A0_2 l0_2.length c0_2, .int .i64 a0_3], .int .i64 1048576] rfl ?_; (with_reducible refine (laws_szStore.calls k _ _ l0_0 _ _ l0_1 _ _ l0_2 a0_3 1048576 t889 _ ?side1 ?side2 ?side3 ?side4 ?side5 ?side6 A2.out).mono ?_); (case side1 => exact cb HR0_0 HB); (case side2 => exact HC0_0.out); (case side3 => exact cb HR0_1 HB); (case side4 => exact HC0_1.out); (case side5 => exact cb HR0_2 HB); (case side6 => exact HC0_2.out); rintro e w14 ⟨rfl, hb⟩; refine ⟨_, rfl, ?_⟩; replace BK888 := nb BK888 hb; replace HB := Aside0.mk (below_step (bs1 HB GE888) hb); (try clear hb); (try clear hb2); (try clear hk); (try clear hi); obtain ⟨hcz15_0, hcz15_1, hcz15_2, hcz15_3⟩ := cz4 BK888; obtain ⟨hfz15_0, hfz15_1, hfz15_2, hfz15_3⟩ := fz4 BK888) | ((with_reducible refine gate_callee (f := 27) rfl ?_); refine gL (some 21) rfl rfl Try.func27 (by kernel_rfl) rfl #[.agg #[.slice A0_0 l0_0.length c0_0, .slice A0_1 l0_1.length c0_1, .slice A0_2 l0_2.length c0_2, .int .i64 a0_3]] rfl ?_; (with_reducible refine (laws_toStore.calls k _ _ l0_0 _ _ l0_1 _ _ l0_2 a0_3 t890 t893 t896 t899 _ ?side1 ?side2 ?side3 ?side4 ?side5 ?side6 A7.out).mono ?_); (case side1 => exact cb HR0_0 HB); (case side2 => exact HC0_0.out); (case side3 => exact cb HR0_1 HB); (case side4 => exact HC0_1.out); (case side5 => exact cb HR0_2 HB); (case side6 => exact HC0_2.out); rintro e w16 ⟨v891, v894, v897, rfl, ho0, ho1, ho2, hb⟩; refine ⟨_, rfl, ?_⟩; have HO892 := Aside0.mk (Kd.R_lower ho0 (below_size (bs1 HB GE888))); have HO895 := Aside0.mk (Kd.R_lower ho1 (below_size (bs1 HB GE888))); have HO898 := Aside0.mk (Kd.R_lower ho2 (below_size (bs1 HB GE888))); replace BK888 := nb BK888 hb; replace HB := Aside0.mk (below_step (bs1 HB GE888) hb); (try clear hb); (try clear hb2); (try clear hk); (try clear hi); (try clear ho0); (try clear ho1); (try clear ho2); obtain ⟨Ao17, co17, eo17⟩ := Kd.R_slice HO892.out; subst eo17; obtain ⟨Ao18, co18, eo18⟩ := Kd.R_slice HO895.out; subst eo18; obtain ⟨Ao19, co19, eo19⟩ := Kd.R_slice HO898.out; subst eo19) | ((with_reducible refine gate_callee (f := 43) rfl ?_); refine gL (some 22) rfl rfl Try.func43 (by kernel_rfl) rfl #[.agg #[.slice Ao17 t890.length co17, .slice Ao18 t893.length co18, .slice Ao19 t896.length co19, .int .i64 t899]] rfl ?_; (with_reducible refine (spec_RecoverStore.calls k _ _ t890 _ _ t893 _ _ t896 t899 t900 t903 t906 t909 t910 _ ?side1 ?side2 ?side3 ?side4 ?side5 ?side6 A8.out).mono ?_); (case side1 => exact rc0 HO892); (case side2 => exact (Kd.R_reads' HO892.out).2.1); (case side3 => exact rc0 HO895); (case side4 => exact (Kd.R_reads' HO895.out).2.1); (case side5 => exact rc0 HO898); (case side6 => exact (Kd.R_reads' HO898.out).2.1); rintro e w20 ⟨v901, v904, v907, rfl, ho0, ho1, ho2, hb⟩; refine ⟨_, rfl, ?_⟩; have HO902 := Aside0.mk (Kd.R_lower (Kd.R_new' (Kd.R_new' ho0 (Kd.R_lt (rr HO892.out))) (Kd.R_lt (rr HO898.out))) (below_size (bs1 HB GE888))); have HO905 := Aside0.mk (Kd.R_lower (Kd.R_new' ho1 (Kd.R_lt (rr HO895.out))) (below_size (bs1 HB GE888))); replace HO895 := Aside0.mk (Kd.R_elder' (rr HO895.out) (Kd.R_base ho1) hb); have HO908 := Aside0.mk (Kd.R_lower (Kd.R_new' (Kd.R_new' ho2 (Kd.R_lt (rr HO892.out))) (Kd.R_lt (rr HO898.out))) (below_size (bs1 HB GE888))); replace HO892 := Aside0.mk (Kd.R_mono (Kd.R_told (Kd.R_told (Kd.R_old (rr HO892.out) hb) (Kd.R_base ho0)) (Kd.R_base ho2)) (fun _ h_ => h_.1)); replace HO898 := Aside0.mk (Kd.R_mono (Kd.R_told (Kd.R_told (Kd.R_old (rr HO898.out) hb) (Kd.R_base ho0)) (Kd.R_base ho2)) (fun _ h_ => h_.1)); replace BK888 := nb BK888 hb; replace HB := Aside0.mk (below_step (bs1 HB GE888) hb); (try clear hb); (try clear hb2); (try clear hk); (try clear hi); (try clear ho0); (try clear ho1); (try clear ho2)) | ((with_reducible refine gate_dst (N := 4) rfl ?_); refine box_event ?hg (N := 4) ?hd (cs := #[.slice none 0 0, .slice none 0 0, .slice none 0 0, .int .i64 0]) (t := 44) ?hr ?_; (case hd => rfl); (case hg => rfl); (case hr => first | (go_simp; done) | (go_simp; rfl)); intro gb911 hg w21 hbox hb; replace HO892 := nr HO892 hb; replace HO895 := nr HO895 hb; replace HO898 := nr HO898 hb; replace HO902 := nr HO902 hb; replace HO905 := nr HO905 hb; replace HO908 := nr HO908 hb; have BK911 := Aside0.mk (hbox); have GW911 := Aside0.mk ((by rw [hg]; exact (below_size (bs1 HB GE888)) : w.heap.size ≤ gb911)); have GE911 := Aside0.mk ((by rw [hg]; exact (below_size (bs1 HB GE888)) : w.heap.size ≤ gb911)); replace HB := Aside0.mk (below_step (bs1 HB GE888) hb); have NB888_911 := Aside0.mk ((bn BK888 hg : gb888 ≠ gb911)); have NB911_888 := Aside0.mk ((bm BK888 hg : gb911 ≠ gb888)); replace BK888 := nb BK888 hb; clear hb hbox hg; obtain ⟨Ao22, co22, eo22⟩ := Kd.R_slice HO902.out; subst eo22; have hnb23 := NB911_888.out; have hnc23 := NB888_911.out; obtain ⟨hcz24_0, hcz24_1, hcz24_2, hcz24_3⟩ := cz4 BK911; obtain ⟨hfz24_0, hfz24_1, hfz24_2, hfz24_3⟩ := fz4 BK911; obtain ⟨Ao25, co25, eo25⟩ := Kd.R_slice HO905.out; subst eo25; obtain ⟨Ao26, co26, eo26⟩ := Kd.R_slice HO908.out; subst eo26; obtain ⟨hcz27_0, hcz27_1, hcz27_2, hcz27_3⟩ := cz4 BK888; obtain ⟨hfz27_0, hfz27_1, hfz27_2, hfz27_3⟩ := fz4 BK888) | ((with_reducible refine gate_callee (f := 27) rfl ?_); refine gL (some 26) rfl rfl Try.func27 (by kernel_rfl) rfl #[.agg #[.slice A0_0 l0_0.length c0_0, .slice A0_1 l0_1.length c0_1, .slice A0_2 l0_2.length c0_2, .int .i64 a0_3]] rfl ?_; (with_reducible refine (laws_toStore.calls k _ _ l0_0 _ _ l0_1 _ _ l0_2 a0_3 t912 t915 t918 t921 _ ?side1 ?side2 ?side3 ?side4 ?side5 ?side6 A9.out).mono ?_); (case side1 => exact Kd.C_below HR0_0.out (bs2 HB GE888 GE911)); (case side2 => exact HC0_0.out); (case side3 => exact Kd.C_below HR0_1.out (bs2 HB GE888 GE911)); (case side4 => exact HC0_1.out); (case side5 => exact Kd.C_below HR0_2.out (bs2 HB GE888 GE911)); (case side6 => exact HC0_2.out); rintro e w28 ⟨v913, v916, v919, rfl, ho0, ho1, ho2, hb⟩; refine ⟨_, rfl, ?_⟩; have HO914 := Aside0.mk (Kd.R_lower (Kd.R_new' (Kd.R_new' (Kd.R_new' (Kd.R_new' ho0 (Kd.R_lt (rf HO892 BK911))) (Kd.R_lt (rf HO898 BK911))) (Kd.R_lt (rf HO902 BK911))) (Kd.R_lt (rf HO908 BK911))) (below_size (bs2 HB GE888 GE911))); have HO917 := Aside0.mk (Kd.R_lower (Kd.R_new' (Kd.R_new' ho1 (Kd.R_lt (rf HO895 BK911))) (Kd.R_lt (rf HO905 BK911))) (below_size (bs2 HB GE888 GE911))); replace HO895 := Aside0.mk (Kd.R_elder' (rf HO895 BK911) (Kd.R_base ho1) hb); replace HO905 := Aside0.mk (Kd.R_elder' (rf HO905 BK911) (Kd.R_base ho1) hb); have HO920 := Aside0.mk (Kd.R_lower (Kd.R_new' (Kd.R_new' (Kd.R_new' (Kd.R_new' ho2 (Kd.R_lt (rf HO892 BK911))) (Kd.R_lt (rf HO898 BK911))) (Kd.R_lt (rf HO902 BK911))) (Kd.R_lt (rf HO908 BK911))) (below_size (bs2 HB GE888 GE911))); replace HO892 := Aside0.mk (Kd.R_mono (Kd.R_told (Kd.R_told (Kd.R_old (rf HO892 BK911) hb) (Kd.R_base ho0)) (Kd.R_base ho2)) (fun _ h_ => h_.1)); replace HO898 := Aside0.mk (Kd.R_mono (Kd.R_told (Kd.R_told (Kd.R_old (rf HO898 BK911) hb) (Kd.R_base ho0)) (Kd.R_base ho2)) (fun _ h_ => h_.1)); replace HO902 := Aside0.mk (Kd.R_mono (Kd.R_told (Kd.R_told (Kd.R_old (rf HO902 BK911) hb) (Kd.R_base ho0)) (Kd.R_base ho2)) (fun _ h_ => h_.1)); replace HO908 := Aside0.mk (Kd.R_mono (Kd.R_told (Kd.R_told (Kd.R_old (rf HO908 BK911) hb) (Kd.R_base ho0)) (Kd.R_base ho2)) (fun _ h_ => h_.1)); replace BK888 := Aside0.mk (blk_below (bf BK888 NB888_911) hb); replace BK911 := Aside0.mk (blk_below (g := gb911) (o := .cells #[.slice Ao22 t900.length co22, .slice Ao25 t903.length co25, .slice Ao26 t906.length co26, .int .i64 t909] 44 (0, 0)) (by (with_reducible repeat (first | refine blk_drewN ?_ _ | refine blk_drew ?_ | refine blk_alloc ?_ _)); refine blk_put (cs := #[.slice Ao22 t900.length co22, .slice Ao25 t903.length co25, .slice Ao26 t906.length co26, .int .i64 0]) ?_ 3 _ rfl; (with_reducible repeat (first | refine blk_drewN ?_ _ | refine blk_drew ?_ | refine blk_alloc ?_ _)); refine blk_put (cs := #[.slice Ao22 t900.length co22, .slice Ao25 t903.length co25, .slice none 0 0, .int .i64 0]) ?_ 2 _ rfl; (with_reducible repeat (first | refine blk_drewN ?_ _ | refine blk_drew ?_ | refine blk_alloc ?_ _)); refine blk_put (cs := #[.slice Ao22 t900.length co22, .slice none 0 0, .slice none 0 0, .int .i64 0]) ?_ 1 _ rfl; (with_reducible repeat (first | refine blk_drewN ?_ _ | refine blk_drew ?_ | refine blk_alloc ?_ _)); refine blk_put (cs := #[.slice none 0 0, .slice none 0 0, .slice none 0 0, .int .i64 0]) ?_ 0 _ rfl; (with_reducible repeat (first | refine blk_drewN ?_ _ | refine blk_drew ?_ | refine blk_alloc ?_ _)); exact BK911.out) hb); replace HB := Aside0.mk (below_step (bs2 HB GE888 GE911) hb); (try clear hb); (try clear hb2); (try clear hk); (try clear hi); (try clear ho0); (try clear ho1); (try clear ho2)) | ((with_reducible refine gate_dst (N := 6) rfl ?_); refine box_event ?hg (N := 6) ?hd (cs := #[.slice none 0 0, .slice none 0 0, .slice none 0 0, .int .i64 0]) (t := 44) ?hr ?_; (case hd => rfl); (case hg => rfl); (case hr => first | (go_simp; done) | (go_simp; rfl)); intro gb922 hg w29 hbox hb; replace HO892 := nr HO892 hb; replace HO895 := nr HO895 hb; replace HO898 := nr HO898 hb; replace HO902 := nr HO902 hb; replace HO905 := nr HO905 hb; replace HO908 := nr HO908 hb; replace HO914 := nr HO914 hb; replace HO917 := nr HO917 hb; replace HO920 := nr HO920 hb; have BK922 := Aside0.mk (hbox); have GW922 := Aside0.mk ((by rw [hg]; exact (below_size (bs2 HB GE888 GE911)) : w.heap.size ≤ gb922)); have GE922 := Aside0.mk ((by rw [hg]; exact (below_size (bs2 HB GE888 GE911)) : w.heap.size ≤ gb922)); replace HB := Aside0.mk (below_step (bs2 HB GE888 GE911) hb); have NB888_922 := Aside0.mk ((bn BK888 hg : gb888 ≠ gb922)); have NB922_888 := Aside0.mk ((bm BK888 hg : gb922 ≠ gb888)); replace BK888 := nb BK888 hb; have NB911_922 := Aside0.mk ((bn BK911 hg : gb911 ≠ gb922)); have NB922_911 := Aside0.mk ((bm BK911 hg : gb922 ≠ gb911)); replace BK911 := nb BK911 hb; clear hb hbox hg; obtain ⟨Ao30, co30, eo30⟩ := Kd.R_slice HO914.out; subst eo30; have hnb31 := NB922_888.out; have hnc31 := NB888_922.out; have hnb32 := NB922_911.out; have hnc32 := NB911_922.out; obtain ⟨hcz33_0, hcz33_1, hcz33_2, hcz33_3⟩ := cz4 BK922; obtain ⟨hfz33_0, hfz33_1, hfz33_2, hfz33_3⟩ := fz4 BK922; obtain ⟨Ao34, co34, eo34⟩ := Kd.R_slice HO917.out; subst eo34; obtain ⟨Ao35, co35, eo35⟩ := Kd.R_slice HO920.out; subst eo35) | ((with_reducible refine gate_callee (f := 44) rfl ?_); refine gL (some 29) rfl rfl Try.func44 (by kernel_rfl) rfl #[.agg #[.slice Ao30 t912.length co30, .slice Ao34 t915.length co34, .slice Ao35 t918.length co35, .int .i64 t921]] rfl ?_; (with_reducible refine (impl_RecoverStore.calls k _ _ t912 _ _ t915 _ _ t918 t921 t923 t926 t929 t932 t933 _ ?side1 ?side2 ?side3 ?side4 ?side5 ?side6 A10.out).mono ?_); (case side1 => exact rc HO914 BK922); (case side2 => exact (Kd.R_reads' HO914.out).2.1); (case side3 => exact rc HO917 BK922); (case side4 => exact (Kd.R_reads' HO917.out).2.1); (case side5 => exact rc HO920 BK922); (case side6 => exact (Kd.R_reads' HO920.out).2.1); rintro e w36 ⟨v924, v927, v930, rfl, ho0, ho1, ho2, hb⟩; refine ⟨_, rfl, ?_⟩; have HO925 := Aside0.mk (Kd.R_lower (Kd.R_new' (Kd.R_new' (Kd.R_new' (Kd.R_new' (Kd.R_new' (Kd.R_new' ho0 (Kd.R_lt (rf HO892 BK922))) (Kd.R_lt (rf HO898 BK922))) (Kd.R_lt (rf HO902 BK922))) (Kd.R_lt (rf HO908 BK922))) (Kd.R_lt (rf HO914 BK922))) (Kd.R_lt (rf HO920 BK922))) (below_size (bs3 HB GE888 GE911 GE922))); have HO928 := Aside0.mk (Kd.R_lower (Kd.R_new' (Kd.R_new' (Kd.R_new' ho1 (Kd.R_lt (rf HO895 BK922))) (Kd.R_lt (rf HO905 BK922))) (Kd.R_lt (rf HO917 BK922))) (below_size (bs3 HB GE888 GE911 GE922))); replace HO895 := Aside0.mk (Kd.R_elder' (rf HO895 BK922) (Kd.R_base ho1) hb); replace HO905 := Aside0.mk (Kd.R_elder' (rf HO905 BK922) (Kd.R_base ho1) hb); replace HO917 := Aside0.mk (Kd.R_elder' (rf HO917 BK922) (Kd.R_base ho1) hb); have HO931 := Aside0.mk (Kd.R_lower (Kd.R_new' (Kd.R_new' (Kd.R_new' (Kd.R_new' (Kd.R_new' (Kd.R_new' ho2 (Kd.R_lt (rf HO892 BK922))) (Kd.R_lt (rf HO898 BK922))) (Kd.R_lt (rf HO902 BK922))) (Kd.R_lt (rf HO908 BK922))) (Kd.R_lt (rf HO914 BK922))) (Kd.R_lt (rf HO920 BK922))) (below_size (bs3 HB GE888 GE911 GE922))); replace HO892 := Aside0.mk (Kd.R_mono (Kd.R_told (Kd.R_told (Kd.R_old (rf HO892 BK922) hb) (Kd.R_base ho0)) (Kd.R_base ho2)) (fun _ h_ => h_.1)); replace HO898 := Aside0.mk (Kd.R_mono (Kd.R_told (Kd.R_told (Kd.R_old (rf HO898 BK922) hb) (Kd.R_base ho0)) (Kd.R_base ho2)) (fun _ h_ => h_.1)); replace HO902 := Aside0.mk (Kd.R_mono (Kd.R_told (Kd.R_told (Kd.R_old (rf HO902 BK922) hb) (Kd.R_base ho0)) (Kd.R_base ho2)) (fun _ h_ => h_.1)); replace HO908 := Aside0.mk (Kd.R_mono (Kd.R_told (Kd.R_told (Kd.R_old (rf HO908 BK922) hb) (Kd.R_base ho0)) (Kd.R_base ho2)) (fun _ h_ => h_.1)); replace HO914 := Aside0.mk (Kd.R_mono (Kd.R_told (Kd.R_told (Kd.R_old (rf HO914 BK922) hb) (Kd.R_base ho0)) (Kd.R_base ho2)) (fun _ h_ => h_.1)); replace HO920 := Aside0.mk (Kd.R_mono (Kd.R_told (Kd.R_told (Kd.R_old (rf HO920 BK922) hb) (Kd.R_base ho0)) (Kd.R_base ho2)) (fun _ h_ => h_.1)); replace BK888 := Aside0.mk (blk_below (bf BK888 NB888_922) hb); replace BK911 := Aside0.mk (blk_below (bf BK911 NB911_922) hb); replace BK922 := Aside0.mk (blk_below (g := gb922) (o := .cells #[.slice Ao30 t912.length co30, .slice Ao34 t915.length co34, .slice Ao35 t918.length co35, .int .i64 t921] 44 (0, 0)) (by (with_reducible repeat (first | refine blk_drewN ?_ _ | refine blk_drew ?_ | refine blk_alloc ?_ _)); refine blk_put (cs := #[.slice Ao30 t912.length co30, .slice Ao34 t915.length co34, .slice Ao35 t918.length co35, .int .i64 0]) ?_ 3 _ rfl; (with_reducible repeat (first | refine blk_drewN ?_ _ | refine blk_drew ?_ | refine blk_alloc ?_ _)); refine blk_put (cs := #[.slice Ao30 t912.length co30, .slice Ao34 t915.length co34, .slice none 0 0, .int .i64 0]) ?_ 2 _ rfl; (with_reducible repeat (first | refine blk_drewN ?_ _ | refine blk_drew ?_ | refine blk_alloc ?_ _)); refine blk_put (cs := #[.slice Ao30 t912.length co30, .slice none 0 0, .slice none 0 0, .int .i64 0]) ?_ 1 _ rfl; (with_reducible repeat (first | refine blk_drewN ?_ _ | refine blk_drew ?_ | refine blk_alloc ?_ _)); refine blk_put (cs := #[.slice none 0 0, .slice none 0 0, .slice none 0 0, .int .i64 0]) ?_ 0 _ rfl; (with_reducible repeat (first | refine blk_drewN ?_ _ | refine blk_drew ?_ | refine blk_alloc ?_ _)); exact BK922.out) hb); replace HB := Aside0.mk (below_step (bs3 HB GE888 GE911 GE922) hb); (try clear hb); (try clear hb2); (try clear hk); (try clear hi); (try clear ho0); (try clear ho1); (try clear ho2)) | ((with_reducible refine gate_dst (N := 7) rfl ?_); refine box_event ?hg (N := 7) ?hd (cs := #[.slice none 0 0, .slice none 0 0, .slice none 0 0, .int .i64 0]) (t := 44) ?hr ?_; (case hd => rfl); (case hg => rfl); (case hr => first | (go_simp; done) | (go_simp; rfl)); intro gb934 hg w37 hbox hb; replace HO892 := nr HO892 hb; replace HO895 := nr HO895 hb; replace HO898 := nr HO898 hb; replace HO902 := nr HO902 hb; replace HO905 := nr HO905 hb; replace HO908 := nr HO908 hb; replace HO914 := nr HO914 hb; replace HO917 := nr HO917 hb; replace HO920 := nr HO920 hb; replace HO925 := nr HO925 hb; replace HO928 := nr HO928 hb; replace HO931 := nr HO931 hb; have BK934 := Aside0.mk (hbox); have GW934 := Aside0.mk ((by rw [hg]; exact (below_size (bs3 HB GE888 GE911 GE922)) : w.heap.size ≤ gb934)); have GE934 := Aside0.mk ((by rw [hg]; exact (below_size (bs3 HB GE888 GE911 GE922)) : w.heap.size ≤ gb934)); replace HB := Aside0.mk (below_step (bs3 HB GE888 GE911 GE922) hb); have NB888_934 := Aside0.mk ((bn BK888 hg : gb888 ≠ gb934)); have NB934_888 := Aside0.mk ((bm BK888 hg : gb934 ≠ gb888)); replace BK888 := nb BK888 hb; have NB911_934 := Aside0.mk ((bn BK911 hg : gb911 ≠ gb934)); have NB934_911 := Aside0.mk ((bm BK911 hg : gb934 ≠ gb911)); replace BK911 := nb BK911 hb; have NB922_934 := Aside0.mk ((bn BK922 hg : gb922 ≠ gb934)); have NB934_922 := Aside0.mk ((bm BK922 hg : gb934 ≠ gb922)); replace BK922 := nb BK922 hb; clear hb hbox hg; obtain ⟨Ao38, co38, eo38⟩ := Kd.R_slice HO925.out; subst eo38; have hnb39 := NB934_888.out; have hnc39 := NB888_934.out; have hnb40 := NB934_911.out; have hnc40 := NB911_934.out; have hnb41 := NB934_922.out; have hnc41 := NB922_934.out; obtain ⟨hcz42_0, hcz42_1, hcz42_2, hcz42_3⟩ := cz4 BK934; obtain ⟨hfz42_0, hfz42_1, hfz42_2, hfz42_3⟩ := fz4 BK934; obtain ⟨Ao43, co43, eo43⟩ := Kd.R_slice HO928.out; subst eo43; obtain ⟨Ao44, co44, eo44⟩ := Kd.R_slice HO931.out; subst eo44))
  (try simp only [Act.put, List.setIfInBounds_toArray, List.set_cons_zero, List.set_cons_succ])
  go_cut [40] (fun v40 wc => ∃ (kq : Nat) (x40_10 : Bool), v40 = .bool x40_10 ∧ Aside0 (laws_FnExactRecoverStore.j0 kq t910 t933 x40_10 l0_0 l0_1 l0_2 a0_3 t900 t903 t906 t909 t912 t915 t918 t921 t923 t926 t929 t932 = some r) ∧ Aside0 (kq ≤ k) ∧ Aside0 (Kd.R Kd.string 9 wc w.heap.size (fun k_ => some k_ ≠ ((.slice Ao26 t906.length co26) : Value).ownBlock ∧ some k_ ≠ ((.slice Ao30 t912.length co30) : Value).ownBlock ∧ some k_ ≠ ((.slice Ao35 t918.length co35) : Value).ownBlock ∧ some k_ ≠ ((.slice Ao38 t923.length co38) : Value).ownBlock ∧ some k_ ≠ ((.slice Ao44 t929.length co44) : Value).ownBlock) (.slice Ao22 t900.length co22) t900) ∧ Aside0 (Kd.R k72 72 wc w.heap.size (fun k_ => some k_ ≠ ((.slice Ao34 t915.length co34) : Value).ownBlock ∧ some k_ ≠ ((.slice Ao43 t926.length co43) : Value).ownBlock) (.slice Ao25 t903.length co25) t903) ∧ Aside0 (Kd.R Kd.string 9 wc w.heap.size (fun k_ => some k_ ≠ ((.slice Ao22 t900.length co22) : Value).ownBlock ∧ some k_ ≠ ((.slice Ao30 t912.length co30) : Value).ownBlock ∧ some k_ ≠ ((.slice Ao35 t918.length co35) : Value).ownBlock ∧ some k_ ≠ ((.slice Ao38 t923.length co38) : Value).ownBlock ∧ some k_ ≠ ((.slice Ao44 t929.length co44) : Value).ownBlock) (.slice Ao26 t906.length co26) t906) ∧ Aside0 (Kd.R Kd.string 9 wc w.heap.size (fun k_ => some k_ ≠ ((.slice Ao22 t900.length co22) : Value).ownBlock ∧ some k_ ≠ ((.slice Ao26 t906.length co26) : Value).ownBlock ∧ some k_ ≠ ((.slice Ao35 t918.length co35) : Value).ownBlock ∧ some k_ ≠ ((.slice Ao38 t923.length co38) : Value).ownBlock ∧ some k_ ≠ ((.slice Ao44 t929.length co44) : Value).ownBlock) (.slice Ao30 t912.length co30) t912) ∧ Aside0 (Kd.R k72 72 wc w.heap.size (fun k_ => some k_ ≠ ((.slice Ao25 t903.length co25) : Value).ownBlock ∧ some k_ ≠ ((.slice Ao43 t926.length co43) : Value).ownBlock) (.slice Ao34 t915.length co34) t915) ∧ Aside0 (Kd.R Kd.string 9 wc w.heap.size (fun k_ => some k_ ≠ ((.slice Ao22 t900.length co22) : Value).ownBlock ∧ some k_ ≠ ((.slice Ao26 t906.length co26) : Value).ownBlock ∧ some k_ ≠ ((.slice Ao30 t912.length co30) : Value).ownBlock ∧ some k_ ≠ ((.slice Ao38 t923.length co38) : Value).ownBlock ∧ some k_ ≠ ((.slice Ao44 t929.length co44) : Value).ownBlock) (.slice Ao35 t918.length co35) t918) ∧ Aside0 (Kd.R Kd.string 9 wc w.heap.size (fun k_ => some k_ ≠ ((.slice Ao22 t900.length co22) : Value).ownBlock ∧ some k_ ≠ ((.slice Ao26 t906.length co26) : Value).ownBlock ∧ some k_ ≠ ((.slice Ao30 t912.length co30) : Value).ownBlock ∧ some k_ ≠ ((.slice Ao35 t918.length co35) : Value).ownBlock ∧ some k_ ≠ ((.slice Ao44 t929.length co44) : Value).ownBlock) (.slice Ao38 t923.length co38) t923) ∧ Aside0 (Kd.R k72 72 wc w.heap.size (fun k_ => some k_ ≠ ((.slice Ao25 t903.length co25) : Value).ownBlock ∧ some k_ ≠ ((.slice Ao34 t915.length co34) : Value).ownBlock) (.slice Ao43 t926.length co43) t926) ∧ Aside0 (Kd.R Kd.string 9 wc w.heap.size (fun k_ => some k_ ≠ ((.slice Ao22 t900.length co22) : Value).ownBlock ∧ some k_ ≠ ((.slice Ao26 t906.length co26) : Value).ownBlock ∧ some k_ ≠ ((.slice Ao30 t912.length co30) : Value).ownBlock ∧ some k_ ≠ ((.slice Ao35 t918.length co35) : Value).ownBlock ∧ some k_ ≠ ((.slice Ao38 t923.length co38) : Value).ownBlock) (.slice Ao44 t929.length co44) t929) ∧ Aside0 (wc.heap[gb888]? = some (.cells #[(.slice A0_0 l0_0.length c0_0), (.slice A0_1 l0_1.length c0_1), (.slice A0_2 l0_2.length c0_2), .int .i64 a0_3] 38 (0, 0))) ∧ Aside0 (wc.heap[gb911]? = some (.cells #[(.slice Ao22 t900.length co22), (.slice Ao25 t903.length co25), (.slice Ao26 t906.length co26), .int .i64 t909] 44 (0, 0))) ∧ Aside0 (wc.heap[gb922]? = some (.cells #[(.slice Ao30 t912.length co30), (.slice Ao34 t915.length co34), (.slice Ao35 t918.length co35), .int .i64 t921] 44 (0, 0))) ∧ Aside0 (wc.heap[gb934]? = some (.cells #[(.slice Ao38 t923.length co38), (.slice Ao43 t926.length co43), (.slice Ao44 t929.length co44), .int .i64 t932] 44 (0, 0))) ∧ Aside0 (Below w.heap.size w wc))
  case first =>
   have H := HC11.out
   clear HC11
   replace H := Option.bind_eq_some_iff.mp H
   obtain ⟨t935, A450, H⟩ := H
   replace H : (if t935 = true then (laws_FnExactRecoverStore.j0 k t910 t933 (t933 != t910) l0_0 l0_1 l0_2 a0_3 t900 t903 t906 t909 t912 t915 t918 t921 t923 t926 t929 t932) else (laws_FnExactRecoverStore.j0 k t910 t933 true l0_0 l0_1 l0_2 a0_3 t900 t903 t906 t909 t912 t915 t918 t921 t923 t926 t929 t932)) = some r := H
   have A45 := Aside0.mk A450
   clear A450
   by_cases c46 : t935 = true
   ·
    subst c46
    rw [if_pos rfl] at H
    have H' := Aside0.mk H
    clear H
    have hnb47 := NB934_888.out
    have hnc47 := NB888_934.out
    have hnb48 := NB934_911.out
    have hnc48 := NB911_934.out
    have hnb49 := NB934_922.out
    have hnc49 := NB922_934.out
    obtain ⟨hcz50_0, hcz50_1, hcz50_2, hcz50_3⟩ := cz4 BK934
    obtain ⟨hfz50_0, hfz50_1, hfz50_2, hfz50_3⟩ := fz4 BK934
    have hnb51 := NB911_888.out
    have hnc51 := NB888_911.out
    have hnb52 := NB911_922.out
    have hnc52 := NB922_911.out
    obtain ⟨hcz53_0, hcz53_1, hcz53_2, hcz53_3⟩ := cz4 BK911
    obtain ⟨hfz53_0, hfz53_1, hfz53_2, hfz53_3⟩ := fz4 BK911
    go_wp2_with (first | ((with_reducible refine gate_callee (f := 29) rfl ?_); refine gL (some 34) rfl rfl Try.func29 (by kernel_rfl) rfl #[.agg #[.slice Ao38 t923.length co38, .slice Ao43 t926.length co43, .slice Ao44 t929.length co44, .int .i64 t932], .agg #[.slice Ao22 t900.length co22, .slice Ao25 t903.length co25, .slice Ao26 t906.length co26, .int .i64 t909]] rfl ?_; (with_reducible refine (laws_eqStore.calls k _ _ t923 _ _ t926 _ _ t929 t932 _ _ t900 _ _ t903 _ _ t906 t909 true _ ?side1 ?side2 ?side3 ?side4 ?side5 ?side6 ?side7 ?side8 ?side9 ?side10 ?side11 ?side12 A45.out).mono ?_); (case side1 => exact rc HO925 BK934); (case side2 => exact (Kd.R_reads' HO925.out).2.1); (case side3 => exact rc HO928 BK934); (case side4 => exact (Kd.R_reads' HO928.out).2.1); (case side5 => exact rc HO931 BK934); (case side6 => exact (Kd.R_reads' HO931.out).2.1); (case side7 => exact rc HO902 BK934); (case side8 => exact (Kd.R_reads' HO902.out).2.1); (case side9 => exact rc HO905 BK934); (case side10 => exact (Kd.R_reads' HO905.out).2.1); (case side11 => exact rc HO908 BK934); (case side12 => exact (Kd.R_reads' HO908.out).2.1); rintro e w54 ⟨rfl, hb⟩; refine ⟨_, rfl, ?_⟩; replace HO892 := nf HO892 BK934 hb; replace HO895 := nf HO895 BK934 hb; replace HO898 := nf HO898 BK934 hb; replace HO902 := nf HO902 BK934 hb; replace HO905 := nf HO905 BK934 hb; replace HO908 := nf HO908 BK934 hb; replace HO914 := nf HO914 BK934 hb; replace HO917 := nf HO917 BK934 hb; replace HO920 := nf HO920 BK934 hb; replace HO925 := nf HO925 BK934 hb; replace HO928 := nf HO928 BK934 hb; replace HO931 := nf HO931 BK934 hb; replace BK888 := Aside0.mk (blk_below (bf BK888 NB888_934) hb); replace BK911 := Aside0.mk (blk_below (bf BK911 NB911_934) hb); replace BK922 := Aside0.mk (blk_below (bf BK922 NB922_934) hb); replace BK934 := Aside0.mk (blk_below (g := gb934) (o := .cells #[.slice Ao38 t923.length co38, .slice Ao43 t926.length co43, .slice Ao44 t929.length co44, .int .i64 t932] 44 (0, 0)) (by (with_reducible repeat (first | refine blk_drewN ?_ _ | refine blk_drew ?_ | refine blk_alloc ?_ _)); refine blk_put (cs := #[.slice Ao38 t923.length co38, .slice Ao43 t926.length co43, .slice Ao44 t929.length co44, .int .i64 0]) ?_ 3 _ rfl; (with_reducible repeat (first | refine blk_drewN ?_ _ | refine blk_drew ?_ | refine blk_alloc ?_ _)); refine blk_put (cs := #[.slice Ao38 t923.length co38, .slice Ao43 t926.length co43, .slice none 0 0, .int .i64 0]) ?_ 2 _ rfl; (with_reducible repeat (first | refine blk_drewN ?_ _ | refine blk_drew ?_ | refine blk_alloc ?_ _)); refine blk_put (cs := #[.slice Ao38 t923.length co38, .slice none 0 0, .slice none 0 0, .int .i64 0]) ?_ 1 _ rfl; (with_reducible repeat (first | refine blk_drewN ?_ _ | refine blk_drew ?_ | refine blk_alloc ?_ _)); refine blk_put (cs := #[.slice none 0 0, .slice none 0 0, .slice none 0 0, .int .i64 0]) ?_ 0 _ rfl; (with_reducible repeat (first | refine blk_drewN ?_ _ | refine blk_drew ?_ | refine blk_alloc ?_ _)); exact BK934.out) hb); replace HB := Aside0.mk (below_step (bs4 HB GE888 GE911 GE922 GE934) hb); (try clear hb); (try clear hb2); (try clear hk); (try clear hi)))
    go_meet
    case rel => exact ⟨_, ((t933 != t910)), (by first | rfl | (simp; done) | (simp [*]; done)), H', ⟨by first | omega | exact Nat.le_refl _⟩, rm HO902 (fun _ hk => ⟨hk.1.1.1.1.1.1, ⟨hk.1.1.1.2, ⟨hk.1.1.2, ⟨hk.1.2, hk.2⟩⟩⟩⟩), rm HO905 (fun _ hk => ⟨hk.1.2, hk.2⟩), rm HO908 (fun _ hk => ⟨hk.1.1.1.1.1.1, ⟨hk.1.1.1.2, ⟨hk.1.1.2, ⟨hk.1.2, hk.2⟩⟩⟩⟩), rm HO914 (fun _ hk => ⟨hk.1.1.1.2, ⟨hk.1.1.2, ⟨hk.1.1.1.1.1.1, ⟨hk.1.2, hk.2⟩⟩⟩⟩), rm HO917 (fun _ hk => ⟨hk.1.2, hk.2⟩), rm HO920 (fun _ hk => ⟨hk.1.1.1.2, ⟨hk.1.1.2, ⟨hk.1.1.1.1.1.1, ⟨hk.1.2, hk.2⟩⟩⟩⟩), rm HO925 (fun _ hk => ⟨hk.1.1.1.2, ⟨hk.1.1.2, ⟨hk.1.2, ⟨hk.2, hk.1.1.1.1.1.1⟩⟩⟩⟩), rm HO928 (fun _ hk => ⟨hk.1.2, hk.2⟩), rm HO931 (fun _ hk => ⟨hk.1.1.1.2, ⟨hk.1.1.2, ⟨hk.1.2, ⟨hk.2, hk.1.1.1.1.1.1⟩⟩⟩⟩), ⟨bk BK888⟩, ⟨bk BK911⟩, ⟨bk BK922⟩, ⟨bk BK934⟩, ⟨bs4 HB GE888 GE911 GE922 GE934⟩⟩
   ·
    replace c46 := Bool.eq_false_iff.mpr c46
    subst c46
    rw [if_neg (show ¬ (false = true) by decide)] at H
    have H' := Aside0.mk H
    clear H
    have hnb55 := NB934_888.out
    have hnc55 := NB888_934.out
    have hnb56 := NB934_911.out
    have hnc56 := NB911_934.out
    have hnb57 := NB934_922.out
    have hnc57 := NB922_934.out
    obtain ⟨hcz58_0, hcz58_1, hcz58_2, hcz58_3⟩ := cz4 BK934
    obtain ⟨hfz58_0, hfz58_1, hfz58_2, hfz58_3⟩ := fz4 BK934
    have hnb59 := NB911_888.out
    have hnc59 := NB888_911.out
    have hnb60 := NB911_922.out
    have hnc60 := NB922_911.out
    obtain ⟨hcz61_0, hcz61_1, hcz61_2, hcz61_3⟩ := cz4 BK911
    obtain ⟨hfz61_0, hfz61_1, hfz61_2, hfz61_3⟩ := fz4 BK911
    go_wp2_with (first | ((with_reducible refine gate_callee (f := 29) rfl ?_); refine gL (some 34) rfl rfl Try.func29 (by kernel_rfl) rfl #[.agg #[.slice Ao38 t923.length co38, .slice Ao43 t926.length co43, .slice Ao44 t929.length co44, .int .i64 t932], .agg #[.slice Ao22 t900.length co22, .slice Ao25 t903.length co25, .slice Ao26 t906.length co26, .int .i64 t909]] rfl ?_; (with_reducible refine (laws_eqStore.calls k _ _ t923 _ _ t926 _ _ t929 t932 _ _ t900 _ _ t903 _ _ t906 t909 false _ ?side1 ?side2 ?side3 ?side4 ?side5 ?side6 ?side7 ?side8 ?side9 ?side10 ?side11 ?side12 A45.out).mono ?_); (case side1 => exact rc HO925 BK934); (case side2 => exact (Kd.R_reads' HO925.out).2.1); (case side3 => exact rc HO928 BK934); (case side4 => exact (Kd.R_reads' HO928.out).2.1); (case side5 => exact rc HO931 BK934); (case side6 => exact (Kd.R_reads' HO931.out).2.1); (case side7 => exact rc HO902 BK934); (case side8 => exact (Kd.R_reads' HO902.out).2.1); (case side9 => exact rc HO905 BK934); (case side10 => exact (Kd.R_reads' HO905.out).2.1); (case side11 => exact rc HO908 BK934); (case side12 => exact (Kd.R_reads' HO908.out).2.1); rintro e w62 ⟨rfl, hb⟩; refine ⟨_, rfl, ?_⟩; replace HO892 := nf HO892 BK934 hb; replace HO895 := nf HO895 BK934 hb; replace HO898 := nf HO898 BK934 hb; replace HO902 := nf HO902 BK934 hb; replace HO905 := nf HO905 BK934 hb; replace HO908 := nf HO908 BK934 hb; replace HO914 := nf HO914 BK934 hb; replace HO917 := nf HO917 BK934 hb; replace HO920 := nf HO920 BK934 hb; replace HO925 := nf HO925 BK934 hb; replace HO928 := nf HO928 BK934 hb; replace HO931 := nf HO931 BK934 hb; replace BK888 := Aside0.mk (blk_below (bf BK888 NB888_934) hb); replace BK911 := Aside0.mk (blk_below (bf BK911 NB911_934) hb); replace BK922 := Aside0.mk (blk_below (bf BK922 NB922_934) hb); replace BK934 := Aside0.mk (blk_below (g := gb934) (o := .cells #[.slice Ao38 t923.length co38, .slice Ao43 t926.length co43, .slice Ao44 t929.length co44, .int .i64 t932] 44 (0, 0)) (by (with_reducible repeat (first | refine blk_drewN ?_ _ | refine blk_drew ?_ | refine blk_alloc ?_ _)); refine blk_put (cs := #[.slice Ao38 t923.length co38, .slice Ao43 t926.length co43, .slice Ao44 t929.length co44, .int .i64 0]) ?_ 3 _ rfl; (with_reducible repeat (first | refine blk_drewN ?_ _ | refine blk_drew ?_ | refine blk_alloc ?_ _)); refine blk_put (cs := #[.slice Ao38 t923.length co38, .slice Ao43 t926.length co43, .slice none 0 0, .int .i64 0]) ?_ 2 _ rfl; (with_reducible repeat (first | refine blk_drewN ?_ _ | refine blk_drew ?_ | refine blk_alloc ?_ _)); refine blk_put (cs := #[.slice Ao38 t923.length co38, .slice none 0 0, .slice none 0 0, .int .i64 0]) ?_ 1 _ rfl; (with_reducible repeat (first | refine blk_drewN ?_ _ | refine blk_drew ?_ | refine blk_alloc ?_ _)); refine blk_put (cs := #[.slice none 0 0, .slice none 0 0, .slice none 0 0, .int .i64 0]) ?_ 0 _ rfl; (with_reducible repeat (first | refine blk_drewN ?_ _ | refine blk_drew ?_ | refine blk_alloc ?_ _)); exact BK934.out) hb); replace HB := Aside0.mk (below_step (bs4 HB GE888 GE911 GE922 GE934) hb); (try clear hb); (try clear hb2); (try clear hk); (try clear hi)))
    go_meet
    case rel => exact ⟨_, (true), (by first | rfl | (simp; done) | (simp [*]; done)), H', ⟨by first | omega | exact Nat.le_refl _⟩, rm HO902 (fun _ hk => ⟨hk.1.1.1.1.1.1, ⟨hk.1.1.1.2, ⟨hk.1.1.2, ⟨hk.1.2, hk.2⟩⟩⟩⟩), rm HO905 (fun _ hk => ⟨hk.1.2, hk.2⟩), rm HO908 (fun _ hk => ⟨hk.1.1.1.1.1.1, ⟨hk.1.1.1.2, ⟨hk.1.1.2, ⟨hk.1.2, hk.2⟩⟩⟩⟩), rm HO914 (fun _ hk => ⟨hk.1.1.1.2, ⟨hk.1.1.2, ⟨hk.1.1.1.1.1.1, ⟨hk.1.2, hk.2⟩⟩⟩⟩), rm HO917 (fun _ hk => ⟨hk.1.2, hk.2⟩), rm HO920 (fun _ hk => ⟨hk.1.1.1.2, ⟨hk.1.1.2, ⟨hk.1.1.1.1.1.1, ⟨hk.1.2, hk.2⟩⟩⟩⟩), rm HO925 (fun _ hk => ⟨hk.1.1.1.2, ⟨hk.1.1.2, ⟨hk.1.2, ⟨hk.2, hk.1.1.1.1.1.1⟩⟩⟩⟩), rm HO928 (fun _ hk => ⟨hk.1.2, hk.2⟩), rm HO931 (fun _ hk => ⟨hk.1.1.1.2, ⟨hk.1.1.2, ⟨hk.1.2, ⟨hk.2, hk.1.1.1.1.1.1⟩⟩⟩⟩), ⟨bk BK888⟩, ⟨bk BK911⟩, ⟨bk BK922⟩, ⟨bk BK934⟩, ⟨bs4 HB GE888 GE911 GE922 GE934⟩⟩
  case rest =>
   clear HC11
   try clear c1
   try clear c2
   try clear p2
   try clear c3
   try clear c3b0
   try clear c4
   try clear c5
   try clear c6
   try clear c10
   try clear c23
   try clear c25
   try clear c27
   try clear c29
   try clear c31
   try clear c32
   try clear c39
   try clear c40
   try clear c41
   try clear c43
   try clear c44
   try clear c46
   try clear c47
   try clear c48
   try clear c49
   try clear c51
   try clear c52
   try clear c55
   try clear c56
   try clear c57
   try clear c59
   try clear c60
   try clear hcz13_0 hcz13_1 hcz13_2 hcz13_3
   try clear hcz15_0 hcz15_1 hcz15_2 hcz15_3
   try clear hcz24_0 hcz24_1 hcz24_2 hcz24_3
   try clear hcz27_0 hcz27_1 hcz27_2 hcz27_3
   try clear hcz33_0 hcz33_1 hcz33_2 hcz33_3
   try clear hcz42_0 hcz42_1 hcz42_2 hcz42_3
   try clear hcz50_0 hcz50_1 hcz50_2 hcz50_3
   try clear hcz53_0 hcz53_1 hcz53_2 hcz53_3
   try clear hcz58_0 hcz58_1 hcz58_2 hcz58_3
   try clear hcz5_0 hcz5_1 hcz5_2 hcz5_3
   try clear hcz61_0 hcz61_1 hcz61_2 hcz61_3
   try clear hfz13_0 hfz13_1 hfz13_2 hfz13_3
   try clear hfz15_0 hfz15_1 hfz15_2 hfz15_3
   try clear hfz24_0 hfz24_1 hfz24_2 hfz24_3
   try clear hfz27_0 hfz27_1 hfz27_2 hfz27_3
   try clear hfz33_0 hfz33_1 hfz33_2 hfz33_3
   try clear hfz42_0 hfz42_1 hfz42_2 hfz42_3
   try clear hfz50_0 hfz50_1 hfz50_2 hfz50_3
   try clear hfz53_0 hfz53_1 hfz53_2 hfz53_3
   try clear hfz58_0 hfz58_1 hfz58_2 hfz58_3
   try clear hfz5_0 hfz5_1 hfz5_2 hfz5_3
   try clear hfz61_0 hfz61_1 hfz61_2 hfz61_3
   obtain ⟨kq, x40_10, rfl, HA, HJ10, HO_912000, HO_912001, HO_912002, HO_923000, HO_923001, HO_923002, HO_935000, HO_935001, HO_935002, BK888, BK911, BK922, BK934, HB⟩ := hcut
   cases kq with
   | zero => exact absurd HA.out (by simp [laws_FnExactRecoverStore.j0])
   | succ kj10 =>
    have H := HA.out
    clear HA
    simp only [laws_FnExactRecoverStore.j0] at H
    by_cases c63 : x40_10 = true
    ·
     subst c63
     rw [if_pos rfl] at H
     obtain rfl := Option.some.inj H
     go_wp2
     go_ret
     exact ⟨by first | rfl | (simp [errW_none, errW_some] <;> rfl) | (simp [*, errW_none, errW_some] <;> rfl), bs4 HB GE888 GE911 GE922 GE934⟩
    ·
     replace c63 := Bool.eq_false_iff.mpr c63
     subst c63
     rw [if_neg (show ¬ (false = true) by decide)] at H
     replace H := Option.bind_eq_some_iff.mp H
     obtain ⟨⟨t936, t939, t942, t945⟩, A640, H⟩ := H
     replace H : ((laws_eqStore.f kj10 t912 t915 t918 t921 t936 t939 t942 t945).bind fun t946 => (if t946 = true then ((laws_markStore.f kj10 t912 t915 t918 t921 1).bind fun bt947 => (if bt947.1 < 0 then (laws_FnExactRecoverStore.j1 kj10 t910 true l0_0 l0_1 l0_2 a0_3 t900 t903 t906 t909 t923 t926 t929 t932) else ((laws_eqStore.f kj10 t923 t926 t929 t932 t900 t903 t906 t909).bind fun t951 => (if t951 = true then (laws_FnExactRecoverStore.j1 kj10 t910 (t933 != t910) l0_0 l0_1 l0_2 a0_3 t900 t903 t906 t909 t923 t926 t929 t932) else (laws_FnExactRecoverStore.j1 kj10 t910 true l0_0 l0_1 l0_2 a0_3 t900 t903 t906 t909 t923 t926 t929 t932))))) else (some false))) = some r := H
     have A64 := Aside0.mk A640
     clear A640
     replace H := Option.bind_eq_some_iff.mp H
     obtain ⟨t946, A650, H⟩ := H
     replace H : (if t946 = true then ((laws_markStore.f kj10 t912 t915 t918 t921 1).bind fun bt947 => (if bt947.1 < 0 then (laws_FnExactRecoverStore.j1 kj10 t910 true l0_0 l0_1 l0_2 a0_3 t900 t903 t906 t909 t923 t926 t929 t932) else ((laws_eqStore.f kj10 t923 t926 t929 t932 t900 t903 t906 t909).bind fun t951 => (if t951 = true then (laws_FnExactRecoverStore.j1 kj10 t910 (t933 != t910) l0_0 l0_1 l0_2 a0_3 t900 t903 t906 t909 t923 t926 t929 t932) else (laws_FnExactRecoverStore.j1 kj10 t910 true l0_0 l0_1 l0_2 a0_3 t900 t903 t906 t909 t923 t926 t929 t932))))) else (some false)) = some r := H
     have A65 := Aside0.mk A650
     clear A650
     by_cases c66 : t946 = true
     ·
      subst c66
      rw [if_pos rfl] at H
      replace H := Option.bind_eq_some_iff.mp H
      obtain ⟨⟨t947, t948, t949, t950⟩, A670, H⟩ := H
      replace H : (if t947 < 0 then (laws_FnExactRecoverStore.j1 kj10 t910 true l0_0 l0_1 l0_2 a0_3 t900 t903 t906 t909 t923 t926 t929 t932) else ((laws_eqStore.f kj10 t923 t926 t929 t932 t900 t903 t906 t909).bind fun t951 => (if t951 = true then (laws_FnExactRecoverStore.j1 kj10 t910 (t933 != t910) l0_0 l0_1 l0_2 a0_3 t900 t903 t906 t909 t923 t926 t929 t932) else (laws_FnExactRecoverStore.j1 kj10 t910 true l0_0 l0_1 l0_2 a0_3 t900 t903 t906 t909 t923 t926 t929 t932)))) = some r := H
      have A67 := Aside0.mk A670
      clear A670
      have HC68 := Aside0.mk H
      clear H
      try go_wp2
      have n0_ := Aside0.mk (Kd.R_drew HO_912000.out)
      have n1_ := Aside0.mk (Kd.R_drew HO_912001.out)
      have n2_ := Aside0.mk (Kd.R_drew HO_912002.out)
      have n3_ := Aside0.mk (Kd.R_drew HO_923000.out)
      have n4_ := Aside0.mk (Kd.R_drew HO_923001.out)
      have n5_ := Aside0.mk (Kd.R_drew HO_923002.out)
      have n6_ := Aside0.mk (Kd.R_drew HO_935000.out)
      have n7_ := Aside0.mk (Kd.R_drew HO_935001.out)
      have n8_ := Aside0.mk (Kd.R_drew HO_935002.out)
      have n9_ := Aside0.mk (blk_drew BK888.out)
      have n10_ := Aside0.mk (blk_drew BK911.out)
      have n11_ := Aside0.mk (blk_drew BK922.out)
      have n12_ := Aside0.mk (blk_drew BK934.out)
      have n13_ := Aside0.mk (below_drew1 HB.out)
      clear HO_912000
      clear HO_912001
      clear HO_912002
      clear HO_923000
      clear HO_923001
      clear HO_923002
      clear HO_935000
      clear HO_935001
      clear HO_935002
      clear BK888
      clear BK911
      clear BK922
      clear BK934
      clear HB
      have HO_912000 := n0_
      have HO_912001 := n1_
      have HO_912002 := n2_
      have HO_923000 := n3_
      have HO_923001 := n4_
      have HO_923002 := n5_
      have HO_935000 := n6_
      have HO_935001 := n7_
      have HO_935002 := n8_
      have BK888 := n9_
      have BK911 := n10_
      have BK922 := n11_
      have BK934 := n12_
      have HB := n13_
      clear n0_ n1_ n2_ n3_ n4_ n5_ n6_ n7_ n8_ n9_ n10_ n11_ n12_ n13_
      refine start_ (n := 5) (S := fun w' => w'.cell? ⟨gb922, 0, none⟩ = some (.slice Ao30 t912.length co30) ∧ w'.cell? ⟨gb922, 1, none⟩ = some (.slice Ao34 t915.length co34) ∧ w'.cell? ⟨gb922, 2, none⟩ = some (.slice Ao35 t918.length co35) ∧ w'.cell? ⟨gb922, 3, none⟩ = some (.int .i64 t921) ∧ w'.cell? ⟨gb888, 0, none⟩ = some (.slice A0_0 l0_0.length c0_0) ∧ w'.cell? ⟨gb888, 1, none⟩ = some (.slice A0_1 l0_1.length c0_1) ∧ w'.cell? ⟨gb888, 2, none⟩ = some (.slice A0_2 l0_2.length c0_2) ∧ w'.cell? ⟨gb888, 3, none⟩ = some (.int .i64 a0_3)) (ds := []) #[false, false, false, false, false] (by kernel_rfl) rfl rfl ⟨(blk_cell BK922.out 0).trans rfl, (blk_cell BK922.out 1).trans rfl, (blk_cell BK922.out 2).trans rfl, (blk_cell BK922.out 3).trans rfl, (blk_cell BK888.out 0).trans rfl, (blk_cell BK888.out 1).trans rfl, (blk_cell BK888.out 2).trans rfl, (blk_cell BK888.out 3).trans rfl⟩ (fun hHeld => ?_)
      generalize wc.drew = w69 at HO_912000 HO_912001 HO_912002 HO_923000 HO_923001 HO_923002 HO_935000 HO_935001 HO_935002 BK888 BK911 BK922 BK934 HB hHeld ⊢
      refine take_ (i := 0) (N := some 41) (v := ?_) (a' := ?_) #[true, false, false, false, false] rfl rfl (by kernel_rfl) (fun _ _ _ h => h) (Or.inl ⟨by rfl, ?_⟩) hHeld ?_ ?_
      rotate_left
      ·
       rintro w' ⟨s0, s1, s2, s3, s4, s5, s6, s7⟩
       go_simp
       with_reducible rfl
      rotate_left
      ·
       simp only [Act.put, List.setIfInBounds_toArray, List.set_cons_zero, List.set_cons_succ, i64_w, i32_w]
       rfl
      refine take_ (i := 1) (N := some 42) (v := ?_) (a' := ?_) #[true, true, false, false, false] rfl rfl (by kernel_rfl) (fun _ _ _ h => h) (Or.inl ⟨by rfl, ?_⟩) hHeld ?_ ?_
      rotate_left
      ·
       rintro w' ⟨s0, s1, s2, s3, s4, s5, s6, s7⟩
       go_simp
       with_reducible rfl
      rotate_left
      ·
       simp only [Act.put, List.setIfInBounds_toArray, List.set_cons_zero, List.set_cons_succ, i64_w, i32_w]
       rfl
      refine one_ (i := 2) (N := some 43) #[true, true, true, false, false] rfl rfl (by kernel_rfl) (by decide) (fun K hK => ?_)
      refine goes_ Try.func27 (by kernel_rfl) rfl #[.agg #[.slice A0_0 l0_0.length c0_0, .slice A0_1 l0_1.length c0_1, .slice A0_2 l0_2.length c0_2, .int .i64 a0_3]] (by rfl) rfl rfl (by (try simp only [List.map_toArray, List.map_cons, List.map_nil]); first | done | rfl | (simp only [List.length_drop, List.length_take]; rfl)) ?_
      with_reducible refine (laws_toStore.calls kj10 _ _ l0_0 _ _ l0_1 _ _ l0_2 a0_3 t936 t939 t942 t945 _ ?side1 ?side2 ?side3 ?side4 ?side5 ?side6 A64.out).mono ?_
      (case side1 => exact cb HR0_0 HB)
      (case side2 => exact HC0_0.out)
      (case side3 => exact cb HR0_1 HB)
      (case side4 => exact HC0_1.out)
      (case side5 => exact cb HR0_2 HB)
      (case side6 => exact HC0_2.out)
      rintro e w70 ⟨v937, v940, v943, rfl, ho0, ho1, ho2, hb⟩
      refine ⟨_, rfl, ?_⟩
      have n0_ := Aside0.mk (Kd.R_mono (Kd.R_told (Kd.R_told (Kd.R_old (rr HO_912000.out) hb) (Kd.R_base ho0)) (Kd.R_base ho2)) (fun _ h_ => h_.1))
      have n1_ := Aside0.mk (Kd.R_elder' (rr HO_912001.out) (Kd.R_base ho1) hb)
      have n2_ := Aside0.mk (Kd.R_mono (Kd.R_told (Kd.R_told (Kd.R_old (rr HO_912002.out) hb) (Kd.R_base ho0)) (Kd.R_base ho2)) (fun _ h_ => h_.1))
      have n3_ := Aside0.mk (Kd.R_mono (Kd.R_told (Kd.R_told (Kd.R_old (rr HO_923000.out) hb) (Kd.R_base ho0)) (Kd.R_base ho2)) (fun _ h_ => h_.1))
      have n4_ := Aside0.mk (Kd.R_elder' (rr HO_923001.out) (Kd.R_base ho1) hb)
      have n5_ := Aside0.mk (Kd.R_mono (Kd.R_told (Kd.R_told (Kd.R_old (rr HO_923002.out) hb) (Kd.R_base ho0)) (Kd.R_base ho2)) (fun _ h_ => h_.1))
      have n6_ := Aside0.mk (Kd.R_mono (Kd.R_told (Kd.R_told (Kd.R_old (rr HO_935000.out) hb) (Kd.R_base ho0)) (Kd.R_base ho2)) (fun _ h_ => h_.1))
      have n7_ := Aside0.mk (Kd.R_elder' (rr HO_935001.out) (Kd.R_base ho1) hb)
      have n8_ := Aside0.mk (Kd.R_mono (Kd.R_told (Kd.R_told (Kd.R_old (rr HO_935002.out) hb) (Kd.R_base ho0)) (Kd.R_base ho2)) (fun _ h_ => h_.1))
      have n9_ := Aside0.mk (Kd.R_lower (Kd.R_new' (Kd.R_new' (Kd.R_new' (Kd.R_new' (Kd.R_new' (Kd.R_new' ho0 (Kd.R_lt (rr HO_912000.out))) (Kd.R_lt (rr HO_912002.out))) (Kd.R_lt (rr HO_923000.out))) (Kd.R_lt (rr HO_923002.out))) (Kd.R_lt (rr HO_935000.out))) (Kd.R_lt (rr HO_935002.out))) (below_size (bs4 HB GE888 GE911 GE922 GE934)))
      have n10_ := Aside0.mk (Kd.R_lower (Kd.R_new' (Kd.R_new' (Kd.R_new' ho1 (Kd.R_lt (rr HO_912001.out))) (Kd.R_lt (rr HO_923001.out))) (Kd.R_lt (rr HO_935001.out))) (below_size (bs4 HB GE888 GE911 GE922 GE934)))
      have n11_ := Aside0.mk (Kd.R_lower (Kd.R_new' (Kd.R_new' (Kd.R_new' (Kd.R_new' (Kd.R_new' (Kd.R_new' ho2 (Kd.R_lt (rr HO_912000.out))) (Kd.R_lt (rr HO_912002.out))) (Kd.R_lt (rr HO_923000.out))) (Kd.R_lt (rr HO_923002.out))) (Kd.R_lt (rr HO_935000.out))) (Kd.R_lt (rr HO_935002.out))) (below_size (bs4 HB GE888 GE911 GE922 GE934)))
      have n12_ := Aside0.mk (bb BK888 hb)
      have n13_ := Aside0.mk (bb BK911 hb)
      have n14_ := Aside0.mk (bb BK922 hb)
      have n15_ := Aside0.mk (bb BK934 hb)
      have n16_ := Aside0.mk (below_step (bs4 HB GE888 GE911 GE922 GE934) hb)
      clear HO_912000
      clear HO_912001
      clear HO_912002
      clear HO_923000
      clear HO_923001
      clear HO_923002
      clear HO_935000
      clear HO_935001
      clear HO_935002
      clear BK888
      clear BK911
      clear BK922
      clear BK934
      clear HB
      have HO_912000 := n0_
      have HO_912001 := n1_
      have HO_912002 := n2_
      have HO_923000 := n3_
      have HO_923001 := n4_
      have HO_923002 := n5_
      have HO_935000 := n6_
      have HO_935001 := n7_
      have HO_935002 := n8_
      have HO938 := n9_
      have HO941 := n10_
      have HO944 := n11_
      have BK888 := n12_
      have BK911 := n13_
      have BK922 := n14_
      have BK934 := n15_
      have HB := n16_
      clear n0_ n1_ n2_ n3_ n4_ n5_ n6_ n7_ n8_ n9_ n10_ n11_ n12_ n13_ n14_ n15_ n16_
      (try clear hb)
      (try clear hb2)
      (try clear hk)
      (try clear hi)
      (try clear ho0)
      (try clear ho1)
      (try clear ho2)
      obtain ⟨Ao71, co71, eo71⟩ := Kd.R_slice HO938.out
      (first | subst eo71 | (injection eo71 with f1_ f2_ f3_; have f4_ := f1_.symm; have f5_ := f3_.symm; clear f1_ f2_ f3_; subst f4_; subst f5_))
      obtain ⟨Ao72, co72, eo72⟩ := Kd.R_slice HO941.out
      (first | subst eo72 | (injection eo72 with f1_ f2_ f3_; have f4_ := f1_.symm; have f5_ := f3_.symm; clear f1_ f2_ f3_; subst f4_; subst f5_))
      obtain ⟨Ao73, co73, eo73⟩ := Kd.R_slice HO944.out
      (first | subst eo73 | (injection eo73 with f1_ f2_ f3_; have f4_ := f1_.symm; have f5_ := f3_.symm; clear f1_ f2_ f3_; subst f4_; subst f5_))
      refine hK.out _ _ ⟨(blk_cell BK922.out 0).trans rfl, (blk_cell BK922.out 1).trans rfl, (blk_cell BK922.out 2).trans rfl, (blk_cell BK922.out 3).trans rfl, (blk_cell BK888.out 0).trans rfl, (blk_cell BK888.out 1).trans rfl, (blk_cell BK888.out 2).trans rfl, (blk_cell BK888.out 3).trans rfl⟩ (fun hHeld => ?_)
      clear hK K
      refine norm_ (a' := ?_) ?_ ?_
      rotate_left
      ·
       show Act.put _ (some 43) _ = _
       simp only [Act.put, List.setIfInBounds_toArray, List.set_cons_zero, List.set_cons_succ, i64_w, i32_w]
       rfl
      refine one_ (i := 3) (N := some 44) #[true, true, true, true, false] rfl rfl (by kernel_rfl) (by decide) (fun K hK => ?_)
      refine goes_ Try.func29 (by kernel_rfl) rfl #[.agg #[.slice Ao30 t912.length co30, .slice Ao34 t915.length co34, .slice Ao35 t918.length co35, .int .i64 t921], .agg #[.slice Ao71 t936.length co71, .slice Ao72 t939.length co72, .slice Ao73 t942.length co73, .int .i64 t945]] (by rfl) rfl rfl (by (try simp only [List.map_toArray, List.map_cons, List.map_nil]); first | done | rfl | (simp only [List.length_drop, List.length_take]; rfl)) ?_
      with_reducible refine (laws_eqStore.calls kj10 _ _ t912 _ _ t915 _ _ t918 t921 _ _ t936 _ _ t939 _ _ t942 t945 true _ ?side1 ?side2 ?side3 ?side4 ?side5 ?side6 ?side7 ?side8 ?side9 ?side10 ?side11 ?side12 A65.out).mono ?_
      (case side1 => exact rc0 HO_923000)
      (case side2 => exact (Kd.R_reads' HO_923000.out).2.1)
      (case side3 => exact rc0 HO_923001)
      (case side4 => exact (Kd.R_reads' HO_923001.out).2.1)
      (case side5 => exact rc0 HO_923002)
      (case side6 => exact (Kd.R_reads' HO_923002.out).2.1)
      (case side7 => exact rc0 HO938)
      (case side8 => exact (Kd.R_reads' HO938.out).2.1)
      (case side9 => exact rc0 HO941)
      (case side10 => exact (Kd.R_reads' HO941.out).2.1)
      (case side11 => exact rc0 HO944)
      (case side12 => exact (Kd.R_reads' HO944.out).2.1)
      rintro e w74 ⟨rfl, hb⟩
      refine ⟨_, rfl, ?_⟩
      have n0_ := Aside0.mk (Kd.R_below (rr HO_912000.out) hb)
      have n1_ := Aside0.mk (Kd.R_below (rr HO_912001.out) hb)
      have n2_ := Aside0.mk (Kd.R_below (rr HO_912002.out) hb)
      have n3_ := Aside0.mk (Kd.R_below (rr HO_923000.out) hb)
      have n4_ := Aside0.mk (Kd.R_below (rr HO_923001.out) hb)
      have n5_ := Aside0.mk (Kd.R_below (rr HO_923002.out) hb)
      have n6_ := Aside0.mk (Kd.R_below (rr HO_935000.out) hb)
      have n7_ := Aside0.mk (Kd.R_below (rr HO_935001.out) hb)
      have n8_ := Aside0.mk (Kd.R_below (rr HO_935002.out) hb)
      have n9_ := Aside0.mk (Kd.R_below (rr HO938.out) hb)
      have n10_ := Aside0.mk (Kd.R_below (rr HO941.out) hb)
      have n11_ := Aside0.mk (Kd.R_below (rr HO944.out) hb)
      have n12_ := Aside0.mk (bb BK888 hb)
      have n13_ := Aside0.mk (bb BK911 hb)
      have n14_ := Aside0.mk (bb BK922 hb)
      have n15_ := Aside0.mk (bb BK934 hb)
      have n16_ := Aside0.mk (below_step (bs4 HB GE888 GE911 GE922 GE934) hb)
      clear HO_912000
      clear HO_912001
      clear HO_912002
      clear HO_923000
      clear HO_923001
      clear HO_923002
      clear HO_935000
      clear HO_935001
      clear HO_935002
      clear HO938
      clear HO941
      clear HO944
      clear BK888
      clear BK911
      clear BK922
      clear BK934
      clear HB
      have HO_912000 := n0_
      have HO_912001 := n1_
      have HO_912002 := n2_
      have HO_923000 := n3_
      have HO_923001 := n4_
      have HO_923002 := n5_
      have HO_935000 := n6_
      have HO_935001 := n7_
      have HO_935002 := n8_
      have HO938 := n9_
      have HO941 := n10_
      have HO944 := n11_
      have BK888 := n12_
      have BK911 := n13_
      have BK922 := n14_
      have BK934 := n15_
      have HB := n16_
      clear n0_ n1_ n2_ n3_ n4_ n5_ n6_ n7_ n8_ n9_ n10_ n11_ n12_ n13_ n14_ n15_ n16_
      (try clear hb)
      (try clear hb2)
      (try clear hk)
      (try clear hi)
      refine hK.out _ _ ⟨(blk_cell BK922.out 0).trans rfl, (blk_cell BK922.out 1).trans rfl, (blk_cell BK922.out 2).trans rfl, (blk_cell BK922.out 3).trans rfl, (blk_cell BK888.out 0).trans rfl, (blk_cell BK888.out 1).trans rfl, (blk_cell BK888.out 2).trans rfl, (blk_cell BK888.out 3).trans rfl⟩ (fun hHeld => ?_)
      clear hK K
      refine norm_ (a' := ?_) ?_ ?_
      rotate_left
      ·
       show Act.put _ (some 44) _ = _
       simp only [Act.put, List.setIfInBounds_toArray, List.set_cons_zero, List.set_cons_succ, i64_w, i32_w]
       rfl
      refine pure_ (i := 4) (N := some 45) (v := ?_) (a' := ?_) #[true, true, true, true, true] rfl rfl (by kernel_rfl) (fun _ _ _ h => h) (Or.inl ⟨by rfl, ?_⟩) ?_ ?_
      rotate_left
      ·
       intro w'
       go_simp
       with_reducible rfl
      rotate_left
      ·
       simp only [Act.put, List.setIfInBounds_toArray, List.set_cons_zero, List.set_cons_succ, i64_w, i32_w]
       rfl
      refine done_ (by kernel_rfl) ?_
      have hnb75 := NB922_888.out
      have hnc75 := NB888_922.out
      have hnb76 := NB922_911.out
      have hnc76 := NB911_922.out
      have hnb77 := NB922_934.out
      have hnc77 := NB934_922.out
      obtain ⟨hcz78_0, hcz78_1, hcz78_2, hcz78_3⟩ := cz4 BK922
      obtain ⟨hfz78_0, hfz78_1, hfz78_2, hfz78_3⟩ := fz4 BK922
      go_upto_region 14 with (first | ((with_reducible refine gate_callee (f := 32) rfl ?_); refine gL (some 48) rfl rfl Try.func32 (by kernel_rfl) rfl #[.agg #[.slice Ao30 t912.length co30, .slice Ao34 t915.length co34, .slice Ao35 t918.length co35, .int .i64 t921], .int .i64 1] rfl ?_; (with_reducible refine (laws_markStore.calls kj10 (fun k_ => some k_ = (.slice Ao30 t912.length co30 : Value).ownBlock) (.slice Ao30 t912.length co30) t912 (fun k_ => some k_ = (.slice Ao34 t915.length co34 : Value).ownBlock) (.slice Ao34 t915.length co34) t915 (fun k_ => some k_ = (.slice Ao35 t918.length co35 : Value).ownBlock) (.slice Ao35 t918.length co35) t918 t921 1 t947 t948 t949 t950 w _ ?side1 ?side2 ?side3 ?side4 ?side5 ?side6 A67.out).mono ?_); (case side1 => repeat (first | (with_reducible first | exact HB.out | apply below_alloc | apply pw_below_drewN | apply below_drew1 | refine below_set ?_ GE888.out | refine below_set ?_ GE911.out | refine below_set ?_ GE922.out | refine below_set ?_ GE934.out) | exact HB.out)); (case side2 => exact Kd.R_tight rfl HO_923000.out); (case side3 => exact fun k_ e_ => (HO_923000.out.1 k_ e_.symm).1.1.2.2.1); (case side4 => exact Kd.R_tight rfl HO_923001.out); (case side5 => exact Kd.R_tight rfl HO_923002.out); (case side6 => exact fun k_ e_ => (HO_923002.out.1 k_ e_.symm).1.1.2.2.1); rintro e w79 ⟨rfl, hy0, hy1, hy2, hb, hkp⟩; refine ⟨_, rfl, ?_⟩; replace HO_912000 := Aside0.mk (Kd.R_mono (ok' := fun k_ => some k_ ≠ (.slice Ao26 t906.length co26 : Value).ownBlock ∧ some k_ ≠ (.slice Ao30 t912.length co30 : Value).ownBlock ∧ some k_ ≠ (.slice Ao35 t918.length co35 : Value).ownBlock ∧ some k_ ≠ (.slice Ao38 t923.length co38 : Value).ownBlock ∧ some k_ ≠ (.slice Ao44 t929.length co44 : Value).ownBlock ∧ some k_ ≠ (.slice Ao71 t936.length co71 : Value).ownBlock ∧ some k_ ≠ (.slice Ao73 t942.length co73 : Value).ownBlock) (Kd.R_keptB ((Kd.R_apart' HO_912000.out (Kd.R_typed HO_923001.out) (by decide))) hkp (fun k_ hk_ hs_ => Or.elim hs_ (fun e_ => (hk_.1.1.1.2.1) e_) (fun e_ => Or.elim e_ (fun e_ => (hk_.2) e_) (fun e_ => (hk_.1.1.1.2.2.1) e_)))) (fun k_ hk_ => ⟨hk_.1.1.1.1.1, hk_.1.1.1.1.2.1, hk_.1.1.1.1.2.2.1, hk_.1.1.1.1.2.2.2.1, hk_.1.1.1.1.2.2.2.2, hk_.1.1.1.2, hk_.1.1.2⟩)); replace HO_912001 := Aside0.mk (Kd.R_mono (ok' := fun k_ => some k_ ≠ (.slice Ao34 t915.length co34 : Value).ownBlock ∧ some k_ ≠ (.slice Ao43 t926.length co43 : Value).ownBlock ∧ some k_ ≠ (.slice Ao72 t939.length co72 : Value).ownBlock) (Kd.R_keptB ((Kd.R_apart' (Kd.R_apart' HO_912001.out (Kd.R_typed HO_923000.out) (by decide)) (Kd.R_typed HO_923002.out) (by decide))) hkp (fun k_ hk_ hs_ => Or.elim hs_ (fun e_ => (hk_.1.2) e_) (fun e_ => Or.elim e_ (fun e_ => (hk_.1.1.1.1) e_) (fun e_ => (hk_.2) e_)))) (fun k_ hk_ => ⟨hk_.1.1.1.1.1, hk_.1.1.1.1.2, hk_.1.1.1.2⟩)); replace HO_912002 := Aside0.mk (Kd.R_mono (ok' := fun k_ => some k_ ≠ (.slice Ao22 t900.length co22 : Value).ownBlock ∧ some k_ ≠ (.slice Ao30 t912.length co30 : Value).ownBlock ∧ some k_ ≠ (.slice Ao35 t918.length co35 : Value).ownBlock ∧ some k_ ≠ (.slice Ao38 t923.length co38 : Value).ownBlock ∧ some k_ ≠ (.slice Ao44 t929.length co44 : Value).ownBlock ∧ some k_ ≠ (.slice Ao71 t936.length co71 : Value).ownBlock ∧ some k_ ≠ (.slice Ao73 t942.length co73 : Value).ownBlock) (Kd.R_keptB ((Kd.R_apart' HO_912002.out (Kd.R_typed HO_923001.out) (by decide))) hkp (fun k_ hk_ hs_ => Or.elim hs_ (fun e_ => (hk_.1.1.1.2.1) e_) (fun e_ => Or.elim e_ (fun e_ => (hk_.2) e_) (fun e_ => (hk_.1.1.1.2.2.1) e_)))) (fun k_ hk_ => ⟨hk_.1.1.1.1.1, hk_.1.1.1.1.2.1, hk_.1.1.1.1.2.2.1, hk_.1.1.1.1.2.2.2.1, hk_.1.1.1.1.2.2.2.2, hk_.1.1.1.2, hk_.1.1.2⟩)); replace HO_935000 := Aside0.mk (Kd.R_mono (ok' := fun k_ => some k_ ≠ (.slice Ao22 t900.length co22 : Value).ownBlock ∧ some k_ ≠ (.slice Ao26 t906.length co26 : Value).ownBlock ∧ some k_ ≠ (.slice Ao30 t912.length co30 : Value).ownBlock ∧ some k_ ≠ (.slice Ao35 t918.length co35 : Value).ownBlock ∧ some k_ ≠ (.slice Ao44 t929.length co44 : Value).ownBlock ∧ some k_ ≠ (.slice Ao71 t936.length co71 : Value).ownBlock ∧ some k_ ≠ (.slice Ao73 t942.length co73 : Value).ownBlock) (Kd.R_keptB ((Kd.R_apart' HO_935000.out (Kd.R_typed HO_923001.out) (by decide))) hkp (fun k_ hk_ hs_ => Or.elim hs_ (fun e_ => (hk_.1.1.1.2.2.1) e_) (fun e_ => Or.elim e_ (fun e_ => (hk_.2) e_) (fun e_ => (hk_.1.1.1.2.2.2.1) e_)))) (fun k_ hk_ => ⟨hk_.1.1.1.1.1, hk_.1.1.1.1.2.1, hk_.1.1.1.1.2.2.1, hk_.1.1.1.1.2.2.2.1, hk_.1.1.1.1.2.2.2.2, hk_.1.1.1.2, hk_.1.1.2⟩)); replace HO_935001 := Aside0.mk (Kd.R_mono (ok' := fun k_ => some k_ ≠ (.slice Ao25 t903.length co25 : Value).ownBlock ∧ some k_ ≠ (.slice Ao34 t915.length co34 : Value).ownBlock ∧ some k_ ≠ (.slice Ao72 t939.length co72 : Value).ownBlock) (Kd.R_keptB ((Kd.R_apart' (Kd.R_apart' HO_935001.out (Kd.R_typed HO_923000.out) (by decide)) (Kd.R_typed HO_923002.out) (by decide))) hkp (fun k_ hk_ hs_ => Or.elim hs_ (fun e_ => (hk_.1.2) e_) (fun e_ => Or.elim e_ (fun e_ => (hk_.1.1.1.2) e_) (fun e_ => (hk_.2) e_)))) (fun k_ hk_ => ⟨hk_.1.1.1.1.1, hk_.1.1.1.1.2, hk_.1.1.1.2⟩)); replace HO_935002 := Aside0.mk (Kd.R_mono (ok' := fun k_ => some k_ ≠ (.slice Ao22 t900.length co22 : Value).ownBlock ∧ some k_ ≠ (.slice Ao26 t906.length co26 : Value).ownBlock ∧ some k_ ≠ (.slice Ao30 t912.length co30 : Value).ownBlock ∧ some k_ ≠ (.slice Ao35 t918.length co35 : Value).ownBlock ∧ some k_ ≠ (.slice Ao38 t923.length co38 : Value).ownBlock ∧ some k_ ≠ (.slice Ao71 t936.length co71 : Value).ownBlock ∧ some k_ ≠ (.slice Ao73 t942.length co73 : Value).ownBlock) (Kd.R_keptB ((Kd.R_apart' HO_935002.out (Kd.R_typed HO_923001.out) (by decide))) hkp (fun k_ hk_ hs_ => Or.elim hs_ (fun e_ => (hk_.1.1.1.2.2.1) e_) (fun e_ => Or.elim e_ (fun e_ => (hk_.2) e_) (fun e_ => (hk_.1.1.1.2.2.2.1) e_)))) (fun k_ hk_ => ⟨hk_.1.1.1.1.1, hk_.1.1.1.1.2.1, hk_.1.1.1.1.2.2.1, hk_.1.1.1.1.2.2.2.1, hk_.1.1.1.1.2.2.2.2, hk_.1.1.1.2, hk_.1.1.2⟩)); replace BK888 := Aside0.mk (blk_kept (bk BK888) hkp (fun hs_ => Or.elim hs_ (fun e_ => (fun e_ => (Kd.R_ne HO_923000.out BK888.out (by decide)) e_) e_) (fun e_ => Or.elim e_ (fun e_ => (fun e_ => (Kd.R_ne HO_923001.out BK888.out (by decide)) e_) e_) (fun e_ => (fun e_ => (Kd.R_ne HO_923002.out BK888.out (by decide)) e_) e_)))); replace BK911 := Aside0.mk (blk_kept (bk BK911) hkp (fun hs_ => Or.elim hs_ (fun e_ => (fun e_ => (Kd.R_ne HO_923000.out BK911.out (by decide)) e_) e_) (fun e_ => Or.elim e_ (fun e_ => (fun e_ => (Kd.R_ne HO_923001.out BK911.out (by decide)) e_) e_) (fun e_ => (fun e_ => (Kd.R_ne HO_923002.out BK911.out (by decide)) e_) e_)))); replace BK922 := Aside0.mk (blk_kept (bk BK922) hkp (fun hs_ => Or.elim hs_ (fun e_ => (fun e_ => (Kd.R_ne HO_923000.out BK922.out (by decide)) e_) e_) (fun e_ => Or.elim e_ (fun e_ => (fun e_ => (Kd.R_ne HO_923001.out BK922.out (by decide)) e_) e_) (fun e_ => (fun e_ => (Kd.R_ne HO_923002.out BK922.out (by decide)) e_) e_)))); replace BK934 := Aside0.mk (blk_kept (bk BK934) hkp (fun hs_ => Or.elim hs_ (fun e_ => (fun e_ => (Kd.R_ne HO_923000.out BK934.out (by decide)) e_) e_) (fun e_ => Or.elim e_ (fun e_ => (fun e_ => (Kd.R_ne HO_923001.out BK934.out (by decide)) e_) e_) (fun e_ => (fun e_ => (Kd.R_ne HO_923002.out BK934.out (by decide)) e_) e_)))); replace HO938 := Aside0.mk (Kd.R_mono (ok' := fun k_ => some k_ ≠ (.slice Ao22 t900.length co22 : Value).ownBlock ∧ some k_ ≠ (.slice Ao26 t906.length co26 : Value).ownBlock ∧ some k_ ≠ (.slice Ao30 t912.length co30 : Value).ownBlock ∧ some k_ ≠ (.slice Ao35 t918.length co35 : Value).ownBlock ∧ some k_ ≠ (.slice Ao38 t923.length co38 : Value).ownBlock ∧ some k_ ≠ (.slice Ao44 t929.length co44 : Value).ownBlock ∧ some k_ ≠ (.slice Ao73 t942.length co73 : Value).ownBlock) (Kd.R_keptB ((Kd.R_apart' HO938.out (Kd.R_typed HO_923001.out) (by decide))) hkp (fun k_ hk_ hs_ => Or.elim hs_ (fun e_ => (hk_.1.1.1.1.2) e_) (fun e_ => Or.elim e_ (fun e_ => (hk_.2) e_) (fun e_ => (hk_.1.1.1.2) e_)))) (fun k_ hk_ => ⟨hk_.1.1.1.1.1.1.1.2, hk_.1.1.1.1.1.1.2, hk_.1.1.1.1.1.2, hk_.1.1.1.1.2, hk_.1.1.1.2, hk_.1.1.2, hk_.1.1.1.1.1.1.1.1⟩)); replace HO941 := Aside0.mk (Kd.R_mono (ok' := fun k_ => some k_ ≠ (.slice Ao25 t903.length co25 : Value).ownBlock ∧ some k_ ≠ (.slice Ao34 t915.length co34 : Value).ownBlock ∧ some k_ ≠ (.slice Ao43 t926.length co43 : Value).ownBlock) (Kd.R_keptB ((Kd.R_apart' (Kd.R_apart' HO941.out (Kd.R_typed HO_923000.out) (by decide)) (Kd.R_typed HO_923002.out) (by decide))) hkp (fun k_ hk_ hs_ => Or.elim hs_ (fun e_ => (hk_.1.2) e_) (fun e_ => Or.elim e_ (fun e_ => (hk_.1.1.1.2) e_) (fun e_ => (hk_.2) e_)))) (fun k_ hk_ => ⟨hk_.1.1.1.1.1.2, hk_.1.1.1.1.2, hk_.1.1.1.2⟩)); replace HO_923000 := Aside0.mk (Kd.R_reok rfl hy0 (fun k_ e_ => HO_923000.out.1 k_ e_)); replace HO_923002 := Aside0.mk (Kd.R_reok rfl hy2 (fun k_ e_ => HO_923002.out.1 k_ e_)); replace HO944 := Aside0.mk (Kd.R_mono (ok' := fun k_ => some k_ ≠ (.slice Ao22 t900.length co22 : Value).ownBlock ∧ some k_ ≠ (.slice Ao26 t906.length co26 : Value).ownBlock ∧ some k_ ≠ (.slice Ao30 t912.length co30 : Value).ownBlock ∧ some k_ ≠ (.slice Ao35 t918.length co35 : Value).ownBlock ∧ some k_ ≠ (.slice Ao38 t923.length co38 : Value).ownBlock ∧ some k_ ≠ (.slice Ao44 t929.length co44 : Value).ownBlock ∧ some k_ ≠ (.slice Ao71 t936.length co71 : Value).ownBlock) (Kd.R_keptB ((Kd.R_apart' HO944.out (Kd.R_typed HO_923001.out) (by decide))) hkp (fun k_ hk_ hs_ => Or.elim hs_ (fun e_ => (hk_.1.1.1.1.2) e_) (fun e_ => Or.elim e_ (fun e_ => (hk_.2) e_) (fun e_ => (hk_.1.1.1.2) e_)))) (fun k_ hk_ => ⟨hk_.1.1.1.1.1.1.1.2, hk_.1.1.1.1.1.1.2, hk_.1.1.1.1.1.2, hk_.1.1.1.1.2, hk_.1.1.1.2, hk_.1.1.2, hk_.1.1.1.1.1.1.1.1⟩)); replace HO_923001 := Aside0.mk (Kd.R_reok rfl hy1 (fun k_ e_ => HO_923001.out.1 k_ e_)); replace HB := Aside0.mk (hb); (try clear hb); (try clear hkp); (try clear hy0); (try clear hy1); (try clear hy2)))
      (try simp only [Act.put, List.setIfInBounds_toArray, List.set_cons_zero, List.set_cons_succ])
      go_cut [61] (fun v61 wc => ∃ (kq : Nat) (x61_67 : Bool), v61 = .bool x61_67 ∧ Aside0 (laws_FnExactRecoverStore.j1 kq t910 x61_67 l0_0 l0_1 l0_2 a0_3 t900 t903 t906 t909 t923 t926 t929 t932 = some r) ∧ Aside0 (kq ≤ kj10) ∧ Aside0 (Kd.R Kd.string 9 wc w.heap.size (fun k_ => some k_ ≠ ((.slice Ao26 t906.length co26) : Value).ownBlock ∧ some k_ ≠ ((.slice Ao30 t912.length co30) : Value).ownBlock ∧ some k_ ≠ ((.slice Ao35 t918.length co35) : Value).ownBlock ∧ some k_ ≠ ((.slice Ao38 t923.length co38) : Value).ownBlock ∧ some k_ ≠ ((.slice Ao44 t929.length co44) : Value).ownBlock) (.slice Ao22 t900.length co22) t900) ∧ Aside0 (Kd.R k72 72 wc w.heap.size (fun k_ => some k_ ≠ ((.slice Ao34 t915.length co34) : Value).ownBlock ∧ some k_ ≠ ((.slice Ao43 t926.length co43) : Value).ownBlock) (.slice Ao25 t903.length co25) t903) ∧ Aside0 (Kd.R Kd.string 9 wc w.heap.size (fun k_ => some k_ ≠ ((.slice Ao22 t900.length co22) : Value).ownBlock ∧ some k_ ≠ ((.slice Ao30 t912.length co30) : Value).ownBlock ∧ some k_ ≠ ((.slice Ao35 t918.length co35) : Value).ownBlock ∧ some k_ ≠ ((.slice Ao38 t923.length co38) : Value).ownBlock ∧ some k_ ≠ ((.slice Ao44 t929.length co44) : Value).ownBlock) (.slice Ao26 t906.length co26) t906) ∧ Aside0 (Kd.R Kd.string 9 wc w.heap.size (fun k_ => some k_ ≠ ((.slice Ao22 t900.length co22) : Value).ownBlock ∧ some k_ ≠ ((.slice Ao26 t906.length co26) : Value).ownBlock ∧ some k_ ≠ ((.slice Ao35 t918.length co35) : Value).ownBlock ∧ some k_ ≠ ((.slice Ao38 t923.length co38) : Value).ownBlock ∧ some k_ ≠ ((.slice Ao44 t929.length co44) : Value).ownBlock) (.slice Ao30 t912.length co30) t948) ∧ Aside0 (Kd.R k72 72 wc w.heap.size (fun k_ => some k_ ≠ ((.slice Ao25 t903.length co25) : Value).ownBlock ∧ some k_ ≠ ((.slice Ao43 t926.length co43) : Value).ownBlock) (.slice Ao34 t915.length co34) t949) ∧ Aside0 (Kd.R Kd.string 9 wc w.heap.size (fun k_ => some k_ ≠ ((.slice Ao22 t900.length co22) : Value).ownBlock ∧ some k_ ≠ ((.slice Ao26 t906.length co26) : Value).ownBlock ∧ some k_ ≠ ((.slice Ao30 t912.length co30) : Value).ownBlock ∧ some k_ ≠ ((.slice Ao38 t923.length co38) : Value).ownBlock ∧ some k_ ≠ ((.slice Ao44 t929.length co44) : Value).ownBlock) (.slice Ao35 t918.length co35) t950) ∧ Aside0 (Kd.R Kd.string 9 wc w.heap.size (fun k_ => some k_ ≠ ((.slice Ao22 t900.length co22) : Value).ownBlock ∧ some k_ ≠ ((.slice Ao26 t906.length co26) : Value).ownBlock ∧ some k_ ≠ ((.slice Ao30 t912.length co30) : Value).ownBlock ∧ some k_ ≠ ((.slice Ao35 t918.length co35) : Value).ownBlock ∧ some k_ ≠ ((.slice Ao44 t929.length co44) : Value).ownBlock) (.slice Ao38 t923.length co38) t923) ∧ Aside0 (Kd.R k72 72 wc w.heap.size (fun k_ => some k_ ≠ ((.slice Ao25 t903.length co25) : Value).ownBlock ∧ some k_ ≠ ((.slice Ao34 t915.length co34) : Value).ownBlock) (.slice Ao43 t926.length co43) t926) ∧ Aside0 (Kd.R Kd.string 9 wc w.heap.size (fun k_ => some k_ ≠ ((.slice Ao22 t900.length co22) : Value).ownBlock ∧ some k_ ≠ ((.slice Ao26 t906.length co26) : Value).ownBlock ∧ some k_ ≠ ((.slice Ao30 t912.length co30) : Value).ownBlock ∧ some k_ ≠ ((.slice Ao35 t918.length co35) : Value).ownBlock ∧ some k_ ≠ ((.slice Ao38 t923.length co38) : Value).ownBlock) (.slice Ao44 t929.length co44) t929) ∧ Aside0 (wc.heap[gb888]? = some (.cells #[(.slice A0_0 l0_0.length c0_0), (.slice A0_1 l0_1.length c0_1), (.slice A0_2 l0_2.length c0_2), .int .i64 a0_3] 38 (0, 0))) ∧ Aside0 (wc.heap[gb911]? = some (.cells #[(.slice Ao22 t900.length co22), (.slice Ao25 t903.length co25), (.slice Ao26 t906.length co26), .int .i64 t909] 44 (0, 0))) ∧ Aside0 (wc.heap[gb922]? = some (.cells #[(.slice Ao30 t912.length co30), (.slice Ao34 t915.length co34), (.slice Ao35 t918.length co35), .int .i64 t921] 44 (0, 0))) ∧ Aside0 (wc.heap[gb934]? = some (.cells #[(.slice Ao38 t923.length co38), (.slice Ao43 t926.length co43), (.slice Ao44 t929.length co44), .int .i64 t932] 44 (0, 0))) ∧ Aside0 (Below w.heap.size w wc))
      case first =>
       have H := HC68.out
       clear HC68
       by_cases c80 : t947 < 0
       ·
        rw [if_pos c80] at H
        have c80b0 : decide (t947 < 0) = true := decide_eq_true c80
        clear c80
        (first | rw [c80b0] | (simp only [i64_w, i32_w]; rw [c80b0]) | (simp only [c80b2, Bool.not_false, Bool.not_true]) | skip)
        have H' := Aside0.mk H
        clear H
        go_wp2
        go_meet
        case rel => exact ⟨_, (true), (by first | rfl | (simp; done) | (simp [*]; done)), H', ⟨by have := HJ10.out; first | omega | exact Nat.le_refl _⟩, rm HO_912000 (fun _ hk => ⟨hk.1, ⟨hk.2.1, ⟨hk.2.2.1, ⟨hk.2.2.2.1, hk.2.2.2.2.1⟩⟩⟩⟩), rm HO_912001 (fun _ hk => ⟨hk.1, hk.2.1⟩), rm HO_912002 (fun _ hk => ⟨hk.1, ⟨hk.2.1, ⟨hk.2.2.1, ⟨hk.2.2.2.1, hk.2.2.2.2.1⟩⟩⟩⟩), rm HO_923000 (fun _ hk => ⟨hk.1.1.1, ⟨hk.1.1.2.1, ⟨hk.1.1.2.2.1, ⟨hk.1.1.2.2.2.1, hk.1.1.2.2.2.2⟩⟩⟩⟩), rm HO_923001 (fun _ hk => ⟨hk.1.1, hk.1.2⟩), rm HO_923002 (fun _ hk => ⟨hk.1.1.1, ⟨hk.1.1.2.1, ⟨hk.1.1.2.2.1, ⟨hk.1.1.2.2.2.1, hk.1.1.2.2.2.2⟩⟩⟩⟩), rm HO_935000 (fun _ hk => ⟨hk.1, ⟨hk.2.1, ⟨hk.2.2.1, ⟨hk.2.2.2.1, hk.2.2.2.2.1⟩⟩⟩⟩), rm HO_935001 (fun _ hk => ⟨hk.1, hk.2.1⟩), rm HO_935002 (fun _ hk => ⟨hk.1, ⟨hk.2.1, ⟨hk.2.2.1, ⟨hk.2.2.2.1, hk.2.2.2.2.1⟩⟩⟩⟩), ⟨bk BK888⟩, ⟨bk BK911⟩, ⟨bk BK922⟩, ⟨bk BK934⟩, ⟨bs4 HB GE888 GE911 GE922 GE934⟩⟩
       ·
        rw [if_neg c80] at H
        have c80b0 : decide (t947 < 0) = false := decide_eq_false c80
        clear c80
        (first | rw [c80b0] | (simp only [i64_w, i32_w]; rw [c80b0]) | (simp only [c80b2, Bool.not_false, Bool.not_true]) | skip)
        replace H := Option.bind_eq_some_iff.mp H
        obtain ⟨t951, A810, H⟩ := H
        replace H : (if t951 = true then (laws_FnExactRecoverStore.j1 kj10 t910 (t933 != t910) l0_0 l0_1 l0_2 a0_3 t900 t903 t906 t909 t923 t926 t929 t932) else (laws_FnExactRecoverStore.j1 kj10 t910 true l0_0 l0_1 l0_2 a0_3 t900 t903 t906 t909 t923 t926 t929 t932)) = some r := H
        have A81 := Aside0.mk A810
        clear A810
        by_cases c82 : t951 = true
        ·
         subst c82
         rw [if_pos rfl] at H
         have H' := Aside0.mk H
         clear H
         have hnb83 := NB934_888.out
         have hnc83 := NB888_934.out
         have hnb84 := NB934_911.out
         have hnc84 := NB911_934.out
         have hnb85 := NB934_922.out
         have hnc85 := NB922_934.out
         obtain ⟨hcz86_0, hcz86_1, hcz86_2, hcz86_3⟩ := cz4 BK934
         obtain ⟨hfz86_0, hfz86_1, hfz86_2, hfz86_3⟩ := fz4 BK934
         have hnb87 := NB911_888.out
         have hnc87 := NB888_911.out
         have hnb88 := NB911_922.out
         have hnc88 := NB922_911.out
         obtain ⟨hcz89_0, hcz89_1, hcz89_2, hcz89_3⟩ := cz4 BK911
         obtain ⟨hfz89_0, hfz89_1, hfz89_2, hfz89_3⟩ := fz4 BK911
         go_wp2_with (first | (go_at_call 29; (with_reducible refine (laws_eqStore.calls kj10 _ _ t923 _ _ t926 _ _ t929 t932 _ _ t900 _ _ t903 _ _ t906 t909 true _ ?side1 ?side2 ?side3 ?side4 ?side5 ?side6 ?side7 ?side8 ?side9 ?side10 ?side11 ?side12 A81.out).mono ?_); (case side1 => exact rc0 HO_935000); (case side2 => exact (Kd.R_reads' HO_935000.out).2.1); (case side3 => exact rc0 HO_935001); (case side4 => exact (Kd.R_reads' HO_935001.out).2.1); (case side5 => exact rc0 HO_935002); (case side6 => exact (Kd.R_reads' HO_935002.out).2.1); (case side7 => exact rc0 HO_912000); (case side8 => exact (Kd.R_reads' HO_912000.out).2.1); (case side9 => exact rc0 HO_912001); (case side10 => exact (Kd.R_reads' HO_912001.out).2.1); (case side11 => exact rc0 HO_912002); (case side12 => exact (Kd.R_reads' HO_912002.out).2.1); rintro e w90 ⟨rfl, hb⟩; replace HO_912000 := nr HO_912000 hb; replace HO_912001 := nr HO_912001 hb; replace HO_912002 := nr HO_912002 hb; replace HO_923000 := nr HO_923000 hb; replace HO_923001 := nr HO_923001 hb; replace HO_923002 := nr HO_923002 hb; replace HO_935000 := nr HO_935000 hb; replace HO_935001 := nr HO_935001 hb; replace HO_935002 := nr HO_935002 hb; replace HO938 := nr HO938 hb; replace HO941 := nr HO941 hb; replace HO944 := nr HO944 hb; replace BK888 := nb BK888 hb; replace BK911 := nb BK911 hb; replace BK922 := nb BK922 hb; replace BK934 := nb BK934 hb; replace HB := Aside0.mk (below_step (bs4 HB GE888 GE911 GE922 GE934) hb); (try clear hb); (try clear hb2); (try clear hk); (try clear hi)))
         go_meet
         case rel => exact ⟨_, ((t933 != t910)), (by first | rfl | (simp; done) | (simp [*]; done)), H', ⟨by have := HJ10.out; first | omega | exact Nat.le_refl _⟩, rm HO_912000 (fun _ hk => ⟨hk.1, ⟨hk.2.1, ⟨hk.2.2.1, ⟨hk.2.2.2.1, hk.2.2.2.2.1⟩⟩⟩⟩), rm HO_912001 (fun _ hk => ⟨hk.1, hk.2.1⟩), rm HO_912002 (fun _ hk => ⟨hk.1, ⟨hk.2.1, ⟨hk.2.2.1, ⟨hk.2.2.2.1, hk.2.2.2.2.1⟩⟩⟩⟩), rm HO_923000 (fun _ hk => ⟨hk.1.1.1, ⟨hk.1.1.2.1, ⟨hk.1.1.2.2.1, ⟨hk.1.1.2.2.2.1, hk.1.1.2.2.2.2⟩⟩⟩⟩), rm HO_923001 (fun _ hk => ⟨hk.1.1, hk.1.2⟩), rm HO_923002 (fun _ hk => ⟨hk.1.1.1, ⟨hk.1.1.2.1, ⟨hk.1.1.2.2.1, ⟨hk.1.1.2.2.2.1, hk.1.1.2.2.2.2⟩⟩⟩⟩), rm HO_935000 (fun _ hk => ⟨hk.1, ⟨hk.2.1, ⟨hk.2.2.1, ⟨hk.2.2.2.1, hk.2.2.2.2.1⟩⟩⟩⟩), rm HO_935001 (fun _ hk => ⟨hk.1, hk.2.1⟩), rm HO_935002 (fun _ hk => ⟨hk.1, ⟨hk.2.1, ⟨hk.2.2.1, ⟨hk.2.2.2.1, hk.2.2.2.2.1⟩⟩⟩⟩), ⟨bk BK888⟩, ⟨bk BK911⟩, ⟨bk BK922⟩, ⟨bk BK934⟩, ⟨bs4 HB GE888 GE911 GE922 GE934⟩⟩
        ·
         replace c82 := Bool.eq_false_iff.mpr c82
         subst c82
         rw [if_neg (show ¬ (false = true) by decide)] at H
         have H' := Aside0.mk H
         clear H
         have hnb91 := NB934_888.out
         have hnc91 := NB888_934.out
         have hnb92 := NB934_911.out
         have hnc92 := NB911_934.out
         have hnb93 := NB934_922.out
         have hnc93 := NB922_934.out
         obtain ⟨hcz94_0, hcz94_1, hcz94_2, hcz94_3⟩ := cz4 BK934
         obtain ⟨hfz94_0, hfz94_1, hfz94_2, hfz94_3⟩ := fz4 BK934
         have hnb95 := NB911_888.out
         have hnc95 := NB888_911.out
         have hnb96 := NB911_922.out
         have hnc96 := NB922_911.out
         obtain ⟨hcz97_0, hcz97_1, hcz97_2, hcz97_3⟩ := cz4 BK911
         obtain ⟨hfz97_0, hfz97_1, hfz97_2, hfz97_3⟩ := fz4 BK911
         go_wp2_with (first | (go_at_call 29; (with_reducible refine (laws_eqStore.calls kj10 _ _ t923 _ _ t926 _ _ t929 t932 _ _ t900 _ _ t903 _ _ t906 t909 false _ ?side1 ?side2 ?side3 ?side4 ?side5 ?side6 ?side7 ?side8 ?side9 ?side10 ?side11 ?side12 A81.out).mono ?_); (case side1 => exact rc0 HO_935000); (case side2 => exact (Kd.R_reads' HO_935000.out).2.1); (case side3 => exact rc0 HO_935001); (case side4 => exact (Kd.R_reads' HO_935001.out).2.1); (case side5 => exact rc0 HO_935002); (case side6 => exact (Kd.R_reads' HO_935002.out).2.1); (case side7 => exact rc0 HO_912000); (case side8 => exact (Kd.R_reads' HO_912000.out).2.1); (case side9 => exact rc0 HO_912001); (case side10 => exact (Kd.R_reads' HO_912001.out).2.1); (case side11 => exact rc0 HO_912002); (case side12 => exact (Kd.R_reads' HO_912002.out).2.1); rintro e w98 ⟨rfl, hb⟩; replace HO_912000 := nr HO_912000 hb; replace HO_912001 := nr HO_912001 hb; replace HO_912002 := nr HO_912002 hb; replace HO_923000 := nr HO_923000 hb; replace HO_923001 := nr HO_923001 hb; replace HO_923002 := nr HO_923002 hb; replace HO_935000 := nr HO_935000 hb; replace HO_935001 := nr HO_935001 hb; replace HO_935002 := nr HO_935002 hb; replace HO938 := nr HO938 hb; replace HO941 := nr HO941 hb; replace HO944 := nr HO944 hb; replace BK888 := nb BK888 hb; replace BK911 := nb BK911 hb; replace BK922 := nb BK922 hb; replace BK934 := nb BK934 hb; replace HB := Aside0.mk (below_step (bs4 HB GE888 GE911 GE922 GE934) hb); (try clear hb); (try clear hb2); (try clear hk); (try clear hi)))
         go_meet
         case rel => exact ⟨_, (true), (by first | rfl | (simp; done) | (simp [*]; done)), H', ⟨by have := HJ10.out; first | omega | exact Nat.le_refl _⟩, rm HO_912000 (fun _ hk => ⟨hk.1, ⟨hk.2.1, ⟨hk.2.2.1, ⟨hk.2.2.2.1, hk.2.2.2.2.1⟩⟩⟩⟩), rm HO_912001 (fun _ hk => ⟨hk.1, hk.2.1⟩), rm HO_912002 (fun _ hk => ⟨hk.1, ⟨hk.2.1, ⟨hk.2.2.1, ⟨hk.2.2.2.1, hk.2.2.2.2.1⟩⟩⟩⟩), rm HO_923000 (fun _ hk => ⟨hk.1.1.1, ⟨hk.1.1.2.1, ⟨hk.1.1.2.2.1, ⟨hk.1.1.2.2.2.1, hk.1.1.2.2.2.2⟩⟩⟩⟩), rm HO_923001 (fun _ hk => ⟨hk.1.1, hk.1.2⟩), rm HO_923002 (fun _ hk => ⟨hk.1.1.1, ⟨hk.1.1.2.1, ⟨hk.1.1.2.2.1, ⟨hk.1.1.2.2.2.1, hk.1.1.2.2.2.2⟩⟩⟩⟩), rm HO_935000 (fun _ hk => ⟨hk.1, ⟨hk.2.1, ⟨hk.2.2.1, ⟨hk.2.2.2.1, hk.2.2.2.2.1⟩⟩⟩⟩), rm HO_935001 (fun _ hk => ⟨hk.1, hk.2.1⟩), rm HO_935002 (fun _ hk => ⟨hk.1, ⟨hk.2.1, ⟨hk.2.2.1, ⟨hk.2.2.2.1, hk.2.2.2.2.1⟩⟩⟩⟩), ⟨bk BK888⟩, ⟨bk BK911⟩, ⟨bk BK922⟩, ⟨bk BK934⟩, ⟨bs4 HB GE888 GE911 GE922 GE934⟩⟩
      case rest =>
       clear HC68
       try clear c1
       try clear c2
       try clear p2
       try clear c3
       try clear c3b0
       try clear c4
       try clear c5
       try clear c6
       try clear c7
       try clear c8
       try clear c9
       try clear c10
       try clear c23
       try clear c25
       try clear c27
       try clear c29
       try clear c31
       try clear c32
       try clear c39
       try clear c40
       try clear c41
       try clear c43
       try clear c44
       try clear c46
       try clear c47
       try clear c48
       try clear c49
       try clear c51
       try clear c52
       try clear c55
       try clear c56
       try clear c57
       try clear c59
       try clear c60
       try clear c63
       try clear c66
       try clear c75
       try clear c76
       try clear c77
       try clear c80
       try clear c80b0
       try clear c82
       try clear c83
       try clear c84
       try clear c85
       try clear c87
       try clear c88
       try clear c91
       try clear c92
       try clear c93
       try clear c95
       try clear c96
       try clear hcz13_0 hcz13_1 hcz13_2 hcz13_3
       try clear hcz15_0 hcz15_1 hcz15_2 hcz15_3
       try clear hcz24_0 hcz24_1 hcz24_2 hcz24_3
       try clear hcz27_0 hcz27_1 hcz27_2 hcz27_3
       try clear hcz33_0 hcz33_1 hcz33_2 hcz33_3
       try clear hcz42_0 hcz42_1 hcz42_2 hcz42_3
       try clear hcz50_0 hcz50_1 hcz50_2 hcz50_3
       try clear hcz53_0 hcz53_1 hcz53_2 hcz53_3
       try clear hcz58_0 hcz58_1 hcz58_2 hcz58_3
       try clear hcz5_0 hcz5_1 hcz5_2 hcz5_3
       try clear hcz61_0 hcz61_1 hcz61_2 hcz61_3
       try clear hcz78_0 hcz78_1 hcz78_2 hcz78_3
       try clear hcz86_0 hcz86_1 hcz86_2 hcz86_3
       try clear hcz89_0 hcz89_1 hcz89_2 hcz89_3
       try clear hcz94_0 hcz94_1 hcz94_2 hcz94_3
       try clear hcz97_0 hcz97_1 hcz97_2 hcz97_3
       try clear hfz13_0 hfz13_1 hfz13_2 hfz13_3
       try clear hfz15_0 hfz15_1 hfz15_2 hfz15_3
       try clear hfz24_0 hfz24_1 hfz24_2 hfz24_3
       try clear hfz27_0 hfz27_1 hfz27_2 hfz27_3
       try clear hfz33_0 hfz33_1 hfz33_2 hfz33_3
       try clear hfz42_0 hfz42_1 hfz42_2 hfz42_3
       try clear hfz50_0 hfz50_1 hfz50_2 hfz50_3
       try clear hfz53_0 hfz53_1 hfz53_2 hfz53_3
       try clear hfz58_0 hfz58_1 hfz58_2 hfz58_3
       try clear hfz5_0 hfz5_1 hfz5_2 hfz5_3
       try clear hfz61_0 hfz61_1 hfz61_2 hfz61_3
       try clear hfz78_0 hfz78_1 hfz78_2 hfz78_3
       try clear hfz86_0 hfz86_1 hfz86_2 hfz86_3
       try clear hfz89_0 hfz89_1 hfz89_2 hfz89_3
       try clear hfz94_0 hfz94_1 hfz94_2 hfz94_3
       try clear hfz97_0 hfz97_1 hfz97_2 hfz97_3
       try clear p2
       obtain ⟨kq, x61_67, rfl, HA, HJ67, HO_912000, HO_912001, HO_912002, HO_923000, HO_923001, HO_923002, HO_935000, HO_935001, HO_935002, BK888, BK911, BK922, BK934, HB⟩ := hcut
       have hl923000_67 := (Kd.R_reads' HO_923000.out).1
       rw [hl923000_67] at HO_923000
       (try simp only [hl923000_67])
       (try simp only [hl923000_67] at BK888)
       (try simp only [hl923000_67] at BK911)
       (try simp only [hl923000_67] at BK922)
       (try simp only [hl923000_67] at BK934)
       (try simp only [hl923000_67] at HO_912000)
       (try simp only [hl923000_67] at HO_912001)
       (try simp only [hl923000_67] at HO_912002)
       (try simp only [hl923000_67] at HO_923001)
       (try simp only [hl923000_67] at HO_923002)
       (try simp only [hl923000_67] at HO_935000)
       (try simp only [hl923000_67] at HO_935001)
       (try simp only [hl923000_67] at HO_935002)
       have hl923001_67 := (Kd.R_reads' HO_923001.out).1
       rw [hl923001_67] at HO_923001
       (try simp only [hl923001_67])
       (try simp only [hl923001_67] at BK888)
       (try simp only [hl923001_67] at BK911)
       (try simp only [hl923001_67] at BK922)
       (try simp only [hl923001_67] at BK934)
       (try simp only [hl923001_67] at HO_912000)
       (try simp only [hl923001_67] at HO_912001)
       (try simp only [hl923001_67] at HO_912002)
       (try simp only [hl923001_67] at HO_923000)
       (try simp only [hl923001_67] at HO_923002)
       (try simp only [hl923001_67] at HO_935000)
       (try simp only [hl923001_67] at HO_935001)
       (try simp only [hl923001_67] at HO_935002)
       have hl923002_67 := (Kd.R_reads' HO_923002.out).1
       rw [hl923002_67] at HO_923002
       (try simp only [hl923002_67])
       (try simp only [hl923002_67] at BK888)
       (try simp only [hl923002_67] at BK911)
       (try simp only [hl923002_67] at BK922)
       (try simp only [hl923002_67] at BK934)
       (try simp only [hl923002_67] at HO_912000)
       (try simp only [hl923002_67] at HO_912001)
       (try simp only [hl923002_67] at HO_912002)
       (try simp only [hl923002_67] at HO_923000)
       (try simp only [hl923002_67] at HO_923001)
       (try simp only [hl923002_67] at HO_935000)
       (try simp only [hl923002_67] at HO_935001)
       (try simp only [hl923002_67] at HO_935002)
       cases kq with
       | zero => exact absurd HA.out (by simp [laws_FnExactRecoverStore.j1])
       | succ kj67 =>
        have H := HA.out
        clear HA
        simp only [laws_FnExactRecoverStore.j1] at H
        by_cases c99 : x61_67 = true
        ·
         subst c99
         rw [if_pos rfl] at H
         obtain rfl := Option.some.inj H
         go_wp2
         go_ret
         exact ⟨by first | rfl | (simp [errW_none, errW_some] <;> rfl) | (simp [*, errW_none, errW_some] <;> rfl), bs4 HB GE888 GE911 GE922 GE934⟩
        ·
         replace c99 := Bool.eq_false_iff.mpr c99
         subst c99
         rw [if_neg (show ¬ (false = true) by decide)] at H
         replace H := Option.bind_eq_some_iff.mp H
         obtain ⟨⟨t952, t953, t954, t955⟩, A1000, H⟩ := H
         replace H : ((laws_heldStore.f kj67 t953 t954 t955 t932 1).bind fun t956 => (if t956 < 0 then (some false) else (if t956 = t952 then ((laws_toStore.f kj67 l0_0 l0_1 l0_2 a0_3).bind fun bt957 => ((impl_RecoverStore.f kj67 bt957.1 bt957.2.1 bt957.2.2.1 bt957.2.2.2).bind fun bt967 => ((laws_eqStore.f kj67 bt967.1 bt967.2.1 bt967.2.2.1 bt967.2.2.2.1 t900 t903 t906 t909).bind fun t979 => (if t979 = true then (laws_FnExactRecoverStore.j2 kj67 t952 (bt967.2.2.2.2 != t910) t953 t954 t955 t932) else (laws_FnExactRecoverStore.j2 kj67 t952 true t953 t954 t955 t932))))) else (some false)))) = some r := H
         have A100 := Aside0.mk A1000
         clear A1000
         replace H := Option.bind_eq_some_iff.mp H
         obtain ⟨t956, A1010, H⟩ := H
         replace H : (if t956 < 0 then (some false) else (if t956 = t952 then ((laws_toStore.f kj67 l0_0 l0_1 l0_2 a0_3).bind fun bt957 => ((impl_RecoverStore.f kj67 bt957.1 bt957.2.1 bt957.2.2.1 bt957.2.2.2).bind fun bt967 => ((laws_eqStore.f kj67 bt967.1 bt967.2.1 bt967.2.2.1 bt967.2.2.2.1 t900 t903 t906 t909).bind fun t979 => (if t979 = true then (laws_FnExactRecoverStore.j2 kj67 t952 (bt967.2.2.2.2 != t910) t953 t954 t955 t932) else (laws_FnExactRecoverStore.j2 kj67 t952 true t953 t954 t955 t932))))) else (some false))) = some r := H
         have A101 := Aside0.mk A1010
         clear A1010
         by_cases c102 : t956 < 0
         ·
          rw [if_pos c102] at H
          have c102b0 : decide (t956 < 0) = true := decide_eq_true c102
          clear c102
          obtain rfl := Option.some.inj H
          have hnb103 := NB934_888.out
          have hnc103 := NB888_934.out
          have hnb104 := NB934_911.out
          have hnc104 := NB911_934.out
          have hnb105 := NB934_922.out
          have hnc105 := NB922_934.out
          obtain ⟨hcz106_0, hcz106_1, hcz106_2, hcz106_3⟩ := cz4 BK934
          obtain ⟨hfz106_0, hfz106_1, hfz106_2, hfz106_3⟩ := fz4 BK934
          go_wp2_with (first | ((with_reducible refine gate_callee (f := 32) rfl ?_); refine gL (some 64) rfl rfl Try.func32 (by kernel_rfl) rfl #[.agg #[.slice Ao38 t923.length co38, .slice Ao43 t926.length co43, .slice Ao44 t929.length co44, .int .i64 t932], .int .i64 1] rfl ?_; (with_reducible refine (laws_markStore.calls kj67 (fun k_ => some k_ = (.slice Ao38 t923.length co38 : Value).ownBlock) (.slice Ao38 t923.length co38) t923 (fun k_ => some k_ = (.slice Ao43 t926.length co43 : Value).ownBlock) (.slice Ao43 t926.length co43) t926 (fun k_ => some k_ = (.slice Ao44 t929.length co44 : Value).ownBlock) (.slice Ao44 t929.length co44) t929 t932 1 t952 t953 t954 t955 w _ ?side1 ?side2 ?side3 ?side4 ?side5 ?side6 A100.out).mono ?_); (case side1 => repeat (first | (with_reducible first | exact HB.out | apply below_alloc | apply pw_below_drewN | apply below_drew1 | refine below_set ?_ GE888.out | refine below_set ?_ GE911.out | refine below_set ?_ GE922.out | refine below_set ?_ GE934.out) | exact HB.out)); (case side2 => exact Kd.R_tight rfl HO_935000.out); (case side3 => exact fun k_ e_ => (HO_935000.out.1 k_ e_.symm).2.2.2.2); (case side4 => exact Kd.R_tight rfl HO_935001.out); (case side5 => exact Kd.R_tight rfl HO_935002.out); (case side6 => exact fun k_ e_ => (HO_935002.out.1 k_ e_.symm).2.2.2.2); rintro e w107 ⟨rfl, hy0, hy1, hy2, hb, hkp⟩; refine ⟨_, rfl, ?_⟩; replace HO_912000 := Aside0.mk (Kd.R_mono (ok' := fun k_ => some k_ ≠ (.slice Ao26 t906.length co26 : Value).ownBlock ∧ some k_ ≠ (.slice Ao30 t948.length co30 : Value).ownBlock ∧ some k_ ≠ (.slice Ao35 t950.length co35 : Value).ownBlock ∧ some k_ ≠ (.slice Ao38 t923.length co38 : Value).ownBlock ∧ some k_ ≠ (.slice Ao44 t929.length co44 : Value).ownBlock) (Kd.R_keptB ((Kd.R_apart' HO_912000.out (Kd.R_typed HO_935001.out) (by decide))) hkp (fun k_ hk_ hs_ => Or.elim hs_ (fun e_ => (hk_.1.2.2.2.1) e_) (fun e_ => Or.elim e_ (fun e_ => (hk_.2) e_) (fun e_ => (hk_.1.2.2.2.2) e_)))) (fun k_ hk_ => ⟨hk_.1.1.1, hk_.1.1.2.1, hk_.1.1.2.2.1, hk_.1.1.2.2.2.1, hk_.1.1.2.2.2.2⟩)); replace HO_912001 := Aside0.mk (Kd.R_mono (ok' := fun k_ => some k_ ≠ (.slice Ao34 t949.length co34 : Value).ownBlock ∧ some k_ ≠ (.slice Ao43 t926.length co43 : Value).ownBlock) (Kd.R_keptB ((Kd.R_apart' (Kd.R_apart' HO_912001.out (Kd.R_typed HO_935000.out) (by decide)) (Kd.R_typed HO_935002.out) (by decide))) hkp (fun k_ hk_ hs_ => Or.elim hs_ (fun e_ => (hk_.1.2) e_) (fun e_ => Or.elim e_ (fun e_ => (hk_.1.1.2) e_) (fun e_ => (hk_.2) e_)))) (fun k_ hk_ => ⟨hk_.1.1.1.1, hk_.1.1.1.2⟩)); replace HO_912002 := Aside0.mk (Kd.R_mono (ok' := fun k_ => some k_ ≠ (.slice Ao22 t900.length co22 : Value).ownBlock ∧ some k_ ≠ (.slice Ao30 t948.length co30 : Value).ownBlock ∧ some k_ ≠ (.slice Ao35 t950.length co35 : Value).ownBlock ∧ some k_ ≠ (.slice Ao38 t923.length co38 : Value).ownBlock ∧ some k_ ≠ (.slice Ao44 t929.length co44 : Value).ownBlock) (Kd.R_keptB ((Kd.R_apart' HO_912002.out (Kd.R_typed HO_935001.out) (by decide))) hkp (fun k_ hk_ hs_ => Or.elim hs_ (fun e_ => (hk_.1.2.2.2.1) e_) (fun e_ => Or.elim e_ (fun e_ => (hk_.2) e_) (fun e_ => (hk_.1.2.2.2.2) e_)))) (fun k_ hk_ => ⟨hk_.1.1.1, hk_.1.1.2.1, hk_.1.1.2.2.1, hk_.1.1.2.2.2.1, hk_.1.1.2.2.2.2⟩)); replace HO_923000 := Aside0.mk (Kd.R_mono (ok' := fun k_ => some k_ ≠ (.slice Ao22 t900.length co22 : Value).ownBlock ∧ some k_ ≠ (.slice Ao26 t906.length co26 : Value).ownBlock ∧ some k_ ≠ (.slice Ao35 t950.length co35 : Value).ownBlock ∧ some k_ ≠ (.slice Ao38 t923.length co38 : Value).ownBlock ∧ some k_ ≠ (.slice Ao44 t929.length co44 : Value).ownBlock) (Kd.R_keptB ((Kd.R_apart' HO_923000.out (Kd.R_typed HO_935001.out) (by decide))) hkp (fun k_ hk_ hs_ => Or.elim hs_ (fun e_ => (hk_.1.2.2.2.1) e_) (fun e_ => Or.elim e_ (fun e_ => (hk_.2) e_) (fun e_ => (hk_.1.2.2.2.2) e_)))) (fun k_ hk_ => ⟨hk_.1.1.1, hk_.1.1.2.1, hk_.1.1.2.2.1, hk_.1.1.2.2.2.1, hk_.1.1.2.2.2.2⟩)); replace HO_923001 := Aside0.mk (Kd.R_mono (ok' := fun k_ => some k_ ≠ (.slice Ao25 t903.length co25 : Value).ownBlock ∧ some k_ ≠ (.slice Ao43 t926.length co43 : Value).ownBlock) (Kd.R_keptB ((Kd.R_apart' (Kd.R_apart' HO_923001.out (Kd.R_typed HO_935000.out) (by decide)) (Kd.R_typed HO_935002.out) (by decide))) hkp (fun k_ hk_ hs_ => Or.elim hs_ (fun e_ => (hk_.1.2) e_) (fun e_ => Or.elim e_ (fun e_ => (hk_.1.1.2) e_) (fun e_ => (hk_.2) e_)))) (fun k_ hk_ => ⟨hk_.1.1.1.1, hk_.1.1.1.2⟩)); replace HO_923002 := Aside0.mk (Kd.R_mono (ok' := fun k_ => some k_ ≠ (.slice Ao22 t900.length co22 : Value).ownBlock ∧ some k_ ≠ (.slice Ao26 t906.length co26 : Value).ownBlock ∧ some k_ ≠ (.slice Ao30 t948.length co30 : Value).ownBlock ∧ some k_ ≠ (.slice Ao38 t923.length co38 : Value).ownBlock ∧ some k_ ≠ (.slice Ao44 t929.length co44 : Value).ownBlock) (Kd.R_keptB ((Kd.R_apart' HO_923002.out (Kd.R_typed HO_935001.out) (by decide))) hkp (fun k_ hk_ hs_ => Or.elim hs_ (fun e_ => (hk_.1.2.2.2.1) e_) (fun e_ => Or.elim e_ (fun e_ => (hk_.2) e_) (fun e_ => (hk_.1.2.2.2.2) e_)))) (fun k_ hk_ => ⟨hk_.1.1.1, hk_.1.1.2.1, hk_.1.1.2.2.1, hk_.1.1.2.2.2.1, hk_.1.1.2.2.2.2⟩)); replace BK888 := Aside0.mk (blk_kept (bk BK888) hkp (fun hs_ => Or.elim hs_ (fun e_ => (fun e_ => (Kd.R_ne HO_935000.out BK888.out (by decide)) e_) e_) (fun e_ => Or.elim e_ (fun e_ => (fun e_ => (Kd.R_ne HO_935001.out BK888.out (by decide)) e_) e_) (fun e_ => (fun e_ => (Kd.R_ne HO_935002.out BK888.out (by decide)) e_) e_)))); replace BK911 := Aside0.mk (blk_kept (bk BK911) hkp (fun hs_ => Or.elim hs_ (fun e_ => (fun e_ => (Kd.R_ne HO_935000.out BK911.out (by decide)) e_) e_) (fun e_ => Or.elim e_ (fun e_ => (fun e_ => (Kd.R_ne HO_935001.out BK911.out (by decide)) e_) e_) (fun e_ => (fun e_ => (Kd.R_ne HO_935002.out BK911.out (by decide)) e_) e_)))); replace BK922 := Aside0.mk (blk_kept (bk BK922) hkp (fun hs_ => Or.elim hs_ (fun e_ => (fun e_ => (Kd.R_ne HO_935000.out BK922.out (by decide)) e_) e_) (fun e_ => Or.elim e_ (fun e_ => (fun e_ => (Kd.R_ne HO_935001.out BK922.out (by decide)) e_) e_) (fun e_ => (fun e_ => (Kd.R_ne HO_935002.out BK922.out (by decide)) e_) e_)))); replace BK934 := Aside0.mk (blk_kept (bk BK934) hkp (fun hs_ => Or.elim hs_ (fun e_ => (fun e_ => (Kd.R_ne HO_935000.out BK934.out (by decide)) e_) e_) (fun e_ => Or.elim e_ (fun e_ => (fun e_ => (Kd.R_ne HO_935001.out BK934.out (by decide)) e_) e_) (fun e_ => (fun e_ => (Kd.R_ne HO_935002.out BK934.out (by decide)) e_) e_)))); replace HO_935000 := Aside0.mk (Kd.R_reok rfl hy0 (fun k_ e_ => HO_935000.out.1 k_ e_)); replace HO_935001 := Aside0.mk (Kd.R_reok rfl hy1 (fun k_ e_ => HO_935001.out.1 k_ e_)); replace HO_935002 := Aside0.mk (Kd.R_reok rfl hy2 (fun k_ e_ => HO_935002.out.1 k_ e_)); replace HB := Aside0.mk (hb); (try clear hb); (try clear hkp); (try clear hy0); (try clear hy1); (try clear hy2); obtain ⟨hcz108_0, hcz108_1, hcz108_2, hcz108_3⟩ := cz4 BK934; obtain ⟨hfz108_0, hfz108_1, hfz108_2, hfz108_3⟩ := fz4 BK934) | ((with_reducible refine gate_callee (f := 33) rfl ?_); refine goesL_ (some 67) rfl rfl Try.func33 (by kernel_rfl) rfl #[.agg #[.slice Ao38 t953.length co38, .slice Ao43 t954.length co43, .slice Ao44 t955.length co44, .int .i64 t932], .int .i64 1] rfl (by (try simp only [List.map_toArray, List.map_cons, List.map_nil]); first | done | (rw [show t953.length = t923.length from (Kd.R_reads' HO_935000.out).1.symm, show t954.length = t926.length from (Kd.R_reads' HO_935001.out).1.symm, show t955.length = t929.length from (Kd.R_reads' HO_935002.out).1.symm] <;> rfl) | rfl | (simp only [List.length_drop, List.length_take]; rfl)) ?_; (with_reducible refine (laws_heldStore.calls kj67 _ _ t953 _ _ t954 _ _ t955 t932 1 t956 _ ?side1 ?side2 ?side3 ?side4 ?side5 ?side6 A101.out).mono ?_); (case side1 => exact rc0 HO_935000); (case side2 => rw [show t953.length = t923.length from (Kd.R_reads' HO_935000.out).1.symm]; exact (Kd.R_reads' HO_935000.out).2.1); (case side3 => exact rc0 HO_935001); (case side4 => rw [show t954.length = t926.length from (Kd.R_reads' HO_935001.out).1.symm]; exact (Kd.R_reads' HO_935001.out).2.1); (case side5 => exact rc0 HO_935002); (case side6 => rw [show t955.length = t929.length from (Kd.R_reads' HO_935002.out).1.symm]; exact (Kd.R_reads' HO_935002.out).2.1); rintro e w109 ⟨rfl, hb⟩; refine ⟨_, rfl, ?_⟩; replace HO_912000 := nr HO_912000 hb; replace HO_912001 := nr HO_912001 hb; replace HO_912002 := nr HO_912002 hb; replace HO_923000 := nr HO_923000 hb; replace HO_923001 := nr HO_923001 hb; replace HO_923002 := nr HO_923002 hb; replace HO_935000 := nr HO_935000 hb; replace HO_935001 := nr HO_935001 hb; replace HO_935002 := nr HO_935002 hb; replace BK888 := nb BK888 hb; replace BK911 := nb BK911 hb; replace BK922 := nb BK922 hb; replace BK934 := nb BK934 hb; replace HB := Aside0.mk (below_step (bs4 HB GE888 GE911 GE922 GE934) hb); (try clear hb); (try clear hb2); (try clear hk); (try clear hi)))
          go_ret
          exact ⟨by first | rfl | (simp [errW_none, errW_some] <;> rfl) | (simp [*, errW_none, errW_some] <;> rfl), bs4 HB GE888 GE911 GE922 GE934⟩
         ·
          rw [if_neg c102] at H
          have c102b0 : decide (t956 < 0) = false := decide_eq_false c102
          clear c102
          by_cases c110 : t956 = t952
          ·
           rw [if_pos c110] at H
           have c110b0 : (t956 == t952) = true := beq_iff_eq.mpr c110
           have c110b1 : (t956 != t952) = false := bne_eq_false_iff_eq.mpr c110
           clear c110
           replace H := Option.bind_eq_some_iff.mp H
           obtain ⟨⟨t957, t960, t963, t966⟩, A1110, H⟩ := H
           replace H : ((impl_RecoverStore.f kj67 t957 t960 t963 t966).bind fun bt967 => ((laws_eqStore.f kj67 bt967.1 bt967.2.1 bt967.2.2.1 bt967.2.2.2.1 t900 t903 t906 t909).bind fun t979 => (if t979 = true then (laws_FnExactRecoverStore.j2 kj67 t952 (bt967.2.2.2.2 != t910) t953 t954 t955 t932) else (laws_FnExactRecoverStore.j2 kj67 t952 true t953 t954 t955 t932)))) = some r := H
           have A111 := Aside0.mk A1110
           clear A1110
           replace H := Option.bind_eq_some_iff.mp H
           obtain ⟨⟨t967, t970, t973, t976, t977⟩, A1120, H⟩ := H
           replace H : ((laws_eqStore.f kj67 t967 t970 t973 t976 t900 t903 t906 t909).bind fun t979 => (if t979 = true then (laws_FnExactRecoverStore.j2 kj67 t952 (t977 != t910) t953 t954 t955 t932) else (laws_FnExactRecoverStore.j2 kj67 t952 true t953 t954 t955 t932))) = some r := H
           have A112 := Aside0.mk A1120
           clear A1120
           have HC113 := Aside0.mk H
           clear H
           have hnb114 := NB934_888.out
           have hnc114 := NB888_934.out
           have hnb115 := NB934_911.out
           have hnc115 := NB911_934.out
           have hnb116 := NB934_922.out
           have hnc116 := NB922_934.out
           obtain ⟨hcz117_0, hcz117_1, hcz117_2, hcz117_3⟩ := cz4 BK934
           obtain ⟨hfz117_0, hfz117_1, hfz117_2, hfz117_3⟩ := fz4 BK934
           go_upto_region 25 with (first | ((with_reducible refine gate_callee (f := 32) rfl ?_); refine gL (some 64) rfl rfl Try.func32 (by kernel_rfl) rfl #[.agg #[.slice Ao38 t923.length co38, .slice Ao43 t926.length co43, .slice Ao44 t929.length co44, .int .i64 t932], .int .i64 1] rfl ?_; (with_reducible refine (laws_markStore.calls kj67 (fun k_ => some k_ = (.slice Ao38 t923.length co38 : Value).ownBlock) (.slice Ao38 t923.length co38) t923 (fun k_ => some k_ = (.slice Ao43 t926.length co43 : Value).ownBlock) (.slice Ao43 t926.length co43) t926 (fun k_ => some k_ = (.slice Ao44 t929.length co44 : Value).ownBlock) (.slice Ao44 t929.length co44) t929 t932 1 t952 t953 t954 t955 w _ ?side1 ?side2 ?side3 ?side4 ?side5 ?side6 A100.out).mono ?_); (case side1 => repeat (first | (with_reducible first | exact HB.out | apply below_alloc | apply pw_below_drewN | apply below_drew1 | refine below_set ?_ GE888.out | refine below_set ?_ GE911.out | refine below_set ?_ GE922.out | refine below_set ?_ GE934.out) | exact HB.out)); (case side2 => exact Kd.R_tight rfl HO_935000.out); (case side3 => exact fun k_ e_ => (HO_935000.out.1 k_ e_.symm).2.2.2.2); (case side4 => exact Kd.R_tight rfl HO_935001.out); (case side5 => exact Kd.R_tight rfl HO_935002.out); (case side6 => exact fun k_ e_ => (HO_935002.out.1 k_ e_.symm).2.2.2.2); rintro e w118 ⟨rfl, hy0, hy1, hy2, hb, hkp⟩; refine ⟨_, rfl, ?_⟩; replace HO_912000 := Aside0.mk (Kd.R_mono (ok' := fun k_ => some k_ ≠ (.slice Ao26 t906.length co26 : Value).ownBlock ∧ some k_ ≠ (.slice Ao30 t948.length co30 : Value).ownBlock ∧ some k_ ≠ (.slice Ao35 t950.length co35 : Value).ownBlock ∧ some k_ ≠ (.slice Ao38 t923.length co38 : Value).ownBlock ∧ some k_ ≠ (.slice Ao44 t929.length co44 : Value).ownBlock) (Kd.R_keptB ((Kd.R_apart' HO_912000.out (Kd.R_typed HO_935001.out) (by decide))) hkp (fun k_ hk_ hs_ => Or.elim hs_ (fun e_ => (hk_.1.2.2.2.1) e_) (fun e_ => Or.elim e_ (fun e_ => (hk_.2) e_) (fun e_ => (hk_.1.2.2.2.2) e_)))) (fun k_ hk_ => ⟨hk_.1.1.1, hk_.1.1.2.1, hk_.1.1.2.2.1, hk_.1.1.2.2.2.1, hk_.1.1.2.2.2.2⟩)); replace HO_912001 := Aside0.mk (Kd.R_mono (ok' := fun k_ => some k_ ≠ (.slice Ao34 t949.length co34 : Value).ownBlock ∧ some k_ ≠ (.slice Ao43 t926.length co43 : Value).ownBlock) (Kd.R_keptB ((Kd.R_apart' (Kd.R_apart' HO_912001.out (Kd.R_typed HO_935000.out) (by decide)) (Kd.R_typed HO_935002.out) (by decide))) hkp (fun k_ hk_ hs_ => Or.elim hs_ (fun e_ => (hk_.1.2) e_) (fun e_ => Or.elim e_ (fun e_ => (hk_.1.1.2) e_) (fun e_ => (hk_.2) e_)))) (fun k_ hk_ => ⟨hk_.1.1.1.1, hk_.1.1.1.2⟩)); replace HO_912002 := Aside0.mk (Kd.R_mono (ok' := fun k_ => some k_ ≠ (.slice Ao22 t900.length co22 : Value).ownBlock ∧ some k_ ≠ (.slice Ao30 t948.length co30 : Value).ownBlock ∧ some k_ ≠ (.slice Ao35 t950.length co35 : Value).ownBlock ∧ some k_ ≠ (.slice Ao38 t923.length co38 : Value).ownBlock ∧ some k_ ≠ (.slice Ao44 t929.length co44 : Value).ownBlock) (Kd.R_keptB ((Kd.R_apart' HO_912002.out (Kd.R_typed HO_935001.out) (by decide))) hkp (fun k_ hk_ hs_ => Or.elim hs_ (fun e_ => (hk_.1.2.2.2.1) e_) (fun e_ => Or.elim e_ (fun e_ => (hk_.2) e_) (fun e_ => (hk_.1.2.2.2.2) e_)))) (fun k_ hk_ => ⟨hk_.1.1.1, hk_.1.1.2.1, hk_.1.1.2.2.1, hk_.1.1.2.2.2.1, hk_.1.1.2.2.2.2⟩)); replace HO_923000 := Aside0.mk (Kd.R_mono (ok' := fun k_ => some k_ ≠ (.slice Ao22 t900.length co22 : Value).ownBlock ∧ some k_ ≠ (.slice Ao26 t906.length co26 : Value).ownBlock ∧ some k_ ≠ (.slice Ao35 t950.length co35 : Value).ownBlock ∧ some k_ ≠ (.slice Ao38 t923.length co38 : Value).ownBlock ∧ some k_ ≠ (.slice Ao44 t929.length co44 : Value).ownBlock) (Kd.R_keptB ((Kd.R_apart' HO_923000.out (Kd.R_typed HO_935001.out) (by decide))) hkp (fun k_ hk_ hs_ => Or.elim hs_ (fun e_ => (hk_.1.2.2.2.1) e_) (fun e_ => Or.elim e_ (fun e_ => (hk_.2) e_) (fun e_ => (hk_.1.2.2.2.2) e_)))) (fun k_ hk_ => ⟨hk_.1.1.1, hk_.1.1.2.1, hk_.1.1.2.2.1, hk_.1.1.2.2.2.1, hk_.1.1.2.2.2.2⟩)); replace HO_923001 := Aside0.mk (Kd.R_mono (ok' := fun k_ => some k_ ≠ (.slice Ao25 t903.length co25 : Value).ownBlock ∧ some k_ ≠ (.slice Ao43 t926.length co43 : Value).ownBlock) (Kd.R_keptB ((Kd.R_apart' (Kd.R_apart' HO_923001.out (Kd.R_typed HO_935000.out) (by decide)) (Kd.R_typed HO_935002.out) (by decide))) hkp (fun k_ hk_ hs_ => Or.elim hs_ (fun e_ => (hk_.1.2) e_) (fun e_ => Or.elim e_ (fun e_ => (hk_.1.1.2) e_) (fun e_ => (hk_.2) e_)))) (fun k_ hk_ => ⟨hk_.1.1.1.1, hk_.1.1.1.2⟩)); replace HO_923002 := Aside0.mk (Kd.R_mono (ok' := fun k_ => some k_ ≠ (.slice Ao22 t900.length co22 : Value).ownBlock ∧ some k_ ≠ (.slice Ao26 t906.length co26 : Value).ownBlock ∧ some k_ ≠ (.slice Ao30 t948.length co30 : Value).ownBlock ∧ some k_ ≠ (.slice Ao38 t923.length co38 : Value).ownBlock ∧ some k_ ≠ (.slice Ao44 t929.length co44 : Value).ownBlock) (Kd.R_keptB ((Kd.R_apart' HO_923002.out (Kd.R_typed HO_935001.out) (by decide))) hkp (fun k_ hk_ hs_ => Or.elim hs_ (fun e_ => (hk_.1.2.2.2.1) e_) (fun e_ => Or.elim e_ (fun e_ => (hk_.2) e_) (fun e_ => (hk_.1.2.2.2.2) e_)))) (fun k_ hk_ => ⟨hk_.1.1.1, hk_.1.1.2.1, hk_.1.1.2.2.1, hk_.1.1.2.2.2.1, hk_.1.1.2.2.2.2⟩)); replace BK888 := Aside0.mk (blk_kept (bk BK888) hkp (fun hs_ => Or.elim hs_ (fun e_ => (fun e_ => (Kd.R_ne HO_935000.out BK888.out (by decide)) e_) e_) (fun e_ => Or.elim e_ (fun e_ => (fun e_ => (Kd.R_ne HO_935001.out BK888.out (by decide)) e_) e_) (fun e_ => (fun e_ => (Kd.R_ne HO_935002.out BK888.out (by decide)) e_) e_)))); replace BK911 := Aside0.mk (blk_kept (bk BK911) hkp (fun hs_ => Or.elim hs_ (fun e_ => (fun e_ => (Kd.R_ne HO_935000.out BK911.out (by decide)) e_) e_) (fun e_ => Or.elim e_ (fun e_ => (fun e_ => (Kd.R_ne HO_935001.out BK911.out (by decide)) e_) e_) (fun e_ => (fun e_ => (Kd.R_ne HO_935002.out BK911.out (by decide)) e_) e_)))); replace BK922 := Aside0.mk (blk_kept (bk BK922) hkp (fun hs_ => Or.elim hs_ (fun e_ => (fun e_ => (Kd.R_ne HO_935000.out BK922.out (by decide)) e_) e_) (fun e_ => Or.elim e_ (fun e_ => (fun e_ => (Kd.R_ne HO_935001.out BK922.out (by decide)) e_) e_) (fun e_ => (fun e_ => (Kd.R_ne HO_935002.out BK922.out (by decide)) e_) e_)))); replace BK934 := Aside0.mk (blk_kept (bk BK934) hkp (fun hs_ => Or.elim hs_ (fun e_ => (fun e_ => (Kd.R_ne HO_935000.out BK934.out (by decide)) e_) e_) (fun e_ => Or.elim e_ (fun e_ => (fun e_ => (Kd.R_ne HO_935001.out BK934.out (by decide)) e_) e_) (fun e_ => (fun e_ => (Kd.R_ne HO_935002.out BK934.out (by decide)) e_) e_)))); replace HO_935000 := Aside0.mk (Kd.R_reok rfl hy0 (fun k_ e_ => HO_935000.out.1 k_ e_)); replace HO_935001 := Aside0.mk (Kd.R_reok rfl hy1 (fun k_ e_ => HO_935001.out.1 k_ e_)); replace HO_935002 := Aside0.mk (Kd.R_reok rfl hy2 (fun k_ e_ => HO_935002.out.1 k_ e_)); replace HB := Aside0.mk (hb); (try clear hb); (try clear hkp); (try clear hy0); (try clear hy1); (try clear hy2); obtain ⟨hcz119_0, hcz119_1, hcz119_2, hcz119_3⟩ := cz4 BK934; obtain ⟨hfz119_0, hfz119_1, hfz119_2, hfz119_3⟩ := fz4 BK934) | ((with_reducible refine gate_callee (f := 33) rfl ?_); refine goesL_ (some 67) rfl rfl Try.func33 (by kernel_rfl) rfl #[.agg #[.slice Ao38 t953.length co38, .slice Ao43 t954.length co43, .slice Ao44 t955.length co44, .int .i64 t932], .int .i64 1] rfl (by (try simp only [List.map_toArray, List.map_cons, List.map_nil]); first | done | (rw [show t953.length = t923.length from (Kd.R_reads' HO_935000.out).1.symm, show t954.length = t926.length from (Kd.R_reads' HO_935001.out).1.symm, show t955.length = t929.length from (Kd.R_reads' HO_935002.out).1.symm] <;> rfl) | rfl | (simp only [List.length_drop, List.length_take]; rfl)) ?_; (with_reducible refine (laws_heldStore.calls kj67 _ _ t953 _ _ t954 _ _ t955 t932 1 t956 _ ?side1 ?side2 ?side3 ?side4 ?side5 ?side6 A101.out).mono ?_); (case side1 => exact rc0 HO_935000); (case side2 => rw [show t953.length = t923.length from (Kd.R_reads' HO_935000.out).1.symm]; exact (Kd.R_reads' HO_935000.out).2.1); (case side3 => exact rc0 HO_935001); (case side4 => rw [show t954.length = t926.length from (Kd.R_reads' HO_935001.out).1.symm]; exact (Kd.R_reads' HO_935001.out).2.1); (case side5 => exact rc0 HO_935002); (case side6 => rw [show t955.length = t929.length from (Kd.R_reads' HO_935002.out).1.symm]; exact (Kd.R_reads' HO_935002.out).2.1); rintro e w120 ⟨rfl, hb⟩; refine ⟨_, rfl, ?_⟩; replace HO_912000 := nr HO_912000 hb; replace HO_912001 := nr HO_912001 hb; replace HO_912002 := nr HO_912002 hb; replace HO_923000 := nr HO_923000 hb; replace HO_923001 := nr HO_923001 hb; replace HO_923002 := nr HO_923002 hb; replace HO_935000 := nr HO_935000 hb; replace HO_935001 := nr HO_935001 hb; replace HO_935002 := nr HO_935002 hb; replace BK888 := nb BK888 hb; replace BK911 := nb BK911 hb; replace BK922 := nb BK922 hb; replace BK934 := nb BK934 hb; replace HB := Aside0.mk (below_step (bs4 HB GE888 GE911 GE922 GE934) hb); (try clear hb); (try clear hb2); (try clear hk); (try clear hi); have hnb121 := NB888_911.out; have hnc121 := NB911_888.out; have hnb122 := NB888_922.out; have hnc122 := NB922_888.out; obtain ⟨hcz123_0, hcz123_1, hcz123_2, hcz123_3⟩ := cz4 BK888; obtain ⟨hfz123_0, hfz123_1, hfz123_2, hfz123_3⟩ := fz4 BK888) | ((with_reducible refine gate_callee (f := 27) rfl ?_); refine gL (some 75) rfl rfl Try.func27 (by kernel_rfl) rfl #[.agg #[.slice A0_0 l0_0.length c0_0, .slice A0_1 l0_1.length c0_1, .slice A0_2 l0_2.length c0_2, .int .i64 a0_3]] rfl ?_; (with_reducible refine (laws_toStore.calls kj67 _ _ l0_0 _ _ l0_1 _ _ l0_2 a0_3 t957 t960 t963 t966 _ ?side1 ?side2 ?side3 ?side4 ?side5 ?side6 A111.out).mono ?_); (case side1 => exact cb HR0_0 HB); (case side2 => exact HC0_0.out); (case side3 => exact cb HR0_1 HB); (case side4 => exact HC0_1.out); (case side5 => exact cb HR0_2 HB); (case side6 => exact HC0_2.out); rintro e w124 ⟨v958, v961, v964, rfl, ho0, ho1, ho2, hb⟩; refine ⟨_, rfl, ?_⟩; have HO959 := Aside0.mk (Kd.R_lower (Kd.R_new' (Kd.R_new' (Kd.R_new' (Kd.R_new' (Kd.R_new' (Kd.R_new' ho0 (Kd.R_lt (rr HO_912000.out))) (Kd.R_lt (rr HO_912002.out))) (Kd.R_lt (rr HO_923000.out))) (Kd.R_lt (rr HO_923002.out))) (Kd.R_lt (rr HO_935000.out))) (Kd.R_lt (rr HO_935002.out))) (below_size (bs4 HB GE888 GE911 GE922 GE934))); have HO962 := Aside0.mk (Kd.R_lower (Kd.R_new' (Kd.R_new' (Kd.R_new' ho1 (Kd.R_lt (rr HO_912001.out))) (Kd.R_lt (rr HO_923001.out))) (Kd.R_lt (rr HO_935001.out))) (below_size (bs4 HB GE888 GE911 GE922 GE934))); replace HO_912001 := Aside0.mk (Kd.R_elder' (rr HO_912001.out) (Kd.R_base ho1) hb); replace HO_923001 := Aside0.mk (Kd.R_elder' (rr HO_923001.out) (Kd.R_base ho1) hb); replace HO_935001 := Aside0.mk (Kd.R_elder' (rr HO_935001.out) (Kd.R_base ho1) hb); have HO965 := Aside0.mk (Kd.R_lower (Kd.R_new' (Kd.R_new' (Kd.R_new' (Kd.R_new' (Kd.R_new' (Kd.R_new' ho2 (Kd.R_lt (rr HO_912000.out))) (Kd.R_lt (rr HO_912002.out))) (Kd.R_lt (rr HO_923000.out))) (Kd.R_lt (rr HO_923002.out))) (Kd.R_lt (rr HO_935000.out))) (Kd.R_lt (rr HO_935002.out))) (below_size (bs4 HB GE888 GE911 GE922 GE934))); replace HO_912000 := Aside0.mk (Kd.R_mono (Kd.R_told (Kd.R_told (Kd.R_old (rr HO_912000.out) hb) (Kd.R_base ho0)) (Kd.R_base ho2)) (fun _ h_ => h_.1)); replace HO_912002 := Aside0.mk (Kd.R_mono (Kd.R_told (Kd.R_told (Kd.R_old (rr HO_912002.out) hb) (Kd.R_base ho0)) (Kd.R_base ho2)) (fun _ h_ => h_.1)); replace HO_923000 := Aside0.mk (Kd.R_mono (Kd.R_told (Kd.R_told (Kd.R_old (rr HO_923000.out) hb) (Kd.R_base ho0)) (Kd.R_base ho2)) (fun _ h_ => h_.1)); replace HO_923002 := Aside0.mk (Kd.R_mono (Kd.R_told (Kd.R_told (Kd.R_old (rr HO_923002.out) hb) (Kd.R_base ho0)) (Kd.R_base ho2)) (fun _ h_ => h_.1)); replace HO_935000 := Aside0.mk (Kd.R_mono (Kd.R_told (Kd.R_told (Kd.R_old (rr HO_935000.out) hb) (Kd.R_base ho0)) (Kd.R_base ho2)) (fun _ h_ => h_.1)); replace HO_935002 := Aside0.mk (Kd.R_mono (Kd.R_told (Kd.R_told (Kd.R_old (rr HO_935002.out) hb) (Kd.R_base ho0)) (Kd.R_base ho2)) (fun _ h_ => h_.1)); replace BK888 := nb BK888 hb; replace BK911 := nb BK911 hb; replace BK922 := nb BK922 hb; replace BK934 := nb BK934 hb; replace HB := Aside0.mk (below_step (bs4 HB GE888 GE911 GE922 GE934) hb); (try clear hb); (try clear hb2); (try clear hk); (try clear hi); (try clear ho0); (try clear ho1); (try clear ho2); obtain ⟨Ao125, co125, eo125⟩ := Kd.R_slice HO959.out; subst eo125; obtain ⟨Ao126, co126, eo126⟩ := Kd.R_slice HO962.out; subst eo126; obtain ⟨Ao127, co127, eo127⟩ := Kd.R_slice HO965.out; subst eo127) | ((with_reducible refine gate_callee (f := 44) rfl ?_); refine gL (some 76) rfl rfl Try.func44 (by kernel_rfl) rfl #[.agg #[.slice Ao125 t957.length co125, .slice Ao126 t960.length co126, .slice Ao127 t963.length co127, .int .i64 t966]] rfl ?_; (with_reducible refine (impl_RecoverStore.calls kj67 _ _ t957 _ _ t960 _ _ t963 t966 t967 t970 t973 t976 t977 _ ?side1 ?side2 ?side3 ?side4 ?side5 ?side6 A112.out).mono ?_); (case side1 => exact rc0 HO959); (case side2 => exact (Kd.R_reads' HO959.out).2.1); (case side3 => exact rc0 HO962); (case side4 => exact (Kd.R_reads' HO962.out).2.1); (case side5 => exact rc0 HO965); (case side6 => exact (Kd.R_reads' HO965.out).2.1); rintro e w128 ⟨v968, v971, v974, rfl, ho0, ho1, ho2, hb⟩; refine ⟨_, rfl, ?_⟩; have HO969 := Aside0.mk (Kd.R_lower (Kd.R_new' (Kd.R_new' (Kd.R_new' (Kd.R_new' (Kd.R_new' (Kd.R_new' (Kd.R_new' (Kd.R_new' ho0 (Kd.R_lt (rr HO_912000.out))) (Kd.R_lt (rr HO_912002.out))) (Kd.R_lt (rr HO_923000.out))) (Kd.R_lt (rr HO_923002.out))) (Kd.R_lt (rr HO_935000.out))) (Kd.R_lt (rr HO_935002.out))) (Kd.R_lt (rr HO959.out))) (Kd.R_lt (rr HO965.out))) (below_size (bs4 HB GE888 GE911 GE922 GE934))); have HO972 := Aside0.mk (Kd.R_lower (Kd.R_new' (Kd.R_new' (Kd.R_new' (Kd.R_new' ho1 (Kd.R_lt (rr HO_912001.out))) (Kd.R_lt (rr HO_923001.out))) (Kd.R_lt (rr HO_935001.out))) (Kd.R_lt (rr HO962.out))) (below_size (bs4 HB GE888 GE911 GE922 GE934))); replace HO_912001 := Aside0.mk (Kd.R_elder' (rr HO_912001.out) (Kd.R_base ho1) hb); replace HO_923001 := Aside0.mk (Kd.R_elder' (rr HO_923001.out) (Kd.R_base ho1) hb); replace HO_935001 := Aside0.mk (Kd.R_elder' (rr HO_935001.out) (Kd.R_base ho1) hb); replace HO962 := Aside0.mk (Kd.R_elder' (rr HO962.out) (Kd.R_base ho1) hb); have HO975 := Aside0.mk (Kd.R_lower (Kd.R_new' (Kd.R_new' (Kd.R_new' (Kd.R_new' (Kd.R_new' (Kd.R_new' (Kd.R_new' (Kd.R_new' ho2 (Kd.R_lt (rr HO_912000.out))) (Kd.R_lt (rr HO_912002.out))) (Kd.R_lt (rr HO_923000.out))) (Kd.R_lt (rr HO_923002.out))) (Kd.R_lt (rr HO_935000.out))) (Kd.R_lt (rr HO_935002.out))) (Kd.R_lt (rr HO959.out))) (Kd.R_lt (rr HO965.out))) (below_size (bs4 HB GE888 GE911 GE922 GE934))); replace HO_912000 := Aside0.mk (Kd.R_mono (Kd.R_told (Kd.R_told (Kd.R_old (rr HO_912000.out) hb) (Kd.R_base ho0)) (Kd.R_base ho2)) (fun _ h_ => h_.1)); replace HO_912002 := Aside0.mk (Kd.R_mono (Kd.R_told (Kd.R_told (Kd.R_old (rr HO_912002.out) hb) (Kd.R_base ho0)) (Kd.R_base ho2)) (fun _ h_ => h_.1)); replace HO_923000 := Aside0.mk (Kd.R_mono (Kd.R_told (Kd.R_told (Kd.R_old (rr HO_923000.out) hb) (Kd.R_base ho0)) (Kd.R_base ho2)) (fun _ h_ => h_.1)); replace HO_923002 := Aside0.mk (Kd.R_mono (Kd.R_told (Kd.R_told (Kd.R_old (rr HO_923002.out) hb) (Kd.R_base ho0)) (Kd.R_base ho2)) (fun _ h_ => h_.1)); replace HO_935000 := Aside0.mk (Kd.R_mono (Kd.R_told (Kd.R_told (Kd.R_old (rr HO_935000.out) hb) (Kd.R_base ho0)) (Kd.R_base ho2)) (fun _ h_ => h_.1)); replace HO_935002 := Aside0.mk (Kd.R_mono (Kd.R_told (Kd.R_told (Kd.R_old (rr HO_935002.out) hb) (Kd.R_base ho0)) (Kd.R_base ho2)) (fun _ h_ => h_.1)); replace HO959 := Aside0.mk (Kd.R_mono (Kd.R_told (Kd.R_told (Kd.R_old (rr HO959.out) hb) (Kd.R_base ho0)) (Kd.R_base ho2)) (fun _ h_ => h_.1)); replace HO965 := Aside0.mk (Kd.R_mono (Kd.R_told (Kd.R_told (Kd.R_old (rr HO965.out) hb) (Kd.R_base ho0)) (Kd.R_base ho2)) (fun _ h_ => h_.1)); replace BK888 := nb BK888 hb; replace BK911 := nb BK911 hb; replace BK922 := nb BK922 hb; replace BK934 := nb BK934 hb; replace HB := Aside0.mk (below_step (bs4 HB GE888 GE911 GE922 GE934) hb); (try clear hb); (try clear hb2); (try clear hk); (try clear hi); (try clear ho0); (try clear ho1); (try clear ho2)) | ((with_reducible refine gate_dst (N := 12) rfl ?_); refine box_event ?hg (N := 12) ?hd (cs := #[.slice none 0 0, .slice none 0 0, .slice none 0 0, .int .i64 0]) (t := 44) ?hr ?_; (case hd => rfl); (case hg => rfl); (case hr => first | (go_simp; done) | (go_simp; rfl)); intro gb978 hg w129 hbox hb; replace HO_912000 := nr HO_912000 hb; replace HO_912001 := nr HO_912001 hb; replace HO_912002 := nr HO_912002 hb; replace HO_923000 := nr HO_923000 hb; replace HO_923001 := nr HO_923001 hb; replace HO_923002 := nr HO_923002 hb; replace HO_935000 := nr HO_935000 hb; replace HO_935001 := nr HO_935001 hb; replace HO_935002 := nr HO_935002 hb; replace HO959 := nr HO959 hb; replace HO962 := nr HO962 hb; replace HO965 := nr HO965 hb; replace HO969 := nr HO969 hb; replace HO972 := nr HO972 hb; replace HO975 := nr HO975 hb; have BK978 := Aside0.mk (hbox); have GW978 := Aside0.mk ((by rw [hg]; exact (below_size (bs4 HB GE888 GE911 GE922 GE934)) : w.heap.size ≤ gb978)); have GE978 := Aside0.mk ((by rw [hg]; exact (below_size (bs4 HB GE888 GE911 GE922 GE934)) : w.heap.size ≤ gb978)); replace HB := Aside0.mk (below_step (bs4 HB GE888 GE911 GE922 GE934) hb); have NB888_978 := Aside0.mk ((bn BK888 hg : gb888 ≠ gb978)); have NB978_888 := Aside0.mk ((bm BK888 hg : gb978 ≠ gb888)); replace BK888 := nb BK888 hb; have NB911_978 := Aside0.mk ((bn BK911 hg : gb911 ≠ gb978)); have NB978_911 := Aside0.mk ((bm BK911 hg : gb978 ≠ gb911)); replace BK911 := nb BK911 hb; have NB922_978 := Aside0.mk ((bn BK922 hg : gb922 ≠ gb978)); have NB978_922 := Aside0.mk ((bm BK922 hg : gb978 ≠ gb922)); replace BK922 := nb BK922 hb; have NB934_978 := Aside0.mk ((bn BK934 hg : gb934 ≠ gb978)); have NB978_934 := Aside0.mk ((bm BK934 hg : gb978 ≠ gb934)); replace BK934 := nb BK934 hb; clear hb hbox hg; obtain ⟨Ao130, co130, eo130⟩ := Kd.R_slice HO969.out; subst eo130; have hnb131 := NB978_888.out; have hnc131 := NB888_978.out; have hnb132 := NB978_911.out; have hnc132 := NB911_978.out; have hnb133 := NB978_922.out; have hnc133 := NB922_978.out; have hnb134 := NB978_934.out; have hnc134 := NB934_978.out; obtain ⟨hcz135_0, hcz135_1, hcz135_2, hcz135_3⟩ := cz4 BK978; obtain ⟨hfz135_0, hfz135_1, hfz135_2, hfz135_3⟩ := fz4 BK978; obtain ⟨Ao136, co136, eo136⟩ := Kd.R_slice HO972.out; subst eo136; obtain ⟨Ao137, co137, eo137⟩ := Kd.R_slice HO975.out; subst eo137))
           (try simp only [Act.put, List.setIfInBounds_toArray, List.set_cons_zero, List.set_cons_succ])
           go_cut [87] (fun v87 wc => ∃ (kq : Nat) (x87_112 : Bool), v87 = .bool x87_112 ∧ Aside0 (laws_FnExactRecoverStore.j2 kq t952 x87_112 t953 t954 t955 t932 = some r) ∧ Aside0 (kq ≤ kj67) ∧ Aside0 (Kd.R Kd.string 9 wc w.heap.size (fun k_ => some k_ ≠ ((.slice Ao26 t906.length co26) : Value).ownBlock ∧ some k_ ≠ ((.slice Ao30 t948.length co30) : Value).ownBlock ∧ some k_ ≠ ((.slice Ao35 t950.length co35) : Value).ownBlock ∧ some k_ ≠ ((.slice Ao38 t923.length co38) : Value).ownBlock ∧ some k_ ≠ ((.slice Ao44 t929.length co44) : Value).ownBlock ∧ some k_ ≠ ((.slice Ao130 t967.length co130) : Value).ownBlock ∧ some k_ ≠ ((.slice Ao137 t973.length co137) : Value).ownBlock) (.slice Ao22 t900.length co22) t900) ∧ Aside0 (Kd.R k72 72 wc w.heap.size (fun k_ => some k_ ≠ ((.slice Ao34 t949.length co34) : Value).ownBlock ∧ some k_ ≠ ((.slice Ao43 t926.length co43) : Value).ownBlock ∧ some k_ ≠ ((.slice Ao136 t970.length co136) : Value).ownBlock) (.slice Ao25 t903.length co25) t903) ∧ Aside0 (Kd.R Kd.string 9 wc w.heap.size (fun k_ => some k_ ≠ ((.slice Ao22 t900.length co22) : Value).ownBlock ∧ some k_ ≠ ((.slice Ao30 t948.length co30) : Value).ownBlock ∧ some k_ ≠ ((.slice Ao35 t950.length co35) : Value).ownBlock ∧ some k_ ≠ ((.slice Ao38 t923.length co38) : Value).ownBlock ∧ some k_ ≠ ((.slice Ao44 t929.length co44) : Value).ownBlock ∧ some k_ ≠ ((.slice Ao130 t967.length co130) : Value).ownBlock ∧ some k_ ≠ ((.slice Ao137 t973.length co137) : Value).ownBlock) (.slice Ao26 t906.length co26) t906) ∧ Aside0 (Kd.R Kd.string 9 wc w.heap.size (fun k_ => some k_ ≠ ((.slice Ao22 t900.length co22) : Value).ownBlock ∧ some k_ ≠ ((.slice Ao26 t906.length co26) : Value).ownBlock ∧ some k_ ≠ ((.slice Ao35 t950.length co35) : Value).ownBlock ∧ some k_ ≠ ((.slice Ao38 t923.length co38) : Value).ownBlock ∧ some k_ ≠ ((.slice Ao44 t929.length co44) : Value).ownBlock ∧ some k_ ≠ ((.slice Ao130 t967.length co130) : Value).ownBlock ∧ some k_ ≠ ((.slice Ao137 t973.length co137) : Value).ownBlock) (.slice Ao30 t948.length co30) t948) ∧ Aside0 (Kd.R k72 72 wc w.heap.size (fun k_ => some k_ ≠ ((.slice Ao25 t903.length co25) : Value).ownBlock ∧ some k_ ≠ ((.slice Ao43 t926.length co43) : Value).ownBlock ∧ some k_ ≠ ((.slice Ao136 t970.length co136) : Value).ownBlock) (.slice Ao34 t949.length co34) t949) ∧ Aside0 (Kd.R Kd.string 9 wc w.heap.size (fun k_ => some k_ ≠ ((.slice Ao22 t900.length co22) : Value).ownBlock ∧ some k_ ≠ ((.slice Ao26 t906.length co26) : Value).ownBlock ∧ some k_ ≠ ((.slice Ao30 t948.length co30) : Value).ownBlock ∧ some k_ ≠ ((.slice Ao38 t923.length co38) : Value).ownBlock ∧ some k_ ≠ ((.slice Ao44 t929.length co44) : Value).ownBlock ∧ some k_ ≠ ((.slice Ao130 t967.length co130) : Value).ownBlock ∧ some k_ ≠ ((.slice Ao137 t973.length co137) : Value).ownBlock) (.slice Ao35 t950.length co35) t950) ∧ Aside0 (Kd.R Kd.string 9 wc w.heap.size (fun k_ => some k_ ≠ ((.slice Ao22 t900.length co22) : Value).ownBlock ∧ some k_ ≠ ((.slice Ao26 t906.length co26) : Value).ownBlock ∧ some k_ ≠ ((.slice Ao30 t948.length co30) : Value).ownBlock ∧ some k_ ≠ ((.slice Ao35 t950.length co35) : Value).ownBlock ∧ some k_ ≠ ((.slice Ao44 t929.length co44) : Value).ownBlock ∧ some k_ ≠ ((.slice Ao130 t967.length co130) : Value).ownBlock ∧ some k_ ≠ ((.slice Ao137 t973.length co137) : Value).ownBlock) (.slice Ao38 t923.length co38) t953) ∧ Aside0 (Kd.R k72 72 wc w.heap.size (fun k_ => some k_ ≠ ((.slice Ao25 t903.length co25) : Value).ownBlock ∧ some k_ ≠ ((.slice Ao34 t949.length co34) : Value).ownBlock ∧ some k_ ≠ ((.slice Ao136 t970.length co136) : Value).ownBlock) (.slice Ao43 t926.length co43) t954) ∧ Aside0 (Kd.R Kd.string 9 wc w.heap.size (fun k_ => some k_ ≠ ((.slice Ao22 t900.length co22) : Value).ownBlock ∧ some k_ ≠ ((.slice Ao26 t906.length co26) : Value).ownBlock ∧ some k_ ≠ ((.slice Ao30 t948.length co30) : Value).ownBlock ∧ some k_ ≠ ((.slice Ao35 t950.length co35) : Value).ownBlock ∧ some k_ ≠ ((.slice Ao38 t923.length co38) : Value).ownBlock ∧ some k_ ≠ ((.slice Ao130 t967.length co130) : Value).ownBlock ∧ some k_ ≠ ((.slice Ao137 t973.length co137) : Value).ownBlock) (.slice Ao44 t929.length co44) t955) ∧ Aside0 (Kd.R Kd.string 9 wc w.heap.size (fun k_ => some k_ ≠ ((.slice Ao22 t900.length co22) : Value).ownBlock ∧ some k_ ≠ ((.slice Ao26 t906.length co26) : Value).ownBlock ∧ some k_ ≠ ((.slice Ao30 t948.length co30) : Value).ownBlock ∧ some k_ ≠ ((.slice Ao35 t950.length co35) : Value).ownBlock ∧ some k_ ≠ ((.slice Ao38 t923.length co38) : Value).ownBlock ∧ some k_ ≠ ((.slice Ao44 t929.length co44) : Value).ownBlock ∧ some k_ ≠ ((.slice Ao137 t973.length co137) : Value).ownBlock) (.slice Ao130 t967.length co130) t967) ∧ Aside0 (Kd.R k72 72 wc w.heap.size (fun k_ => some k_ ≠ ((.slice Ao25 t903.length co25) : Value).ownBlock ∧ some k_ ≠ ((.slice Ao34 t949.length co34) : Value).ownBlock ∧ some k_ ≠ ((.slice Ao43 t926.length co43) : Value).ownBlock) (.slice Ao136 t970.length co136) t970) ∧ Aside0 (Kd.R Kd.string 9 wc w.heap.size (fun k_ => some k_ ≠ ((.slice Ao22 t900.length co22) : Value).ownBlock ∧ some k_ ≠ ((.slice Ao26 t906.length co26) : Value).ownBlock ∧ some k_ ≠ ((.slice Ao30 t948.length co30) : Value).ownBlock ∧ some k_ ≠ ((.slice Ao35 t950.length co35) : Value).ownBlock ∧ some k_ ≠ ((.slice Ao38 t923.length co38) : Value).ownBlock ∧ some k_ ≠ ((.slice Ao44 t929.length co44) : Value).ownBlock ∧ some k_ ≠ ((.slice Ao130 t967.length co130) : Value).ownBlock) (.slice Ao137 t973.length co137) t973) ∧ Aside0 (wc.heap[gb888]? = some (.cells #[(.slice A0_0 l0_0.length c0_0), (.slice A0_1 l0_1.length c0_1), (.slice A0_2 l0_2.length c0_2), .int .i64 a0_3] 38 (0, 0))) ∧ Aside0 (wc.heap[gb911]? = some (.cells #[(.slice Ao22 t900.length co22), (.slice Ao25 t903.length co25), (.slice Ao26 t906.length co26), .int .i64 t909] 44 (0, 0))) ∧ Aside0 (wc.heap[gb922]? = some (.cells #[(.slice Ao30 t948.length co30), (.slice Ao34 t949.length co34), (.slice Ao35 t950.length co35), .int .i64 t921] 44 (0, 0))) ∧ Aside0 (wc.heap[gb934]? = some (.cells #[(.slice Ao38 t923.length co38), (.slice Ao43 t926.length co43), (.slice Ao44 t929.length co44), .int .i64 t932] 44 (0, 0))) ∧ Aside0 (wc.heap[gb978]? = some (.cells #[(.slice Ao130 t967.length co130), (.slice Ao136 t970.length co136), (.slice Ao137 t973.length co137), .int .i64 t976] 44 (0, 0))) ∧ Aside0 (Below w.heap.size w wc))
           case first =>
            have H := HC113.out
            clear HC113
            replace H := Option.bind_eq_some_iff.mp H
            obtain ⟨t979, A1380, H⟩ := H
            replace H : (if t979 = true then (laws_FnExactRecoverStore.j2 kj67 t952 (t977 != t910) t953 t954 t955 t932) else (laws_FnExactRecoverStore.j2 kj67 t952 true t953 t954 t955 t932)) = some r := H
            have A138 := Aside0.mk A1380
            clear A1380
            by_cases c139 : t979 = true
            ·
             subst c139
             rw [if_pos rfl] at H
             have H' := Aside0.mk H
             clear H
             have hnb140 := NB978_888.out
             have hnc140 := NB888_978.out
             have hnb141 := NB978_911.out
             have hnc141 := NB911_978.out
             have hnb142 := NB978_922.out
             have hnc142 := NB922_978.out
             have hnb143 := NB978_934.out
             have hnc143 := NB934_978.out
             obtain ⟨hcz144_0, hcz144_1, hcz144_2, hcz144_3⟩ := cz4 BK978
             obtain ⟨hfz144_0, hfz144_1, hfz144_2, hfz144_3⟩ := fz4 BK978
             have hnb145 := NB911_888.out
             have hnc145 := NB888_911.out
             have hnb146 := NB911_922.out
             have hnc146 := NB922_911.out
             have hnb147 := NB911_934.out
             have hnc147 := NB934_911.out
             obtain ⟨hcz148_0, hcz148_1, hcz148_2, hcz148_3⟩ := cz4 BK911
             obtain ⟨hfz148_0, hfz148_1, hfz148_2, hfz148_3⟩ := fz4 BK911
             go_wp2_with (first | ((with_reducible refine gate_callee (f := 29) rfl ?_); refine gL (some 81) rfl rfl Try.func29 (by kernel_rfl) rfl #[.agg #[.slice Ao130 t967.length co130, .slice Ao136 t970.length co136, .slice Ao137 t973.length co137, .int .i64 t976], .agg #[.slice Ao22 t900.length co22, .slice Ao25 t903.length co25, .slice Ao26 t906.length co26, .int .i64 t909]] rfl ?_; (with_reducible refine (laws_eqStore.calls kj67 _ _ t967 _ _ t970 _ _ t973 t976 _ _ t900 _ _ t903 _ _ t906 t909 true _ ?side1 ?side2 ?side3 ?side4 ?side5 ?side6 ?side7 ?side8 ?side9 ?side10 ?side11 ?side12 A138.out).mono ?_); (case side1 => exact rc HO969 BK978); (case side2 => exact (Kd.R_reads' HO969.out).2.1); (case side3 => exact rc HO972 BK978); (case side4 => exact (Kd.R_reads' HO972.out).2.1); (case side5 => exact rc HO975 BK978); (case side6 => exact (Kd.R_reads' HO975.out).2.1); (case side7 => exact rc HO_912000 BK978); (case side8 => exact (Kd.R_reads' HO_912000.out).2.1); (case side9 => exact rc HO_912001 BK978); (case side10 => exact (Kd.R_reads' HO_912001.out).2.1); (case side11 => exact rc HO_912002 BK978); (case side12 => exact (Kd.R_reads' HO_912002.out).2.1); rintro e w149 ⟨rfl, hb⟩; refine ⟨_, rfl, ?_⟩; replace HO_912000 := nf HO_912000 BK978 hb; replace HO_912001 := nf HO_912001 BK978 hb; replace HO_912002 := nf HO_912002 BK978 hb; replace HO_923000 := nf HO_923000 BK978 hb; replace HO_923001 := nf HO_923001 BK978 hb; replace HO_923002 := nf HO_923002 BK978 hb; replace HO_935000 := nf HO_935000 BK978 hb; replace HO_935001 := nf HO_935001 BK978 hb; replace HO_935002 := nf HO_935002 BK978 hb; replace HO959 := nf HO959 BK978 hb; replace HO962 := nf HO962 BK978 hb; replace HO965 := nf HO965 BK978 hb; replace HO969 := nf HO969 BK978 hb; replace HO972 := nf HO972 BK978 hb; replace HO975 := nf HO975 BK978 hb; replace BK888 := Aside0.mk (blk_below (bf BK888 NB888_978) hb); replace BK911 := Aside0.mk (blk_below (bf BK911 NB911_978) hb); replace BK922 := Aside0.mk (blk_below (bf BK922 NB922_978) hb); replace BK934 := Aside0.mk (blk_below (bf BK934 NB934_978) hb); replace BK978 := Aside0.mk (blk_below (g := gb978) (o := .cells #[.slice Ao130 t967.length co130, .slice Ao136 t970.length co136, .slice Ao137 t973.length co137, .int .i64 t976] 44 (0, 0)) (by (with_reducible repeat (first | refine blk_drewN ?_ _ | refine blk_drew ?_ | refine blk_alloc ?_ _)); refine blk_put (cs := #[.slice Ao130 t967.length co130, .slice Ao136 t970.length co136, .slice Ao137 t973.length co137, .int .i64 0]) ?_ 3 _ rfl; (with_reducible repeat (first | refine blk_drewN ?_ _ | refine blk_drew ?_ | refine blk_alloc ?_ _)); refine blk_put (cs := #[.slice Ao130 t967.length co130, .slice Ao136 t970.length co136, .slice none 0 0, .int .i64 0]) ?_ 2 _ rfl; (with_reducible repeat (first | refine blk_drewN ?_ _ | refine blk_drew ?_ | refine blk_alloc ?_ _)); refine blk_put (cs := #[.slice Ao130 t967.length co130, .slice none 0 0, .slice none 0 0, .int .i64 0]) ?_ 1 _ rfl; (with_reducible repeat (first | refine blk_drewN ?_ _ | refine blk_drew ?_ | refine blk_alloc ?_ _)); refine blk_put (cs := #[.slice none 0 0, .slice none 0 0, .slice none 0 0, .int .i64 0]) ?_ 0 _ rfl; (with_reducible repeat (first | refine blk_drewN ?_ _ | refine blk_drew ?_ | refine blk_alloc ?_ _)); exact BK978.out) hb); replace HB := Aside0.mk (below_step (bs5 HB GE888 GE911 GE922 GE934 GE978) hb); (try clear hb); (try clear hb2); (try clear hk); (try clear hi)))
             go_meet
             case rel => exact ⟨_, ((t977 != t910)), (by first | rfl | (simp; done) | (simp [*]; done)), H', ⟨by have := HJ10.out; have := HJ67.out; first | omega | exact Nat.le_refl _⟩, ⟨by (try simp only [hl923000_67]); (try simp only [hl923001_67]); (try simp only [hl923002_67]); (with_reducible repeat (first | apply Kd.R_alloc | apply Kd.R_drewN | apply Kd.R_drew)); exact Kd.R_mono HO_912000.out (fun _ hk => ⟨hk.1.1.1.1.1, ⟨hk.1.1.1.1.2.1, ⟨hk.1.1.1.1.2.2.1, ⟨hk.1.1.1.1.2.2.2.1, ⟨hk.1.1.1.1.2.2.2.2, ⟨hk.1.2, hk.2⟩⟩⟩⟩⟩⟩)⟩, ⟨by (try simp only [hl923000_67]); (try simp only [hl923001_67]); (try simp only [hl923002_67]); (with_reducible repeat (first | apply Kd.R_alloc | apply Kd.R_drewN | apply Kd.R_drew)); exact Kd.R_mono HO_912001.out (fun _ hk => ⟨hk.1.1.1, ⟨hk.1.1.2, hk.2⟩⟩)⟩, ⟨by (try simp only [hl923000_67]); (try simp only [hl923001_67]); (try simp only [hl923002_67]); (with_reducible repeat (first | apply Kd.R_alloc | apply Kd.R_drewN | apply Kd.R_drew)); exact Kd.R_mono HO_912002.out (fun _ hk => ⟨hk.1.1.1.1.1, ⟨hk.1.1.1.1.2.1, ⟨hk.1.1.1.1.2.2.1, ⟨hk.1.1.1.1.2.2.2.1, ⟨hk.1.1.1.1.2.2.2.2, ⟨hk.1.2, hk.2⟩⟩⟩⟩⟩⟩)⟩, ⟨by (try simp only [hl923000_67]); (try simp only [hl923001_67]); (try simp only [hl923002_67]); (with_reducible repeat (first | apply Kd.R_alloc | apply Kd.R_drewN | apply Kd.R_drew)); exact Kd.R_mono HO_923000.out (fun _ hk => ⟨hk.1.1.1.1.1, ⟨hk.1.1.1.1.2.1, ⟨hk.1.1.1.1.2.2.1, ⟨hk.1.1.1.1.2.2.2.1, ⟨hk.1.1.1.1.2.2.2.2, ⟨hk.1.2, hk.2⟩⟩⟩⟩⟩⟩)⟩, ⟨by (try simp only [hl923000_67]); (try simp only [hl923001_67]); (try simp only [hl923002_67]); (with_reducible repeat (first | apply Kd.R_alloc | apply Kd.R_drewN | apply Kd.R_drew)); exact Kd.R_mono HO_923001.out (fun _ hk => ⟨hk.1.1.1, ⟨hk.1.1.2, hk.2⟩⟩)⟩, ⟨by (try simp only [hl923000_67]); (try simp only [hl923001_67]); (try simp only [hl923002_67]); (with_reducible repeat (first | apply Kd.R_alloc | apply Kd.R_drewN | apply Kd.R_drew)); exact Kd.R_mono HO_923002.out (fun _ hk => ⟨hk.1.1.1.1.1, ⟨hk.1.1.1.1.2.1, ⟨hk.1.1.1.1.2.2.1, ⟨hk.1.1.1.1.2.2.2.1, ⟨hk.1.1.1.1.2.2.2.2, ⟨hk.1.2, hk.2⟩⟩⟩⟩⟩⟩)⟩, ⟨by (try simp only [hl923000_67]); (try simp only [hl923001_67]); (try simp only [hl923002_67]); (with_reducible repeat (first | apply Kd.R_alloc | apply Kd.R_drewN | apply Kd.R_drew)); exact Kd.R_mono HO_935000.out (fun _ hk => ⟨hk.1.1.1.1.1, ⟨hk.1.1.1.1.2.1, ⟨hk.1.1.1.1.2.2.1, ⟨hk.1.1.1.1.2.2.2.1, ⟨hk.1.1.1.1.2.2.2.2, ⟨hk.1.2, hk.2⟩⟩⟩⟩⟩⟩)⟩, ⟨by (try simp only [hl923000_67]); (try simp only [hl923001_67]); (try simp only [hl923002_67]); (with_reducible repeat (first | apply Kd.R_alloc | apply Kd.R_drewN | apply Kd.R_drew)); exact Kd.R_mono HO_935001.out (fun _ hk => ⟨hk.1.1.1, ⟨hk.1.1.2, hk.2⟩⟩)⟩, ⟨by (try simp only [hl923000_67]); (try simp only [hl923001_67]); (try simp only [hl923002_67]); (with_reducible repeat (first | apply Kd.R_alloc | apply Kd.R_drewN | apply Kd.R_drew)); exact Kd.R_mono HO_935002.out (fun _ hk => ⟨hk.1.1.1.1.1, ⟨hk.1.1.1.1.2.1, ⟨hk.1.1.1.1.2.2.1, ⟨hk.1.1.1.1.2.2.2.1, ⟨hk.1.1.1.1.2.2.2.2, ⟨hk.1.2, hk.2⟩⟩⟩⟩⟩⟩)⟩, ⟨by (try simp only [hl923000_67]); (try simp only [hl923001_67]); (try simp only [hl923002_67]); (with_reducible repeat (first | apply Kd.R_alloc | apply Kd.R_drewN | apply Kd.R_drew)); exact Kd.R_mono HO969.out (fun _ hk => ⟨hk.1.1.1.1.1.1.1.2, ⟨hk.1.1.1.1.1.1.2, ⟨hk.1.1.1.1.1.2, ⟨hk.1.1.1.1.2, ⟨hk.1.1.1.2, ⟨hk.1.1.2, hk.1.1.1.1.1.1.1.1⟩⟩⟩⟩⟩⟩)⟩, ⟨by (try simp only [hl923000_67]); (try simp only [hl923001_67]); (try simp only [hl923002_67]); (with_reducible repeat (first | apply Kd.R_alloc | apply Kd.R_drewN | apply Kd.R_drew)); exact Kd.R_mono HO972.out (fun _ hk => ⟨hk.1.1.1.2, ⟨hk.1.1.2, hk.1.2⟩⟩)⟩, ⟨by (try simp only [hl923000_67]); (try simp only [hl923001_67]); (try simp only [hl923002_67]); (with_reducible repeat (first | apply Kd.R_alloc | apply Kd.R_drewN | apply Kd.R_drew)); exact Kd.R_mono HO975.out (fun _ hk => ⟨hk.1.1.1.1.1.1.1.2, ⟨hk.1.1.1.1.1.1.2, ⟨hk.1.1.1.1.1.2, ⟨hk.1.1.1.1.2, ⟨hk.1.1.1.2, ⟨hk.1.1.2, hk.1.1.1.1.1.1.1.1⟩⟩⟩⟩⟩⟩)⟩, ⟨by (try simp only [hl923000_67]); (try simp only [hl923001_67]); (try simp only [hl923002_67]); (with_reducible repeat (first | refine blk_drewN ?_ _ | refine blk_drew ?_ | refine blk_alloc ?_ _)); exact BK888.out⟩, ⟨by (try simp only [hl923000_67]); (try simp only [hl923001_67]); (try simp only [hl923002_67]); (with_reducible repeat (first | refine blk_drewN ?_ _ | refine blk_drew ?_ | refine blk_alloc ?_ _)); exact BK911.out⟩, ⟨by (try simp only [hl923000_67]); (try simp only [hl923001_67]); (try simp only [hl923002_67]); (with_reducible repeat (first | refine blk_drewN ?_ _ | refine blk_drew ?_ | refine blk_alloc ?_ _)); exact BK922.out⟩, ⟨by (try simp only [hl923000_67]); (try simp only [hl923001_67]); (try simp only [hl923002_67]); (with_reducible repeat (first | refine blk_drewN ?_ _ | refine blk_drew ?_ | refine blk_alloc ?_ _)); exact BK934.out⟩, ⟨by (try simp only [hl923000_67]); (try simp only [hl923001_67]); (try simp only [hl923002_67]); (with_reducible repeat (first | refine blk_drewN ?_ _ | refine blk_drew ?_ | refine blk_alloc ?_ _)); exact BK978.out⟩, ⟨bs5 HB GE888 GE911 GE922 GE934 GE978⟩⟩
            ·
             replace c139 := Bool.eq_false_iff.mpr c139
             subst c139
             rw [if_neg (show ¬ (false = true) by decide)] at H
             have H' := Aside0.mk H
             clear H
             have hnb150 := NB978_888.out
             have hnc150 := NB888_978.out
             have hnb151 := NB978_911.out
             have hnc151 := NB911_978.out
             have hnb152 := NB978_922.out
             have hnc152 := NB922_978.out
             have hnb153 := NB978_934.out
             have hnc153 := NB934_978.out
             obtain ⟨hcz154_0, hcz154_1, hcz154_2, hcz154_3⟩ := cz4 BK978
             obtain ⟨hfz154_0, hfz154_1, hfz154_2, hfz154_3⟩ := fz4 BK978
             have hnb155 := NB911_888.out
             have hnc155 := NB888_911.out
             have hnb156 := NB911_922.out
             have hnc156 := NB922_911.out
             have hnb157 := NB911_934.out
             have hnc157 := NB934_911.out
             obtain ⟨hcz158_0, hcz158_1, hcz158_2, hcz158_3⟩ := cz4 BK911
             obtain ⟨hfz158_0, hfz158_1, hfz158_2, hfz158_3⟩ := fz4 BK911
             go_wp2_with (first | ((with_reducible refine gate_callee (f := 29) rfl ?_); refine gL (some 81) rfl rfl Try.func29 (by kernel_rfl) rfl #[.agg #[.slice Ao130 t967.length co130, .slice Ao136 t970.length co136, .slice Ao137 t973.length co137, .int .i64 t976], .agg #[.slice Ao22 t900.length co22, .slice Ao25 t903.length co25, .slice Ao26 t906.length co26, .int .i64 t909]] rfl ?_; (with_reducible refine (laws_eqStore.calls kj67 _ _ t967 _ _ t970 _ _ t973 t976 _ _ t900 _ _ t903 _ _ t906 t909 false _ ?side1 ?side2 ?side3 ?side4 ?side5 ?side6 ?side7 ?side8 ?side9 ?side10 ?side11 ?side12 A138.out).mono ?_); (case side1 => exact rc HO969 BK978); (case side2 => exact (Kd.R_reads' HO969.out).2.1); (case side3 => exact rc HO972 BK978); (case side4 => exact (Kd.R_reads' HO972.out).2.1); (case side5 => exact rc HO975 BK978); (case side6 => exact (Kd.R_reads' HO975.out).2.1); (case side7 => exact rc HO_912000 BK978); (case side8 => exact (Kd.R_reads' HO_912000.out).2.1); (case side9 => exact rc HO_912001 BK978); (case side10 => exact (Kd.R_reads' HO_912001.out).2.1); (case side11 => exact rc HO_912002 BK978); (case side12 => exact (Kd.R_reads' HO_912002.out).2.1); rintro e w159 ⟨rfl, hb⟩; refine ⟨_, rfl, ?_⟩; replace HO_912000 := nf HO_912000 BK978 hb; replace HO_912001 := nf HO_912001 BK978 hb; replace HO_912002 := nf HO_912002 BK978 hb; replace HO_923000 := nf HO_923000 BK978 hb; replace HO_923001 := nf HO_923001 BK978 hb; replace HO_923002 := nf HO_923002 BK978 hb; replace HO_935000 := nf HO_935000 BK978 hb; replace HO_935001 := nf HO_935001 BK978 hb; replace HO_935002 := nf HO_935002 BK978 hb; replace HO959 := nf HO959 BK978 hb; replace HO962 := nf HO962 BK978 hb; replace HO965 := nf HO965 BK978 hb; replace HO969 := nf HO969 BK978 hb; replace HO972 := nf HO972 BK978 hb; replace HO975 := nf HO975 BK978 hb; replace BK888 := Aside0.mk (blk_below (bf BK888 NB888_978) hb); replace BK911 := Aside0.mk (blk_below (bf BK911 NB911_978) hb); replace BK922 := Aside0.mk (blk_below (bf BK922 NB922_978) hb); replace BK934 := Aside0.mk (blk_below (bf BK934 NB934_978) hb); replace BK978 := Aside0.mk (blk_below (g := gb978) (o := .cells #[.slice Ao130 t967.length co130, .slice Ao136 t970.length co136, .slice Ao137 t973.length co137, .int .i64 t976] 44 (0, 0)) (by (with_reducible repeat (first | refine blk_drewN ?_ _ | refine blk_drew ?_ | refine blk_alloc ?_ _)); refine blk_put (cs := #[.slice Ao130 t967.length co130, .slice Ao136 t970.length co136, .slice Ao137 t973.length co137, .int .i64 0]) ?_ 3 _ rfl; (with_reducible repeat (first | refine blk_drewN ?_ _ | refine blk_drew ?_ | refine blk_alloc ?_ _)); refine blk_put (cs := #[.slice Ao130 t967.length co130, .slice Ao136 t970.length co136, .slice none 0 0, .int .i64 0]) ?_ 2 _ rfl; (with_reducible repeat (first | refine blk_drewN ?_ _ | refine blk_drew ?_ | refine blk_alloc ?_ _)); refine blk_put (cs := #[.slice Ao130 t967.length co130, .slice none 0 0, .slice none 0 0, .int .i64 0]) ?_ 1 _ rfl; (with_reducible repeat (first | refine blk_drewN ?_ _ | refine blk_drew ?_ | refine blk_alloc ?_ _)); refine blk_put (cs := #[.slice none 0 0, .slice none 0 0, .slice none 0 0, .int .i64 0]) ?_ 0 _ rfl; (with_reducible repeat (first | refine blk_drewN ?_ _ | refine blk_drew ?_ | refine blk_alloc ?_ _)); exact BK978.out) hb); replace HB := Aside0.mk (below_step (bs5 HB GE888 GE911 GE922 GE934 GE978) hb); (try clear hb); (try clear hb2); (try clear hk); (try clear hi)))
             go_meet
             case rel => exact ⟨_, (true), (by first | rfl | (simp; done) | (simp [*]; done)), H', ⟨by have := HJ10.out; have := HJ67.out; first | omega | exact Nat.le_refl _⟩, ⟨by (try simp only [hl923000_67]); (try simp only [hl923001_67]); (try simp only [hl923002_67]); (with_reducible repeat (first | apply Kd.R_alloc | apply Kd.R_drewN | apply Kd.R_drew)); exact Kd.R_mono HO_912000.out (fun _ hk => ⟨hk.1.1.1.1.1, ⟨hk.1.1.1.1.2.1, ⟨hk.1.1.1.1.2.2.1, ⟨hk.1.1.1.1.2.2.2.1, ⟨hk.1.1.1.1.2.2.2.2, ⟨hk.1.2, hk.2⟩⟩⟩⟩⟩⟩)⟩, ⟨by (try simp only [hl923000_67]); (try simp only [hl923001_67]); (try simp only [hl923002_67]); (with_reducible repeat (first | apply Kd.R_alloc | apply Kd.R_drewN | apply Kd.R_drew)); exact Kd.R_mono HO_912001.out (fun _ hk => ⟨hk.1.1.1, ⟨hk.1.1.2, hk.2⟩⟩)⟩, ⟨by (try simp only [hl923000_67]); (try simp only [hl923001_67]); (try simp only [hl923002_67]); (with_reducible repeat (first | apply Kd.R_alloc | apply Kd.R_drewN | apply Kd.R_drew)); exact Kd.R_mono HO_912002.out (fun _ hk => ⟨hk.1.1.1.1.1, ⟨hk.1.1.1.1.2.1, ⟨hk.1.1.1.1.2.2.1, ⟨hk.1.1.1.1.2.2.2.1, ⟨hk.1.1.1.1.2.2.2.2, ⟨hk.1.2, hk.2⟩⟩⟩⟩⟩⟩)⟩, ⟨by (try simp only [hl923000_67]); (try simp only [hl923001_67]); (try simp only [hl923002_67]); (with_reducible repeat (first | apply Kd.R_alloc | apply Kd.R_drewN | apply Kd.R_drew)); exact Kd.R_mono HO_923000.out (fun _ hk => ⟨hk.1.1.1.1.1, ⟨hk.1.1.1.1.2.1, ⟨hk.1.1.1.1.2.2.1, ⟨hk.1.1.1.1.2.2.2.1, ⟨hk.1.1.1.1.2.2.2.2, ⟨hk.1.2, hk.2⟩⟩⟩⟩⟩⟩)⟩, ⟨by (try simp only [hl923000_67]); (try simp only [hl923001_67]); (try simp only [hl923002_67]); (with_reducible repeat (first | apply Kd.R_alloc | apply Kd.R_drewN | apply Kd.R_drew)); exact Kd.R_mono HO_923001.out (fun _ hk => ⟨hk.1.1.1, ⟨hk.1.1.2, hk.2⟩⟩)⟩, ⟨by (try simp only [hl923000_67]); (try simp only [hl923001_67]); (try simp only [hl923002_67]); (with_reducible repeat (first | apply Kd.R_alloc | apply Kd.R_drewN | apply Kd.R_drew)); exact Kd.R_mono HO_923002.out (fun _ hk => ⟨hk.1.1.1.1.1, ⟨hk.1.1.1.1.2.1, ⟨hk.1.1.1.1.2.2.1, ⟨hk.1.1.1.1.2.2.2.1, ⟨hk.1.1.1.1.2.2.2.2, ⟨hk.1.2, hk.2⟩⟩⟩⟩⟩⟩)⟩, ⟨by (try simp only [hl923000_67]); (try simp only [hl923001_67]); (try simp only [hl923002_67]); (with_reducible repeat (first | apply Kd.R_alloc | apply Kd.R_drewN | apply Kd.R_drew)); exact Kd.R_mono HO_935000.out (fun _ hk => ⟨hk.1.1.1.1.1, ⟨hk.1.1.1.1.2.1, ⟨hk.1.1.1.1.2.2.1, ⟨hk.1.1.1.1.2.2.2.1, ⟨hk.1.1.1.1.2.2.2.2, ⟨hk.1.2, hk.2⟩⟩⟩⟩⟩⟩)⟩, ⟨by (try simp only [hl923000_67]); (try simp only [hl923001_67]); (try simp only [hl923002_67]); (with_reducible repeat (first | apply Kd.R_alloc | apply Kd.R_drewN | apply Kd.R_drew)); exact Kd.R_mono HO_935001.out (fun _ hk => ⟨hk.1.1.1, ⟨hk.1.1.2, hk.2⟩⟩)⟩, ⟨by (try simp only [hl923000_67]); (try simp only [hl923001_67]); (try simp only [hl923002_67]); (with_reducible repeat (first | apply Kd.R_alloc | apply Kd.R_drewN | apply Kd.R_drew)); exact Kd.R_mono HO_935002.out (fun _ hk => ⟨hk.1.1.1.1.1, ⟨hk.1.1.1.1.2.1, ⟨hk.1.1.1.1.2.2.1, ⟨hk.1.1.1.1.2.2.2.1, ⟨hk.1.1.1.1.2.2.2.2, ⟨hk.1.2, hk.2⟩⟩⟩⟩⟩⟩)⟩, ⟨by (try simp only [hl923000_67]); (try simp only [hl923001_67]); (try simp only [hl923002_67]); (with_reducible repeat (first | apply Kd.R_alloc | apply Kd.R_drewN | apply Kd.R_drew)); exact Kd.R_mono HO969.out (fun _ hk => ⟨hk.1.1.1.1.1.1.1.2, ⟨hk.1.1.1.1.1.1.2, ⟨hk.1.1.1.1.1.2, ⟨hk.1.1.1.1.2, ⟨hk.1.1.1.2, ⟨hk.1.1.2, hk.1.1.1.1.1.1.1.1⟩⟩⟩⟩⟩⟩)⟩, ⟨by (try simp only [hl923000_67]); (try simp only [hl923001_67]); (try simp only [hl923002_67]); (with_reducible repeat (first | apply Kd.R_alloc | apply Kd.R_drewN | apply Kd.R_drew)); exact Kd.R_mono HO972.out (fun _ hk => ⟨hk.1.1.1.2, ⟨hk.1.1.2, hk.1.2⟩⟩)⟩, ⟨by (try simp only [hl923000_67]); (try simp only [hl923001_67]); (try simp only [hl923002_67]); (with_reducible repeat (first | apply Kd.R_alloc | apply Kd.R_drewN | apply Kd.R_drew)); exact Kd.R_mono HO975.out (fun _ hk => ⟨hk.1.1.1.1.1.1.1.2, ⟨hk.1.1.1.1.1.1.2, ⟨hk.1.1.1.1.1.2, ⟨hk.1.1.1.1.2, ⟨hk.1.1.1.2, ⟨hk.1.1.2, hk.1.1.1.1.1.1.1.1⟩⟩⟩⟩⟩⟩)⟩, ⟨by (try simp only [hl923000_67]); (try simp only [hl923001_67]); (try simp only [hl923002_67]); (with_reducible repeat (first | refine blk_drewN ?_ _ | refine blk_drew ?_ | refine blk_alloc ?_ _)); exact BK888.out⟩, ⟨by (try simp only [hl923000_67]); (try simp only [hl923001_67]); (try simp only [hl923002_67]); (with_reducible repeat (first | refine blk_drewN ?_ _ | refine blk_drew ?_ | refine blk_alloc ?_ _)); exact BK911.out⟩, ⟨by (try simp only [hl923000_67]); (try simp only [hl923001_67]); (try simp only [hl923002_67]); (with_reducible repeat (first | refine blk_drewN ?_ _ | refine blk_drew ?_ | refine blk_alloc ?_ _)); exact BK922.out⟩, ⟨by (try simp only [hl923000_67]); (try simp only [hl923001_67]); (try simp only [hl923002_67]); (with_reducible repeat (first | refine blk_drewN ?_ _ | refine blk_drew ?_ | refine blk_alloc ?_ _)); exact BK934.out⟩, ⟨by (try simp only [hl923000_67]); (try simp only [hl923001_67]); (try simp only [hl923002_67]); (with_reducible repeat (first | refine blk_drewN ?_ _ | refine blk_drew ?_ | refine blk_alloc ?_ _)); exact BK978.out⟩, ⟨bs5 HB GE888 GE911 GE922 GE934 GE978⟩⟩
           case rest =>
            clear HC113
            try clear c1
            try clear c2
            try clear p2
            try clear c3
            try clear c3b0
            try clear c4
            try clear c5
            try clear c6
            try clear c7
            try clear c8
            try clear c9
            try clear c10
            try clear c11
            try clear c12
            try clear c13
            try clear c14
            try clear c15
            try clear c23
            try clear c25
            try clear c27
            try clear c29
            try clear c31
            try clear c32
            try clear c33
            try clear c39
            try clear c40
            try clear c41
            try clear c43
            try clear c44
            try clear c46
            try clear c47
            try clear c48
            try clear c49
            try clear c51
            try clear c52
            try clear c55
            try clear c56
            try clear c57
            try clear c59
            try clear c60
            try clear c63
            try clear c66
            try clear c75
            try clear c76
            try clear c77
            try clear c80
            try clear c80b0
            try clear c82
            try clear c83
            try clear c84
            try clear c85
            try clear c87
            try clear c88
            try clear c91
            try clear c92
            try clear c93
            try clear c95
            try clear c96
            try clear c99
            try clear c102
            try clear c102b0
            try clear c103
            try clear c104
            try clear c105
            try clear c110
            try clear c110b0
            try clear c110b1
            try clear c114
            try clear c115
            try clear c116
            try clear c121
            try clear c122
            try clear c131
            try clear c132
            try clear c133
            try clear c134
            try clear c139
            try clear c140
            try clear c141
            try clear c142
            try clear c143
            try clear c145
            try clear c146
            try clear c147
            try clear c150
            try clear c151
            try clear c152
            try clear c153
            try clear c155
            try clear c156
            try clear c157
            try clear hcz106_0 hcz106_1 hcz106_2 hcz106_3
            try clear hcz108_0 hcz108_1 hcz108_2 hcz108_3
            try clear hcz117_0 hcz117_1 hcz117_2 hcz117_3
            try clear hcz119_0 hcz119_1 hcz119_2 hcz119_3
            try clear hcz123_0 hcz123_1 hcz123_2 hcz123_3
            try clear hcz135_0 hcz135_1 hcz135_2 hcz135_3
            try clear hcz13_0 hcz13_1 hcz13_2 hcz13_3
            try clear hcz144_0 hcz144_1 hcz144_2 hcz144_3
            try clear hcz148_0 hcz148_1 hcz148_2 hcz148_3
            try clear hcz154_0 hcz154_1 hcz154_2 hcz154_3
            try clear hcz158_0 hcz158_1 hcz158_2 hcz158_3
            try clear hcz15_0 hcz15_1 hcz15_2 hcz15_3
            try clear hcz24_0 hcz24_1 hcz24_2 hcz24_3
            try clear hcz27_0 hcz27_1 hcz27_2 hcz27_3
            try clear hcz33_0 hcz33_1 hcz33_2 hcz33_3
            try clear hcz42_0 hcz42_1 hcz42_2 hcz42_3
            try clear hcz50_0 hcz50_1 hcz50_2 hcz50_3
            try clear hcz53_0 hcz53_1 hcz53_2 hcz53_3
            try clear hcz58_0 hcz58_1 hcz58_2 hcz58_3
            try clear hcz5_0 hcz5_1 hcz5_2 hcz5_3
            try clear hcz61_0 hcz61_1 hcz61_2 hcz61_3
            try clear hcz78_0 hcz78_1 hcz78_2 hcz78_3
            try clear hcz86_0 hcz86_1 hcz86_2 hcz86_3
            try clear hcz89_0 hcz89_1 hcz89_2 hcz89_3
            try clear hcz94_0 hcz94_1 hcz94_2 hcz94_3
            try clear hcz97_0 hcz97_1 hcz97_2 hcz97_3
            try clear hfz106_0 hfz106_1 hfz106_2 hfz106_3
            try clear hfz108_0 hfz108_1 hfz108_2 hfz108_3
            try clear hfz117_0 hfz117_1 hfz117_2 hfz117_3
            try clear hfz119_0 hfz119_1 hfz119_2 hfz119_3
            try clear hfz123_0 hfz123_1 hfz123_2 hfz123_3
            try clear hfz135_0 hfz135_1 hfz135_2 hfz135_3
            try clear hfz13_0 hfz13_1 hfz13_2 hfz13_3
            try clear hfz144_0 hfz144_1 hfz144_2 hfz144_3
            try clear hfz148_0 hfz148_1 hfz148_2 hfz148_3
            try clear hfz154_0 hfz154_1 hfz154_2 hfz154_3
            try clear hfz158_0 hfz158_1 hfz158_2 hfz158_3
            try clear hfz15_0 hfz15_1 hfz15_2 hfz15_3
            try clear hfz24_0 hfz24_1 hfz24_2 hfz24_3
            try clear hfz27_0 hfz27_1 hfz27_2 hfz27_3
            try clear hfz33_0 hfz33_1 hfz33_2 hfz33_3
            try clear hfz42_0 hfz42_1 hfz42_2 hfz42_3
            try clear hfz50_0 hfz50_1 hfz50_2 hfz50_3
            try clear hfz53_0 hfz53_1 hfz53_2 hfz53_3
            try clear hfz58_0 hfz58_1 hfz58_2 hfz58_3
            try clear hfz5_0 hfz5_1 hfz5_2 hfz5_3
            try clear hfz61_0 hfz61_1 hfz61_2 hfz61_3
            try clear hfz78_0 hfz78_1 hfz78_2 hfz78_3
            try clear hfz86_0 hfz86_1 hfz86_2 hfz86_3
            try clear hfz89_0 hfz89_1 hfz89_2 hfz89_3
            try clear hfz94_0 hfz94_1 hfz94_2 hfz94_3
            try clear hfz97_0 hfz97_1 hfz97_2 hfz97_3
            try clear p2
            obtain ⟨kq, x87_112, rfl, HA, HJ112, HO_912000, HO_912001, HO_912002, HO_923000, HO_923001, HO_923002, HO_935000, HO_935001, HO_935002, HO_979000, HO_979001, HO_979002, BK888, BK911, BK922, BK934, BK978, HB⟩ := hcut
            have hl935000_112 := (Kd.R_reads' HO_935000.out).1
            rw [hl935000_112] at HO_935000
            (try simp only [hl935000_112])
            (try simp only [hl935000_112] at BK888)
            (try simp only [hl935000_112] at BK911)
            (try simp only [hl935000_112] at BK922)
            (try simp only [hl935000_112] at BK934)
            (try simp only [hl935000_112] at BK978)
            (try simp only [hl935000_112] at HO_912000)
            (try simp only [hl935000_112] at HO_912001)
            (try simp only [hl935000_112] at HO_912002)
            (try simp only [hl935000_112] at HO_923000)
            (try simp only [hl935000_112] at HO_923001)
            (try simp only [hl935000_112] at HO_923002)
            (try simp only [hl935000_112] at HO_935001)
            (try simp only [hl935000_112] at HO_935002)
            (try simp only [hl935000_112] at HO_979000)
            (try simp only [hl935000_112] at HO_979001)
            (try simp only [hl935000_112] at HO_979002)
            have hl935001_112 := (Kd.R_reads' HO_935001.out).1
            rw [hl935001_112] at HO_935001
            (try simp only [hl935001_112])
            (try simp only [hl935001_112] at BK888)
            (try simp only [hl935001_112] at BK911)
            (try simp only [hl935001_112] at BK922)
            (try simp only [hl935001_112] at BK934)
            (try simp only [hl935001_112] at BK978)
            (try simp only [hl935001_112] at HO_912000)
            (try simp only [hl935001_112] at HO_912001)
            (try simp only [hl935001_112] at HO_912002)
            (try simp only [hl935001_112] at HO_923000)
            (try simp only [hl935001_112] at HO_923001)
            (try simp only [hl935001_112] at HO_923002)
            (try simp only [hl935001_112] at HO_935000)
            (try simp only [hl935001_112] at HO_935002)
            (try simp only [hl935001_112] at HO_979000)
            (try simp only [hl935001_112] at HO_979001)
            (try simp only [hl935001_112] at HO_979002)
            have hl935002_112 := (Kd.R_reads' HO_935002.out).1
            rw [hl935002_112] at HO_935002
            (try simp only [hl935002_112])
            (try simp only [hl935002_112] at BK888)
            (try simp only [hl935002_112] at BK911)
            (try simp only [hl935002_112] at BK922)
            (try simp only [hl935002_112] at BK934)
            (try simp only [hl935002_112] at BK978)
            (try simp only [hl935002_112] at HO_912000)
            (try simp only [hl935002_112] at HO_912001)
            (try simp only [hl935002_112] at HO_912002)
            (try simp only [hl935002_112] at HO_923000)
            (try simp only [hl935002_112] at HO_923001)
            (try simp only [hl935002_112] at HO_923002)
            (try simp only [hl935002_112] at HO_935000)
            (try simp only [hl935002_112] at HO_935001)
            (try simp only [hl935002_112] at HO_979000)
            (try simp only [hl935002_112] at HO_979001)
            (try simp only [hl935002_112] at HO_979002)
            cases kq with
            | zero => exact absurd HA.out (by simp [laws_FnExactRecoverStore.j2])
            | succ kj112 =>
             have H := HA.out
             clear HA
             simp only [laws_FnExactRecoverStore.j2] at H
             by_cases c160 : x87_112 = true
             ·
              subst c160
              rw [if_pos rfl] at H
              obtain rfl := Option.some.inj H
              go_wp2
              go_ret
              exact ⟨by first | rfl | (simp [errW_none, errW_some] <;> rfl) | (simp [*, errW_none, errW_some] <;> rfl), bs5 HB GE888 GE911 GE922 GE934 GE978⟩
             ·
              replace c160 := Bool.eq_false_iff.mpr c160
              subst c160
              rw [if_neg (show ¬ (false = true) by decide)] at H
              replace H := Option.bind_eq_some_iff.mp H
              obtain ⟨t980, A1610, H⟩ := H
              replace H : (if t980 < 0 then (some false) else (if t980 = t952 then (some true) else (some false))) = some r := H
              have A161 := Aside0.mk A1610
              clear A1610
              by_cases c162 : t980 < 0
              ·
               rw [if_pos c162] at H
               have c162b0 : decide (t980 < 0) = true := decide_eq_true c162
               clear c162
               obtain rfl := Option.some.inj H
               have hnb163 := NB934_888.out
               have hnc163 := NB888_934.out
               have hnb164 := NB934_911.out
               have hnc164 := NB911_934.out
               have hnb165 := NB934_922.out
               have hnc165 := NB922_934.out
               have hnb166 := NB934_978.out
               have hnc166 := NB978_934.out
               obtain ⟨hcz167_0, hcz167_1, hcz167_2, hcz167_3⟩ := cz4 BK934
               obtain ⟨hfz167_0, hfz167_1, hfz167_2, hfz167_3⟩ := fz4 BK934
               go_wp2_with (first | ((with_reducible refine gate_callee (f := 33) rfl ?_); refine gL (some 90) rfl rfl Try.func33 (by kernel_rfl) rfl #[.agg #[.slice Ao38 t953.length co38, .slice Ao43 t954.length co43, .slice Ao44 t955.length co44, .int .i64 t932], .int .i64 1] rfl ?_; (with_reducible refine (laws_heldStore.calls kj112 _ _ t953 _ _ t954 _ _ t955 t932 1 t980 _ ?side1 ?side2 ?side3 ?side4 ?side5 ?side6 A161.out).mono ?_); (case side1 => exact rc0 HO_935000); (case side2 => exact (Kd.R_reads' HO_935000.out).2.1); (case side3 => exact rc0 HO_935001); (case side4 => exact (Kd.R_reads' HO_935001.out).2.1); (case side5 => exact rc0 HO_935002); (case side6 => exact (Kd.R_reads' HO_935002.out).2.1); rintro e w168 ⟨rfl, hb⟩; refine ⟨_, rfl, ?_⟩; replace HO_912000 := nr HO_912000 hb; replace HO_912001 := nr HO_912001 hb; replace HO_912002 := nr HO_912002 hb; replace HO_923000 := nr HO_923000 hb; replace HO_923001 := nr HO_923001 hb; replace HO_923002 := nr HO_923002 hb; replace HO_935000 := nr HO_935000 hb; replace HO_935001 := nr HO_935001 hb; replace HO_935002 := nr HO_935002 hb; replace HO_979000 := nr HO_979000 hb; replace HO_979001 := nr HO_979001 hb; replace HO_979002 := nr HO_979002 hb; replace BK888 := nb BK888 hb; replace BK911 := nb BK911 hb; replace BK922 := nb BK922 hb; replace BK934 := nb BK934 hb; replace BK978 := nb BK978 hb; replace HB := Aside0.mk (below_step (bs5 HB GE888 GE911 GE922 GE934 GE978) hb); (try clear hb); (try clear hb2); (try clear hk); (try clear hi)))
               go_ret
               exact ⟨by first | rfl | (simp [errW_none, errW_some] <;> rfl) | (simp [*, errW_none, errW_some] <;> rfl), bs5 HB GE888 GE911 GE922 GE934 GE978⟩
              ·
               rw [if_neg c162] at H
               have c162b0 : decide (t980 < 0) = false := decide_eq_false c162
               clear c162
               by_cases c169 : t980 = t952
               ·
                rw [if_pos c169] at H
                have c169b0 : (t980 == t952) = true := beq_iff_eq.mpr c169
                have c169b1 : (t980 != t952) = false := bne_eq_false_iff_eq.mpr c169
                clear c169
                obtain rfl := Option.some.inj H
                have hnb170 := NB934_888.out
                have hnc170 := NB888_934.out
                have hnb171 := NB934_911.out
                have hnc171 := NB911_934.out
                have hnb172 := NB934_922.out
                have hnc172 := NB922_934.out
                have hnb173 := NB934_978.out
                have hnc173 := NB978_934.out
                obtain ⟨hcz174_0, hcz174_1, hcz174_2, hcz174_3⟩ := cz4 BK934
                obtain ⟨hfz174_0, hfz174_1, hfz174_2, hfz174_3⟩ := fz4 BK934
                go_wp2_with (first | ((with_reducible refine gate_callee (f := 33) rfl ?_); refine gL (some 90) rfl rfl Try.func33 (by kernel_rfl) rfl #[.agg #[.slice Ao38 t953.length co38, .slice Ao43 t954.length co43, .slice Ao44 t955.length co44, .int .i64 t932], .int .i64 1] rfl ?_; (with_reducible refine (laws_heldStore.calls kj112 _ _ t953 _ _ t954 _ _ t955 t932 1 t980 _ ?side1 ?side2 ?side3 ?side4 ?side5 ?side6 A161.out).mono ?_); (case side1 => exact rc0 HO_935000); (case side2 => exact (Kd.R_reads' HO_935000.out).2.1); (case side3 => exact rc0 HO_935001); (case side4 => exact (Kd.R_reads' HO_935001.out).2.1); (case side5 => exact rc0 HO_935002); (case side6 => exact (Kd.R_reads' HO_935002.out).2.1); rintro e w175 ⟨rfl, hb⟩; refine ⟨_, rfl, ?_⟩; replace HO_912000 := nr HO_912000 hb; replace HO_912001 := nr HO_912001 hb; replace HO_912002 := nr HO_912002 hb; replace HO_923000 := nr HO_923000 hb; replace HO_923001 := nr HO_923001 hb; replace HO_923002 := nr HO_923002 hb; replace HO_935000 := nr HO_935000 hb; replace HO_935001 := nr HO_935001 hb; replace HO_935002 := nr HO_935002 hb; replace HO_979000 := nr HO_979000 hb; replace HO_979001 := nr HO_979001 hb; replace HO_979002 := nr HO_979002 hb; replace BK888 := nb BK888 hb; replace BK911 := nb BK911 hb; replace BK922 := nb BK922 hb; replace BK934 := nb BK934 hb; replace BK978 := nb BK978 hb; replace HB := Aside0.mk (below_step (bs5 HB GE888 GE911 GE922 GE934 GE978) hb); (try clear hb); (try clear hb2); (try clear hk); (try clear hi)))
                go_ret
                exact ⟨by first | rfl | (simp [errW_none, errW_some] <;> rfl) | (simp [*, errW_none, errW_some] <;> rfl), bs5 HB GE888 GE911 GE922 GE934 GE978⟩
               ·
                rw [if_neg c169] at H
                have c169b0 : (t980 == t952) = false := beq_eq_false_iff_ne.mpr c169
                have c169b1 : (t980 != t952) = true := bne_iff_ne.mpr c169
                obtain rfl := Option.some.inj H
                have hnb176 := NB934_888.out
                have hnc176 := NB888_934.out
                have hnb177 := NB934_911.out
                have hnc177 := NB911_934.out
                have hnb178 := NB934_922.out
                have hnc178 := NB922_934.out
                have hnb179 := NB934_978.out
                have hnc179 := NB978_934.out
                obtain ⟨hcz180_0, hcz180_1, hcz180_2, hcz180_3⟩ := cz4 BK934
                obtain ⟨hfz180_0, hfz180_1, hfz180_2, hfz180_3⟩ := fz4 BK934
                go_wp2_with (first | ((with_reducible refine gate_callee (f := 33) rfl ?_); refine gL (some 90) rfl rfl Try.func33 (by kernel_rfl) rfl #[.agg #[.slice Ao38 t953.length co38, .slice Ao43 t954.length co43, .slice Ao44 t955.length co44, .int .i64 t932], .int .i64 1] rfl ?_; (with_reducible refine (laws_heldStore.calls kj112 _ _ t953 _ _ t954 _ _ t955 t932 1 t980 _ ?side1 ?side2 ?side3 ?side4 ?side5 ?side6 A161.out).mono ?_); (case side1 => exact rc0 HO_935000); (case side2 => exact (Kd.R_reads' HO_935000.out).2.1); (case side3 => exact rc0 HO_935001); (case side4 => exact (Kd.R_reads' HO_935001.out).2.1); (case side5 => exact rc0 HO_935002); (case side6 => exact (Kd.R_reads' HO_935002.out).2.1); rintro e w181 ⟨rfl, hb⟩; refine ⟨_, rfl, ?_⟩; replace HO_912000 := nr HO_912000 hb; replace HO_912001 := nr HO_912001 hb; replace HO_912002 := nr HO_912002 hb; replace HO_923000 := nr HO_923000 hb; replace HO_923001 := nr HO_923001 hb; replace HO_923002 := nr HO_923002 hb; replace HO_935000 := nr HO_935000 hb; replace HO_935001 := nr HO_935001 hb; replace HO_935002 := nr HO_935002 hb; replace HO_979000 := nr HO_979000 hb; replace HO_979001 := nr HO_979001 hb; replace HO_979002 := nr HO_979002 hb; replace BK888 := nb BK888 hb; replace BK911 := nb BK911 hb; replace BK922 := nb BK922 hb; replace BK934 := nb BK934 hb; replace BK978 := nb BK978 hb; replace HB := Aside0.mk (below_step (bs5 HB GE888 GE911 GE922 GE934 GE978) hb); (try clear hb); (try clear hb2); (try clear hk); (try clear hi)))
                go_ret
                exact ⟨by first | rfl | (simp [errW_none, errW_some] <;> rfl) | (simp [*, errW_none, errW_some] <;> rfl), bs5 HB GE888 GE911 GE922 GE934 GE978⟩
          ·
           rw [if_neg c110] at H
           have c110b0 : (t956 == t952) = false := beq_eq_false_iff_ne.mpr c110
           have c110b1 : (t956 != t952) = true := bne_iff_ne.mpr c110
           obtain rfl := Option.some.inj H
           have hnb182 := NB934_888.out
           have hnc182 := NB888_934.out
           have hnb183 := NB934_911.out
           have hnc183 := NB911_934.out
           have hnb184 := NB934_922.out
           have hnc184 := NB922_934.out
           obtain ⟨hcz185_0, hcz185_1, hcz185_2, hcz185_3⟩ := cz4 BK934
           obtain ⟨hfz185_0, hfz185_1, hfz185_2, hfz185_3⟩ := fz4 BK934
           go_wp2_with (first | ((with_reducible refine gate_callee (f := 32) rfl ?_); refine gL (some 64) rfl rfl Try.func32 (by kernel_rfl) rfl #[.agg #[.slice Ao38 t923.length co38, .slice Ao43 t926.length co43, .slice Ao44 t929.length co44, .int .i64 t932], .int .i64 1] rfl ?_; (with_reducible refine (laws_markStore.calls kj67 (fun k_ => some k_ = (.slice Ao38 t923.length co38 : Value).ownBlock) (.slice Ao38 t923.length co38) t923 (fun k_ => some k_ = (.slice Ao43 t926.length co43 : Value).ownBlock) (.slice Ao43 t926.length co43) t926 (fun k_ => some k_ = (.slice Ao44 t929.length co44 : Value).ownBlock) (.slice Ao44 t929.length co44) t929 t932 1 t952 t953 t954 t955 w _ ?side1 ?side2 ?side3 ?side4 ?side5 ?side6 A100.out).mono ?_); (case side1 => repeat (first | (with_reducible first | exact HB.out | apply below_alloc | apply pw_below_drewN | apply below_drew1 | refine below_set ?_ GE888.out | refine below_set ?_ GE911.out | refine below_set ?_ GE922.out | refine below_set ?_ GE934.out) | exact HB.out)); (case side2 => exact Kd.R_tight rfl HO_935000.out); (case side3 => exact fun k_ e_ => (HO_935000.out.1 k_ e_.symm).2.2.2.2); (case side4 => exact Kd.R_tight rfl HO_935001.out); (case side5 => exact Kd.R_tight rfl HO_935002.out); (case side6 => exact fun k_ e_ => (HO_935002.out.1 k_ e_.symm).2.2.2.2); rintro e w186 ⟨rfl, hy0, hy1, hy2, hb, hkp⟩; refine ⟨_, rfl, ?_⟩; replace HO_912000 := Aside0.mk (Kd.R_mono (ok' := fun k_ => some k_ ≠ (.slice Ao26 t906.length co26 : Value).ownBlock ∧ some k_ ≠ (.slice Ao30 t948.length co30 : Value).ownBlock ∧ some k_ ≠ (.slice Ao35 t950.length co35 : Value).ownBlock ∧ some k_ ≠ (.slice Ao38 t923.length co38 : Value).ownBlock ∧ some k_ ≠ (.slice Ao44 t929.length co44 : Value).ownBlock) (Kd.R_keptB ((Kd.R_apart' HO_912000.out (Kd.R_typed HO_935001.out) (by decide))) hkp (fun k_ hk_ hs_ => Or.elim hs_ (fun e_ => (hk_.1.2.2.2.1) e_) (fun e_ => Or.elim e_ (fun e_ => (hk_.2) e_) (fun e_ => (hk_.1.2.2.2.2) e_)))) (fun k_ hk_ => ⟨hk_.1.1.1, hk_.1.1.2.1, hk_.1.1.2.2.1, hk_.1.1.2.2.2.1, hk_.1.1.2.2.2.2⟩)); replace HO_912001 := Aside0.mk (Kd.R_mono (ok' := fun k_ => some k_ ≠ (.slice Ao34 t949.length co34 : Value).ownBlock ∧ some k_ ≠ (.slice Ao43 t926.length co43 : Value).ownBlock) (Kd.R_keptB ((Kd.R_apart' (Kd.R_apart' HO_912001.out (Kd.R_typed HO_935000.out) (by decide)) (Kd.R_typed HO_935002.out) (by decide))) hkp (fun k_ hk_ hs_ => Or.elim hs_ (fun e_ => (hk_.1.2) e_) (fun e_ => Or.elim e_ (fun e_ => (hk_.1.1.2) e_) (fun e_ => (hk_.2) e_)))) (fun k_ hk_ => ⟨hk_.1.1.1.1, hk_.1.1.1.2⟩)); replace HO_912002 := Aside0.mk (Kd.R_mono (ok' := fun k_ => some k_ ≠ (.slice Ao22 t900.length co22 : Value).ownBlock ∧ some k_ ≠ (.slice Ao30 t948.length co30 : Value).ownBlock ∧ some k_ ≠ (.slice Ao35 t950.length co35 : Value).ownBlock ∧ some k_ ≠ (.slice Ao38 t923.length co38 : Value).ownBlock ∧ some k_ ≠ (.slice Ao44 t929.length co44 : Value).ownBlock) (Kd.R_keptB ((Kd.R_apart' HO_912002.out (Kd.R_typed HO_935001.out) (by decide))) hkp (fun k_ hk_ hs_ => Or.elim hs_ (fun e_ => (hk_.1.2.2.2.1) e_) (fun e_ => Or.elim e_ (fun e_ => (hk_.2) e_) (fun e_ => (hk_.1.2.2.2.2) e_)))) (fun k_ hk_ => ⟨hk_.1.1.1, hk_.1.1.2.1, hk_.1.1.2.2.1, hk_.1.1.2.2.2.1, hk_.1.1.2.2.2.2⟩)); replace HO_923000 := Aside0.mk (Kd.R_mono (ok' := fun k_ => some k_ ≠ (.slice Ao22 t900.length co22 : Value).ownBlock ∧ some k_ ≠ (.slice Ao26 t906.length co26 : Value).ownBlock ∧ some k_ ≠ (.slice Ao35 t950.length co35 : Value).ownBlock ∧ some k_ ≠ (.slice Ao38 t923.length co38 : Value).ownBlock ∧ some k_ ≠ (.slice Ao44 t929.length co44 : Value).ownBlock) (Kd.R_keptB ((Kd.R_apart' HO_923000.out (Kd.R_typed HO_935001.out) (by decide))) hkp (fun k_ hk_ hs_ => Or.elim hs_ (fun e_ => (hk_.1.2.2.2.1) e_) (fun e_ => Or.elim e_ (fun e_ => (hk_.2) e_) (fun e_ => (hk_.1.2.2.2.2) e_)))) (fun k_ hk_ => ⟨hk_.1.1.1, hk_.1.1.2.1, hk_.1.1.2.2.1, hk_.1.1.2.2.2.1, hk_.1.1.2.2.2.2⟩)); replace HO_923001 := Aside0.mk (Kd.R_mono (ok' := fun k_ => some k_ ≠ (.slice Ao25 t903.length co25 : Value).ownBlock ∧ some k_ ≠ (.slice Ao43 t926.length co43 : Value).ownBlock) (Kd.R_keptB ((Kd.R_apart' (Kd.R_apart' HO_923001.out (Kd.R_typed HO_935000.out) (by decide)) (Kd.R_typed HO_935002.out) (by decide))) hkp (fun k_ hk_ hs_ => Or.elim hs_ (fun e_ => (hk_.1.2) e_) (fun e_ => Or.elim e_ (fun e_ => (hk_.1.1.2) e_) (fun e_ => (hk_.2) e_)))) (fun k_ hk_ => ⟨hk_.1.1.1.1, hk_.1.1.1.2⟩)); replace HO_923002 := Aside0.mk (Kd.R_mono (ok' := fun k_ => some k_ ≠ (.slice Ao22 t900.length co22 : Value).ownBlock ∧ some k_ ≠ (.slice Ao26 t906.length co26 : Value).ownBlock ∧ some k_ ≠ (.slice Ao30 t948.length co30 : Value).ownBlock ∧ some k_ ≠ (.slice Ao38 t923.length co38 : Value).ownBlock ∧ some k_ ≠ (.slice Ao44 t929.length co44 : Value).ownBlock) (Kd.R_keptB ((Kd.R_apart' HO_923002.out (Kd.R_typed HO_935001.out) (by decide))) hkp (fun k_ hk_ hs_ => Or.elim hs_ (fun e_ => (hk_.1.2.2.2.1) e_) (fun e_ => Or.elim e_ (fun e_ => (hk_.2) e_) (fun e_ => (hk_.1.2.2.2.2) e_)))) (fun k_ hk_ => ⟨hk_.1.1.1, hk_.1.1.2.1, hk_.1.1.2.2.1, hk_.1.1.2.2.2.1, hk_.1.1.2.2.2.2⟩)); replace BK888 := Aside0.mk (blk_kept (bk BK888) hkp (fun hs_ => Or.elim hs_ (fun e_ => (fun e_ => (Kd.R_ne HO_935000.out BK888.out (by decide)) e_) e_) (fun e_ => Or.elim e_ (fun e_ => (fun e_ => (Kd.R_ne HO_935001.out BK888.out (by decide)) e_) e_) (fun e_ => (fun e_ => (Kd.R_ne HO_935002.out BK888.out (by decide)) e_) e_)))); replace BK911 := Aside0.mk (blk_kept (bk BK911) hkp (fun hs_ => Or.elim hs_ (fun e_ => (fun e_ => (Kd.R_ne HO_935000.out BK911.out (by decide)) e_) e_) (fun e_ => Or.elim e_ (fun e_ => (fun e_ => (Kd.R_ne HO_935001.out BK911.out (by decide)) e_) e_) (fun e_ => (fun e_ => (Kd.R_ne HO_935002.out BK911.out (by decide)) e_) e_)))); replace BK922 := Aside0.mk (blk_kept (bk BK922) hkp (fun hs_ => Or.elim hs_ (fun e_ => (fun e_ => (Kd.R_ne HO_935000.out BK922.out (by decide)) e_) e_) (fun e_ => Or.elim e_ (fun e_ => (fun e_ => (Kd.R_ne HO_935001.out BK922.out (by decide)) e_) e_) (fun e_ => (fun e_ => (Kd.R_ne HO_935002.out BK922.out (by decide)) e_) e_)))); replace BK934 := Aside0.mk (blk_kept (bk BK934) hkp (fun hs_ => Or.elim hs_ (fun e_ => (fun e_ => (Kd.R_ne HO_935000.out BK934.out (by decide)) e_) e_) (fun e_ => Or.elim e_ (fun e_ => (fun e_ => (Kd.R_ne HO_935001.out BK934.out (by decide)) e_) e_) (fun e_ => (fun e_ => (Kd.R_ne HO_935002.out BK934.out (by decide)) e_) e_)))); replace HO_935000 := Aside0.mk (Kd.R_reok rfl hy0 (fun k_ e_ => HO_935000.out.1 k_ e_)); replace HO_935001 := Aside0.mk (Kd.R_reok rfl hy1 (fun k_ e_ => HO_935001.out.1 k_ e_)); replace HO_935002 := Aside0.mk (Kd.R_reok rfl hy2 (fun k_ e_ => HO_935002.out.1 k_ e_)); replace HB := Aside0.mk (hb); (try clear hb); (try clear hkp); (try clear hy0); (try clear hy1); (try clear hy2); obtain ⟨hcz187_0, hcz187_1, hcz187_2, hcz187_3⟩ := cz4 BK934; obtain ⟨hfz187_0, hfz187_1, hfz187_2, hfz187_3⟩ := fz4 BK934) | ((with_reducible refine gate_callee (f := 33) rfl ?_); refine goesL_ (some 67) rfl rfl Try.func33 (by kernel_rfl) rfl #[.agg #[.slice Ao38 t953.length co38, .slice Ao43 t954.length co43, .slice Ao44 t955.length co44, .int .i64 t932], .int .i64 1] rfl (by (try simp only [List.map_toArray, List.map_cons, List.map_nil]); first | done | (rw [show t953.length = t923.length from (Kd.R_reads' HO_935000.out).1.symm, show t954.length = t926.length from (Kd.R_reads' HO_935001.out).1.symm, show t955.length = t929.length from (Kd.R_reads' HO_935002.out).1.symm] <;> rfl) | rfl | (simp only [List.length_drop, List.length_take]; rfl)) ?_; (with_reducible refine (laws_heldStore.calls kj67 _ _ t953 _ _ t954 _ _ t955 t932 1 t956 _ ?side1 ?side2 ?side3 ?side4 ?side5 ?side6 A101.out).mono ?_); (case side1 => exact rc0 HO_935000); (case side2 => rw [show t953.length = t923.length from (Kd.R_reads' HO_935000.out).1.symm]; exact (Kd.R_reads' HO_935000.out).2.1); (case side3 => exact rc0 HO_935001); (case side4 => rw [show t954.length = t926.length from (Kd.R_reads' HO_935001.out).1.symm]; exact (Kd.R_reads' HO_935001.out).2.1); (case side5 => exact rc0 HO_935002); (case side6 => rw [show t955.length = t929.length from (Kd.R_reads' HO_935002.out).1.symm]; exact (Kd.R_reads' HO_935002.out).2.1); rintro e w188 ⟨rfl, hb⟩; refine ⟨_, rfl, ?_⟩; replace HO_912000 := nr HO_912000 hb; replace HO_912001 := nr HO_912001 hb; replace HO_912002 := nr HO_912002 hb; replace HO_923000 := nr HO_923000 hb; replace HO_923001 := nr HO_923001 hb; replace HO_923002 := nr HO_923002 hb; replace HO_935000 := nr HO_935000 hb; replace HO_935001 := nr HO_935001 hb; replace HO_935002 := nr HO_935002 hb; replace BK888 := nb BK888 hb; replace BK911 := nb BK911 hb; replace BK922 := nb BK922 hb; replace BK934 := nb BK934 hb; replace HB := Aside0.mk (below_step (bs4 HB GE888 GE911 GE922 GE934) hb); (try clear hb); (try clear hb2); (try clear hk); (try clear hi)))
           go_ret
           exact ⟨by first | rfl | (simp [errW_none, errW_some] <;> rfl) | (simp [*, errW_none, errW_some] <;> rfl), bs4 HB GE888 GE911 GE922 GE934⟩
     ·
      replace c66 := Bool.eq_false_iff.mpr c66
      subst c66
      rw [if_neg (show ¬ (false = true) by decide)] at H
      obtain rfl := Option.some.inj H
      try go_wp2
      have n0_ := Aside0.mk (Kd.R_drew HO_912000.out)
      have n1_ := Aside0.mk (Kd.R_drew HO_912001.out)
      have n2_ := Aside0.mk (Kd.R_drew HO_912002.out)
      have n3_ := Aside0.mk (Kd.R_drew HO_923000.out)
      have n4_ := Aside0.mk (Kd.R_drew HO_923001.out)
      have n5_ := Aside0.mk (Kd.R_drew HO_923002.out)
      have n6_ := Aside0.mk (Kd.R_drew HO_935000.out)
      have n7_ := Aside0.mk (Kd.R_drew HO_935001.out)
      have n8_ := Aside0.mk (Kd.R_drew HO_935002.out)
      have n9_ := Aside0.mk (blk_drew BK888.out)
      have n10_ := Aside0.mk (blk_drew BK911.out)
      have n11_ := Aside0.mk (blk_drew BK922.out)
      have n12_ := Aside0.mk (blk_drew BK934.out)
      have n13_ := Aside0.mk (below_drew1 HB.out)
      clear HO_912000
      clear HO_912001
      clear HO_912002
      clear HO_923000
      clear HO_923001
      clear HO_923002
      clear HO_935000
      clear HO_935001
      clear HO_935002
      clear BK888
      clear BK911
      clear BK922
      clear BK934
      clear HB
      have HO_912000 := n0_
      have HO_912001 := n1_
      have HO_912002 := n2_
      have HO_923000 := n3_
      have HO_923001 := n4_
      have HO_923002 := n5_
      have HO_935000 := n6_
      have HO_935001 := n7_
      have HO_935002 := n8_
      have BK888 := n9_
      have BK911 := n10_
      have BK922 := n11_
      have BK934 := n12_
      have HB := n13_
      clear n0_ n1_ n2_ n3_ n4_ n5_ n6_ n7_ n8_ n9_ n10_ n11_ n12_ n13_
      refine start_ (n := 5) (S := fun w' => w'.cell? ⟨gb922, 0, none⟩ = some (.slice Ao30 t912.length co30) ∧ w'.cell? ⟨gb922, 1, none⟩ = some (.slice Ao34 t915.length co34) ∧ w'.cell? ⟨gb922, 2, none⟩ = some (.slice Ao35 t918.length co35) ∧ w'.cell? ⟨gb922, 3, none⟩ = some (.int .i64 t921) ∧ w'.cell? ⟨gb888, 0, none⟩ = some (.slice A0_0 l0_0.length c0_0) ∧ w'.cell? ⟨gb888, 1, none⟩ = some (.slice A0_1 l0_1.length c0_1) ∧ w'.cell? ⟨gb888, 2, none⟩ = some (.slice A0_2 l0_2.length c0_2) ∧ w'.cell? ⟨gb888, 3, none⟩ = some (.int .i64 a0_3)) (ds := []) #[false, false, false, false, false] (by kernel_rfl) rfl rfl ⟨(blk_cell BK922.out 0).trans rfl, (blk_cell BK922.out 1).trans rfl, (blk_cell BK922.out 2).trans rfl, (blk_cell BK922.out 3).trans rfl, (blk_cell BK888.out 0).trans rfl, (blk_cell BK888.out 1).trans rfl, (blk_cell BK888.out 2).trans rfl, (blk_cell BK888.out 3).trans rfl⟩ (fun hHeld => ?_)
      generalize wc.drew = w189 at HO_912000 HO_912001 HO_912002 HO_923000 HO_923001 HO_923002 HO_935000 HO_935001 HO_935002 BK888 BK911 BK922 BK934 HB hHeld ⊢
      refine take_ (i := 0) (N := some 41) (v := ?_) (a' := ?_) #[true, false, false, false, false] rfl rfl (by kernel_rfl) (fun _ _ _ h => h) (Or.inl ⟨by rfl, ?_⟩) hHeld ?_ ?_
      rotate_left
      ·
       rintro w' ⟨s0, s1, s2, s3, s4, s5, s6, s7⟩
       go_simp
       with_reducible rfl
      rotate_left
      ·
       simp only [Act.put, List.setIfInBounds_toArray, List.set_cons_zero, List.set_cons_succ, i64_w, i32_w]
       rfl
      refine take_ (i := 1) (N := some 42) (v := ?_) (a' := ?_) #[true, true, false, false, false] rfl rfl (by kernel_rfl) (fun _ _ _ h => h) (Or.inl ⟨by rfl, ?_⟩) hHeld ?_ ?_
      rotate_left
      ·
       rintro w' ⟨s0, s1, s2, s3, s4, s5, s6, s7⟩
       go_simp
       with_reducible rfl
      rotate_left
      ·
       simp only [Act.put, List.setIfInBounds_toArray, List.set_cons_zero, List.set_cons_succ, i64_w, i32_w]
       rfl
      refine one_ (i := 2) (N := some 43) #[true, true, true, false, false] rfl rfl (by kernel_rfl) (by decide) (fun K hK => ?_)
      refine goes_ Try.func27 (by kernel_rfl) rfl #[.agg #[.slice A0_0 l0_0.length c0_0, .slice A0_1 l0_1.length c0_1, .slice A0_2 l0_2.length c0_2, .int .i64 a0_3]] (by rfl) rfl rfl (by (try simp only [List.map_toArray, List.map_cons, List.map_nil]); first | done | rfl | (simp only [List.length_drop, List.length_take]; rfl)) ?_
      with_reducible refine (laws_toStore.calls kj10 _ _ l0_0 _ _ l0_1 _ _ l0_2 a0_3 t936 t939 t942 t945 _ ?side1 ?side2 ?side3 ?side4 ?side5 ?side6 A64.out).mono ?_
      (case side1 => exact cb HR0_0 HB)
      (case side2 => exact HC0_0.out)
      (case side3 => exact cb HR0_1 HB)
      (case side4 => exact HC0_1.out)
      (case side5 => exact cb HR0_2 HB)
      (case side6 => exact HC0_2.out)
      rintro e w190 ⟨v937, v940, v943, rfl, ho0, ho1, ho2, hb⟩
      refine ⟨_, rfl, ?_⟩
      have n0_ := Aside0.mk (Kd.R_mono (Kd.R_told (Kd.R_told (Kd.R_old (rr HO_912000.out) hb) (Kd.R_base ho0)) (Kd.R_base ho2)) (fun _ h_ => h_.1))
      have n1_ := Aside0.mk (Kd.R_elder' (rr HO_912001.out) (Kd.R_base ho1) hb)
      have n2_ := Aside0.mk (Kd.R_mono (Kd.R_told (Kd.R_told (Kd.R_old (rr HO_912002.out) hb) (Kd.R_base ho0)) (Kd.R_base ho2)) (fun _ h_ => h_.1))
      have n3_ := Aside0.mk (Kd.R_mono (Kd.R_told (Kd.R_told (Kd.R_old (rr HO_923000.out) hb) (Kd.R_base ho0)) (Kd.R_base ho2)) (fun _ h_ => h_.1))
      have n4_ := Aside0.mk (Kd.R_elder' (rr HO_923001.out) (Kd.R_base ho1) hb)
      have n5_ := Aside0.mk (Kd.R_mono (Kd.R_told (Kd.R_told (Kd.R_old (rr HO_923002.out) hb) (Kd.R_base ho0)) (Kd.R_base ho2)) (fun _ h_ => h_.1))
      have n6_ := Aside0.mk (Kd.R_mono (Kd.R_told (Kd.R_told (Kd.R_old (rr HO_935000.out) hb) (Kd.R_base ho0)) (Kd.R_base ho2)) (fun _ h_ => h_.1))
      have n7_ := Aside0.mk (Kd.R_elder' (rr HO_935001.out) (Kd.R_base ho1) hb)
      have n8_ := Aside0.mk (Kd.R_mono (Kd.R_told (Kd.R_told (Kd.R_old (rr HO_935002.out) hb) (Kd.R_base ho0)) (Kd.R_base ho2)) (fun _ h_ => h_.1))
      have n9_ := Aside0.mk (Kd.R_lower (Kd.R_new' (Kd.R_new' (Kd.R_new' (Kd.R_new' (Kd.R_new' (Kd.R_new' ho0 (Kd.R_lt (rr HO_912000.out))) (Kd.R_lt (rr HO_912002.out))) (Kd.R_lt (rr HO_923000.out))) (Kd.R_lt (rr HO_923002.out))) (Kd.R_lt (rr HO_935000.out))) (Kd.R_lt (rr HO_935002.out))) (below_size (bs4 HB GE888 GE911 GE922 GE934)))
      have n10_ := Aside0.mk (Kd.R_lower (Kd.R_new' (Kd.R_new' (Kd.R_new' ho1 (Kd.R_lt (rr HO_912001.out))) (Kd.R_lt (rr HO_923001.out))) (Kd.R_lt (rr HO_935001.out))) (below_size (bs4 HB GE888 GE911 GE922 GE934)))
      have n11_ := Aside0.mk (Kd.R_lower (Kd.R_new' (Kd.R_new' (Kd.R_new' (Kd.R_new' (Kd.R_new' (Kd.R_new' ho2 (Kd.R_lt (rr HO_912000.out))) (Kd.R_lt (rr HO_912002.out))) (Kd.R_lt (rr HO_923000.out))) (Kd.R_lt (rr HO_923002.out))) (Kd.R_lt (rr HO_935000.out))) (Kd.R_lt (rr HO_935002.out))) (below_size (bs4 HB GE888 GE911 GE922 GE934)))
      have n12_ := Aside0.mk (bb BK888 hb)
      have n13_ := Aside0.mk (bb BK911 hb)
      have n14_ := Aside0.mk (bb BK922 hb)
      have n15_ := Aside0.mk (bb BK934 hb)
      have n16_ := Aside0.mk (below_step (bs4 HB GE888 GE911 GE922 GE934) hb)
      clear HO_912000
      clear HO_912001
      clear HO_912002
      clear HO_923000
      clear HO_923001
      clear HO_923002
      clear HO_935000
      clear HO_935001
      clear HO_935002
      clear BK888
      clear BK911
      clear BK922
      clear BK934
      clear HB
      have HO_912000 := n0_
      have HO_912001 := n1_
      have HO_912002 := n2_
      have HO_923000 := n3_
      have HO_923001 := n4_
      have HO_923002 := n5_
      have HO_935000 := n6_
      have HO_935001 := n7_
      have HO_935002 := n8_
      have HO938 := n9_
      have HO941 := n10_
      have HO944 := n11_
      have BK888 := n12_
      have BK911 := n13_
      have BK922 := n14_
      have BK934 := n15_
      have HB := n16_
      clear n0_ n1_ n2_ n3_ n4_ n5_ n6_ n7_ n8_ n9_ n10_ n11_ n12_ n13_ n14_ n15_ n16_
      (try clear hb)
      (try clear hb2)
      (try clear hk)
      (try clear hi)
      (try clear ho0)
      (try clear ho1)
      (try clear ho2)
      obtain ⟨Ao191, co191, eo191⟩ := Kd.R_slice HO938.out
      (first | subst eo191 | (injection eo191 with f1_ f2_ f3_; have f4_ := f1_.symm; have f5_ := f3_.symm; clear f1_ f2_ f3_; subst f4_; subst f5_))
      obtain ⟨Ao192, co192, eo192⟩ := Kd.R_slice HO941.out
      (first | subst eo192 | (injection eo192 with f1_ f2_ f3_; have f4_ := f1_.symm; have f5_ := f3_.symm; clear f1_ f2_ f3_; subst f4_; subst f5_))
      obtain ⟨Ao193, co193, eo193⟩ := Kd.R_slice HO944.out
      (first | subst eo193 | (injection eo193 with f1_ f2_ f3_; have f4_ := f1_.symm; have f5_ := f3_.symm; clear f1_ f2_ f3_; subst f4_; subst f5_))
      refine hK.out _ _ ⟨(blk_cell BK922.out 0).trans rfl, (blk_cell BK922.out 1).trans rfl, (blk_cell BK922.out 2).trans rfl, (blk_cell BK922.out 3).trans rfl, (blk_cell BK888.out 0).trans rfl, (blk_cell BK888.out 1).trans rfl, (blk_cell BK888.out 2).trans rfl, (blk_cell BK888.out 3).trans rfl⟩ (fun hHeld => ?_)
      clear hK K
      refine norm_ (a' := ?_) ?_ ?_
      rotate_left
      ·
       show Act.put _ (some 43) _ = _
       simp only [Act.put, List.setIfInBounds_toArray, List.set_cons_zero, List.set_cons_succ, i64_w, i32_w]
       rfl
      refine one_ (i := 3) (N := some 44) #[true, true, true, true, false] rfl rfl (by kernel_rfl) (by decide) (fun K hK => ?_)
      refine goes_ Try.func29 (by kernel_rfl) rfl #[.agg #[.slice Ao30 t912.length co30, .slice Ao34 t915.length co34, .slice Ao35 t918.length co35, .int .i64 t921], .agg #[.slice Ao191 t936.length co191, .slice Ao192 t939.length co192, .slice Ao193 t942.length co193, .int .i64 t945]] (by rfl) rfl rfl (by (try simp only [List.map_toArray, List.map_cons, List.map_nil]); first | done | rfl | (simp only [List.length_drop, List.length_take]; rfl)) ?_
      with_reducible refine (laws_eqStore.calls kj10 _ _ t912 _ _ t915 _ _ t918 t921 _ _ t936 _ _ t939 _ _ t942 t945 false _ ?side1 ?side2 ?side3 ?side4 ?side5 ?side6 ?side7 ?side8 ?side9 ?side10 ?side11 ?side12 A65.out).mono ?_
      (case side1 => exact rc0 HO_923000)
      (case side2 => exact (Kd.R_reads' HO_923000.out).2.1)
      (case side3 => exact rc0 HO_923001)
      (case side4 => exact (Kd.R_reads' HO_923001.out).2.1)
      (case side5 => exact rc0 HO_923002)
      (case side6 => exact (Kd.R_reads' HO_923002.out).2.1)
      (case side7 => exact rc0 HO938)
      (case side8 => exact (Kd.R_reads' HO938.out).2.1)
      (case side9 => exact rc0 HO941)
      (case side10 => exact (Kd.R_reads' HO941.out).2.1)
      (case side11 => exact rc0 HO944)
      (case side12 => exact (Kd.R_reads' HO944.out).2.1)
      rintro e w194 ⟨rfl, hb⟩
      refine ⟨_, rfl, ?_⟩
      have n0_ := Aside0.mk (Kd.R_below (rr HO_912000.out) hb)
      have n1_ := Aside0.mk (Kd.R_below (rr HO_912001.out) hb)
      have n2_ := Aside0.mk (Kd.R_below (rr HO_912002.out) hb)
      have n3_ := Aside0.mk (Kd.R_below (rr HO_923000.out) hb)
      have n4_ := Aside0.mk (Kd.R_below (rr HO_923001.out) hb)
      have n5_ := Aside0.mk (Kd.R_below (rr HO_923002.out) hb)
      have n6_ := Aside0.mk (Kd.R_below (rr HO_935000.out) hb)
      have n7_ := Aside0.mk (Kd.R_below (rr HO_935001.out) hb)
      have n8_ := Aside0.mk (Kd.R_below (rr HO_935002.out) hb)
      have n9_ := Aside0.mk (Kd.R_below (rr HO938.out) hb)
      have n10_ := Aside0.mk (Kd.R_below (rr HO941.out) hb)
      have n11_ := Aside0.mk (Kd.R_below (rr HO944.out) hb)
      have n12_ := Aside0.mk (bb BK888 hb)
      have n13_ := Aside0.mk (bb BK911 hb)
      have n14_ := Aside0.mk (bb BK922 hb)
      have n15_ := Aside0.mk (bb BK934 hb)
      have n16_ := Aside0.mk (below_step (bs4 HB GE888 GE911 GE922 GE934) hb)
      clear HO_912000
      clear HO_912001
      clear HO_912002
      clear HO_923000
      clear HO_923001
      clear HO_923002
      clear HO_935000
      clear HO_935001
      clear HO_935002
      clear HO938
      clear HO941
      clear HO944
      clear BK888
      clear BK911
      clear BK922
      clear BK934
      clear HB
      have HO_912000 := n0_
      have HO_912001 := n1_
      have HO_912002 := n2_
      have HO_923000 := n3_
      have HO_923001 := n4_
      have HO_923002 := n5_
      have HO_935000 := n6_
      have HO_935001 := n7_
      have HO_935002 := n8_
      have HO938 := n9_
      have HO941 := n10_
      have HO944 := n11_
      have BK888 := n12_
      have BK911 := n13_
      have BK922 := n14_
      have BK934 := n15_
      have HB := n16_
      clear n0_ n1_ n2_ n3_ n4_ n5_ n6_ n7_ n8_ n9_ n10_ n11_ n12_ n13_ n14_ n15_ n16_
      (try clear hb)
      (try clear hb2)
      (try clear hk)
      (try clear hi)
      refine hK.out _ _ ⟨(blk_cell BK922.out 0).trans rfl, (blk_cell BK922.out 1).trans rfl, (blk_cell BK922.out 2).trans rfl, (blk_cell BK922.out 3).trans rfl, (blk_cell BK888.out 0).trans rfl, (blk_cell BK888.out 1).trans rfl, (blk_cell BK888.out 2).trans rfl, (blk_cell BK888.out 3).trans rfl⟩ (fun hHeld => ?_)
      clear hK K
      refine norm_ (a' := ?_) ?_ ?_
      rotate_left
      ·
       show Act.put _ (some 44) _ = _
       simp only [Act.put, List.setIfInBounds_toArray, List.set_cons_zero, List.set_cons_succ, i64_w, i32_w]
       rfl
      refine pure_ (i := 4) (N := some 45) (v := ?_) (a' := ?_) #[true, true, true, true, true] rfl rfl (by kernel_rfl) (fun _ _ _ h => h) (Or.inl ⟨by rfl, ?_⟩) ?_ ?_
      rotate_left
      ·
       intro w'
       go_simp
       with_reducible rfl
      rotate_left
      ·
       simp only [Act.put, List.setIfInBounds_toArray, List.set_cons_zero, List.set_cons_succ, i64_w, i32_w]
       rfl
      refine done_ (by kernel_rfl) ?_
      try go_wp2
      go_ret
      exact ⟨by first | rfl | (simp [errW_none, errW_some] <;> rfl) | (simp [*, errW_none, errW_some] <;> rfl), bs4 HB GE888 GE911 GE922 GE934⟩

/-- THE ONE PURE STATEMENT of laws_FnExactRecoverStore. -/
def laws_FnExactRecoverStore.Pure : Prop := ∀ (l0_0 : List ByteArray) (l0_1 : List (S76)) (l0_2 : List ByteArray) (a0_3 : Int), ok38 (⟨(⟨l0_0, l0_1⟩ : S36), l0_2, a0_3⟩ : S38) → ∃ k, laws_FnExactRecoverStore.f k l0_0 l0_1 l0_2 a0_3 = some true

end Go.Proofs.Ytcdkgenfggdpaaa.G
