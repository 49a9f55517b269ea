-- Printed by a program of this session (drive.py, by way of the kit's print). Not trusted: Lean checks it.
import Derived.Test.YthlifcbkpafofaaDoorG0
import Derived.Test.YthlifcbkpafofaaDoorG2
import Derived.Test.YthlifcbkpafofaaDoorG3
import Derived.Test.YthlifcbkpafofaaDoorG4
namespace Go.Proofs.YthlifcbkpafofaaDoor.G
open Go.RowKit Go.Proofs.YthlifcbkpafofaaDoorW.PrintWords Go.Proofs.YthlifcbkpafofaaDoorW.PrintLast Go.Proofs.YthlifcbkpafofaaDoorW.PrintMore
attribute [local go_sem] max2_int min2_int max_two min_two max_three min_three max_four min_four   -- for this text's walks alone
set_option linter.unusedVariables false
set_option linter.unusedSimpArgs false

/-! ### spec_PutRecord: function 35 -/
def spec_PutRecord.j0 : Nat → ByteArray → Int → Bool → List (S26) → Int → Int → Int → Option ((List (S26)) × Int × Int × Int × Bool)
 | 0, _, _, _, _, _, _, _ => none
 | k + 1, x1, x6, x32, x219000, x219001, x219002, x219003 => if x32 = true then (some (([] : List (S26)), 0, 0, 0, false)) else ((spec_l10Own.f x219000 x219001 x219002 x219003).bind fun bt221 => ((spec_SlotSum.f k bt221.2.2.1 bt221.2.2.2 x1 0).bind fun t228 => (if x6 = 0 then (none) else (if 0 ≤ (Int.tmod bt221.2.1 x6) then (if (Int.tmod bt221.2.1 x6) < (bt221.1.length : Int) then (some ((bt221.1.set ((Int.tmod bt221.2.1 x6) : Int).toNat (⟨bt221.2.2.1, bt221.2.2.2, x1, t228⟩ : S26)), wrap64 (bt221.2.1 + 1), wrap64 ((wrap64 (Int.tdiv (wrap64 (bt221.2.1 + 1)) x6)) + 1), bt221.2.2.2, true)) else (none)) else (none)))))
def spec_PutRecord.f (k : Nat) (l0_0 : List (S26)) (a0_1 : Int) (a0_2 : Int) (a0_3 : Int) (a1 : ByteArray) : Option ((List (S26)) × Int × Int × Int × Bool) := (spec_GoodRing.f k l0_0 a0_1 a0_2 a0_3).bind fun t220 => (if t220 = true then (if (a1.size : Int) > 12 then (spec_PutRecord.j0 k a1 (l0_0.length : Int) true l0_0 a0_1 a0_2 a0_3) else (if (wrap64 (a0_1 - a0_3)) = (l0_0.length : Int) then (spec_PutRecord.j0 k a1 (l0_0.length : Int) true l0_0 a0_1 a0_2 a0_3) else (spec_PutRecord.j0 k a1 (l0_0.length : Int) (a0_1 == 10000000) l0_0 a0_1 a0_2 a0_3))) else (spec_PutRecord.j0 k a1 (l0_0.length : Int) true l0_0 a0_1 a0_2 a0_3))
theorem spec_PutRecord.mono_l : ∀ k, (∀ y0 y1 y2 y3 y4 y5 y6, LeO (spec_PutRecord.j0 k y0 y1 y2 y3 y4 y5 y6) (spec_PutRecord.j0 (k + 1) y0 y1 y2 y3 y4 y5 y6))
 | 0 => fun _ _ _ _ _ _ _ r h => by simp [spec_PutRecord.j0] at h
 | k + 1 => by
  have ih0 := spec_PutRecord.mono_l k
  ·
   intro y0 y1 y2 y3 y4 y5 y6
   unfold spec_PutRecord.j0
   repeat' first
   | (with_reducible exact ih0 _ _ _ _ _ _ _)
   | (with_reducible exact spec_GoodRing.mono _ _ _ _ _)
   | (with_reducible exact spec_SlotSum.mono _ _ _ _ _)
   | (with_reducible exact LeO.refl _)
   | (with_reducible exact LeO.none _)
   | (with_reducible refine LeO.ite ?_ ?_)
   | (with_reducible refine LeO.bind ?_ (fun _ => ?_))
   | exact ih0 _ _ _ _ _ _ _
   | exact spec_GoodRing.mono _ _ _ _ _
   | exact spec_SlotSum.mono _ _ _ _ _
   | exact LeO.none _
   | refine LeO.ite ?_ ?_
   | refine LeO.bind ?_ (fun _ => ?_)
theorem spec_PutRecord.mono : ∀ a0 a1 a2 a3 a4 k, LeO (spec_PutRecord.f k a0 a1 a2 a3 a4) (spec_PutRecord.f (k + 1) a0 a1 a2 a3 a4) := by
 intro a0 a1 a2 a3 a4 k
 have ih0 := spec_PutRecord.mono_l k
 unfold spec_PutRecord.f
 repeat' first
   | (with_reducible exact ih0 _ _ _ _ _ _ _)
   | (with_reducible exact spec_GoodRing.mono _ _ _ _ _)
   | (with_reducible exact spec_SlotSum.mono _ _ _ _ _)
   | (with_reducible exact LeO.refl _)
   | (with_reducible exact LeO.none _)
   | (with_reducible refine LeO.ite ?_ ?_)
   | (with_reducible refine LeO.bind ?_ (fun _ => ?_))
   | exact ih0 _ _ _ _ _ _ _
   | exact spec_GoodRing.mono _ _ _ _ _
   | exact spec_SlotSum.mono _ _ _ _ _
   | exact LeO.none _
   | refine LeO.ite ?_ ?_
   | refine LeO.bind ?_ (fun _ => ?_)
def spec_PutRecord.T7 : Bool × List (List Nat × List Nat) := (true, [([], []), ([0], [0]), ([], []), ([2], [2]), ([], []), ([3, 4], [3, 4]), ([], []), ([1, 5, 0, 1, 2, 3, 4, 5, 6], [1, 5]), ([7, 6, 0, 1, 2, 3, 4, 5, 6], [6, 7])])
def spec_PutRecord.B7 : List Nat := [0, 1, 0, 4, 0, 28, 0, 127, 255]
theorem spec_PutRecord.tab7 : rtab .any (opsOf Tryd.f35 7) = spec_PutRecord.T7 := by kernel_rfl
theorem spec_PutRecord.bits7 : waitsOk spec_PutRecord.T7.2 spec_PutRecord.B7 = true := by kernel_rfl
set_option maxHeartbeats 8000000 in
set_option maxRecDepth 100000 in
theorem spec_PutRecord.calls (k : Nat) (A0_0 : Option Addr) (c0_0 : Nat) (l0_0 : List (S26)) (a0_1 : Int) (a0_2 : Int) (a0_3 : Int) (a1 : ByteArray) (r1 : List (S26)) (r2 : Int) (r3 : Int) (r4 : Int) (r5 : Bool) (w : World) (hr0_0 : Kd.C k26 w A0_0 l0_0.length l0_0) (hc0_0 : l0_0.length ≤ c0_0) (h : spec_PutRecord.f k l0_0 a0_1 a0_2 a0_3 a1 = some (r1, r2, r3, r4, r5)) :
  Calls Tryd.prog 35 #[.agg #[.slice A0_0 l0_0.length c0_0, .int .i64 a0_1, .int .i64 a0_2, .int .i64 a0_3], .string a1] w fun e w' => ∃ v0_ : Value, e = .returned (.tuple #[.agg #[v0_, .int .i64 r2, .int .i64 r3, .int .i64 r4], .bool r5]) ∧ Kd.R k26 26 w' w.heap.size (fun _ => True) v0_ r1 ∧ Below w.heap.size w w' := by
 have hu36 := Tryd.underlying36
 have hu26 := Tryd.underlying26
 have HR0_0 := Aside0.mk hr0_0
 have HC0_0 := Aside0.mk hc0_0
 clear hr0_0 hc0_0
 have HB := Aside0.mk (Below.refl w.heap.size w)
 have H : ((spec_GoodRing.f k l0_0 a0_1 a0_2 a0_3).bind fun t220 => (if t220 = true then (if (a1.size : Int) > 12 then (spec_PutRecord.j0 k a1 (l0_0.length : Int) true l0_0 a0_1 a0_2 a0_3) else (if (wrap64 (a0_1 - a0_3)) = (l0_0.length : Int) then (spec_PutRecord.j0 k a1 (l0_0.length : Int) true l0_0 a0_1 a0_2 a0_3) else (spec_PutRecord.j0 k a1 (l0_0.length : Int) (a0_1 == 10000000) l0_0 a0_1 a0_2 a0_3))) else (spec_PutRecord.j0 k a1 (l0_0.length : Int) true l0_0 a0_1 a0_2 a0_3))) = some (r1, r2, r3, r4, r5) := h
 clear h
 have HC3 := Aside0.mk H
 clear H
 go_enter Tryd.func35, Tryd.ntmps35
 go_upto_region 2 with (first | ((with_reducible refine gate_dst (N := 2) rfl ?_); (try (refine gate_guard (by rfl) ?_; dsimp only)); refine box_event ?hg (N := 2) ?hd (cs := #[.slice A0_0 l0_0.length c0_0, .int .i64 a0_1, .int .i64 a0_2, .int .i64 a0_3]) (t := 36) ?hr ?_; (case hd => rfl); (case hg => rfl); (case hr => first | (go_simp; done) | (go_simp; rfl)); intro gb218 hg w4 hbox hb; have BK218 := Aside0.mk (hbox); have GW218 := Aside0.mk ((by rw [hg]; exact (below_size (bs HB)) : w.heap.size ≤ gb218)); have GE218 := Aside0.mk ((by rw [hg]; exact (below_size (bs HB)) : w.heap.size ≤ gb218)); replace HB := Aside0.mk (below_step (bs HB) hb); clear hb hbox hg) | ((with_reducible refine gate_dst (N := 4) rfl ?_); (try (refine gate_guard (by rfl) ?_; dsimp only)); refine box_event ?hg (N := 4) ?hd (cs := #[.slice none 0 0, .int .i64 0, .int .i64 0, .int .i64 0]) (t := 36) ?hr ?_; (case hd => rfl); (case hg => rfl); (case hr => first | (go_simp; done) | (go_simp; rfl)); intro gb219 hg w5 hbox hb; have BK219 := Aside0.mk (hbox); have GW219 := Aside0.mk ((by rw [hg]; exact (below_size (bs1 HB GE218)) : w.heap.size ≤ gb219)); have GE219 := Aside0.mk ((by rw [hg]; exact (below_size (bs1 HB GE218)) : w.heap.size ≤ gb219)); replace HB := Aside0.mk (below_step (bs1 HB GE218) hb); have NB218_219 := Aside0.mk ((bn BK218 hg : gb218 ≠ gb219)); have NB219_218 := Aside0.mk ((bm BK218 hg : gb219 ≠ gb218)); replace BK218 := nb BK218 hb; clear hb hbox hg; have hnb6 := NB218_219.out; have hnc6 := NB219_218.out; obtain ⟨hcz7_0, hcz7_1, hcz7_2, hcz7_3⟩ := cz4 BK218; obtain ⟨hfz7_0, hfz7_1, hfz7_2, hfz7_3⟩ := fz4 BK218))
 (try simp only [Act.put, List.setIfInBounds_toArray, List.set_cons_zero, List.set_cons_succ])
 go_cut [32] (fun v32 wc => ∃ (kq : Nat) (x32_2 : Bool), v32 = .bool x32_2 ∧ Aside0 (spec_PutRecord.j0 kq a1 (l0_0.length : Int) x32_2 l0_0 a0_1 a0_2 a0_3 = some (r1, r2, r3, r4, r5)) ∧ Aside0 (kq ≤ k) ∧ Aside0 (wc.heap[gb218]? = some (.cells #[(.slice A0_0 l0_0.length c0_0), .int .i64 a0_1, .int .i64 a0_2, .int .i64 a0_3] 36 (0, 0))) ∧ Aside0 (wc.heap[gb219]? = some (.cells #[(.slice none 0 0), .int .i64 0, .int .i64 0, .int .i64 0] 36 (0, 0))) ∧ Aside0 (Below w.heap.size w wc))
 case first =>
  have H := HC3.out
  clear HC3
  replace H := Option.bind_eq_some_iff.mp H
  obtain ⟨t220, A80, H⟩ := H
  replace H : (if t220 = true then (if (a1.size : Int) > 12 then (spec_PutRecord.j0 k a1 (l0_0.length : Int) true l0_0 a0_1 a0_2 a0_3) else (if (wrap64 (a0_1 - a0_3)) = (l0_0.length : Int) then (spec_PutRecord.j0 k a1 (l0_0.length : Int) true l0_0 a0_1 a0_2 a0_3) else (spec_PutRecord.j0 k a1 (l0_0.length : Int) (a0_1 == 10000000) l0_0 a0_1 a0_2 a0_3))) else (spec_PutRecord.j0 k a1 (l0_0.length : Int) true l0_0 a0_1 a0_2 a0_3)) = some (r1, r2, r3, r4, r5) := H
  have A8 := Aside0.mk A80
  clear A80
  by_cases c9 : t220 = true
  ·
   subst c9
   rw [if_pos rfl] at H
   by_cases c10 : (a1.size : Int) > 12
   ·
    rw [if_pos c10] at H
    have c10b0 : decide (12 < (a1.size : Int)) = true := decide_eq_true c10
    have c10b1 : decide (12 < a1.size) = true := decide_eq_true (by omega)
    clear c10
    (first | rw [c10b0] | (simp only [i64_w, i32_w]; rw [c10b0]) | (simp only [c10b2, Bool.not_false, Bool.not_true]) | skip)
    have H' := Aside0.mk H
    clear H
    have hnb11 := NB218_219.out
    have hnc11 := NB219_218.out
    obtain ⟨hcz12_0, hcz12_1, hcz12_2, hcz12_3⟩ := cz4 BK218
    obtain ⟨hfz12_0, hfz12_1, hfz12_2, hfz12_3⟩ := fz4 BK218
    go_wp2_with (first | ((with_reducible refine gate_callee (f := 18) rfl ?_); refine gL (some 12) rfl rfl Tryd.func18 (by kernel_rfl) rfl #[.agg #[.slice A0_0 l0_0.length c0_0, .int .i64 a0_1, .int .i64 a0_2, .int .i64 a0_3]] rfl ?_; (with_reducible refine (spec_GoodRing.calls k _ _ l0_0 a0_1 a0_2 a0_3 true _ ?side1 ?side2 A8.out).mono ?_); (case side1 => exact cb HR0_0 HB); (case side2 => exact HC0_0.out); rintro e w13 ⟨rfl, hb⟩; refine ⟨_, rfl, ?_⟩; replace BK218 := nb BK218 hb; replace BK219 := nb BK219 hb; replace HB := Aside0.mk (below_step (bs2 HB GE218 GE219) hb); (try clear hb); (try clear hb2); (try clear hk); (try clear hi)))
    go_meet
    case rel => exact ⟨_, (true), (by first | rfl | (simp; done) | (simp [*]; done)), H', ⟨by first | omega | exact Nat.le_refl _⟩, ⟨bk BK218⟩, ⟨bk BK219⟩, ⟨bs2 HB GE218 GE219⟩⟩
   ·
    rw [if_neg c10] at H
    have c10b0 : decide (12 < (a1.size : Int)) = false := decide_eq_false c10
    have c10b1 : decide (12 < a1.size) = false := decide_eq_false (by omega)
    clear c10
    (first | rw [c10b0] | (simp only [i64_w, i32_w]; rw [c10b0]) | (simp only [c10b2, Bool.not_false, Bool.not_true]) | skip)
    by_cases c14 : (wrap64 (a0_1 - a0_3)) = (l0_0.length : Int)
    ·
     rw [if_pos c14] at H
     have c14b0 : ((wrap64 (a0_1 - a0_3)) == (l0_0.length : Int)) = true := beq_iff_eq.mpr c14
     have c14b1 : ((wrap64 (a0_1 - a0_3)) != (l0_0.length : Int)) = false := bne_eq_false_iff_eq.mpr c14
     clear c14
     have H' := Aside0.mk H
     clear H
     have hnb15 := NB218_219.out
     have hnc15 := NB219_218.out
     obtain ⟨hcz16_0, hcz16_1, hcz16_2, hcz16_3⟩ := cz4 BK218
     obtain ⟨hfz16_0, hfz16_1, hfz16_2, hfz16_3⟩ := fz4 BK218
     go_wp2_with (first | ((with_reducible refine gate_callee (f := 18) rfl ?_); refine gL (some 12) rfl rfl Tryd.func18 (by kernel_rfl) rfl #[.agg #[.slice A0_0 l0_0.length c0_0, .int .i64 a0_1, .int .i64 a0_2, .int .i64 a0_3]] rfl ?_; (with_reducible refine (spec_GoodRing.calls k _ _ l0_0 a0_1 a0_2 a0_3 true _ ?side1 ?side2 A8.out).mono ?_); (case side1 => exact cb HR0_0 HB); (case side2 => exact HC0_0.out); rintro e w17 ⟨rfl, hb⟩; refine ⟨_, rfl, ?_⟩; replace BK218 := nb BK218 hb; replace BK219 := nb BK219 hb; replace HB := Aside0.mk (below_step (bs2 HB GE218 GE219) hb); (try clear hb); (try clear hb2); (try clear hk); (try clear hi); obtain ⟨hcz18_0, hcz18_1, hcz18_2, hcz18_3⟩ := cz4 BK218; obtain ⟨hfz18_0, hfz18_1, hfz18_2, hfz18_3⟩ := fz4 BK218))
     go_meet
     case rel => exact ⟨_, (true), (by first | rfl | (simp; done) | (simp [*]; done)), H', ⟨by first | omega | exact Nat.le_refl _⟩, ⟨bk BK218⟩, ⟨bk BK219⟩, ⟨bs2 HB GE218 GE219⟩⟩
    ·
     rw [if_neg c14] at H
     have c14b0 : ((wrap64 (a0_1 - a0_3)) == (l0_0.length : Int)) = false := beq_eq_false_iff_ne.mpr c14
     have c14b1 : ((wrap64 (a0_1 - a0_3)) != (l0_0.length : Int)) = true := bne_iff_ne.mpr c14
     have H' := Aside0.mk H
     clear H
     have hnb19 := NB218_219.out
     have hnc19 := NB219_218.out
     obtain ⟨hcz20_0, hcz20_1, hcz20_2, hcz20_3⟩ := cz4 BK218
     obtain ⟨hfz20_0, hfz20_1, hfz20_2, hfz20_3⟩ := fz4 BK218
     go_wp2_with (first | ((with_reducible refine gate_callee (f := 18) rfl ?_); refine gL (some 12) rfl rfl Tryd.func18 (by kernel_rfl) rfl #[.agg #[.slice A0_0 l0_0.length c0_0, .int .i64 a0_1, .int .i64 a0_2, .int .i64 a0_3]] rfl ?_; (with_reducible refine (spec_GoodRing.calls k _ _ l0_0 a0_1 a0_2 a0_3 true _ ?side1 ?side2 A8.out).mono ?_); (case side1 => exact cb HR0_0 HB); (case side2 => exact HC0_0.out); rintro e w21 ⟨rfl, hb⟩; refine ⟨_, rfl, ?_⟩; replace BK218 := nb BK218 hb; replace BK219 := nb BK219 hb; replace HB := Aside0.mk (below_step (bs2 HB GE218 GE219) hb); (try clear hb); (try clear hb2); (try clear hk); (try clear hi); obtain ⟨hcz22_0, hcz22_1, hcz22_2, hcz22_3⟩ := cz4 BK218; obtain ⟨hfz22_0, hfz22_1, hfz22_2, hfz22_3⟩ := fz4 BK218))
     go_meet
     case rel => exact ⟨_, ((a0_1 == 10000000)), (by first | rfl | (simp; done) | (simp [*]; done)), H', ⟨by first | omega | exact Nat.le_refl _⟩, ⟨bk BK218⟩, ⟨bk BK219⟩, ⟨bs2 HB GE218 GE219⟩⟩
  ·
   replace c9 := Bool.eq_false_iff.mpr c9
   subst c9
   rw [if_neg (show ¬ (false = true) by decide)] at H
   have H' := Aside0.mk H
   clear H
   have hnb23 := NB218_219.out
   have hnc23 := NB219_218.out
   obtain ⟨hcz24_0, hcz24_1, hcz24_2, hcz24_3⟩ := cz4 BK218
   obtain ⟨hfz24_0, hfz24_1, hfz24_2, hfz24_3⟩ := fz4 BK218
   go_wp2_with (first | ((with_reducible refine gate_callee (f := 18) rfl ?_); refine gL (some 12) rfl rfl Tryd.func18 (by kernel_rfl) rfl #[.agg #[.slice A0_0 l0_0.length c0_0, .int .i64 a0_1, .int .i64 a0_2, .int .i64 a0_3]] rfl ?_; (with_reducible refine (spec_GoodRing.calls k _ _ l0_0 a0_1 a0_2 a0_3 false _ ?side1 ?side2 A8.out).mono ?_); (case side1 => exact cb HR0_0 HB); (case side2 => exact HC0_0.out); rintro e w25 ⟨rfl, hb⟩; refine ⟨_, rfl, ?_⟩; replace BK218 := nb BK218 hb; replace BK219 := nb BK219 hb; replace HB := Aside0.mk (below_step (bs2 HB GE218 GE219) hb); (try clear hb); (try clear hb2); (try clear hk); (try clear hi)))
   go_meet
   case rel => exact ⟨_, (true), (by first | rfl | (simp; done) | (simp [*]; done)), H', ⟨by first | omega | exact Nat.le_refl _⟩, ⟨bk BK218⟩, ⟨bk BK219⟩, ⟨bs2 HB GE218 GE219⟩⟩
 case rest =>
  clear HC3
  try clear c1
  try clear c2
  try clear p2
  try clear c3
  try clear c6
  try clear p6
  try clear c9
  try clear c10
  try clear c10b0
  try clear c10b1
  try clear c11
  try clear c14
  try clear c14b0
  try clear c14b1
  try clear c15
  try clear c18
  try clear c19
  try clear c23
  try clear hcz12_0 hcz12_1 hcz12_2 hcz12_3
  try clear hcz16_0 hcz16_1 hcz16_2 hcz16_3
  try clear hcz18_0 hcz18_1 hcz18_2 hcz18_3
  try clear hcz20_0 hcz20_1 hcz20_2 hcz20_3
  try clear hcz22_0 hcz22_1 hcz22_2 hcz22_3
  try clear hcz24_0 hcz24_1 hcz24_2 hcz24_3
  try clear hcz7_0 hcz7_1 hcz7_2 hcz7_3
  try clear hfz12_0 hfz12_1 hfz12_2 hfz12_3
  try clear hfz16_0 hfz16_1 hfz16_2 hfz16_3
  try clear hfz18_0 hfz18_1 hfz18_2 hfz18_3
  try clear hfz20_0 hfz20_1 hfz20_2 hfz20_3
  try clear hfz22_0 hfz22_1 hfz22_2 hfz22_3
  try clear hfz24_0 hfz24_1 hfz24_2 hfz24_3
  try clear hfz7_0 hfz7_1 hfz7_2 hfz7_3
  obtain ⟨kq, x32_2, rfl, HA, HJ2, BK218, BK219, HB⟩ := hcut
  cases kq with
  | zero => exact absurd HA.out (by simp [spec_PutRecord.j0])
  | succ kj2 =>
   have H := HA.out
   clear HA
   simp only [spec_PutRecord.j0] at H
   by_cases c26 : x32_2 = true
   ·
    subst c26
    rw [if_pos rfl] at H
    simp only [Option.some.injEq, Prod.mk.injEq] at H
    obtain ⟨rfl, rfl, rfl, rfl, rfl⟩ := H
    have hnb27 := NB219_218.out
    have hnc27 := NB218_219.out
    obtain ⟨hcz28_0, hcz28_1, hcz28_2, hcz28_3⟩ := cz4 BK219
    obtain ⟨hfz28_0, hfz28_1, hfz28_2, hfz28_3⟩ := fz4 BK219
    go_wp2
    refine bodyPost_ret (results_ct rfl _ _ gb219 36 #[.slice none 0 0, .int .i64 0, .int .i64 0, .int .i64 0] (0, 0) _ rfl (by (with_reducible repeat (first | refine blk_drewN ?_ _ | refine blk_drew ?_ | refine blk_alloc ?_ _)); refine blk_put (cs := #[.slice none 0 0, .int .i64 0, .int .i64 0, .int .i64 0]) ?_ 3 _ rfl; (with_reducible repeat (first | refine blk_drewN ?_ _ | refine blk_drew ?_ | refine blk_alloc ?_ _)); refine blk_put (cs := #[.slice none 0 0, .int .i64 0, .int .i64 0, .int .i64 0]) ?_ 2 _ rfl; (with_reducible repeat (first | refine blk_drewN ?_ _ | refine blk_drew ?_ | refine blk_alloc ?_ _)); refine blk_put (cs := #[.slice none 0 0, .int .i64 0, .int .i64 0, .int .i64 0]) ?_ 1 _ rfl; (with_reducible repeat (first | refine blk_drewN ?_ _ | refine blk_drew ?_ | refine blk_alloc ?_ _)); refine blk_put (cs := #[.slice none 0 0, .int .i64 0, .int .i64 0, .int .i64 0]) ?_ 0 _ rfl; (with_reducible repeat (first | refine blk_drewN ?_ _ | refine blk_drew ?_ | refine blk_alloc ?_ _)); exact BK219.out) Tryd.underlying36 rfl (by kernel_rfl)) rfl ?_
    exact ⟨_, by first | rfl | (simp [errW_none, errW_some] <;> rfl) | (simp [*, errW_none, errW_some] <;> rfl), by first | exact Kd.R_nil _ _ _ _ _ | exact Kd.N_nil _ _ _ _ _ | exact Kd.V_nil _ _ _ _ _ | exact Kd.Q_nil _ _ _ _ _ | exact Kd.S_nil _ _ _ _ _, bs2 HB GE218 GE219⟩
   ·
    replace c26 := Bool.eq_false_iff.mpr c26
    subst c26
    rw [if_neg (show ¬ (false = true) by decide)] at H
    replace H := Option.bind_eq_some_iff.mp H
    obtain ⟨⟨t221, t224, t225, t226⟩, A290, H⟩ := H
    replace H : ((spec_SlotSum.f kj2 t225 t226 a1 0).bind fun t228 => (if (l0_0.length : Int) = 0 then (none) else (if 0 ≤ (Int.tmod t224 (l0_0.length : Int)) then (if (Int.tmod t224 (l0_0.length : Int)) < (t221.length : Int) then (some ((t221.set ((Int.tmod t224 (l0_0.length : Int)) : Int).toNat (⟨t225, t226, a1, t228⟩ : S26)), wrap64 (t224 + 1), wrap64 ((wrap64 (Int.tdiv (wrap64 (t224 + 1)) (l0_0.length : Int))) + 1), t226, true)) else (none)) else (none)))) = some (r1, r2, r3, r4, r5) := H
    have A29 := Aside0.mk A290
    clear A290
    replace H := Option.bind_eq_some_iff.mp H
    obtain ⟨t228, A300, H⟩ := H
    replace H : (if (l0_0.length : Int) = 0 then (none) else (if 0 ≤ (Int.tmod t224 (l0_0.length : Int)) then (if (Int.tmod t224 (l0_0.length : Int)) < (t221.length : Int) then (some ((t221.set ((Int.tmod t224 (l0_0.length : Int)) : Int).toNat (⟨t225, t226, a1, t228⟩ : S26)), wrap64 (t224 + 1), wrap64 ((wrap64 (Int.tdiv (wrap64 (t224 + 1)) (l0_0.length : Int))) + 1), t226, true)) else (none)) else (none))) = some (r1, r2, r3, r4, r5) := H
    have A30 := Aside0.mk A300
    clear A300
    by_cases c31 : (l0_0.length : Int) = 0
    ·
     rw [if_pos c31] at H
     exact absurd H (by simp)
    ·
     rw [if_neg c31] at H
     have c31b0 : ((l0_0.length : Int) == 0) = false := beq_eq_false_iff_ne.mpr c31
     have c31b1 : ((l0_0.length : Int) != 0) = true := bne_iff_ne.mpr c31
     have c31b2 : ¬ (l0_0 = []) := fun h_ => c31 (by rw [h_]; rfl)
     obtain ⟨ji32, hji32⟩ : ∃ j_ : Int, (Int.tmod t224 (l0_0.length : Int)) = j_ := ⟨_, rfl⟩
     replace H : (if 0 ≤ (ji32) then (if (ji32) < (t221.length : Int) then (some ((t221.set ((ji32) : Int).toNat (⟨t225, t226, a1, t228⟩ : S26)), wrap64 (t224 + 1), wrap64 ((wrap64 (Int.tdiv (wrap64 (t224 + 1)) (l0_0.length : Int))) + 1), t226, true)) else (none)) else (none)) = some (r1, r2, r3, r4, r5) := by first | (rw [hji32] at H; exact H) | (simp only [hji32] at H ⊢; exact H)
     (try rw [hji32] at A29)
     (try rw [hji32] at A30)
     by_cases c33 : 0 ≤ (ji32)
     ·
      rw [if_pos c33] at H
      have c33b0 : decide (0 ≤ (ji32)) = true := decide_eq_true c33
      clear c33
      by_cases c34 : (ji32) < (t221.length : Int)
      ·
       rw [if_pos c34] at H
       have c34b0 : decide ((ji32) < (t221.length : Int)) = true := decide_eq_true c34
       clear c34
       obtain ⟨y229, hy229⟩ : ∃ y_ : List (S26), y_ = (t221.set ((ji32) : Int).toNat (⟨t225, t226, a1, t228⟩ : S26)) := ⟨_, rfl⟩
       replace H : (some (y229, wrap64 (t224 + 1), wrap64 ((wrap64 (Int.tdiv (wrap64 (t224 + 1)) (l0_0.length : Int))) + 1), t226, true)) = some (r1, r2, r3, r4, r5) := by first | (rw [hy229]; with_reducible exact H) | (have H2_ := (Option.bind_some _ _).symm.trans H; rw [hy229]; with_reducible exact H2_) | (have H2_ := (Option.bind_some _ _).symm.trans H; with_reducible exact H2_) | with_reducible exact H | (rw [hy229]; exact H) | exact H
       have Ny229 := Aside0.mk hy229
       clear hy229
       simp only [Option.some.injEq, Prod.mk.injEq] at H
       obtain ⟨rfl, rfl, rfl, rfl, rfl⟩ := H
       have hnb36 := NB218_219.out
       have hnc36 := NB219_218.out
       obtain ⟨hcz37_0, hcz37_1, hcz37_2, hcz37_3⟩ := cz4 BK218
       obtain ⟨hfz37_0, hfz37_1, hfz37_2, hfz37_3⟩ := fz4 BK218
       try go_wp2_with (first | ((with_reducible refine gate_callee (f := 68) rfl ?_); refine gL (some 35) rfl rfl Tryd.func68 (by kernel_rfl) rfl #[.agg #[.slice A0_0 l0_0.length c0_0, .int .i64 a0_1, .int .i64 a0_2, .int .i64 a0_3]] rfl ?_; (with_reducible refine (spec_l10Own.calls _ _ l0_0 a0_1 a0_2 a0_3 t221 t224 t225 t226 _ ?side1 ?side2 A29.out).mono ?_); (case side1 => exact cb HR0_0 HB); (case side2 => exact HC0_0.out); rintro e w38 ⟨v222, rfl, ho0, hb⟩; refine ⟨_, rfl, ?_⟩; have HO223 := Aside0.mk (Kd.R_lower ho0 (below_size (bs2 HB GE218 GE219))); replace BK218 := nb BK218 hb; replace BK219 := nb BK219 hb; replace HB := Aside0.mk (below_step (bs2 HB GE218 GE219) hb); (try clear hb); (try clear hb2); (try clear hk); (try clear hi); (try clear ho0); obtain ⟨Ao39, co39, eo39⟩ := Kd.R_slice HO223.out; subst eo39; obtain ⟨hcz40_0, hcz40_1, hcz40_2, hcz40_3⟩ := cz4 BK218; obtain ⟨hfz40_0, hfz40_1, hfz40_2, hfz40_3⟩ := fz4 BK218) | ((with_reducible refine gate_dst (N := 7) rfl ?_); (try (refine gate_guard (by rfl) ?_; dsimp only)); refine box_event ?hg (N := 7) ?hd (cs := #[.int .i64 0, .int .i64 0, .string (⟨#[]⟩ : ByteArray), .int .i64 0]) (t := 26) ?hr ?_; (case hd => rfl); (case hg => rfl); (case hr => first | (go_simp; done) | (go_simp; rfl)); intro gb227 hg w41 hbox hb; replace HO223 := Aside0.mk (Kd.R_below (Kd.R_elderB (rf HO223 BK218) gb227 (Nat.le_of_eq hg.symm)) hb); have BK227 := Aside0.mk (hbox); have GW227 := Aside0.mk ((by rw [hg]; exact (below_size (bs2 HB GE218 GE219)) : w.heap.size ≤ gb227)); have GE227 := Aside0.mk ((by rw [hg]; exact (below_size (bs2 HB GE218 GE219)) : w.heap.size ≤ gb227)); replace HB := Aside0.mk (below_step (bs2 HB GE218 GE219) hb); have NB218_227 := Aside0.mk ((bnz BK218 hg : gb218 ≠ gb227)); have NB227_218 := Aside0.mk ((bmz BK218 hg : gb227 ≠ gb218)); replace BK218 := Aside0.mk (blk_below (g := gb218) (o := .cells #[.slice Ao39 t221.length co39, .int .i64 t224, .int .i64 t225, .int .i64 t226] 36 (0, 0)) (by (with_reducible repeat (first | refine blk_drewN ?_ _ | refine blk_drew ?_ | refine blk_alloc ?_ _)); refine blk_put (cs := #[.slice Ao39 t221.length co39, .int .i64 t224, .int .i64 t225, .int .i64 a0_3]) ?_ 3 _ rfl; (with_reducible repeat (first | refine blk_drewN ?_ _ | refine blk_drew ?_ | refine blk_alloc ?_ _)); refine blk_put (cs := #[.slice Ao39 t221.length co39, .int .i64 t224, .int .i64 a0_2, .int .i64 a0_3]) ?_ 2 _ rfl; (with_reducible repeat (first | refine blk_drewN ?_ _ | refine blk_drew ?_ | refine blk_alloc ?_ _)); refine blk_put (cs := #[.slice Ao39 t221.length co39, .int .i64 a0_1, .int .i64 a0_2, .int .i64 a0_3]) ?_ 1 _ rfl; (with_reducible repeat (first | refine blk_drewN ?_ _ | refine blk_drew ?_ | refine blk_alloc ?_ _)); refine blk_put (cs := #[.slice A0_0 l0_0.length c0_0, .int .i64 a0_1, .int .i64 a0_2, .int .i64 a0_3]) ?_ 0 _ rfl; (with_reducible repeat (first | refine blk_drewN ?_ _ | refine blk_drew ?_ | refine blk_alloc ?_ _)); exact BK218.out) hb); have NB219_227 := Aside0.mk ((by rw [hg]; exact Nat.ne_of_lt (blk_lt (g := gb219) (o := .cells #[.slice none 0 0, .int .i64 0, .int .i64 0, .int .i64 0] 36 (0, 0)) (bf BK219 NB219_218)) : gb219 ≠ gb227)); have NB227_219 := Aside0.mk ((by rw [hg]; exact Nat.ne_of_gt (blk_lt (g := gb219) (o := .cells #[.slice none 0 0, .int .i64 0, .int .i64 0, .int .i64 0] 36 (0, 0)) (bf BK219 NB219_218)) : gb227 ≠ gb219)); replace BK219 := Aside0.mk (blk_below (bf BK219 NB219_218) hb); clear hb hbox hg; have hnb42 := NB227_218.out; have hnc42 := NB218_227.out; have hnb43 := NB227_219.out; have hnc43 := NB219_227.out; obtain ⟨hcz44_0, hcz44_1, hcz44_2, hcz44_3⟩ := cz4 BK227; obtain ⟨hfz44_0, hfz44_1, hfz44_2, hfz44_3⟩ := fz4 BK227) | ((with_reducible refine gate_callee (f := 14) rfl ?_); refine gL (some 43) rfl rfl Tryd.func14 (by kernel_rfl) rfl #[.agg #[.int .i64 t225, .int .i64 t226, .string a1, .int .i64 0]] rfl ?_; (with_reducible refine (spec_SlotSum.calls kj2 t225 t226 a1 0 t228 _ A30.out).mono ?_); rintro e w45 ⟨rfl, hb⟩; refine ⟨_, rfl, ?_⟩; replace HO223 := Aside0.mk (Kd.R_below (by (with_reducible repeat (first | apply Kd.R_alloc | apply Kd.R_drewN | apply Kd.R_drew)); exact (Kd.R_mono (Kd.R_far (p := ⟨gb227, 3, none⟩) (Kd.R_far (p := ⟨gb227, 2, none⟩) (Kd.R_far (p := ⟨gb227, 1, none⟩) (Kd.R_far (p := ⟨gb227, 0, none⟩) (Kd.R_mono HO223.out (fun k_ hk => (⟨hk, hk.2⟩ : _ ∧ k_ ≠ gb227))) (fun _ hk => hk.2) (.int .i64 t225)) (fun _ hk => hk.2) (.int .i64 t226)) (fun _ hk => hk.2) (.string a1)) (fun _ hk => hk.2) (.int .i64 0)) (fun _ h_ => h_.1))) hb); replace BK218 := Aside0.mk (blk_below (bf BK218 NB218_227) hb); replace BK219 := Aside0.mk (blk_below (bf BK219 NB219_227) hb); replace BK227 := Aside0.mk (blk_below (g := gb227) (o := .cells #[.int .i64 t225, .int .i64 t226, .string a1, .int .i64 0] 26 (0, 0)) (by (with_reducible repeat (first | refine blk_drewN ?_ _ | refine blk_drew ?_ | refine blk_alloc ?_ _)); refine blk_put (cs := #[.int .i64 t225, .int .i64 t226, .string a1, .int .i64 0]) ?_ 3 _ rfl; (with_reducible repeat (first | refine blk_drewN ?_ _ | refine blk_drew ?_ | refine blk_alloc ?_ _)); refine blk_put (cs := #[.int .i64 t225, .int .i64 t226, .string (⟨#[]⟩ : ByteArray), .int .i64 0]) ?_ 2 _ rfl; (with_reducible repeat (first | refine blk_drewN ?_ _ | refine blk_drew ?_ | refine blk_alloc ?_ _)); refine blk_put (cs := #[.int .i64 t225, .int .i64 0, .string (⟨#[]⟩ : ByteArray), .int .i64 0]) ?_ 1 _ rfl; (with_reducible repeat (first | refine blk_drewN ?_ _ | refine blk_drew ?_ | refine blk_alloc ?_ _)); refine blk_put (cs := #[.int .i64 0, .int .i64 0, .string (⟨#[]⟩ : ByteArray), .int .i64 0]) ?_ 0 _ rfl; (with_reducible repeat (first | refine blk_drewN ?_ _ | refine blk_drew ?_ | refine blk_alloc ?_ _)); exact BK227.out) hb); replace HB := Aside0.mk (below_step (bs3 HB GE218 GE219 GE227) hb); (try clear hb); (try clear hb2); (try clear hk); (try clear hi); obtain ⟨hcz46_0, hcz46_1, hcz46_2, hcz46_3⟩ := cz4 BK227; obtain ⟨hfz46_0, hfz46_1, hfz46_2, hfz46_3⟩ := fz4 BK227))
       have n0_ : Aside0 (Kd.R k26 26 (w45.setCell ⟨gb227, 3, none⟩ (.int .i64 t228)) w.heap.size (fun k_ => k_ ≠ gb227) (.slice Ao39 t221.length co39) t221) := ⟨by (with_reducible repeat (first | apply Kd.R_alloc | apply Kd.R_drewN | apply Kd.R_drew)); exact Kd.R_mono (Kd.R_far (p := ⟨gb227, 3, none⟩) (Kd.R_mono HO223.out (fun k_ hk => (⟨hk, hk.2⟩ : _ ∧ k_ ≠ gb227))) (fun _ hk => hk.2) (.int .i64 t228)) (fun _ hk => hk.1.2)⟩
       have n1_ : Aside0 ((w45.setCell ⟨gb227, 3, none⟩ (.int .i64 t228)).heap[gb218]? = some (.cells #[.slice Ao39 t221.length co39, .int .i64 t224, .int .i64 t225, .int .i64 t226] 36 (0, 0))) := ⟨bf BK218 NB218_227⟩
       have n2_ : Aside0 ((w45.setCell ⟨gb227, 3, none⟩ (.int .i64 t228)).heap[gb219]? = some (.cells #[.slice none 0 0, .int .i64 0, .int .i64 0, .int .i64 0] 36 (0, 0))) := ⟨bf BK219 NB219_227⟩
       have n3_ : Aside0 ((w45.setCell ⟨gb227, 3, none⟩ (.int .i64 t228)).heap[gb227]? = some (.cells #[.int .i64 t225, .int .i64 t226, .string a1, .int .i64 t228] 26 (0, 0))) := ⟨by (with_reducible repeat (first | refine blk_drewN ?_ _ | refine blk_drew ?_ | refine blk_alloc ?_ _)); refine blk_put (cs := #[.int .i64 t225, .int .i64 t226, .string a1, .int .i64 0]) ?_ 3 _ rfl; (with_reducible repeat (first | refine blk_drewN ?_ _ | refine blk_drew ?_ | refine blk_alloc ?_ _)); exact BK227.out⟩
       have n4_ : Aside0 (Below w.heap.size w (w45.setCell ⟨gb227, 3, none⟩ (.int .i64 t228))) := ⟨bs3 HB GE218 GE219 GE227⟩
       (try clear HO223)
       (try clear BK218)
       (try clear BK219)
       (try clear BK227)
       (try clear HB)
       generalize (w45.setCell ⟨gb227, 3, none⟩ (.int .i64 t228)) = w47 at n0_ n1_ n2_ n3_ n4_ ⊢
       have HO223 := n0_
       have BK218 := n1_
       have BK219 := n2_
       have BK227 := n3_
       have HB := n4_
       clear n0_ n1_ n2_ n3_ n4_
       have n0_ := Aside0.mk (Kd.R_drew HO223.out)
       have n1_ := Aside0.mk (blk_drew BK218.out)
       have n2_ := Aside0.mk (blk_drew BK219.out)
       have n3_ := Aside0.mk (blk_drew BK227.out)
       have n4_ := Aside0.mk (below_drew1 HB.out)
       clear HO223
       clear BK218
       clear BK219
       clear BK227
       clear HB
       have HO223 := n0_
       have BK218 := n1_
       have BK219 := n2_
       have BK227 := n3_
       have HB := n4_
       clear n0_ n1_ n2_ n3_ n4_
       have p35 : 0 ≤ ((ji32) : Int) := of_decide_eq_true (by first | (with_reducible assumption) | assumption)
       have q35 : ((ji32) : Int) < ((t221.length : Int) : Int) := of_decide_eq_true (by first | (with_reducible assumption) | assumption)
       obtain ⟨go35, co35, eo35, gb35, gl35, cl35, HG35⟩ := Kd.R_form HO223.out (by omega)
       (first | cases eo35 | (injection eo35 with ea_ en_ ec_; (first | subst ea_ | (injection ea_ with ea_; subst ea_)); subst ec_; clear en_))
       have GB35 := Aside0.mk gb35
       have GG35 := Aside0.mk HG35
       clear gb35 gl35 HG35
       obtain ⟨ce35, hcl35, hM35, hcc35, hfr35⟩ := Kd.R_elem HO223.out z26 ((ji32) : Int) p35 q35
       obtain rfl := k26_openM hM35
       have hx35_0 : World.cell? _ ⟨go35, ((ji32) : Int).toNat * 4, none⟩ = some (.int .i64 ((rd_T26 t221 (ji32)).f0)) := hcc35 0 _ rfl
       have hx35_1 : World.cell? _ ⟨go35, ((ji32) : Int).toNat * 4 + 1, none⟩ = some (.int .i64 ((rd_T26 t221 (ji32)).f1)) := hcc35 1 _ rfl
       have hx35_2 : World.cell? _ ⟨go35, ((ji32) : Int).toNat * 4 + 2, none⟩ = some (.string ((rd_T26 t221 (ji32)).f2)) := hcc35 2 _ rfl
       have hx35_3 : World.cell? _ ⟨go35, ((ji32) : Int).toNat * 4 + 3, none⟩ = some (.int .i64 ((rd_T26 t221 (ji32)).f3)) := hcc35 3 _ rfl
       have hf35_0 : World.frozen? _ ⟨go35, ((ji32) : Int).toNat * 4, none⟩ = false := hfr35 0
       have hf35_1 : World.frozen? _ ⟨go35, ((ji32) : Int).toNat * 4 + 1, none⟩ = false := hfr35 1
       have hf35_2 : World.frozen? _ ⟨go35, ((ji32) : Int).toNat * 4 + 2, none⟩ = false := hfr35 2
       have hf35_3 : World.frozen? _ ⟨go35, ((ji32) : Int).toNat * 4 + 3, none⟩ = false := hfr35 3
       clear hcl35 hcc35 hfr35 hM35
       replace p35 := eq_true p35
       replace q35 := eq_true q35
       obtain ⟨ce49, hcl49, hM49, hcc49, hfr49⟩ := Kd.R_elem HO223.out z26 ((ji32) : Int) (of_decide_eq_true (by first | (with_reducible assumption) | assumption)) (by have h_ : ((ji32) : Int) < ((t221.length : Int) : Int) := of_decide_eq_true (by first | (with_reducible assumption) | assumption); first | exact h_ | (have e_ := (Kd.R_reads' HO223.out).1; omega) | simpa using h_)
       obtain rfl := k26_openM hM49
       have HP49 := (Kd.R_seg HO223.out ((ji32) : Int) (of_decide_eq_true (by first | (with_reducible assumption) | assumption)) (by have h_ : ((ji32) : Int) < ((t221.length : Int) : Int) := of_decide_eq_true (by first | (with_reducible assumption) | assumption); first | exact h_ | (have e_ := (Kd.R_reads' HO223.out).1; omega) | simpa using h_) (seg := [.int .i64 t225, .int .i64 t226, .string a1, .int .i64 t228]) (j := 0) hcl49 hcc49 (show 4 ≤ 4 from by decide) (x' := (⟨t225, t226, a1, t228⟩ : S26)) (k26_mkM _ _ _ (⟨t225, t226, a1, t228⟩ : S26) ) (fun _ hk => hk)).1
       rw [← Ny229.out] at HP49
       have HQ49 := Aside0.mk HP49
       clear hcl49 hcc49 hfr49 hM49 HP49
       refine start_ (n := 9) (S := fun w' => w'.cell? ⟨gb218, 0, none⟩ = some (.slice (some ⟨go35, 0, none⟩) t221.length co39) ∧ w'.cell? ⟨gb218, 1, none⟩ = some (.int .i64 t224) ∧ w'.cell? ⟨gb218, 2, none⟩ = some (.int .i64 t225) ∧ w'.cell? ⟨gb218, 3, none⟩ = some (.int .i64 t226) ∧ w'.cell? ⟨gb227, 0, none⟩ = some (.int .i64 t225) ∧ w'.cell? ⟨gb227, 1, none⟩ = some (.int .i64 t226) ∧ w'.cell? ⟨gb227, 2, none⟩ = some (.string a1) ∧ w'.cell? ⟨gb227, 3, none⟩ = some (.int .i64 t228)) (ds := [8]) #[false, false, false, false, false, false, false, false, false] (by kernel_rfl) rfl rfl ⟨(blk_cell BK218.out 0).trans rfl, (blk_cell BK218.out 1).trans rfl, (blk_cell BK218.out 2).trans rfl, (blk_cell BK218.out 3).trans rfl, (blk_cell BK227.out 0).trans rfl, (blk_cell BK227.out 1).trans rfl, (blk_cell BK227.out 2).trans rfl, (blk_cell BK227.out 3).trans rfl⟩ (fun hHeld => ?_); refine with_tabW spec_PutRecord.tab7 spec_PutRecord.bits7 (fun HT_ HW_ => ?_)
       generalize w47.drew = w48 at HO223 BK218 BK219 BK227 HB GG35 HQ49 hf35_0 hf35_1 hf35_2 hf35_3 hx35_0 hx35_1 hx35_2 hx35_3 hHeld ⊢
       refine pureS 0 45 HT_.out ?_
       refine pureS 2 47 HT_.out ?_
       refine pureS 4 49 HT_.out ?_
       refine takeS 1 46 HT_.out HW_.out hHeld (hr := by rintro w' ⟨s0, s1, s2, s3, s4, s5, s6, s7⟩; (try simp only [add_at, Nat.zero_add] at s4 s5 s6 s7); go_simp; with_reducible rfl) (h := ?_)
       refine takeS 3 48 HT_.out HW_.out hHeld (hr := by rintro w' ⟨s0, s1, s2, s3, s4, s5, s6, s7⟩; (try simp only [add_at, Nat.zero_add] at s4 s5 s6 s7); go_simp; with_reducible rfl) (h := ?_)
       refine pureS 5 50 HT_.out ?_
       refine takeS 6 51 HT_.out HW_.out hHeld (hr := by rintro w' ⟨s0, s1, s2, s3, s4, s5, s6, s7⟩; (try simp only [add_at, Nat.zero_add] at s4 s5 s6 s7); go_simp; with_reducible rfl) (h := ?_)
       refine pureS 7 52 HT_.out ?_
       refine last_ (i := 8) (N := none) #[true, true, true, true, true, true, true, true, true] rfl rfl (one_of HT_.out (by kernel_rfl)) (by decide) (fun K hK => ?_)
       refine skip_ (w1 := ?_) (by rfl) rfl ?_ ?_
       rotate_left
       ·
        go_simp
        rfl
       refine hK.out _ _ ?_
       clear hK K
       refine done_ (done_of HT_.out (by kernel_rfl)) ?_
       have n0_ : Aside0 (Kd.R k26 26 ((((w48.setCell ⟨go35, ((ji32) : Int).toNat * 4, none⟩ (.int .i64 t225)).setCell ⟨go35, ((ji32) : Int).toNat * 4 + 1, none⟩ (.int .i64 t226)).setCell ⟨go35, ((ji32) : Int).toNat * 4 + 2, none⟩ (.string a1)).setCell ⟨go35, ((ji32) : Int).toNat * 4 + 3, none⟩ (.int .i64 t228)) w.heap.size (fun k_ => k_ ≠ gb227) (.slice (some ⟨go35, 0, none⟩) t221.length co39) y229) := ⟨(by first | exact rr HQ49.out | exact HQ49.out)⟩
       have n1_ : Aside0 (((((w48.setCell ⟨go35, ((ji32) : Int).toNat * 4, none⟩ (.int .i64 t225)).setCell ⟨go35, ((ji32) : Int).toNat * 4 + 1, none⟩ (.int .i64 t226)).setCell ⟨go35, ((ji32) : Int).toNat * 4 + 2, none⟩ (.string a1)).setCell ⟨go35, ((ji32) : Int).toNat * 4 + 3, none⟩ (.int .i64 t228)).heap[gb218]? = some (.cells #[.slice (some ⟨go35, 0, none⟩) t221.length co39, .int .i64 t224, .int .i64 t225, .int .i64 t226] 36 (0, 0))) := ⟨by (with_reducible repeat (first | refine blk_drewN ?_ _ | refine blk_drew ?_ | refine blk_alloc ?_ _)); refine blk_far ?_ (by have h_ := Kd.R_ne HO223.out BK218.out (by decide); intro e_; exact h_ (by rw [e_]; rfl)) _; (with_reducible repeat (first | refine blk_drewN ?_ _ | refine blk_drew ?_ | refine blk_alloc ?_ _)); refine blk_far ?_ (by have h_ := Kd.R_ne HO223.out BK218.out (by decide); intro e_; exact h_ (by rw [e_]; rfl)) _; (with_reducible repeat (first | refine blk_drewN ?_ _ | refine blk_drew ?_ | refine blk_alloc ?_ _)); refine blk_far ?_ (by have h_ := Kd.R_ne HO223.out BK218.out (by decide); intro e_; exact h_ (by rw [e_]; rfl)) _; (with_reducible repeat (first | refine blk_drewN ?_ _ | refine blk_drew ?_ | refine blk_alloc ?_ _)); refine blk_far ?_ (by have h_ := Kd.R_ne HO223.out BK218.out (by decide); intro e_; exact h_ (by rw [e_]; rfl)) _; (with_reducible repeat (first | refine blk_drewN ?_ _ | refine blk_drew ?_ | refine blk_alloc ?_ _)); exact BK218.out⟩
       have n2_ : Aside0 (((((w48.setCell ⟨go35, ((ji32) : Int).toNat * 4, none⟩ (.int .i64 t225)).setCell ⟨go35, ((ji32) : Int).toNat * 4 + 1, none⟩ (.int .i64 t226)).setCell ⟨go35, ((ji32) : Int).toNat * 4 + 2, none⟩ (.string a1)).setCell ⟨go35, ((ji32) : Int).toNat * 4 + 3, none⟩ (.int .i64 t228)).heap[gb219]? = some (.cells #[.slice none 0 0, .int .i64 0, .int .i64 0, .int .i64 0] 36 (0, 0))) := ⟨by (with_reducible repeat (first | refine blk_drewN ?_ _ | refine blk_drew ?_ | refine blk_alloc ?_ _)); refine blk_far ?_ (by have h_ := Kd.R_ne HO223.out BK219.out (by decide); intro e_; exact h_ (by rw [e_]; rfl)) _; (with_reducible repeat (first | refine blk_drewN ?_ _ | refine blk_drew ?_ | refine blk_alloc ?_ _)); refine blk_far ?_ (by have h_ := Kd.R_ne HO223.out BK219.out (by decide); intro e_; exact h_ (by rw [e_]; rfl)) _; (with_reducible repeat (first | refine blk_drewN ?_ _ | refine blk_drew ?_ | refine blk_alloc ?_ _)); refine blk_far ?_ (by have h_ := Kd.R_ne HO223.out BK219.out (by decide); intro e_; exact h_ (by rw [e_]; rfl)) _; (with_reducible repeat (first | refine blk_drewN ?_ _ | refine blk_drew ?_ | refine blk_alloc ?_ _)); refine blk_far ?_ (by have h_ := Kd.R_ne HO223.out BK219.out (by decide); intro e_; exact h_ (by rw [e_]; rfl)) _; (with_reducible repeat (first | refine blk_drewN ?_ _ | refine blk_drew ?_ | refine blk_alloc ?_ _)); exact BK219.out⟩
       have n3_ : Aside0 (((((w48.setCell ⟨go35, ((ji32) : Int).toNat * 4, none⟩ (.int .i64 t225)).setCell ⟨go35, ((ji32) : Int).toNat * 4 + 1, none⟩ (.int .i64 t226)).setCell ⟨go35, ((ji32) : Int).toNat * 4 + 2, none⟩ (.string a1)).setCell ⟨go35, ((ji32) : Int).toNat * 4 + 3, none⟩ (.int .i64 t228)).heap[gb227]? = some (.cells #[.int .i64 t225, .int .i64 t226, .string a1, .int .i64 t228] 26 (0, 0))) := ⟨by (with_reducible repeat (first | refine blk_drewN ?_ _ | refine blk_drew ?_ | refine blk_alloc ?_ _)); refine blk_far ?_ (by have h_ := Kd.R_away HO223.out (fun _ hk => hk); intro e_; exact h_ (by rw [e_]; rfl)) _; (with_reducible repeat (first | refine blk_drewN ?_ _ | refine blk_drew ?_ | refine blk_alloc ?_ _)); refine blk_far ?_ (by have h_ := Kd.R_away HO223.out (fun _ hk => hk); intro e_; exact h_ (by rw [e_]; rfl)) _; (with_reducible repeat (first | refine blk_drewN ?_ _ | refine blk_drew ?_ | refine blk_alloc ?_ _)); refine blk_far ?_ (by have h_ := Kd.R_away HO223.out (fun _ hk => hk); intro e_; exact h_ (by rw [e_]; rfl)) _; (with_reducible repeat (first | refine blk_drewN ?_ _ | refine blk_drew ?_ | refine blk_alloc ?_ _)); refine blk_far ?_ (by have h_ := Kd.R_away HO223.out (fun _ hk => hk); intro e_; exact h_ (by rw [e_]; rfl)) _; (with_reducible repeat (first | refine blk_drewN ?_ _ | refine blk_drew ?_ | refine blk_alloc ?_ _)); exact BK227.out⟩
       have n4_ : Aside0 (Below w.heap.size w ((((w48.setCell ⟨go35, ((ji32) : Int).toNat * 4, none⟩ (.int .i64 t225)).setCell ⟨go35, ((ji32) : Int).toNat * 4 + 1, none⟩ (.int .i64 t226)).setCell ⟨go35, ((ji32) : Int).toNat * 4 + 2, none⟩ (.string a1)).setCell ⟨go35, ((ji32) : Int).toNat * 4 + 3, none⟩ (.int .i64 t228))) := ⟨by repeat (first | (with_reducible first | exact HB.out | apply below_alloc | apply pw_below_drewN | apply below_drew1 | refine below_set ?_ GB35.out | refine below_set ?_ GB35.out | refine below_set ?_ GB35.out | refine below_set ?_ GB35.out | refine below_set ?_ GE218.out | refine below_set ?_ GE219.out | refine below_set ?_ GE227.out) | exact HB.out)⟩
       (try clear HO223)
       (try clear BK218)
       (try clear BK219)
       (try clear BK227)
       (try clear HB)
       generalize ((((w48.setCell ⟨go35, ((ji32) : Int).toNat * 4, none⟩ (.int .i64 t225)).setCell ⟨go35, ((ji32) : Int).toNat * 4 + 1, none⟩ (.int .i64 t226)).setCell ⟨go35, ((ji32) : Int).toNat * 4 + 2, none⟩ (.string a1)).setCell ⟨go35, ((ji32) : Int).toNat * 4 + 3, none⟩ (.int .i64 t228)) = w50 at n0_ n1_ n2_ n3_ n4_ ⊢
       have HO223 := n0_
       have BK218 := n1_
       have BK219 := n2_
       have BK227 := n3_
       have HB := n4_
       clear n0_ n1_ n2_ n3_ n4_
       obtain ⟨hcz51_0, hcz51_1, hcz51_2, hcz51_3⟩ := cz4 BK218
       obtain ⟨hfz51_0, hfz51_1, hfz51_2, hfz51_3⟩ := fz4 BK218
       obtain ⟨hcz52_0, hcz52_1, hcz52_2, hcz52_3⟩ := cz4 BK219
       obtain ⟨hfz52_0, hfz52_1, hfz52_2, hfz52_3⟩ := fz4 BK219
       try go_wp2
       refine bodyPost_ret (results_ct rfl _ _ gb219 36 #[.slice (some ⟨go35, 0, none⟩) t221.length co39, .int .i64 (wrap64 (t224 + 1)), .int .i64 (wrap64 ((wrap64 (Int.tdiv (wrap64 (t224 + 1)) (l0_0.length : Int))) + 1)), .int .i64 t226] (0, 0) _ rfl (by (with_reducible repeat (first | refine blk_drewN ?_ _ | refine blk_drew ?_ | refine blk_alloc ?_ _)); refine blk_put (cs := #[.slice (some ⟨go35, 0, none⟩) t221.length co39, .int .i64 (wrap64 (t224 + 1)), .int .i64 (wrap64 ((wrap64 (Int.tdiv (wrap64 (t224 + 1)) (l0_0.length : Int))) + 1)), .int .i64 0]) ?_ 3 _ rfl; (with_reducible repeat (first | refine blk_drewN ?_ _ | refine blk_drew ?_ | refine blk_alloc ?_ _)); refine blk_put (cs := #[.slice (some ⟨go35, 0, none⟩) t221.length co39, .int .i64 (wrap64 (t224 + 1)), .int .i64 0, .int .i64 0]) ?_ 2 _ rfl; (with_reducible repeat (first | refine blk_drewN ?_ _ | refine blk_drew ?_ | refine blk_alloc ?_ _)); refine blk_put (cs := #[.slice (some ⟨go35, 0, none⟩) t221.length co39, .int .i64 0, .int .i64 0, .int .i64 0]) ?_ 1 _ rfl; (with_reducible repeat (first | refine blk_drewN ?_ _ | refine blk_drew ?_ | refine blk_alloc ?_ _)); refine blk_put (cs := #[.slice none 0 0, .int .i64 0, .int .i64 0, .int .i64 0]) ?_ 0 _ rfl; (with_reducible repeat (first | refine blk_drewN ?_ _ | refine blk_drew ?_ | refine blk_alloc ?_ _)); refine blk_far ?_ NB219_218.out _; (with_reducible repeat (first | refine blk_drewN ?_ _ | refine blk_drew ?_ | refine blk_alloc ?_ _)); refine blk_far ?_ NB219_218.out _; (with_reducible repeat (first | refine blk_drewN ?_ _ | refine blk_drew ?_ | refine blk_alloc ?_ _)); exact BK219.out) Tryd.underlying36 rfl (by kernel_rfl)) rfl ?_
       exact ⟨_, by first | rfl | (simp [errW_none, errW_some] <;> rfl) | (simp only [← hji32]; first | rfl | (simp [errW_none, errW_some] <;> rfl)) | (simp [*, errW_none, errW_some] <;> rfl), by (with_reducible repeat (first | apply Kd.R_alloc | apply Kd.R_drewN | apply Kd.R_drew)); exact Kd.R_mono (Kd.R_far (p := ⟨gb219, 3, none⟩) (Kd.R_far (p := ⟨gb219, 2, none⟩) (Kd.R_far (p := ⟨gb219, 1, none⟩) (Kd.R_far (p := ⟨gb219, 0, none⟩) (Kd.R_far (p := ⟨gb218, 2, none⟩) (Kd.R_far (p := ⟨gb218, 1, none⟩) (Kd.R_types (Kd.R_types HO223.out BK218.out (by decide)) BK219.out (by decide)) (fun _ hk => hk.1.2) (.int .i64 (wrap64 (t224 + 1)))) (fun _ hk => hk.1.2) (.int .i64 (wrap64 ((wrap64 (Int.tdiv (wrap64 (t224 + 1)) (l0_0.length : Int))) + 1)))) (fun _ hk => hk.2) (.slice (some ⟨go35, 0, none⟩) t221.length co39)) (fun _ hk => hk.2) (.int .i64 (wrap64 (t224 + 1)))) (fun _ hk => hk.2) (.int .i64 (wrap64 ((wrap64 (Int.tdiv (wrap64 (t224 + 1)) (l0_0.length : Int))) + 1)))) (fun _ hk => hk.2) (.int .i64 t226)) (fun _ hk => trivial), bs3 HB GE218 GE219 GE227⟩
      ·
       rw [if_neg c34] at H
       exact absurd H (by simp)
     ·
      rw [if_neg c33] at H
      exact absurd H (by simp)

/-! ### spec_PushTail: function 40 -/
def spec_PushTail.f (k : Nat) (l0_0 : List (S26)) (a0_1 : Int) (a0_2 : Int) (a0_3 : Int) (a1 : Int) : Option ((List (S26)) × Int × Int × Int × Bool) := (spec_GoodRing.f k l0_0 a0_1 a0_2 a0_3).bind fun t232 => (if t232 = true then ((spec_l1In.f a1 0 (wrap64 (a0_1 - a0_3))).bind fun t233 => (if t233 = true then ((spec_l10Own.f l0_0 a0_1 a0_2 a0_3).bind fun bt234 => (some (bt234.1, bt234.2.1, bt234.2.2.1, wrap64 (bt234.2.2.2 + a1), true))) else (some (([] : List (S26)), 0, 0, 0, false)))) else (some (([] : List (S26)), 0, 0, 0, false)))
theorem spec_PushTail.mono : ∀ a0 a1 a2 a3 a4 k, LeO (spec_PushTail.f k a0 a1 a2 a3 a4) (spec_PushTail.f (k + 1) a0 a1 a2 a3 a4) := by
 intro a0 a1 a2 a3 a4 k
 unfold spec_PushTail.f
 repeat' first
   | (with_reducible exact spec_GoodRing.mono _ _ _ _ _)
   | (with_reducible exact LeO.refl _)
   | (with_reducible exact LeO.none _)
   | (with_reducible refine LeO.ite ?_ ?_)
   | (with_reducible refine LeO.bind ?_ (fun _ => ?_))
   | exact spec_GoodRing.mono _ _ _ _ _
   | exact LeO.none _
   | refine LeO.ite ?_ ?_
   | refine LeO.bind ?_ (fun _ => ?_)
set_option maxHeartbeats 8000000 in
set_option maxRecDepth 100000 in
theorem spec_PushTail.calls (k : Nat) (A0_0 : Option Addr) (c0_0 : Nat) (l0_0 : List (S26)) (a0_1 : Int) (a0_2 : Int) (a0_3 : Int) (a1 : Int) (r1 : List (S26)) (r2 : Int) (r3 : Int) (r4 : Int) (r5 : Bool) (w : World) (hr0_0 : Kd.C k26 w A0_0 l0_0.length l0_0) (hc0_0 : l0_0.length ≤ c0_0) (h : spec_PushTail.f k l0_0 a0_1 a0_2 a0_3 a1 = some (r1, r2, r3, r4, r5)) :
  Calls Tryd.prog 40 #[.agg #[.slice A0_0 l0_0.length c0_0, .int .i64 a0_1, .int .i64 a0_2, .int .i64 a0_3], .int .i64 a1] w fun e w' => ∃ v0_ : Value, e = .returned (.tuple #[.agg #[v0_, .int .i64 r2, .int .i64 r3, .int .i64 r4], .bool r5]) ∧ Kd.R k26 26 w' w.heap.size (fun _ => True) v0_ r1 ∧ Below w.heap.size w w' := by
 have hu36 := Tryd.underlying36
 have HR0_0 := Aside0.mk hr0_0
 have HC0_0 := Aside0.mk hc0_0
 clear hr0_0 hc0_0
 have HB := Aside0.mk (Below.refl w.heap.size w)
 have H : ((spec_GoodRing.f k l0_0 a0_1 a0_2 a0_3).bind fun t232 => (if t232 = true then ((spec_l1In.f a1 0 (wrap64 (a0_1 - a0_3))).bind fun t233 => (if t233 = true then ((spec_l10Own.f l0_0 a0_1 a0_2 a0_3).bind fun bt234 => (some (bt234.1, bt234.2.1, bt234.2.2.1, wrap64 (bt234.2.2.2 + a1), true))) else (some (([] : List (S26)), 0, 0, 0, false)))) else (some (([] : List (S26)), 0, 0, 0, false)))) = some (r1, r2, r3, r4, r5) := h
 clear h
 replace H := Option.bind_eq_some_iff.mp H
 obtain ⟨t232, A30, H⟩ := H
 replace H : (if t232 = true then ((spec_l1In.f a1 0 (wrap64 (a0_1 - a0_3))).bind fun t233 => (if t233 = true then ((spec_l10Own.f l0_0 a0_1 a0_2 a0_3).bind fun bt234 => (some (bt234.1, bt234.2.1, bt234.2.2.1, wrap64 (bt234.2.2.2 + a1), true))) else (some (([] : List (S26)), 0, 0, 0, false)))) else (some (([] : List (S26)), 0, 0, 0, false))) = some (r1, r2, r3, r4, r5) := H
 have A3 := Aside0.mk A30
 clear A30
 by_cases c4 : t232 = true
 ·
  subst c4
  rw [if_pos rfl] at H
  replace H := Option.bind_eq_some_iff.mp H
  obtain ⟨t233, A50, H⟩ := H
  replace H : (if t233 = true then ((spec_l10Own.f l0_0 a0_1 a0_2 a0_3).bind fun bt234 => (some (bt234.1, bt234.2.1, bt234.2.2.1, wrap64 (bt234.2.2.2 + a1), true))) else (some (([] : List (S26)), 0, 0, 0, false))) = some (r1, r2, r3, r4, r5) := H
  have A5 := Aside0.mk A50
  clear A50
  by_cases c6 : t233 = true
  ·
   subst c6
   rw [if_pos rfl] at H
   replace H := Option.bind_eq_some_iff.mp H
   obtain ⟨⟨t234, t237, t238, t239⟩, A70, H⟩ := H
   replace H : (some (t234, t237, t238, wrap64 (t239 + a1), true)) = some (r1, r2, r3, r4, r5) := H
   have A7 := Aside0.mk A70
   clear A70
   simp only [Option.some.injEq, Prod.mk.injEq] at H
   obtain ⟨rfl, rfl, rfl, rfl, rfl⟩ := H
   go_enter Tryd.func40, Tryd.ntmps40
   go_wp2_with (first | ((with_reducible refine gate_dst (N := 2) rfl ?_); refine box_event ?hg (N := 2) ?hd (cs := #[.slice A0_0 l0_0.length c0_0, .int .i64 a0_1, .int .i64 a0_2, .int .i64 a0_3]) (t := 36) ?hr ?_; (case hd => rfl); (case hg => rfl); (case hr => first | (go_simp; done) | (go_simp; rfl)); intro gb230 hg w8 hbox hb; have BK230 := Aside0.mk (hbox); have GW230 := Aside0.mk ((by rw [hg]; exact (below_size (bs HB)) : w.heap.size ≤ gb230)); have GE230 := Aside0.mk ((by rw [hg]; exact (below_size (bs HB)) : w.heap.size ≤ gb230)); replace HB := Aside0.mk (below_step (bs HB) hb); clear hb hbox hg) | ((with_reducible refine gate_dst (N := 4) rfl ?_); refine box_event ?hg (N := 4) ?hd (cs := #[.slice none 0 0, .int .i64 0, .int .i64 0, .int .i64 0]) (t := 36) ?hr ?_; (case hd => rfl); (case hg => rfl); (case hr => first | (go_simp; done) | (go_simp; rfl)); intro gb231 hg w9 hbox hb; have BK231 := Aside0.mk (hbox); have GW231 := Aside0.mk ((by rw [hg]; exact (below_size (bs1 HB GE230)) : w.heap.size ≤ gb231)); have GE231 := Aside0.mk ((by rw [hg]; exact (below_size (bs1 HB GE230)) : w.heap.size ≤ gb231)); replace HB := Aside0.mk (below_step (bs1 HB GE230) hb); have NB230_231 := Aside0.mk ((bn BK230 hg : gb230 ≠ gb231)); have NB231_230 := Aside0.mk ((bm BK230 hg : gb231 ≠ gb230)); replace BK230 := nb BK230 hb; clear hb hbox hg; have hnb10 := NB230_231.out; have hnc10 := NB231_230.out; obtain ⟨hcz11_0, hcz11_1, hcz11_2, hcz11_3⟩ := cz4 BK230; obtain ⟨hfz11_0, hfz11_1, hfz11_2, hfz11_3⟩ := fz4 BK230) | ((with_reducible refine gate_callee (f := 18) rfl ?_); refine gL (some 7) rfl rfl Tryd.func18 (by kernel_rfl) rfl #[.agg #[.slice A0_0 l0_0.length c0_0, .int .i64 a0_1, .int .i64 a0_2, .int .i64 a0_3]] rfl ?_; (with_reducible refine (spec_GoodRing.calls k _ _ l0_0 a0_1 a0_2 a0_3 true _ ?side1 ?side2 A3.out).mono ?_); (case side1 => exact cb HR0_0 HB); (case side2 => exact HC0_0.out); rintro e w12 ⟨rfl, hb⟩; refine ⟨_, rfl, ?_⟩; replace BK230 := nb BK230 hb; replace BK231 := nb BK231 hb; replace HB := Aside0.mk (below_step (bs2 HB GE230 GE231) hb); (try clear hb); (try clear hb2); (try clear hk); (try clear hi); obtain ⟨hcz13_0, hcz13_1, hcz13_2, hcz13_3⟩ := cz4 BK230; obtain ⟨hfz13_0, hfz13_1, hfz13_2, hfz13_3⟩ := fz4 BK230) | (go_at_call 55; (with_reducible refine (spec_l1In.calls a1 0 (wrap64 (a0_1 - a0_3)) true _ A5.out).mono ?_); rintro e w' ⟨rfl, ⟨nd, rfl⟩⟩; (try (rw [drewN_self w12]; generalize hq_ : World.drewN w12 _ = w12; have n0_ : Aside0 (w12.heap[gb230]? = some (.cells #[.slice A0_0 l0_0.length c0_0, .int .i64 a0_1, .int .i64 a0_2, .int .i64 a0_3] 36 (0, 0))) := ⟨by rw [← hq_]; exact (bk BK230)⟩; have n1_ : Aside0 (w12.heap[gb231]? = some (.cells #[.slice none 0 0, .int .i64 0, .int .i64 0, .int .i64 0] 36 (0, 0))) := ⟨by rw [← hq_]; exact (bk BK231)⟩; have n2_ : Aside0 (Below w.heap.size w w12) := ⟨by rw [← hq_]; exact (bs2 HB GE230 GE231)⟩; clear BK230 BK231 HB hq_; have BK230 := n0_; have BK231 := n1_; have HB := n2_; clear n0_ n1_ n2_)); obtain ⟨hcz14_0, hcz14_1, hcz14_2, hcz14_3⟩ := cz4 BK230; obtain ⟨hfz14_0, hfz14_1, hfz14_2, hfz14_3⟩ := fz4 BK230) | ((with_reducible refine gate_callee (f := 68) rfl ?_); refine gL (some 21) rfl rfl Tryd.func68 (by kernel_rfl) rfl #[.agg #[.slice A0_0 l0_0.length c0_0, .int .i64 a0_1, .int .i64 a0_2, .int .i64 a0_3]] rfl ?_; (with_reducible refine (spec_l10Own.calls _ _ l0_0 a0_1 a0_2 a0_3 t234 t237 t238 t239 _ ?side1 ?side2 A7.out).mono ?_); (case side1 => exact cb HR0_0 HB); (case side2 => exact HC0_0.out); rintro e w15 ⟨v235, rfl, ho0, hb⟩; refine ⟨_, rfl, ?_⟩; have HO236 := Aside0.mk (Kd.R_lower ho0 (below_size (bs2 HB GE230 GE231))); replace BK230 := nb BK230 hb; replace BK231 := nb BK231 hb; replace HB := Aside0.mk (below_step (bs2 HB GE230 GE231) hb); (try clear hb); (try clear hb2); (try clear hk); (try clear hi); (try clear ho0); obtain ⟨Ao16, co16, eo16⟩ := Kd.R_slice HO236.out; subst eo16; obtain ⟨hcz17_0, hcz17_1, hcz17_2, hcz17_3⟩ := cz4 BK230; obtain ⟨hfz17_0, hfz17_1, hfz17_2, hfz17_3⟩ := fz4 BK230; obtain ⟨hcz18_0, hcz18_1, hcz18_2, hcz18_3⟩ := cz4 BK231; obtain ⟨hfz18_0, hfz18_1, hfz18_2, hfz18_3⟩ := fz4 BK231))
   refine bodyPost_ret (results_ct rfl _ _ gb231 36 #[.slice Ao16 t234.length co16, .int .i64 t237, .int .i64 t238, .int .i64 (wrap64 (t239 + a1))] (0, 0) _ rfl (by (with_reducible repeat (first | refine blk_drewN ?_ _ | refine blk_drew ?_ | refine blk_alloc ?_ _)); refine blk_put (cs := #[.slice Ao16 t234.length co16, .int .i64 t237, .int .i64 t238, .int .i64 0]) ?_ 3 _ rfl; (with_reducible repeat (first | refine blk_drewN ?_ _ | refine blk_drew ?_ | refine blk_alloc ?_ _)); refine blk_put (cs := #[.slice Ao16 t234.length co16, .int .i64 t237, .int .i64 0, .int .i64 0]) ?_ 2 _ rfl; (with_reducible repeat (first | refine blk_drewN ?_ _ | refine blk_drew ?_ | refine blk_alloc ?_ _)); refine blk_put (cs := #[.slice Ao16 t234.length co16, .int .i64 0, .int .i64 0, .int .i64 0]) ?_ 1 _ rfl; (with_reducible repeat (first | refine blk_drewN ?_ _ | refine blk_drew ?_ | refine blk_alloc ?_ _)); refine blk_put (cs := #[.slice none 0 0, .int .i64 0, .int .i64 0, .int .i64 0]) ?_ 0 _ rfl; (with_reducible repeat (first | refine blk_drewN ?_ _ | refine blk_drew ?_ | refine blk_alloc ?_ _)); refine blk_far ?_ NB231_230.out _; (with_reducible repeat (first | refine blk_drewN ?_ _ | refine blk_drew ?_ | refine blk_alloc ?_ _)); refine blk_far ?_ NB231_230.out _; (with_reducible repeat (first | refine blk_drewN ?_ _ | refine blk_drew ?_ | refine blk_alloc ?_ _)); refine blk_far ?_ NB231_230.out _; (with_reducible repeat (first | refine blk_drewN ?_ _ | refine blk_drew ?_ | refine blk_alloc ?_ _)); refine blk_far ?_ NB231_230.out _; (with_reducible repeat (first | refine blk_drewN ?_ _ | refine blk_drew ?_ | refine blk_alloc ?_ _)); refine blk_far ?_ NB231_230.out _; (with_reducible repeat (first | refine blk_drewN ?_ _ | refine blk_drew ?_ | refine blk_alloc ?_ _)); exact BK231.out) Tryd.underlying36 rfl (by kernel_rfl)) rfl ?_
   exact ⟨_, by first | rfl | (simp [errW_none, errW_some] <;> rfl) | (simp [*, errW_none, errW_some] <;> rfl), by (with_reducible repeat (first | apply Kd.R_alloc | apply Kd.R_drewN | apply Kd.R_drew)); exact Kd.R_mono (Kd.R_far (p := ⟨gb231, 3, none⟩) (Kd.R_far (p := ⟨gb231, 2, none⟩) (Kd.R_far (p := ⟨gb231, 1, none⟩) (Kd.R_far (p := ⟨gb231, 0, none⟩) (Kd.R_far (p := ⟨gb230, 3, none⟩) (Kd.R_far (p := ⟨gb230, 3, none⟩) (Kd.R_far (p := ⟨gb230, 2, none⟩) (Kd.R_far (p := ⟨gb230, 1, none⟩) (Kd.R_far (p := ⟨gb230, 0, none⟩) (Kd.R_types (Kd.R_types HO236.out BK230.out (by decide)) BK231.out (by decide)) (fun _ hk => hk.1.2) (.slice Ao16 t234.length co16)) (fun _ hk => hk.1.2) (.int .i64 t237)) (fun _ hk => hk.1.2) (.int .i64 t238)) (fun _ hk => hk.1.2) (.int .i64 t239)) (fun _ hk => hk.1.2) (.int .i64 (wrap64 (t239 + a1)))) (fun _ hk => hk.2) (.slice Ao16 t234.length co16)) (fun _ hk => hk.2) (.int .i64 t237)) (fun _ hk => hk.2) (.int .i64 t238)) (fun _ hk => hk.2) (.int .i64 (wrap64 (t239 + a1)))) (fun _ hk => trivial), bs2 HB GE230 GE231⟩
  ·
   replace c6 := Bool.eq_false_iff.mpr c6
   subst c6
   rw [if_neg (show ¬ (false = true) by decide)] at H
   simp only [Option.some.injEq, Prod.mk.injEq] at H
   obtain ⟨rfl, rfl, rfl, rfl, rfl⟩ := H
   go_enter Tryd.func40, Tryd.ntmps40
   go_wp2_with (first | ((with_reducible refine gate_dst (N := 2) rfl ?_); refine box_event ?hg (N := 2) ?hd (cs := #[.slice A0_0 l0_0.length c0_0, .int .i64 a0_1, .int .i64 a0_2, .int .i64 a0_3]) (t := 36) ?hr ?_; (case hd => rfl); (case hg => rfl); (case hr => first | (go_simp; done) | (go_simp; rfl)); intro gb230 hg w19 hbox hb; have BK230 := Aside0.mk (hbox); have GW230 := Aside0.mk ((by rw [hg]; exact (below_size (bs HB)) : w.heap.size ≤ gb230)); have GE230 := Aside0.mk ((by rw [hg]; exact (below_size (bs HB)) : w.heap.size ≤ gb230)); replace HB := Aside0.mk (below_step (bs HB) hb); clear hb hbox hg) | ((with_reducible refine gate_dst (N := 4) rfl ?_); refine box_event ?hg (N := 4) ?hd (cs := #[.slice none 0 0, .int .i64 0, .int .i64 0, .int .i64 0]) (t := 36) ?hr ?_; (case hd => rfl); (case hg => rfl); (case hr => first | (go_simp; done) | (go_simp; rfl)); intro gb231 hg w20 hbox hb; have BK231 := Aside0.mk (hbox); have GW231 := Aside0.mk ((by rw [hg]; exact (below_size (bs1 HB GE230)) : w.heap.size ≤ gb231)); have GE231 := Aside0.mk ((by rw [hg]; exact (below_size (bs1 HB GE230)) : w.heap.size ≤ gb231)); replace HB := Aside0.mk (below_step (bs1 HB GE230) hb); have NB230_231 := Aside0.mk ((bn BK230 hg : gb230 ≠ gb231)); have NB231_230 := Aside0.mk ((bm BK230 hg : gb231 ≠ gb230)); replace BK230 := nb BK230 hb; clear hb hbox hg; have hnb21 := NB230_231.out; have hnc21 := NB231_230.out; obtain ⟨hcz22_0, hcz22_1, hcz22_2, hcz22_3⟩ := cz4 BK230; obtain ⟨hfz22_0, hfz22_1, hfz22_2, hfz22_3⟩ := fz4 BK230) | ((with_reducible refine gate_callee (f := 18) rfl ?_); refine gL (some 7) rfl rfl Tryd.func18 (by kernel_rfl) rfl #[.agg #[.slice A0_0 l0_0.length c0_0, .int .i64 a0_1, .int .i64 a0_2, .int .i64 a0_3]] rfl ?_; (with_reducible refine (spec_GoodRing.calls k _ _ l0_0 a0_1 a0_2 a0_3 true _ ?side1 ?side2 A3.out).mono ?_); (case side1 => exact cb HR0_0 HB); (case side2 => exact HC0_0.out); rintro e w23 ⟨rfl, hb⟩; refine ⟨_, rfl, ?_⟩; replace BK230 := nb BK230 hb; replace BK231 := nb BK231 hb; replace HB := Aside0.mk (below_step (bs2 HB GE230 GE231) hb); (try clear hb); (try clear hb2); (try clear hk); (try clear hi); obtain ⟨hcz24_0, hcz24_1, hcz24_2, hcz24_3⟩ := cz4 BK230; obtain ⟨hfz24_0, hfz24_1, hfz24_2, hfz24_3⟩ := fz4 BK230) | (go_at_call 55; (with_reducible refine (spec_l1In.calls a1 0 (wrap64 (a0_1 - a0_3)) false _ A5.out).mono ?_); rintro e w' ⟨rfl, ⟨nd, rfl⟩⟩; (try (rw [drewN_self w23]; generalize hq_ : World.drewN w23 _ = w23; have n0_ : Aside0 (w23.heap[gb230]? = some (.cells #[.slice A0_0 l0_0.length c0_0, .int .i64 a0_1, .int .i64 a0_2, .int .i64 a0_3] 36 (0, 0))) := ⟨by rw [← hq_]; exact (bk BK230)⟩; have n1_ : Aside0 (w23.heap[gb231]? = some (.cells #[.slice none 0 0, .int .i64 0, .int .i64 0, .int .i64 0] 36 (0, 0))) := ⟨by rw [← hq_]; exact (bk BK231)⟩; have n2_ : Aside0 (Below w.heap.size w w23) := ⟨by rw [← hq_]; exact (bs2 HB GE230 GE231)⟩; clear BK230 BK231 HB hq_; have BK230 := n0_; have BK231 := n1_; have HB := n2_; clear n0_ n1_ n2_)); obtain ⟨hcz25_0, hcz25_1, hcz25_2, hcz25_3⟩ := cz4 BK231; obtain ⟨hfz25_0, hfz25_1, hfz25_2, hfz25_3⟩ := fz4 BK231))
   refine bodyPost_ret (results_ct rfl _ _ gb231 36 #[.slice none 0 0, .int .i64 0, .int .i64 0, .int .i64 0] (0, 0) _ rfl (by (with_reducible repeat (first | refine blk_drewN ?_ _ | refine blk_drew ?_ | refine blk_alloc ?_ _)); refine blk_put (cs := #[.slice none 0 0, .int .i64 0, .int .i64 0, .int .i64 0]) ?_ 3 _ rfl; (with_reducible repeat (first | refine blk_drewN ?_ _ | refine blk_drew ?_ | refine blk_alloc ?_ _)); refine blk_put (cs := #[.slice none 0 0, .int .i64 0, .int .i64 0, .int .i64 0]) ?_ 2 _ rfl; (with_reducible repeat (first | refine blk_drewN ?_ _ | refine blk_drew ?_ | refine blk_alloc ?_ _)); refine blk_put (cs := #[.slice none 0 0, .int .i64 0, .int .i64 0, .int .i64 0]) ?_ 1 _ rfl; (with_reducible repeat (first | refine blk_drewN ?_ _ | refine blk_drew ?_ | refine blk_alloc ?_ _)); refine blk_put (cs := #[.slice none 0 0, .int .i64 0, .int .i64 0, .int .i64 0]) ?_ 0 _ rfl; (with_reducible repeat (first | refine blk_drewN ?_ _ | refine blk_drew ?_ | refine blk_alloc ?_ _)); exact BK231.out) Tryd.underlying36 rfl (by kernel_rfl)) rfl ?_
   exact ⟨_, by first | rfl | (simp [errW_none, errW_some] <;> rfl) | (simp [*, errW_none, errW_some] <;> rfl), by first | exact Kd.R_nil _ _ _ _ _ | exact Kd.N_nil _ _ _ _ _ | exact Kd.V_nil _ _ _ _ _ | exact Kd.Q_nil _ _ _ _ _ | exact Kd.S_nil _ _ _ _ _, bs2 HB GE230 GE231⟩
 ·
  replace c4 := Bool.eq_false_iff.mpr c4
  subst c4
  rw [if_neg (show ¬ (false = true) by decide)] at H
  simp only [Option.some.injEq, Prod.mk.injEq] at H
  obtain ⟨rfl, rfl, rfl, rfl, rfl⟩ := H
  go_enter Tryd.func40, Tryd.ntmps40
  go_wp2_with (first | ((with_reducible refine gate_dst (N := 2) rfl ?_); refine box_event ?hg (N := 2) ?hd (cs := #[.slice A0_0 l0_0.length c0_0, .int .i64 a0_1, .int .i64 a0_2, .int .i64 a0_3]) (t := 36) ?hr ?_; (case hd => rfl); (case hg => rfl); (case hr => first | (go_simp; done) | (go_simp; rfl)); intro gb230 hg w26 hbox hb; have BK230 := Aside0.mk (hbox); have GW230 := Aside0.mk ((by rw [hg]; exact (below_size (bs HB)) : w.heap.size ≤ gb230)); have GE230 := Aside0.mk ((by rw [hg]; exact (below_size (bs HB)) : w.heap.size ≤ gb230)); replace HB := Aside0.mk (below_step (bs HB) hb); clear hb hbox hg) | ((with_reducible refine gate_dst (N := 4) rfl ?_); refine box_event ?hg (N := 4) ?hd (cs := #[.slice none 0 0, .int .i64 0, .int .i64 0, .int .i64 0]) (t := 36) ?hr ?_; (case hd => rfl); (case hg => rfl); (case hr => first | (go_simp; done) | (go_simp; rfl)); intro gb231 hg w27 hbox hb; have BK231 := Aside0.mk (hbox); have GW231 := Aside0.mk ((by rw [hg]; exact (below_size (bs1 HB GE230)) : w.heap.size ≤ gb231)); have GE231 := Aside0.mk ((by rw [hg]; exact (below_size (bs1 HB GE230)) : w.heap.size ≤ gb231)); replace HB := Aside0.mk (below_step (bs1 HB GE230) hb); have NB230_231 := Aside0.mk ((bn BK230 hg : gb230 ≠ gb231)); have NB231_230 := Aside0.mk ((bm BK230 hg : gb231 ≠ gb230)); replace BK230 := nb BK230 hb; clear hb hbox hg; have hnb28 := NB230_231.out; have hnc28 := NB231_230.out; obtain ⟨hcz29_0, hcz29_1, hcz29_2, hcz29_3⟩ := cz4 BK230; obtain ⟨hfz29_0, hfz29_1, hfz29_2, hfz29_3⟩ := fz4 BK230) | ((with_reducible refine gate_callee (f := 18) rfl ?_); refine gL (some 7) rfl rfl Tryd.func18 (by kernel_rfl) rfl #[.agg #[.slice A0_0 l0_0.length c0_0, .int .i64 a0_1, .int .i64 a0_2, .int .i64 a0_3]] rfl ?_; (with_reducible refine (spec_GoodRing.calls k _ _ l0_0 a0_1 a0_2 a0_3 false _ ?side1 ?side2 A3.out).mono ?_); (case side1 => exact cb HR0_0 HB); (case side2 => exact HC0_0.out); rintro e w30 ⟨rfl, hb⟩; refine ⟨_, rfl, ?_⟩; replace BK230 := nb BK230 hb; replace BK231 := nb BK231 hb; replace HB := Aside0.mk (below_step (bs2 HB GE230 GE231) hb); (try clear hb); (try clear hb2); (try clear hk); (try clear hi); obtain ⟨hcz31_0, hcz31_1, hcz31_2, hcz31_3⟩ := cz4 BK231; obtain ⟨hfz31_0, hfz31_1, hfz31_2, hfz31_3⟩ := fz4 BK231))
  refine bodyPost_ret (results_ct rfl _ _ gb231 36 #[.slice none 0 0, .int .i64 0, .int .i64 0, .int .i64 0] (0, 0) _ rfl (by (with_reducible repeat (first | refine blk_drewN ?_ _ | refine blk_drew ?_ | refine blk_alloc ?_ _)); refine blk_put (cs := #[.slice none 0 0, .int .i64 0, .int .i64 0, .int .i64 0]) ?_ 3 _ rfl; (with_reducible repeat (first | refine blk_drewN ?_ _ | refine blk_drew ?_ | refine blk_alloc ?_ _)); refine blk_put (cs := #[.slice none 0 0, .int .i64 0, .int .i64 0, .int .i64 0]) ?_ 2 _ rfl; (with_reducible repeat (first | refine blk_drewN ?_ _ | refine blk_drew ?_ | refine blk_alloc ?_ _)); refine blk_put (cs := #[.slice none 0 0, .int .i64 0, .int .i64 0, .int .i64 0]) ?_ 1 _ rfl; (with_reducible repeat (first | refine blk_drewN ?_ _ | refine blk_drew ?_ | refine blk_alloc ?_ _)); refine blk_put (cs := #[.slice none 0 0, .int .i64 0, .int .i64 0, .int .i64 0]) ?_ 0 _ rfl; (with_reducible repeat (first | refine blk_drewN ?_ _ | refine blk_drew ?_ | refine blk_alloc ?_ _)); exact BK231.out) Tryd.underlying36 rfl (by kernel_rfl)) rfl ?_
  exact ⟨_, by first | rfl | (simp [errW_none, errW_some] <;> rfl) | (simp [*, errW_none, errW_some] <;> rfl), by first | exact Kd.R_nil _ _ _ _ _ | exact Kd.N_nil _ _ _ _ _ | exact Kd.V_nil _ _ _ _ _ | exact Kd.Q_nil _ _ _ _ _ | exact Kd.S_nil _ _ _ _ _, bs2 HB GE230 GE231⟩

/-- A state of type 80 at block g of W; what its slices lead to came in by w0. -/
def IsS80 (w0 W : World) (g : Nat) (f0 : List Int) (f1 : Int) (f2 : Int) : Prop := ∃ A0 c0, W.heap[g]? = some (.cells #[.slice A0 f0.length c0, .int .i64 f1, .int .u64 f2] 80 (0, 0)) ∧ w0.heap.size ≤ g ∧ Kd.C (Kd.int .u8) w0 A0 f0.length f0
theorem IsS80.grown {w0 W : World} {g : Nat} {f0 : List Int} {f1 : Int} {f2 : Int} {W1 : World} {row : Option Nat} (h : IsS80 w0 W g f0 f1 f2) (hw : W.grownBy W1 row) (hne : some g ≠ row) : IsS80 w0 W1 g f0 f1 f2 := by
 obtain ⟨A0, c0, hb, hg, hr0⟩ := h
 exact ⟨A0, c0, blk_grown hb hw hne, hg, hr0⟩
theorem IsS80.own_neN {w0 W : World} {g : Nat} {f0 : List Int} {f1 : Int} {f2 : Int} {α : Type} {d : Kd α} {e : Nat} {base : Nat} {ok : Nat → Prop} {v : Value} {xs : List α} (h : IsS80 w0 W g f0 f1 f2) (ho : Kd.N d e W base ok v xs) (ht : e ≠ 80) : some g ≠ v.ownBlock := by
 obtain ⟨A0, c0, hb, hg, hr0⟩ := h
 exact Kd.N_ne ho hb ht
theorem IsS80.fresh {w0 W : World} {g : Nat} {f0 : List Int} {f1 : Int} {f2 : Int} (h : IsS80 w0 W g f0 f1 f2) : ∀ k, W.heap.size ≤ k → k ≠ g := by
 obtain ⟨A0, c0, hb, hg, hr0⟩ := h
 exact Kd.freshB hb
theorem IsS80.kept {w0 W : World} {g : Nat} {f0 : List Int} {f1 : Int} {f2 : Int} {W1 : World} {S : Nat → Prop} (h : IsS80 w0 W g f0 f1 f2) (hk : Kept W W1 S) (hne : ¬ S g) : IsS80 w0 W1 g f0 f1 f2 := by
 obtain ⟨A0, c0, hb, hg, hr0⟩ := h
 exact ⟨A0, c0, blk_kept hb hk hne, hg, hr0⟩
theorem IsS80.below {w0 W : World} {g : Nat} {f0 : List Int} {f1 : Int} {f2 : Int} {W1 : World} (h : IsS80 w0 W g f0 f1 f2) (hw : Below W.heap.size W W1) : IsS80 w0 W1 g f0 f1 f2 := h.grown (grown_of_below hw none) (by simp)
theorem IsS80.alloc {w0 W : World} {g : Nat} {f0 : List Int} {f1 : Int} {f2 : Int} (h : IsS80 w0 W g f0 f1 f2) (o : Obj) : IsS80 w0 (W.alloc o) g f0 f1 f2 := h.below (below_alloc (Below.refl _ _) o)
theorem IsS80.drewN {w0 W : World} {g : Nat} {f0 : List Int} {f1 : Int} {f2 : Int} (h : IsS80 w0 W g f0 f1 f2) (m : Nat) : IsS80 w0 (W.drewN m) g f0 f1 f2 := h
theorem IsS80.drew {w0 W : World} {g : Nat} {f0 : List Int} {f1 : Int} {f2 : Int} (h : IsS80 w0 W g f0 f1 f2) : IsS80 w0 W.drew g f0 f1 f2 := h
theorem IsS80.at_ {w0 W : World} {g : Nat} {f0 : List Int} {f1 : Int} {f2 : Int} {w' : World} {m : Nat} (hq : W.drewN m = w') (h : IsS80 w0 W g f0 f1 f2) : IsS80 w0 w' g f0 f1 f2 := by subst hq; exact IsS80.drewN h m
theorem IsS80.apart {w0 W : World} {g : Nat} {f0 : List Int} {f1 : Int} {f2 : Int} {α : Type} {d : Kd α} {e : Nat} {base : Nat} {ok : Nat → Prop} {v : Value} {xs : List α} (h : IsS80 w0 W g f0 f1 f2) (ho : d.R e W base ok v xs) (ht : ∀ q, q ∈ e :: d.E → q ≠ 80) : d.R e W base (fun k => ok k ∧ k ≠ g) v xs := by
 obtain ⟨A0, c0, hb, hg, hr0⟩ := h
 exact Kd.R_types ho hb ht
theorem IsS80.own_ne {w0 W : World} {g : Nat} {f0 : List Int} {f1 : Int} {f2 : Int} {α : Type} {d : Kd α} {e : Nat} {base : Nat} {ok : Nat → Prop} {v : Value} {xs : List α} (h : IsS80 w0 W g f0 f1 f2) (ho : d.R e W base ok v xs) (ht : e ≠ 80) : some g ≠ v.ownBlock := by
 obtain ⟨A0, c0, hb, hg, hr0⟩ := h
 exact Kd.R_ne ho hb ht
theorem IsS80.apartQ {w0 W : World} {g : Nat} {f0 : List Int} {f1 : Int} {f2 : Int} {α : Type} {d : Kd α} {e : Nat} {base : Nat} {ok : Nat → Prop} {v : Value} {xs : List α} (h : IsS80 w0 W g f0 f1 f2) (ho : d.Q e W base ok v xs) (ht : ∀ q, q ∈ e :: d.E → q ≠ 80) : d.Q e W base (fun k => ok k ∧ k ≠ g) v xs := by
 obtain ⟨A0, c0, hb, hg, hr0⟩ := h
 exact Kd.Q_types ho hb ht
theorem IsS80.own_neQ {w0 W : World} {g : Nat} {f0 : List Int} {f1 : Int} {f2 : Int} {α : Type} {d : Kd α} {e : Nat} {base : Nat} {ok : Nat → Prop} {v : Value} {xs : List α} (h : IsS80 w0 W g f0 f1 f2) (ho : d.Q e W base ok v xs) (ht : e ≠ 80) : some g ≠ v.ownBlock := by
 obtain ⟨A0, c0, hb, hg, hr0⟩ := h
 exact Kd.Q_ne ho hb ht
theorem IsS80.apartS {w0 W : World} {g : Nat} {f0 : List Int} {f1 : Int} {f2 : Int} {α : Type} {d : Kd α} {e : Nat} {base : Nat} {ok : Nat → Prop} {v : Value} {xs : List α} (h : IsS80 w0 W g f0 f1 f2) (ho : d.S e W base ok v xs) (ht : ∀ q, q ∈ e :: d.E → q ≠ 80) : d.S e W base (fun k => ok k ∧ k ≠ g) v xs := by
 obtain ⟨A0, c0, hb, hg, hr0⟩ := h
 exact Kd.S_types ho hb ht
theorem IsS80.own_neS {w0 W : World} {g : Nat} {f0 : List Int} {f1 : Int} {f2 : Int} {α : Type} {d : Kd α} {e : Nat} {base : Nat} {ok : Nat → Prop} {v : Value} {xs : List α} (h : IsS80 w0 W g f0 f1 f2) (ho : d.S e W base ok v xs) (ht : e ≠ 80) : some g ≠ v.ownBlock := by
 obtain ⟨A0, c0, hb, hg, hr0⟩ := h
 exact Kd.S_ne ho hb ht
theorem IsS80.lt {w0 W : World} {g : Nat} {f0 : List Int} {f1 : Int} {f2 : Int} (h : IsS80 w0 W g f0 f1 f2) : g < W.heap.size := by
 obtain ⟨A0, c0, hb, hg, hr0⟩ := h
 exact blk_lt hb
theorem IsS80.ge {w0 W : World} {g : Nat} {f0 : List Int} {f1 : Int} {f2 : Int} (h : IsS80 w0 W g f0 f1 f2) : w0.heap.size ≤ g := by
 obtain ⟨A0, c0, hb, hg, hr0⟩ := h
 exact hg
theorem IsS80.ne_blk {w0 W : World} {g : Nat} {f0 : List Int} {f1 : Int} {f2 : Int} {a : Nat} {cs : Array Value} {t : TypeId} {fr : Nat × Nat} (h : IsS80 w0 W g f0 f1 f2) (hb2 : W.heap[a]? = some (.cells cs t fr)) (ht : t ≠ 80) : g ≠ a := by
 obtain ⟨A0, c0, hb, hg, hr0⟩ := h
 rintro rfl
 rw [hb] at hb2
 injection hb2 with hb2
 injection hb2 with _ ht2
 exact ht ht2.symm
theorem IsS80.far {w0 W : World} {g : Nat} {f0 : List Int} {f1 : Int} {f2 : Int} {p : Addr} (h : IsS80 w0 W g f0 f1 f2) (hne : g ≠ p.block) (u : Value) : IsS80 w0 (W.setCell p u) g f0 f1 f2 := by
 obtain ⟨A0, c0, hb, hg, hr0⟩ := h
 exact ⟨A0, c0, blk_far hb hne u, hg, hr0⟩
theorem cellS80_0 {W : World} {g : Nat} {A0 : Option Addr} {c0 : Nat} {f0 : List Int} {f1 : Int} {f2 : Int} (h : W.heap[g]? = some (.cells #[.slice A0 f0.length c0, .int .i64 f1, .int .u64 f2] 80 (0, 0))) : W.cell? ⟨g, 0, none⟩ = some (.slice A0 f0.length c0) := (blk_cell h 0).trans rfl
theorem cellS80_1 {W : World} {g : Nat} {A0 : Option Addr} {c0 : Nat} {f0 : List Int} {f1 : Int} {f2 : Int} (h : W.heap[g]? = some (.cells #[.slice A0 f0.length c0, .int .i64 f1, .int .u64 f2] 80 (0, 0))) : W.cell? ⟨g, 1, none⟩ = some (.int .i64 f1) := (blk_cell h 1).trans rfl
theorem IsS80.set_1 {w0 W : World} {g : Nat} {f0 : List Int} {f1 : Int} {f2 : Int} (h : IsS80 w0 W g f0 f1 f2) (x : Int) : IsS80 w0 (W.setCell ⟨g, 1, none⟩ (.int .i64 x)) g f0 x f2 := by
 obtain ⟨A0, c0, hb, hg, hr0⟩ := h
 exact ⟨A0, c0, by simpa using blk_set hb 1 (.int .i64 x), hg, hr0⟩
theorem cellS80_2 {W : World} {g : Nat} {A0 : Option Addr} {c0 : Nat} {f0 : List Int} {f1 : Int} {f2 : Int} (h : W.heap[g]? = some (.cells #[.slice A0 f0.length c0, .int .i64 f1, .int .u64 f2] 80 (0, 0))) : W.cell? ⟨g, 2, none⟩ = some (.int .u64 f2) := (blk_cell h 2).trans rfl
theorem IsS80.set_2 {w0 W : World} {g : Nat} {f0 : List Int} {f1 : Int} {f2 : Int} (h : IsS80 w0 W g f0 f1 f2) (x : Int) : IsS80 w0 (W.setCell ⟨g, 2, none⟩ (.int .u64 x)) g f0 f1 x := by
 obtain ⟨A0, c0, hb, hg, hr0⟩ := h
 exact ⟨A0, c0, by simpa using blk_set hb 2 (.int .u64 x), hg, hr0⟩
theorem IsS80.new (w0 W : World) (A0 : Option Addr) (c0 : Nat) (f0 : List Int) (f1 : Int) (f2 : Int) (hB : Below w0.heap.size w0 W) (hr0 : Kd.C (Kd.int .u8) w0 A0 f0.length f0) : IsS80 w0 (W.alloc (.cells #[.slice A0 f0.length c0, .int .i64 f1, .int .u64 f2] 80)) W.heap.size f0 f1 f2 := ⟨A0, c0, by simpa using heap_alloc_new W _, hB.size, hr0⟩

/-! ### spec_l1Cur_next: function 74 -/
def spec_l1Cur_next.f (s0_0 : List Int) (s0_1 : Int) (s0_2 : Int) : Option (Int × Int × Int) := if s0_1 < (s0_0.length : Int) then (if 0 ≤ s0_1 then (if (wrap64 (s0_1 + 1)) ≤ (s0_0.length : Int) then (some (wrap64 (rd s0_0 s0_1), wrap64 (s0_1 + 1), IntKind.u64.wrap ((IntKind.u64.wrap ((IntKind.u64.wrap (s0_2 * 6364136223846793005)) + (IntKind.u64.wrap (wrap64 (rd s0_0 s0_1))))) + 1442695040888963407))) else (some (wrap64 (Go.bits .and .u64 ((IntKind.u64.wrap ((IntKind.u64.wrap ((IntKind.u64.wrap (s0_2 * 6364136223846793005)) + (IntKind.u64.wrap (wrap64 (rd s0_0 s0_1))))) + 1442695040888963407)) / 1099511627776) 255), wrap64 (s0_1 + 1), IntKind.u64.wrap ((IntKind.u64.wrap ((IntKind.u64.wrap (s0_2 * 6364136223846793005)) + (IntKind.u64.wrap (wrap64 (rd s0_0 s0_1))))) + 1442695040888963407)))) else (none)) else (if (wrap64 (s0_1 + 1)) ≤ (s0_0.length : Int) then (some (0, wrap64 (s0_1 + 1), IntKind.u64.wrap ((IntKind.u64.wrap ((IntKind.u64.wrap (s0_2 * 6364136223846793005)))) + 1442695040888963407))) else (some (wrap64 (Go.bits .and .u64 ((IntKind.u64.wrap ((IntKind.u64.wrap ((IntKind.u64.wrap (s0_2 * 6364136223846793005)))) + 1442695040888963407)) / 1099511627776) 255), wrap64 (s0_1 + 1), IntKind.u64.wrap ((IntKind.u64.wrap ((IntKind.u64.wrap (s0_2 * 6364136223846793005)))) + 1442695040888963407))))
set_option maxHeartbeats 8000000 in
set_option maxRecDepth 100000 in
theorem spec_l1Cur_next.calls (g : Nat) (s0_0 : List Int) (s0_1 : Int) (s0_2 : Int) (r1 : Int) (r2 : Int) (r3 : Int) (w0 w : World) (hI : IsS80 w0 w g s0_0 s0_1 s0_2) (hB : Below w0.heap.size w0 w) (h : spec_l1Cur_next.f s0_0 s0_1 s0_2 = some (r1, r2, r3)) :
  Calls Tryd.prog 74 #[.pointer (some ⟨g, 0, none⟩)] w fun e w' => e = .returned (.int .i64 r1) ∧ IsS80 w0 w' g s0_0 r2 r3 ∧ Below w0.heap.size w0 w' ∧ KeepBut w w' g none := by
 have HI0 := Aside0.mk hI
 have HK := Aside0.mk (KeepBut.refl w g none)
 have HL := Aside0.mk hB.size
 clear hI
 have HW0 := Aside0.mk hB.size
 have HB := Aside0.mk hB
 clear hB
 have H : (if s0_1 < (s0_0.length : Int) then (if 0 ≤ s0_1 then (if (wrap64 (s0_1 + 1)) ≤ (s0_0.length : Int) then (some (wrap64 (rd s0_0 s0_1), wrap64 (s0_1 + 1), IntKind.u64.wrap ((IntKind.u64.wrap ((IntKind.u64.wrap (s0_2 * 6364136223846793005)) + (IntKind.u64.wrap (wrap64 (rd s0_0 s0_1))))) + 1442695040888963407))) else (some (wrap64 (Go.bits .and .u64 ((IntKind.u64.wrap ((IntKind.u64.wrap ((IntKind.u64.wrap (s0_2 * 6364136223846793005)) + (IntKind.u64.wrap (wrap64 (rd s0_0 s0_1))))) + 1442695040888963407)) / 1099511627776) 255), wrap64 (s0_1 + 1), IntKind.u64.wrap ((IntKind.u64.wrap ((IntKind.u64.wrap (s0_2 * 6364136223846793005)) + (IntKind.u64.wrap (wrap64 (rd s0_0 s0_1))))) + 1442695040888963407)))) else (none)) else (if (wrap64 (s0_1 + 1)) ≤ (s0_0.length : Int) then (some (0, wrap64 (s0_1 + 1), IntKind.u64.wrap ((IntKind.u64.wrap ((IntKind.u64.wrap (s0_2 * 6364136223846793005)))) + 1442695040888963407))) else (some (wrap64 (Go.bits .and .u64 ((IntKind.u64.wrap ((IntKind.u64.wrap ((IntKind.u64.wrap (s0_2 * 6364136223846793005)))) + 1442695040888963407)) / 1099511627776) 255), wrap64 (s0_1 + 1), IntKind.u64.wrap ((IntKind.u64.wrap ((IntKind.u64.wrap (s0_2 * 6364136223846793005)))) + 1442695040888963407))))) = some (r1, r2, r3) := h
 clear h
 by_cases c2 : s0_1 < (s0_0.length : Int)
 ·
  rw [if_pos c2] at H
  have c2b0 : decide (s0_1 < (s0_0.length : Int)) = true := decide_eq_true c2
  clear c2
  by_cases c3 : 0 ≤ s0_1
  ·
   rw [if_pos c3] at H
   have c3b0 : decide (0 ≤ s0_1) = true := decide_eq_true c3
   clear c3
   by_cases c4 : (wrap64 (s0_1 + 1)) ≤ (s0_0.length : Int)
   ·
    rw [if_pos c4] at H
    have c4b0 : decide ((wrap64 (s0_1 + 1)) ≤ (s0_0.length : Int)) = true := decide_eq_true c4
    clear c4
    simp only [Option.some.injEq, Prod.mk.injEq] at H
    obtain ⟨rfl, rfl, rfl⟩ := H
    obtain ⟨ASz5_0, cSz5_0, HGz5, hgz5, HSz5_0⟩ := HI0.out
    have hcz5_0 := cellS80_0 HGz5
    have hcz5_1 := cellS80_1 HGz5
    have hcz5_2 := cellS80_2 HGz5
    have hfz5_1 := blk_frozen HGz5 1
    have hfz5_2 := blk_frozen HGz5 2
    clear HGz5 hgz5
    have p240 : 0 ≤ (s0_1 : Int) := of_decide_eq_true (by first | (with_reducible assumption) | assumption)
    have q240 : s0_1 < (s0_0.length : Int) := of_decide_eq_true (by first | (with_reducible assumption) | assumption)
    obtain ⟨ad240, e240, hx240_0⟩ := Kd.at_int HSz5_0 s0_1 p240 q240
    cases e240
    replace hx240_0 := pw_cell_below HB.out hx240_0
    replace p240 := eq_true p240
    replace q240 := eq_true q240
    go_enter Tryd.func74, Tryd.ntmps74
    go_wp2
    repeat (go_quiet (fail); try go_wp2)
    go_ret
    exact ⟨by first | rfl | (simp [errW_none, errW_some] <;> rfl) | (simp [*, errW_none, errW_some] <;> rfl), by repeat (first | (with_reducible first | exact HI0.out | apply IsS80.alloc | apply IsS80.drewN | apply IsS80.drew | apply IsS80.set_1 | apply IsS80.set_2) | exact HI0.out), by repeat (first | (with_reducible first | exact HB.out | apply below_alloc | apply pw_below_drewN | apply below_drew1 | refine below_set ?_ (IsS80.ge HI0.out)) | exact HB.out), by repeat (first | (with_reducible first | exact HK.out | apply KeepBut.set_ | apply keep_drewN | apply keep_drew | apply keep_alloc) | exact HK.out)⟩
   ·
    rw [if_neg c4] at H
    have c4b0 : decide ((wrap64 (s0_1 + 1)) ≤ (s0_0.length : Int)) = false := decide_eq_false c4
    clear c4
    simp only [Option.some.injEq, Prod.mk.injEq] at H
    obtain ⟨rfl, rfl, rfl⟩ := H
    obtain ⟨ASz6_0, cSz6_0, HGz6, hgz6, HSz6_0⟩ := HI0.out
    have hcz6_0 := cellS80_0 HGz6
    have hcz6_1 := cellS80_1 HGz6
    have hcz6_2 := cellS80_2 HGz6
    have hfz6_1 := blk_frozen HGz6 1
    have hfz6_2 := blk_frozen HGz6 2
    clear HGz6 hgz6
    have p240 : 0 ≤ (s0_1 : Int) := of_decide_eq_true (by first | (with_reducible assumption) | assumption)
    have q240 : s0_1 < (s0_0.length : Int) := of_decide_eq_true (by first | (with_reducible assumption) | assumption)
    obtain ⟨ad240, e240, hx240_0⟩ := Kd.at_int HSz6_0 s0_1 p240 q240
    cases e240
    replace hx240_0 := pw_cell_below HB.out hx240_0
    replace p240 := eq_true p240
    replace q240 := eq_true q240
    go_enter Tryd.func74, Tryd.ntmps74
    go_wp2
    repeat (go_quiet (fail); try go_wp2)
    go_ret
    exact ⟨by first | rfl | (simp [errW_none, errW_some] <;> rfl) | (simp [*, errW_none, errW_some] <;> rfl), by repeat (first | (with_reducible first | exact HI0.out | apply IsS80.alloc | apply IsS80.drewN | apply IsS80.drew | apply IsS80.set_1 | apply IsS80.set_2) | exact HI0.out), by repeat (first | (with_reducible first | exact HB.out | apply below_alloc | apply pw_below_drewN | apply below_drew1 | refine below_set ?_ (IsS80.ge HI0.out)) | exact HB.out), by repeat (first | (with_reducible first | exact HK.out | apply KeepBut.set_ | apply keep_drewN | apply keep_drew | apply keep_alloc) | exact HK.out)⟩
  ·
   rw [if_neg c3] at H
   exact absurd H (by simp)
 ·
  rw [if_neg c2] at H
  have c2b0 : decide (s0_1 < (s0_0.length : Int)) = false := decide_eq_false c2
  clear c2
  by_cases c7 : (wrap64 (s0_1 + 1)) ≤ (s0_0.length : Int)
  ·
   rw [if_pos c7] at H
   have c7b0 : decide ((wrap64 (s0_1 + 1)) ≤ (s0_0.length : Int)) = true := decide_eq_true c7
   clear c7
   simp only [Option.some.injEq, Prod.mk.injEq] at H
   obtain ⟨rfl, rfl, rfl⟩ := H
   obtain ⟨ASz8_0, cSz8_0, HGz8, hgz8, HSz8_0⟩ := HI0.out
   have hcz8_0 := cellS80_0 HGz8
   have hcz8_1 := cellS80_1 HGz8
   have hcz8_2 := cellS80_2 HGz8
   have hfz8_1 := blk_frozen HGz8 1
   have hfz8_2 := blk_frozen HGz8 2
   clear HGz8 hgz8
   go_enter Tryd.func74, Tryd.ntmps74
   go_wp2
   repeat (go_quiet (fail); try go_wp2)
   go_ret
   exact ⟨by first | rfl | (simp [errW_none, errW_some] <;> rfl) | (simp [*, errW_none, errW_some] <;> rfl), by repeat (first | (with_reducible first | exact HI0.out | apply IsS80.alloc | apply IsS80.drewN | apply IsS80.drew | apply IsS80.set_1 | apply IsS80.set_2) | exact HI0.out), by repeat (first | (with_reducible first | exact HB.out | apply below_alloc | apply pw_below_drewN | apply below_drew1 | refine below_set ?_ (IsS80.ge HI0.out)) | exact HB.out), by repeat (first | (with_reducible first | exact HK.out | apply KeepBut.set_ | apply keep_drewN | apply keep_drew | apply keep_alloc) | exact HK.out)⟩
  ·
   rw [if_neg c7] at H
   have c7b0 : decide ((wrap64 (s0_1 + 1)) ≤ (s0_0.length : Int)) = false := decide_eq_false c7
   clear c7
   simp only [Option.some.injEq, Prod.mk.injEq] at H
   obtain ⟨rfl, rfl, rfl⟩ := H
   obtain ⟨ASz9_0, cSz9_0, HGz9, hgz9, HSz9_0⟩ := HI0.out
   have hcz9_0 := cellS80_0 HGz9
   have hcz9_1 := cellS80_1 HGz9
   have hcz9_2 := cellS80_2 HGz9
   have hfz9_1 := blk_frozen HGz9 1
   have hfz9_2 := blk_frozen HGz9 2
   clear HGz9 hgz9
   go_enter Tryd.func74, Tryd.ntmps74
   go_wp2
   repeat (go_quiet (fail); try go_wp2)
   go_ret
   exact ⟨by first | rfl | (simp [errW_none, errW_some] <;> rfl) | (simp [*, errW_none, errW_some] <;> rfl), by repeat (first | (with_reducible first | exact HI0.out | apply IsS80.alloc | apply IsS80.drewN | apply IsS80.drew | apply IsS80.set_1 | apply IsS80.set_2) | exact HI0.out), by repeat (first | (with_reducible first | exact HB.out | apply below_alloc | apply pw_below_drewN | apply below_drew1 | refine below_set ?_ (IsS80.ge HI0.out)) | exact HB.out), by repeat (first | (with_reducible first | exact HK.out | apply KeepBut.set_ | apply keep_drewN | apply keep_drew | apply keep_alloc) | exact HK.out)⟩

/-! ### spec_l1Cur_pick: function 66 -/
def spec_l1Cur_pick.f (s0_0 : List Int) (s0_1 : Int) (s0_2 : Int) (a1 : Int) : Option (Int × Int × Int) := if a1 ≤ 1 then (some (0, s0_1, s0_2)) else ((spec_l1Cur_next.f s0_0 s0_1 s0_2).bind fun bt241 => (if a1 > 200 then ((spec_l1Cur_next.f s0_0 bt241.2.1 bt241.2.2).bind fun bt244 => (if a1 = 0 then (none) else (some (Int.tmod (wrap64 ((wrap64 (bt241.1 * 256)) + bt244.1)) a1, bt244.2.1, bt244.2.2)))) else (if a1 = 0 then (none) else (some (Int.tmod bt241.1 a1, bt241.2.1, bt241.2.2)))))
set_option maxHeartbeats 8000000 in
set_option maxRecDepth 100000 in
theorem spec_l1Cur_pick.calls (g : Nat) (s0_0 : List Int) (s0_1 : Int) (s0_2 : Int) (a1 : Int) (r1 : Int) (r2 : Int) (r3 : Int) (w0 w : World) (hI : IsS80 w0 w g s0_0 s0_1 s0_2) (hB : Below w0.heap.size w0 w) (h : spec_l1Cur_pick.f s0_0 s0_1 s0_2 a1 = some (r1, r2, r3)) :
  Calls Tryd.prog 66 #[.pointer (some ⟨g, 0, none⟩), .int .i64 a1] w fun e w' => e = .returned (.int .i64 r1) ∧ IsS80 w0 w' g s0_0 r2 r3 ∧ Below w0.heap.size w0 w' ∧ KeepBut w w' g none := by
 have HI0 := Aside0.mk hI
 have HK := Aside0.mk (KeepBut.refl w g none)
 have HL := Aside0.mk hB.size
 clear hI
 have HW0 := Aside0.mk hB.size
 have HB := Aside0.mk hB
 clear hB
 have H : (if a1 ≤ 1 then (some (0, s0_1, s0_2)) else ((spec_l1Cur_next.f s0_0 s0_1 s0_2).bind fun bt241 => (if a1 > 200 then ((spec_l1Cur_next.f s0_0 bt241.2.1 bt241.2.2).bind fun bt244 => (if a1 = 0 then (none) else (some (Int.tmod (wrap64 ((wrap64 (bt241.1 * 256)) + bt244.1)) a1, bt244.2.1, bt244.2.2)))) else (if a1 = 0 then (none) else (some (Int.tmod bt241.1 a1, bt241.2.1, bt241.2.2)))))) = some (r1, r2, r3) := h
 clear h
 by_cases c3 : a1 ≤ 1
 ·
  rw [if_pos c3] at H
  have c3b0 : decide (a1 ≤ 1) = true := decide_eq_true c3
  clear c3
  simp only [Option.some.injEq, Prod.mk.injEq] at H
  obtain ⟨rfl, rfl, rfl⟩ := H
  go_enter Tryd.func66, Tryd.ntmps66
  go_wp2
  go_ret
  exact ⟨by first | rfl | (simp [errW_none, errW_some] <;> rfl) | (simp [*, errW_none, errW_some] <;> rfl), by repeat (first | (with_reducible first | exact HI0.out | apply IsS80.alloc | apply IsS80.drewN | apply IsS80.drew | apply IsS80.set_1 | apply IsS80.set_2) | exact HI0.out), by repeat (first | (with_reducible first | exact HB.out | apply below_alloc | apply pw_below_drewN | apply below_drew1 | refine below_set ?_ (IsS80.ge HI0.out)) | exact HB.out), by repeat (first | (with_reducible first | exact HK.out | apply KeepBut.set_ | apply keep_drewN | apply keep_drew | apply keep_alloc) | exact HK.out)⟩
 ·
  rw [if_neg c3] at H
  have c3b0 : decide (a1 ≤ 1) = false := decide_eq_false c3
  clear c3
  replace H := Option.bind_eq_some_iff.mp H
  obtain ⟨⟨t241, t242, t243⟩, A40, H⟩ := H
  replace H : (if a1 > 200 then ((spec_l1Cur_next.f s0_0 t242 t243).bind fun bt244 => (if a1 = 0 then (none) else (some (Int.tmod (wrap64 ((wrap64 (t241 * 256)) + bt244.1)) a1, bt244.2.1, bt244.2.2)))) else (if a1 = 0 then (none) else (some (Int.tmod t241 a1, t242, t243)))) = some (r1, r2, r3) := H
  have A4 := Aside0.mk A40
  clear A40
  by_cases c5 : a1 > 200
  ·
   rw [if_pos c5] at H
   have c5b0 : decide (200 < a1) = true := decide_eq_true c5
   clear c5
   replace H := Option.bind_eq_some_iff.mp H
   obtain ⟨⟨t244, t245, t246⟩, A60, H⟩ := H
   replace H : (if a1 = 0 then (none) else (some (Int.tmod (wrap64 ((wrap64 (t241 * 256)) + t244)) a1, t245, t246))) = some (r1, r2, r3) := H
   have A6 := Aside0.mk A60
   clear A60
   by_cases c7 : a1 = 0
   ·
    rw [if_pos c7] at H
    exact absurd H (by simp)
   ·
    rw [if_neg c7] at H
    have c7b0 : (a1 == 0) = false := beq_eq_false_iff_ne.mpr c7
    have c7b1 : (a1 != 0) = true := bne_iff_ne.mpr c7
    simp only [Option.some.injEq, Prod.mk.injEq] at H
    obtain ⟨rfl, rfl, rfl⟩ := H
    go_enter Tryd.func66, Tryd.ntmps66
    go_wp2_with (first | ((with_reducible refine gate_callee (f := 74) rfl ?_); refine gL (some 9) rfl rfl Tryd.func74 (by kernel_rfl) rfl #[.pointer (some ⟨g, 0, none⟩)] rfl ?_; (with_reducible refine (spec_l1Cur_next.calls g s0_0 s0_1 s0_2 t241 t242 t243 w0 _ ?side1 ?side2 A4.out).mono ?_); (case side1 => repeat (first | (with_reducible first | exact HI0.out | apply IsS80.alloc | apply IsS80.drewN | apply IsS80.drew | apply IsS80.set_1 | apply IsS80.set_2) | exact HI0.out)); (case side2 => repeat (first | (with_reducible first | exact HB.out | apply below_alloc | apply pw_below_drewN | apply below_drew1 | refine below_set ?_ (IsS80.ge HI0.out)) | exact HB.out)); rintro e w8 ⟨rfl, hi, hb, hk⟩; refine ⟨_, rfl, ?_⟩; replace HK := Aside0.mk (KeepBut.trans (by repeat (first | (with_reducible first | exact HK.out | apply KeepBut.set_ | apply keep_drewN | apply keep_drew | apply keep_alloc) | exact HK.out)) hk (.inl rfl)); replace HB := Aside0.mk (hb); replace HI0 := Aside0.mk (hi); (try clear hb); (try clear hb2); (try clear hk); (try clear hi)) | ((with_reducible refine gate_callee (f := 74) rfl ?_); refine gL (some 15) rfl rfl Tryd.func74 (by kernel_rfl) rfl #[.pointer (some ⟨g, 0, none⟩)] rfl ?_; (with_reducible refine (spec_l1Cur_next.calls g s0_0 t242 t243 t244 t245 t246 w0 _ ?side1 ?side2 A6.out).mono ?_); (case side1 => repeat (first | (with_reducible first | exact HI0.out | apply IsS80.alloc | apply IsS80.drewN | apply IsS80.drew | apply IsS80.set_1 | apply IsS80.set_2) | exact HI0.out)); (case side2 => repeat (first | (with_reducible first | exact HB.out | apply below_alloc | apply pw_below_drewN | apply below_drew1 | refine below_set ?_ (IsS80.ge HI0.out)) | exact HB.out)); rintro e w9 ⟨rfl, hi, hb, hk⟩; refine ⟨_, rfl, ?_⟩; replace HK := Aside0.mk (KeepBut.trans (by repeat (first | (with_reducible first | exact HK.out | apply KeepBut.set_ | apply keep_drewN | apply keep_drew | apply keep_alloc) | exact HK.out)) hk (.inl rfl)); replace HB := Aside0.mk (hb); replace HI0 := Aside0.mk (hi); (try clear hb); (try clear hb2); (try clear hk); (try clear hi)))
    go_ret
    exact ⟨by first | rfl | (simp [errW_none, errW_some] <;> rfl) | (simp [*, errW_none, errW_some] <;> rfl), by repeat (first | (with_reducible first | exact HI0.out | apply IsS80.alloc | apply IsS80.drewN | apply IsS80.drew | apply IsS80.set_1 | apply IsS80.set_2) | exact HI0.out), by repeat (first | (with_reducible first | exact HB.out | apply below_alloc | apply pw_below_drewN | apply below_drew1 | refine below_set ?_ (IsS80.ge HI0.out)) | exact HB.out), by repeat (first | (with_reducible first | exact HK.out | apply KeepBut.set_ | apply keep_drewN | apply keep_drew | apply keep_alloc) | exact HK.out)⟩
  ·
   rw [if_neg c5] at H
   have c5b0 : decide (200 < a1) = false := decide_eq_false c5
   clear c5
   by_cases c10 : a1 = 0
   ·
    rw [if_pos c10] at H
    exact absurd H (by simp)
   ·
    rw [if_neg c10] at H
    have c10b0 : (a1 == 0) = false := beq_eq_false_iff_ne.mpr c10
    have c10b1 : (a1 != 0) = true := bne_iff_ne.mpr c10
    simp only [Option.some.injEq, Prod.mk.injEq] at H
    obtain ⟨rfl, rfl, rfl⟩ := H
    go_enter Tryd.func66, Tryd.ntmps66
    go_wp2_with (first | ((with_reducible refine gate_callee (f := 74) rfl ?_); refine gL (some 9) rfl rfl Tryd.func74 (by kernel_rfl) rfl #[.pointer (some ⟨g, 0, none⟩)] rfl ?_; (with_reducible refine (spec_l1Cur_next.calls g s0_0 s0_1 s0_2 t241 t242 t243 w0 _ ?side1 ?side2 A4.out).mono ?_); (case side1 => repeat (first | (with_reducible first | exact HI0.out | apply IsS80.alloc | apply IsS80.drewN | apply IsS80.drew | apply IsS80.set_1 | apply IsS80.set_2) | exact HI0.out)); (case side2 => repeat (first | (with_reducible first | exact HB.out | apply below_alloc | apply pw_below_drewN | apply below_drew1 | refine below_set ?_ (IsS80.ge HI0.out)) | exact HB.out)); rintro e w11 ⟨rfl, hi, hb, hk⟩; refine ⟨_, rfl, ?_⟩; replace HK := Aside0.mk (KeepBut.trans (by repeat (first | (with_reducible first | exact HK.out | apply KeepBut.set_ | apply keep_drewN | apply keep_drew | apply keep_alloc) | exact HK.out)) hk (.inl rfl)); replace HB := Aside0.mk (hb); replace HI0 := Aside0.mk (hi); (try clear hb); (try clear hb2); (try clear hk); (try clear hi)))
    go_ret
    exact ⟨by first | rfl | (simp [errW_none, errW_some] <;> rfl) | (simp [*, errW_none, errW_some] <;> rfl), by repeat (first | (with_reducible first | exact HI0.out | apply IsS80.alloc | apply IsS80.drewN | apply IsS80.drew | apply IsS80.set_1 | apply IsS80.set_2) | exact HI0.out), by repeat (first | (with_reducible first | exact HB.out | apply below_alloc | apply pw_below_drewN | apply below_drew1 | refine below_set ?_ (IsS80.ge HI0.out)) | exact HB.out), by repeat (first | (with_reducible first | exact HK.out | apply KeepBut.set_ | apply keep_drewN | apply keep_drew | apply keep_alloc) | exact HK.out)⟩

/-! ### spec_l1Cur_text: function 65 -/
def spec_l1Cur_text.l0 : Nat → List Int → Int → Int → List Int → Int → Int → Option (ByteArray × Int × Int)
 | 0, _, _, _, _, _, _ => none
 | k + 1, x5, x10, x11, x1000, x1001, x1002 => if x11 < x10 then ((spec_l1Cur_pick.f x1000 x1001 x1002 256).bind fun bt250 => (if 0 ≤ x11 then (if x11 < (x5.length : Int) then (spec_l1Cur_text.l0 k (x5.set (x11 : Int).toNat ((bt250.1) % 256)) x10 (wrap64 (x11 + 1)) x1000 bt250.2.1 bt250.2.2) else (none)) else (none))) else (some (strOfNums x5, x1001, x1002))
def spec_l1Cur_text.f (k : Nat) (s0_0 : List Int) (s0_1 : Int) (s0_2 : Int) (a1 : Int) : Option (ByteArray × Int × Int) := if 0 ≤ a1 then (if (a1 : Int).toNat ≤ 281474976710656 then ((some (List.replicate (a1 : Int).toNat 0 : List Int)).bind fun y247 => (spec_l1Cur_text.l0 k y247 (y247.length : Int) 0 s0_0 s0_1 s0_2)) else (none)) else (none)
theorem spec_l1Cur_text.mono_l : ∀ k, (∀ y0 y1 y2 y3 y4 y5, LeO (spec_l1Cur_text.l0 k y0 y1 y2 y3 y4 y5) (spec_l1Cur_text.l0 (k + 1) y0 y1 y2 y3 y4 y5))
 | 0 => fun _ _ _ _ _ _ r h => by simp [spec_l1Cur_text.l0] at h
 | k + 1 => by
  have ih0 := spec_l1Cur_text.mono_l k
  ·
   intro y0 y1 y2 y3 y4 y5
   unfold spec_l1Cur_text.l0
   repeat' first
   | (with_reducible exact ih0 _ _ _ _ _ _)
   | (with_reducible exact LeO.refl _)
   | (with_reducible exact LeO.none _)
   | (with_reducible refine LeO.ite ?_ ?_)
   | (with_reducible refine LeO.bind ?_ (fun _ => ?_))
   | exact ih0 _ _ _ _ _ _
   | exact LeO.none _
   | refine LeO.ite ?_ ?_
   | refine LeO.bind ?_ (fun _ => ?_)
theorem spec_l1Cur_text.mono : ∀ a0 a1 a2 a3 k, LeO (spec_l1Cur_text.f k a0 a1 a2 a3) (spec_l1Cur_text.f (k + 1) a0 a1 a2 a3) := by
 intro a0 a1 a2 a3 k
 have ih0 := spec_l1Cur_text.mono_l k
 unfold spec_l1Cur_text.f
 repeat' first
   | (with_reducible exact ih0 _ _ _ _ _ _)
   | (with_reducible exact LeO.refl _)
   | (with_reducible exact LeO.none _)
   | (with_reducible refine LeO.ite ?_ ?_)
   | (with_reducible refine LeO.bind ?_ (fun _ => ?_))
   | exact ih0 _ _ _ _ _ _
   | exact LeO.none _
   | refine LeO.ite ?_ ?_
   | refine LeO.bind ?_ (fun _ => ?_)
set_option maxHeartbeats 8000000 in
set_option maxRecDepth 100000 in
theorem spec_l1Cur_text.calls (k : Nat) (g : Nat) (s0_0 : List Int) (s0_1 : Int) (s0_2 : Int) (a1 : Int) (r1 : ByteArray) (r2 : Int) (r3 : Int) (w0 w : World) (hI : IsS80 w0 w g s0_0 s0_1 s0_2) (hB : Below w0.heap.size w0 w) (h : spec_l1Cur_text.f k s0_0 s0_1 s0_2 a1 = some (r1, r2, r3)) :
  Calls Tryd.prog 65 #[.pointer (some ⟨g, 0, none⟩), .int .i64 a1] w fun e w' => e = .returned (.string r1) ∧ IsS80 w0 w' g s0_0 r2 r3 ∧ Below w0.heap.size w0 w' ∧ KeepBut w w' g none := by
 have HI0 := Aside0.mk hI
 have HK := Aside0.mk (KeepBut.refl w g none)
 have HL := Aside0.mk hB.size
 clear hI
 have HW0 := Aside0.mk hB.size
 have HB := Aside0.mk hB
 clear hB
 have H : (if 0 ≤ a1 then (if (a1 : Int).toNat ≤ 281474976710656 then ((some (List.replicate (a1 : Int).toNat 0 : List Int)).bind fun y247 => (spec_l1Cur_text.l0 k y247 (y247.length : Int) 0 s0_0 s0_1 s0_2)) else (none)) else (none)) = some (r1, r2, r3) := h
 clear h
 by_cases c3 : 0 ≤ a1
 ·
  rw [if_pos c3] at H
  have c3b0 := eq_true c3
  have c3b1 : decide (0 ≤ a1) = true := decide_eq_true c3
  clear c3
  by_cases c4 : (a1 : Int).toNat ≤ 281474976710656
  ·
   rw [if_pos c4] at H
   have c4b0 := eq_true c4
   have c4b1 : decide ((a1 : Int).toNat ≤ 281474976710656) = true := decide_eq_true c4
   clear c4
   obtain ⟨y247, hy247⟩ : ∃ y_ : List Int, y_ = (List.replicate (a1 : Int).toNat 0) := ⟨_, rfl⟩
   replace H : (spec_l1Cur_text.l0 k y247 (y247.length : Int) 0 s0_0 s0_1 s0_2) = some (r1, r2, r3) := by first | (rw [hy247]; with_reducible exact H) | (have H2_ := (Option.bind_some _ _).symm.trans H; rw [hy247]; with_reducible exact H2_) | (have H2_ := (Option.bind_some _ _).symm.trans H; with_reducible exact H2_) | with_reducible exact H | (rw [hy247]; exact H) | exact H
   have Ny247 := Aside0.mk hy247
   clear hy247
   have H' := Aside0.mk H
   clear H
   go_enter Tryd.func65, Tryd.ntmps65
   go_wp2_with (first | ((with_reducible refine gate_dst (N := 8) rfl ?_); refine Kd.R_make (Kd.int .u8) _ 5 rfl (N := 8) rfl 51 _ _ rfl a1 rfl rfl Tryd.underlying51 (.int .u8 0) 1 info5 rfl (by decide) (by omega) 0 (ok := fun _ => True) (okp := fun _ => True) rfl (fun _ hk => hk) trivial (of_decide_eq_true (by first | (with_reducible assumption) | assumption)) (Nat.le_trans (Nat.mul_le_mul_right _ (of_decide_eq_true (by first | (with_reducible assumption) | assumption) : a1.toNat ≤ 281474976710656)) (by omega)) (Below.refl _ _) (Nat.le_refl _) ?_; intro v248 w5 ho6 hb hg_ hnew_; clear hg_ hnew_; (first | rw [← Ny247.out] at ho6 | (simp only [Int.reduceToNat] at ho6; rw [← Ny247.out] at ho6)); have HO249 := Aside0.mk (Kd.R_lower ho6 (keep_size (w := w) (g := g) (row := none) (by repeat (first | (with_reducible first | exact HK.out | apply KeepBut.set_ | apply keep_drewN | apply keep_drew | apply keep_alloc) | exact HK.out)))); replace HK := Aside0.mk (KeepBut.trans (by repeat (first | (with_reducible first | exact HK.out | apply KeepBut.set_ | apply keep_drewN | apply keep_drew | apply keep_alloc) | exact HK.out)) (KeepBut.of_below hb g none) (.inl rfl)); replace HB := Aside0.mk (below_step (by repeat (first | (with_reducible first | exact HB.out | apply below_alloc | apply pw_below_drewN | apply below_drew1 | refine below_set ?_ (IsS80.ge HI0.out)) | exact HB.out)) hb); replace HI0 := Aside0.mk (IsS80.below (by repeat (first | (with_reducible first | exact HI0.out | apply IsS80.alloc | apply IsS80.drewN | apply IsS80.drew | apply IsS80.set_1 | apply IsS80.set_2) | exact HI0.out)) hb); clear hb ho6; obtain ⟨Ao7, co7, eo7⟩ := Kd.R_slice HO249.out; subst eo7))
   go_loopg [11] k (fun kq v11 w' => ∃ (x5_1 : List Int) (x11_1 : Int) (x1001_1 : Int) (x1002_1 : Int), v11 = .int .i64 x11_1 ∧ Aside0 (spec_l1Cur_text.l0 kq x5_1 (y247.length : Int) x11_1 s0_0 x1001_1 x1002_1 = some (r1, r2, r3)) ∧ Aside0 (kq ≤ k) ∧ Aside0 (Kd.R (Kd.int .u8) 5 w' w.heap.size (fun _ => True) (.slice Ao7 y247.length co7) x5_1) ∧ Aside0 (IsS80 w0 w' g s0_0 x1001_1 x1002_1) ∧ Aside0 (KeepBut w w' g none) ∧ Aside0 (Below w0.heap.size w0 w'))
   case atStart => exact ⟨(y247), (0), (s0_1), (s0_2), (by first | rfl | (simp; done) | (simp [*]; done)), H', ⟨Nat.le_refl _⟩, ⟨rr HO249.out⟩, ⟨by repeat (first | (with_reducible first | exact HI0.out | apply IsS80.alloc | apply IsS80.drewN | apply IsS80.drew | apply IsS80.set_1 | apply IsS80.set_2) | exact HI0.out)⟩, ⟨by repeat (first | (with_reducible first | exact HK.out | apply KeepBut.set_ | apply keep_drewN | apply keep_drew | apply keep_alloc) | exact HK.out)⟩, ⟨by repeat (first | (with_reducible first | exact HB.out | apply below_alloc | apply pw_below_drewN | apply below_drew1 | refine below_set ?_ (IsS80.ge HI0.out)) | exact HB.out)⟩⟩
   case round =>
    clear H'
    try clear p2
    try clear c3
    try clear c3b0
    try clear c3b1
    try clear c4
    try clear c4b0
    try clear c4b1
    try clear c6
    obtain ⟨x5_1, x11_1, x1001_1, x1002_1, rfl, HA, HK1, HO_5, HI0, HK, HB⟩ := hrel
    have hl5_1 := (Kd.R_reads' HO_5.out).1
    rw [hl5_1] at HO_5
    (try simp only [hl5_1])
    cases gk with
    | zero => exact absurd HA.out (by simp [spec_l1Cur_text.l0])
    | succ k1 =>
     have H := HA.out
     clear HA
     simp only [spec_l1Cur_text.l0] at H
     by_cases c8 : x11_1 < (y247.length : Int)
     ·
      rw [if_pos c8] at H
      have c8b0 : decide (x11_1 < (y247.length : Int)) = true := decide_eq_true c8
      (try (have c8b0h := c8b0; simp only [hl5_1] at c8b0h))
      clear c8
      replace H := Option.bind_eq_some_iff.mp H
      obtain ⟨⟨t250, t251, t252⟩, A90, H⟩ := H
      replace H : (if 0 ≤ x11_1 then (if x11_1 < (x5_1.length : Int) then (spec_l1Cur_text.l0 k1 (x5_1.set (x11_1 : Int).toNat ((t250) % 256)) (y247.length : Int) (wrap64 (x11_1 + 1)) s0_0 t251 t252) else (none)) else (none)) = some (r1, r2, r3) := H
      have A9 := Aside0.mk A90
      clear A90
      by_cases c10 : 0 ≤ x11_1
      ·
       rw [if_pos c10] at H
       have c10b0 : decide (0 ≤ x11_1) = true := decide_eq_true c10
       clear c10
       by_cases c11 : x11_1 < (x5_1.length : Int)
       ·
        rw [if_pos c11] at H
        have c11b0 : decide (x11_1 < (x5_1.length : Int)) = true := decide_eq_true c11
        (try (have c11b0h := c11b0; simp only [hl5_1] at c11b0h))
        clear c11
        obtain ⟨y253, hy253⟩ : ∃ y_ : List Int, y_ = (x5_1.set (x11_1 : Int).toNat ((t250) % 256)) := ⟨_, rfl⟩
        replace H : (spec_l1Cur_text.l0 k1 y253 (y247.length : Int) (wrap64 (x11_1 + 1)) s0_0 t251 t252) = some (r1, r2, r3) := by first | (rw [hy253]; with_reducible exact H) | (have H2_ := (Option.bind_some _ _).symm.trans H; rw [hy253]; with_reducible exact H2_) | (have H2_ := (Option.bind_some _ _).symm.trans H; with_reducible exact H2_) | with_reducible exact H | (rw [hy253]; exact H) | exact H
        have Ny253 := Aside0.mk hy253
        clear hy253
        have H' := Aside0.mk H
        clear H
        go_wp2_with (first | ((with_reducible refine gate_callee (f := 66) rfl ?_); refine gL (some 17) rfl rfl Tryd.func66 (by kernel_rfl) rfl #[.pointer (some ⟨g, 0, none⟩), .int .i64 256] rfl ?_; (with_reducible refine (spec_l1Cur_pick.calls g s0_0 x1001_1 x1002_1 256 t250 t251 t252 w0 _ ?side1 ?side2 A9.out).mono ?_); (case side1 => repeat (first | (with_reducible first | exact HI0.out | apply IsS80.alloc | apply IsS80.drewN | apply IsS80.drew | apply IsS80.set_1 | apply IsS80.set_2) | exact HI0.out)); (case side2 => repeat (first | (with_reducible first | exact HB.out | apply below_alloc | apply pw_below_drewN | apply below_drew1 | refine below_set ?_ (IsS80.ge HI0.out)) | exact HB.out)); rintro e w13 ⟨rfl, hi, hb, hk⟩; refine ⟨_, rfl, ?_⟩; replace HO_5 := Aside0.mk (Kd.R_mono (Kd.R_keep (IsS80.apart (show IsS80 w0 _ g s0_0 x1001_1 x1002_1 from by repeat (first | (with_reducible first | exact HI0.out | apply IsS80.alloc | apply IsS80.drewN | apply IsS80.drew | apply IsS80.set_1 | apply IsS80.set_2) | exact HI0.out)) (rr HO_5.out) (by decide)) hk (fun _ h => h.2)) (fun _ h => h.1)); replace HK := Aside0.mk (KeepBut.trans (by repeat (first | (with_reducible first | exact HK.out | apply KeepBut.set_ | apply keep_drewN | apply keep_drew | apply keep_alloc) | exact HK.out)) hk (.inl rfl)); replace HB := Aside0.mk (hb); replace HI0 := Aside0.mk (hi); (try clear hb); (try clear hb2); (try clear hk); (try clear hi); have p12 : 0 ≤ (x11_1 : Int) := of_decide_eq_true (by first | (with_reducible assumption) | assumption); have q12 : (x11_1 : Int) < ((x5_1.length : Int) : Int) := of_decide_eq_true (by first | (with_reducible assumption) | assumption); obtain ⟨go12, co12, eo12, gb12, gl12, cl12, HG12⟩ := Kd.R_form HO_5.out (by omega); (first | cases eo12 | (injection eo12 with ea_ en_ ec_; (first | subst ea_ | (injection ea_ with ea_; subst ea_)); subst ec_; clear en_)); have GB12 := Aside0.mk gb12; have GG12 := Aside0.mk HG12; clear gb12 gl12 HG12; obtain ⟨hx12_0, hf12_0⟩ := Kd.R_celln 0 HO_5.out (x11_1 : Int) p12 q12; replace p12 := eq_true p12; replace q12 := eq_true q12; obtain ⟨hy14_, hz14_⟩ := Kd.R_celln 0 HO_5.out (x11_1 : Int) (of_decide_eq_true (by first | (with_reducible assumption) | assumption)) (of_decide_eq_true (by first | (with_reducible assumption) | assumption)); have HP14 := Kd.R_putg HO_5.out (x11_1 : Int) ((t250) % 256)) | ((with_reducible refine gate_store (t := 5) (p := 19) rfl ?_); refine store_event (t := 5) (p := 19) (v := ?vo_w15) (w1 := (w13.setCell ⟨go12, (x11_1 : Int).toNat, none⟩ (.int .u8 ((t250) % 256)))) ?hg ?ho ?hn ?hr ?_; (case ho => rfl); (case hg => rfl); (case hn => rfl); (case hr => first | (go_simp; done) | (go_simp; rfl)); intro w15 hw; have hg : w13.grownBy w15 (some go12) := (by rw [hw]; exact HP14.2); have hp_ : Kd.R (Kd.int .u8) 5 w15 w.heap.size (fun _ => True) (.slice (some ⟨go12, 0, none⟩) x5_1.length co7) y253 := (by rw [hw, Ny253.out]; exact HP14.1); clear HP14; replace HI0 := Aside0.mk (IsS80.grown (by repeat (first | (with_reducible first | exact HI0.out | apply IsS80.alloc | apply IsS80.drewN | apply IsS80.drew | apply IsS80.set_1 | apply IsS80.set_2) | exact HI0.out)) hg (IsS80.own_ne HI0.out HO_5.out (by decide))); replace HB := Aside0.mk ((by rw [hw]; exact below_set (HB.out) (Nat.le_trans HL.out GB12.out) : Below w0.heap.size w0 w15)); replace HK := Aside0.mk (KeepBut.trans (by repeat (first | (with_reducible first | exact HK.out | apply KeepBut.set_ | apply keep_drewN | apply keep_drew | apply keep_alloc) | exact HK.out)) (KeepBut.of_grown hg g) (Kd.R_base2 HO_5.out)); replace HO_5 := Aside0.mk (hp_); clear hg hw hp_))
        (try simp only [← hl5_1])
        go_roundg k1
        case measure => have := HK1.out; omega
        case rel => exact ⟨(y253), (wrap64 (x11_1 + 1)), (t251), (t252), (by first | rfl | (simp; done) | (simp [*]; done)), H', ⟨by have := HK1.out; omega⟩, ⟨by (try simp only [hl5_1]); (with_reducible repeat (first | apply Kd.R_alloc | apply Kd.R_drewN | apply Kd.R_drew)); exact HO_5.out⟩, ⟨by repeat (first | (with_reducible first | exact HI0.out | apply IsS80.alloc | apply IsS80.drewN | apply IsS80.drew | apply IsS80.set_1 | apply IsS80.set_2) | exact HI0.out)⟩, ⟨by repeat (first | (with_reducible first | exact HK.out | apply KeepBut.set_ | apply keep_drewN | apply keep_drew | apply keep_alloc) | exact HK.out)⟩, ⟨by repeat (first | (with_reducible first | exact HB.out | apply below_alloc | apply pw_below_drewN | apply below_drew1 | refine below_set ?_ (IsS80.ge HI0.out)) | exact HB.out)⟩⟩
       ·
        rw [if_neg c11] at H
        exact absurd H (by simp)
      ·
       rw [if_neg c10] at H
       exact absurd H (by simp)
     ·
      rw [if_neg c8] at H
      have c8b0 : decide (x11_1 < (y247.length : Int)) = false := decide_eq_false c8
      (try (have c8b0h := c8b0; simp only [hl5_1] at c8b0h))
      clear c8
      simp only [Option.some.injEq, Prod.mk.injEq] at H
      obtain ⟨rfl, rfl, rfl⟩ := H
      have hcv16 := own_string (P := Tryd.prog) Tryd.underlying51 Tryd.underlying5 Tryd.underlying9 (Kd.own_of_R HO_5.out)
      go_wp2
      go_ret
      exact ⟨by first | rfl | (simp [errW_none, errW_some] <;> rfl) | (simp [*, errW_none, errW_some] <;> rfl), by repeat (first | (with_reducible first | exact HI0.out | apply IsS80.alloc | apply IsS80.drewN | apply IsS80.drew | apply IsS80.set_1 | apply IsS80.set_2) | exact HI0.out), by repeat (first | (with_reducible first | exact HB.out | apply below_alloc | apply pw_below_drewN | apply below_drew1 | refine below_set ?_ (IsS80.ge HI0.out)) | exact HB.out), by repeat (first | (with_reducible first | exact HK.out | apply KeepBut.set_ | apply keep_drewN | apply keep_drew | apply keep_alloc) | exact HK.out)⟩
  ·
   rw [if_neg c4] at H
   exact absurd H (by simp)
 ·
  rw [if_neg c3] at H
  exact absurd H (by simp)

/-! ### spec_l1Cur_one: function 70 -/
def spec_l1Cur_one.f (s0_0 : List Int) (s0_1 : Int) (s0_2 : Int) (a1 : Int) : Option (Bool × Int × Int) := (spec_l1Cur_pick.f s0_0 s0_1 s0_2 a1).bind fun bt254 => (some ((bt254.1 == 0), bt254.2.1, bt254.2.2))
set_option maxHeartbeats 8000000 in
set_option maxRecDepth 100000 in
theorem spec_l1Cur_one.calls (g : Nat) (s0_0 : List Int) (s0_1 : Int) (s0_2 : Int) (a1 : Int) (r1 : Bool) (r2 : Int) (r3 : Int) (w0 w : World) (hI : IsS80 w0 w g s0_0 s0_1 s0_2) (hB : Below w0.heap.size w0 w) (h : spec_l1Cur_one.f s0_0 s0_1 s0_2 a1 = some (r1, r2, r3)) :
  Calls Tryd.prog 70 #[.pointer (some ⟨g, 0, none⟩), .int .i64 a1] w fun e w' => e = .returned (.bool r1) ∧ IsS80 w0 w' g s0_0 r2 r3 ∧ Below w0.heap.size w0 w' ∧ KeepBut w w' g none := by
 have HI0 := Aside0.mk hI
 have HK := Aside0.mk (KeepBut.refl w g none)
 have HL := Aside0.mk hB.size
 clear hI
 have HW0 := Aside0.mk hB.size
 have HB := Aside0.mk hB
 clear hB
 have H : ((spec_l1Cur_pick.f s0_0 s0_1 s0_2 a1).bind fun bt254 => (some ((bt254.1 == 0), bt254.2.1, bt254.2.2))) = some (r1, r2, r3) := h
 clear h
 replace H := Option.bind_eq_some_iff.mp H
 obtain ⟨⟨t254, t255, t256⟩, A30, H⟩ := H
 replace H : (some ((t254 == 0), t255, t256)) = some (r1, r2, r3) := H
 have A3 := Aside0.mk A30
 clear A30
 simp only [Option.some.injEq, Prod.mk.injEq] at H
 obtain ⟨rfl, rfl, rfl⟩ := H
 go_enter Tryd.func70, Tryd.ntmps70
 go_wp2_with (first | ((with_reducible refine gate_callee (f := 66) rfl ?_); refine gL (some 7) rfl rfl Tryd.func66 (by kernel_rfl) rfl #[.pointer (some ⟨g, 0, none⟩), .int .i64 a1] rfl ?_; (with_reducible refine (spec_l1Cur_pick.calls g s0_0 s0_1 s0_2 a1 t254 t255 t256 w0 _ ?side1 ?side2 A3.out).mono ?_); (case side1 => repeat (first | (with_reducible first | exact HI0.out | apply IsS80.alloc | apply IsS80.drewN | apply IsS80.drew | apply IsS80.set_1 | apply IsS80.set_2) | exact HI0.out)); (case side2 => repeat (first | (with_reducible first | exact HB.out | apply below_alloc | apply pw_below_drewN | apply below_drew1 | refine below_set ?_ (IsS80.ge HI0.out)) | exact HB.out)); rintro e w4 ⟨rfl, hi, hb, hk⟩; refine ⟨_, rfl, ?_⟩; replace HK := Aside0.mk (KeepBut.trans (by repeat (first | (with_reducible first | exact HK.out | apply KeepBut.set_ | apply keep_drewN | apply keep_drew | apply keep_alloc) | exact HK.out)) hk (.inl rfl)); replace HB := Aside0.mk (hb); replace HI0 := Aside0.mk (hi); (try clear hb); (try clear hb2); (try clear hk); (try clear hi)))
 go_ret
 exact ⟨by first | rfl | (simp [errW_none, errW_some] <;> rfl) | (simp [*, errW_none, errW_some] <;> rfl), by repeat (first | (with_reducible first | exact HI0.out | apply IsS80.alloc | apply IsS80.drewN | apply IsS80.drew | apply IsS80.set_1 | apply IsS80.set_2) | exact HI0.out), by repeat (first | (with_reducible first | exact HB.out | apply below_alloc | apply pw_below_drewN | apply below_drew1 | refine below_set ?_ (IsS80.ge HI0.out)) | exact HB.out), by repeat (first | (with_reducible first | exact HK.out | apply KeepBut.set_ | apply keep_drewN | apply keep_drew | apply keep_alloc) | exact HK.out)⟩

/-! ### spec_l1Cur_ring: function 64 -/
def spec_l1Cur_ring.l0 : Nat → Int → List Int → Int → Int → List (S26) → Int → Int → Int → Option ((List (S26)) × Int × Int × Int × Int × Int)
 | 0, _, _, _, _, _, _, _, _ => none
 | k + 1, x5, x1000, x1001, x1002, x269000, x269001, x269002, x269003 => if x5 > 0 then ((spec_l1Cur_one.f x1000 x1001 x1002 3).bind fun bt273 => (if bt273.1 = true then ((spec_l1Cur_pick.f x1000 bt273.2.1 bt273.2.2 3).bind fun bt276 => ((spec_PushTail.f k x269000 x269001 x269002 x269003 bt276.1).bind fun bt279 => (if bt279.2.2.2.2 = true then (spec_l1Cur_ring.l0 k (wrap64 (x5 - 1)) x1000 bt276.2.1 bt276.2.2 bt279.1 bt279.2.1 bt279.2.2.1 bt279.2.2.2.1) else (spec_l1Cur_ring.l0 k (wrap64 (x5 - 1)) x1000 bt276.2.1 bt276.2.2 x269000 x269001 x269002 x269003)))) else ((spec_l1Cur_pick.f x1000 bt273.2.1 bt273.2.2 5).bind fun bt286 => ((spec_l1Cur_text.f k x1000 bt286.2.1 bt286.2.2 bt286.1).bind fun bt289 => ((spec_PutRecord.f k x269000 x269001 x269002 x269003 bt289.1).bind fun bt292 => (if bt292.2.2.2.2 = true then (spec_l1Cur_ring.l0 k (wrap64 (x5 - 1)) x1000 bt289.2.1 bt289.2.2 bt292.1 bt292.2.1 bt292.2.2.1 bt292.2.2.2.1) else (spec_l1Cur_ring.l0 k (wrap64 (x5 - 1)) x1000 bt289.2.1 bt289.2.2 x269000 x269001 x269002 x269003))))))) else ((spec_l1Cur_pick.f x1000 x1001 x1002 40).bind fun bt299 => (if bt299.1 = 0 then ((spec_l1Cur_pick.f x1000 bt299.2.1 bt299.2.2 3).bind fun bt302 => (some (x269000, wrap64 (x269001 + (wrap64 (bt302.1 - 1))), x269002, x269003, bt302.2.1, bt302.2.2))) else (if bt299.1 = 1 then ((spec_l1Cur_pick.f x1000 bt299.2.1 bt299.2.2 (x269000.length : Int)).bind fun bt305 => (if 0 ≤ bt305.1 then (if bt305.1 < (x269000.length : Int) then (some ((x269000.set (bt305.1 : Int).toNat (⟨(rd_T26 x269000 bt305.1).f0, (rd_T26 x269000 bt305.1).f1, (rd_T26 x269000 bt305.1).f2, wrap64 (((rd_T26 x269000 bt305.1).f3) + 1)⟩ : S26)), x269001, x269002, x269003, bt305.2.1, bt305.2.2)) else (none)) else (none))) else (if bt299.1 = 2 then ((spec_l1Cur_pick.f x1000 bt299.2.1 bt299.2.2 3).bind fun bt310 => (some (x269000, x269001, x269002, wrap64 (x269003 + (wrap64 (bt310.1 - 1))), bt310.2.1, bt310.2.2))) else (some (x269000, x269001, x269002, x269003, bt299.2.1, bt299.2.2))))))
def spec_l1Cur_ring.f (k : Nat) (s0_0 : List Int) (s0_1 : Int) (s0_2 : Int) : Option ((List (S26)) × Int × Int × Int × Int × Int) := (spec_l1Cur_pick.f s0_0 s0_1 s0_2 6).bind fun bt258 => ((spec_NewRing.f k (wrap64 (2 + bt258.1))).bind fun bt261 => ((spec_l1Cur_pick.f s0_0 bt258.2.1 bt258.2.2 24).bind fun bt269 => (spec_l1Cur_ring.l0 k bt269.1 s0_0 bt269.2.1 bt269.2.2 bt261.1 bt261.2.1 bt261.2.2.1 bt261.2.2.2.1)))
theorem spec_l1Cur_ring.mono_l : ∀ k, (∀ y0 y1 y2 y3 y4 y5 y6 y7, LeO (spec_l1Cur_ring.l0 k y0 y1 y2 y3 y4 y5 y6 y7) (spec_l1Cur_ring.l0 (k + 1) y0 y1 y2 y3 y4 y5 y6 y7))
 | 0 => fun _ _ _ _ _ _ _ _ r h => by simp [spec_l1Cur_ring.l0] at h
 | k + 1 => by
  have ih0 := spec_l1Cur_ring.mono_l k
  ·
   intro y0 y1 y2 y3 y4 y5 y6 y7
   unfold spec_l1Cur_ring.l0
   repeat' first
   | (with_reducible exact ih0 _ _ _ _ _ _ _ _)
   | (with_reducible exact spec_NewRing.mono _ _)
   | (with_reducible exact spec_PushTail.mono _ _ _ _ _ _)
   | (with_reducible exact spec_PutRecord.mono _ _ _ _ _ _)
   | (with_reducible exact spec_l1Cur_text.mono _ _ _ _ _)
   | (with_reducible exact LeO.refl _)
   | (with_reducible exact LeO.none _)
   | (with_reducible refine LeO.ite ?_ ?_)
   | (with_reducible refine LeO.bind ?_ (fun _ => ?_))
   | exact ih0 _ _ _ _ _ _ _ _
   | exact spec_NewRing.mono _ _
   | exact spec_PushTail.mono _ _ _ _ _ _
   | exact spec_PutRecord.mono _ _ _ _ _ _
   | exact spec_l1Cur_text.mono _ _ _ _ _
   | exact LeO.none _
   | refine LeO.ite ?_ ?_
   | refine LeO.bind ?_ (fun _ => ?_)
theorem spec_l1Cur_ring.mono : ∀ a0 a1 a2 k, LeO (spec_l1Cur_ring.f k a0 a1 a2) (spec_l1Cur_ring.f (k + 1) a0 a1 a2) := by
 intro a0 a1 a2 k
 have ih0 := spec_l1Cur_ring.mono_l k
 unfold spec_l1Cur_ring.f
 repeat' first
   | (with_reducible exact ih0 _ _ _ _ _ _ _ _)
   | (with_reducible exact spec_NewRing.mono _ _)
   | (with_reducible exact spec_PushTail.mono _ _ _ _ _ _)
   | (with_reducible exact spec_PutRecord.mono _ _ _ _ _ _)
   | (with_reducible exact spec_l1Cur_text.mono _ _ _ _ _)
   | (with_reducible exact LeO.refl _)
   | (with_reducible exact LeO.none _)
   | (with_reducible refine LeO.ite ?_ ?_)
   | (with_reducible refine LeO.bind ?_ (fun _ => ?_))
   | exact ih0 _ _ _ _ _ _ _ _
   | exact spec_NewRing.mono _ _
   | exact spec_PushTail.mono _ _ _ _ _ _
   | exact spec_PutRecord.mono _ _ _ _ _ _
   | exact spec_l1Cur_text.mono _ _ _ _ _
   | exact LeO.none _
   | refine LeO.ite ?_ ?_
   | refine LeO.bind ?_ (fun _ => ?_)
def spec_l1Cur_ring.T7 : Bool × List (List Nat × List Nat) := (true, [([], []), ([], []), ([1], [1]), ([0, 2, 2], [0, 2]), ([3], [3]), ([4], [4]), ([4], [4]), ([5, 3, 0, 1, 2, 3, 4, 5], [5]), ([6, 7, 0, 1, 2, 3, 4, 5, 6, 7], [6])])
def spec_l1Cur_ring.B7 : List Nat := [0, 0, 2, 7, 15, 31, 31, 63, 255]
theorem spec_l1Cur_ring.tab7 : rtab .any (opsOf Tryd.f64 7) = spec_l1Cur_ring.T7 := by kernel_rfl
theorem spec_l1Cur_ring.bits7 : waitsOk spec_l1Cur_ring.T7.2 spec_l1Cur_ring.B7 = true := by kernel_rfl
def spec_l1Cur_ring.T8 : Bool × List (List Nat × List Nat) := (true, [([], []), ([], []), ([], []), ([2], [2]), ([1, 3, 3], [1, 3]), ([0, 4, 4], [0, 4]), ([5], [5]), ([6], [6]), ([6], [6]), ([7, 5, 0, 1, 2, 3, 4, 5, 6, 7], [7]), ([8, 9, 0, 1, 2, 3, 4, 5, 6, 7, 8, 9], [8])])
def spec_l1Cur_ring.B8 : List Nat := [0, 0, 0, 4, 14, 31, 63, 127, 127, 255, 1023]
theorem spec_l1Cur_ring.tab8 : rtab .any (opsOf Tryd.f64 8) = spec_l1Cur_ring.T8 := by kernel_rfl
theorem spec_l1Cur_ring.bits8 : waitsOk spec_l1Cur_ring.T8.2 spec_l1Cur_ring.B8 = true := by kernel_rfl
def spec_l1Cur_ring.T13 : Bool × List (List Nat × List Nat) := (true, [([], []), ([0], [0]), ([], []), ([2], [2]), ([3], [3]), ([1, 4], [1, 4]), ([0, 1, 2, 3, 4, 5], []), ([6, 5, 3, 0, 1, 2, 3, 4, 5], [5, 6])])
def spec_l1Cur_ring.B13 : List Nat := [0, 1, 0, 4, 12, 31, 63, 127]
theorem spec_l1Cur_ring.tab13 : rtab .any (opsOf Tryd.f64 13) = spec_l1Cur_ring.T13 := by kernel_rfl
theorem spec_l1Cur_ring.bits13 : waitsOk spec_l1Cur_ring.T13.2 spec_l1Cur_ring.B13 = true := by kernel_rfl
def spec_l1Cur_ring.T15 : Bool × List (List Nat × List Nat) := (true, [([], []), ([0], [0]), ([], []), ([], []), ([3], [3]), ([4], [4]), ([2, 5], [2, 5]), ([1, 6], [1, 6]), ([7], [7]), ([8], [8]), ([9], [9]), ([1, 6, 0, 1, 2, 3, 4, 5, 6, 7, 8, 9, 10], [1, 6]), ([11, 0, 1, 2, 3, 4, 5, 6, 7, 8, 9, 10], [11]), ([12, 10, 6, 0, 1, 2, 3, 4, 5, 6, 7, 8, 9, 10], [10, 12])])
def spec_l1Cur_ring.B15 : List Nat := [0, 1, 0, 0, 8, 24, 60, 127, 255, 511, 1023, 2047, 4095, 8191]
theorem spec_l1Cur_ring.tab15 : rtab .any (opsOf Tryd.f64 15) = spec_l1Cur_ring.T15 := by kernel_rfl
theorem spec_l1Cur_ring.bits15 : waitsOk spec_l1Cur_ring.T15.2 spec_l1Cur_ring.B15 = true := by kernel_rfl
def spec_l1Cur_ring.T17 : Bool × List (List Nat × List Nat) := (true, [([], []), ([0], [0]), ([], []), ([2], [2]), ([3], [3]), ([1, 4], [1, 4]), ([0, 1, 2, 3, 4, 5], []), ([6, 5, 3, 0, 1, 2, 3, 4, 5], [5, 6])])
def spec_l1Cur_ring.B17 : List Nat := [0, 1, 0, 4, 12, 31, 63, 127]
theorem spec_l1Cur_ring.tab17 : rtab .any (opsOf Tryd.f64 17) = spec_l1Cur_ring.T17 := by kernel_rfl
theorem spec_l1Cur_ring.bits17 : waitsOk spec_l1Cur_ring.T17.2 spec_l1Cur_ring.B17 = true := by kernel_rfl
set_option maxHeartbeats 8000000 in
set_option maxRecDepth 100000 in
theorem spec_l1Cur_ring.calls (k : Nat) (g : Nat) (s0_0 : List Int) (s0_1 : Int) (s0_2 : Int) (r1 : List (S26)) (r2 : Int) (r3 : Int) (r4 : Int) (r5 : Int) (r6 : Int) (w0 w : World) (hI : IsS80 w0 w g s0_0 s0_1 s0_2) (hB : Below w0.heap.size w0 w) (h : spec_l1Cur_ring.f k s0_0 s0_1 s0_2 = some (r1, r2, r3, r4, r5, r6)) :
  Calls Tryd.prog 64 #[.pointer (some ⟨g, 0, none⟩)] w fun e w' => ∃ v0_ : Value, e = .returned (.agg #[v0_, .int .i64 r2, .int .i64 r3, .int .i64 r4]) ∧ Kd.R k26 26 w' w.heap.size (fun _ => True) v0_ r1 ∧ IsS80 w0 w' g s0_0 r5 r6 ∧ Below w0.heap.size w0 w' ∧ KeepBut w w' g none := by
 have hu36 := Tryd.underlying36
 have HI0 := Aside0.mk hI
 have HK := Aside0.mk (KeepBut.refl w g none)
 have HL := Aside0.mk hB.size
 clear hI
 have HW0 := Aside0.mk hB.size
 have HB := Aside0.mk hB
 clear hB
 have H : ((spec_l1Cur_pick.f s0_0 s0_1 s0_2 6).bind fun bt258 => ((spec_NewRing.f k (wrap64 (2 + bt258.1))).bind fun bt261 => ((spec_l1Cur_pick.f s0_0 bt258.2.1 bt258.2.2 24).bind fun bt269 => (spec_l1Cur_ring.l0 k bt269.1 s0_0 bt269.2.1 bt269.2.2 bt261.1 bt261.2.1 bt261.2.2.1 bt261.2.2.2.1)))) = some (r1, r2, r3, r4, r5, r6) := h
 clear h
 replace H := Option.bind_eq_some_iff.mp H
 obtain ⟨⟨t258, t259, t260⟩, A20, H⟩ := H
 replace H : ((spec_NewRing.f k (wrap64 (2 + t258))).bind fun bt261 => ((spec_l1Cur_pick.f s0_0 t259 t260 24).bind fun bt269 => (spec_l1Cur_ring.l0 k bt269.1 s0_0 bt269.2.1 bt269.2.2 bt261.1 bt261.2.1 bt261.2.2.1 bt261.2.2.2.1))) = some (r1, r2, r3, r4, r5, r6) := H
 have A2 := Aside0.mk A20
 clear A20
 replace H := Option.bind_eq_some_iff.mp H
 obtain ⟨⟨t261, t264, t265, t266, t267⟩, A30, H⟩ := H
 replace H : ((spec_l1Cur_pick.f s0_0 t259 t260 24).bind fun bt269 => (spec_l1Cur_ring.l0 k bt269.1 s0_0 bt269.2.1 bt269.2.2 t261 t264 t265 t266)) = some (r1, r2, r3, r4, r5, r6) := H
 have A3 := Aside0.mk A30
 clear A30
 replace H := Option.bind_eq_some_iff.mp H
 obtain ⟨⟨t269, t270, t271⟩, A40, H⟩ := H
 replace H : (spec_l1Cur_ring.l0 k t269 s0_0 t270 t271 t261 t264 t265 t266) = some (r1, r2, r3, r4, r5, r6) := H
 have A4 := Aside0.mk A40
 clear A40
 have H' := Aside0.mk H
 clear H
 go_enter Tryd.func64, Tryd.ntmps64
 go_wp2_with (first | ((with_reducible refine gate_dst (N := 2) rfl ?_); refine box_event ?hg (N := 2) ?hd (cs := #[.slice none 0 0, .int .i64 0, .int .i64 0, .int .i64 0]) (t := 36) ?hr ?_; (case hd => rfl); (case hg => rfl); (case hr => first | (go_simp; done) | (go_simp; rfl)); intro gb257 hg w5 hbox hb; replace HB := Aside0.mk (below_step (by repeat (first | (with_reducible first | exact HB.out | apply below_alloc | apply pw_below_drewN | apply below_drew1 | refine below_set ?_ (IsS80.ge HI0.out)) | exact HB.out)) hb); have BK257 := Aside0.mk (hbox); have GW257 := Aside0.mk ((by rw [hg]; exact (keep_size (w := w) (g := g) (row := none) (by repeat (first | (with_reducible first | exact HK.out | apply KeepBut.set_ | apply keep_drewN | apply keep_drew | apply keep_alloc) | exact HK.out))) : w.heap.size ≤ gb257)); have GE257 := Aside0.mk ((Nat.le_trans HW0.out (by rw [hg]; exact (keep_size (w := w) (g := g) (row := none) (by repeat (first | (with_reducible first | exact HK.out | apply KeepBut.set_ | apply keep_drewN | apply keep_drew | apply keep_alloc) | exact HK.out))) : w.heap.size ≤ gb257) : w0.heap.size ≤ gb257)); replace HK := Aside0.mk (KeepBut.trans (by repeat (first | (with_reducible first | exact HK.out | apply KeepBut.set_ | apply keep_drewN | apply keep_drew | apply keep_alloc) | exact HK.out)) (KeepBut.of_below hb g none) (.inl rfl)); have NB0_257 := Aside0.mk ((by rw [hg]; exact Nat.ne_of_lt (IsS80.lt (show IsS80 w0 _ g s0_0 s0_1 s0_2 from by repeat (first | (with_reducible first | exact HI0.out | apply IsS80.alloc | apply IsS80.drewN | apply IsS80.drew | apply IsS80.set_1 | apply IsS80.set_2) | exact HI0.out))) : g ≠ gb257)); have NB257_0 := Aside0.mk ((by rw [hg]; exact Nat.ne_of_gt (IsS80.lt (show IsS80 w0 _ g s0_0 s0_1 s0_2 from by repeat (first | (with_reducible first | exact HI0.out | apply IsS80.alloc | apply IsS80.drewN | apply IsS80.drew | apply IsS80.set_1 | apply IsS80.set_2) | exact HI0.out))) : gb257 ≠ g)); replace HI0 := Aside0.mk (IsS80.below (by repeat (first | (with_reducible first | exact HI0.out | apply IsS80.alloc | apply IsS80.drewN | apply IsS80.drew | apply IsS80.set_1 | apply IsS80.set_2) | exact HI0.out)) hb); clear hb hbox hg) | ((with_reducible refine gate_callee (f := 66) rfl ?_); refine gL (some 10) rfl rfl Tryd.func66 (by kernel_rfl) rfl #[.pointer (some ⟨g, 0, none⟩), .int .i64 6] rfl ?_; (with_reducible refine (spec_l1Cur_pick.calls g s0_0 s0_1 s0_2 6 t258 t259 t260 w0 _ ?side1 ?side2 A2.out).mono ?_); (case side1 => repeat (first | (with_reducible first | exact HI0.out | apply IsS80.alloc | apply IsS80.drewN | apply IsS80.drew | apply IsS80.set_1 | apply IsS80.set_2 | refine IsS80.far ?_ NB0_257.out _) | exact HI0.out)); (case side2 => repeat (first | (with_reducible first | exact HB.out | apply below_alloc | apply pw_below_drewN | apply below_drew1 | refine below_set ?_ (IsS80.ge HI0.out) | refine below_set ?_ GE257.out) | exact HB.out)); rintro e w6 ⟨rfl, hi, hb, hk⟩; refine ⟨_, rfl, ?_⟩; replace BK257 := Aside0.mk (KeepBut.blk hk (g' := gb257) (o := .cells #[.slice none 0 0, .int .i64 0, .int .i64 0, .int .i64 0] 36 (0, 0)) (bk BK257) NB257_0.out (by simp)); replace HK := Aside0.mk (KeepBut.trans (by repeat (first | (with_reducible first | exact HK.out | apply KeepBut.set_ | apply keep_drewN | apply keep_drew | apply keep_alloc | refine keep_far ?_ GW257.out _) | exact HK.out)) hk (.inl rfl)); replace HB := Aside0.mk (hb); replace HI0 := Aside0.mk (hi); (try clear hb); (try clear hb2); (try clear hk); (try clear hi)) | ((with_reducible refine gate_callee (f := 22) rfl ?_); refine gL (some 12) rfl rfl Tryd.func22 (by kernel_rfl) rfl #[.int .i64 (wrap64 (2 + t258))] rfl ?_; (with_reducible refine (spec_NewRing.calls k (wrap64 (2 + t258)) t261 t264 t265 t266 t267 _ A3.out).mono ?_); rintro e w7 ⟨v262, rfl, ho0, hb⟩; refine ⟨_, rfl, ?_⟩; have HO263 := Aside0.mk (Kd.R_lower ho0 (keep_size (w := w) (g := g) (row := none) (by repeat (first | (with_reducible first | exact HK.out | apply KeepBut.set_ | apply keep_drewN | apply keep_drew | apply keep_alloc | refine keep_far ?_ GW257.out _) | exact HK.out)))); replace BK257 := nb BK257 hb; replace HK := Aside0.mk (KeepBut.trans (by repeat (first | (with_reducible first | exact HK.out | apply KeepBut.set_ | apply keep_drewN | apply keep_drew | apply keep_alloc | refine keep_far ?_ GW257.out _) | exact HK.out)) (KeepBut.of_below hb g none) (.inl rfl)); replace HB := Aside0.mk (below_step (by repeat (first | (with_reducible first | exact HB.out | apply below_alloc | apply pw_below_drewN | apply below_drew1 | refine below_set ?_ (IsS80.ge HI0.out) | refine below_set ?_ GE257.out) | exact HB.out)) hb); replace HI0 := Aside0.mk (IsS80.below (by repeat (first | (with_reducible first | exact HI0.out | apply IsS80.alloc | apply IsS80.drewN | apply IsS80.drew | apply IsS80.set_1 | apply IsS80.set_2 | refine IsS80.far ?_ NB0_257.out _) | exact HI0.out)) hb); (try clear hb); (try clear hb2); (try clear hk); (try clear hi); (try clear ho0)) | ((with_reducible refine gate_dst (N := 3) rfl ?_); refine box_event ?hg (N := 3) ?hd (cs := #[.slice none 0 0, .int .i64 0, .int .i64 0, .int .i64 0]) (t := 36) ?hr ?_; (case hd => rfl); (case hg => rfl); (case hr => first | (go_simp; done) | (go_simp; rfl)); intro gb268 hg w8 hbox hb; replace HO263 := nr HO263 hb; replace HB := Aside0.mk (below_step (by repeat (first | (with_reducible first | exact HB.out | apply below_alloc | apply pw_below_drewN | apply below_drew1 | refine below_set ?_ (IsS80.ge HI0.out) | refine below_set ?_ GE257.out) | exact HB.out)) hb); have BK268 := Aside0.mk (hbox); have GW268 := Aside0.mk ((by rw [hg]; exact (keep_size (w := w) (g := g) (row := none) (by repeat (first | (with_reducible first | exact HK.out | apply KeepBut.set_ | apply keep_drewN | apply keep_drew | apply keep_alloc | refine keep_far ?_ GW257.out _) | exact HK.out))) : w.heap.size ≤ gb268)); have GE268 := Aside0.mk ((Nat.le_trans HW0.out (by rw [hg]; exact (keep_size (w := w) (g := g) (row := none) (by repeat (first | (with_reducible first | exact HK.out | apply KeepBut.set_ | apply keep_drewN | apply keep_drew | apply keep_alloc | refine keep_far ?_ GW257.out _) | exact HK.out))) : w.heap.size ≤ gb268) : w0.heap.size ≤ gb268)); replace HK := Aside0.mk (KeepBut.trans (by repeat (first | (with_reducible first | exact HK.out | apply KeepBut.set_ | apply keep_drewN | apply keep_drew | apply keep_alloc | refine keep_far ?_ GW257.out _) | exact HK.out)) (KeepBut.of_below hb g none) (.inl rfl)); have NB257_268 := Aside0.mk ((bn BK257 hg : gb257 ≠ gb268)); have NB268_257 := Aside0.mk ((bm BK257 hg : gb268 ≠ gb257)); replace BK257 := nb BK257 hb; have NB0_268 := Aside0.mk ((by rw [hg]; exact Nat.ne_of_lt (IsS80.lt (show IsS80 w0 _ g s0_0 t259 t260 from by repeat (first | (with_reducible first | exact HI0.out | apply IsS80.alloc | apply IsS80.drewN | apply IsS80.drew | apply IsS80.set_1 | apply IsS80.set_2 | refine IsS80.far ?_ NB0_257.out _) | exact HI0.out))) : g ≠ gb268)); have NB268_0 := Aside0.mk ((by rw [hg]; exact Nat.ne_of_gt (IsS80.lt (show IsS80 w0 _ g s0_0 t259 t260 from by repeat (first | (with_reducible first | exact HI0.out | apply IsS80.alloc | apply IsS80.drewN | apply IsS80.drew | apply IsS80.set_1 | apply IsS80.set_2 | refine IsS80.far ?_ NB0_257.out _) | exact HI0.out))) : gb268 ≠ g)); replace HI0 := Aside0.mk (IsS80.below (by repeat (first | (with_reducible first | exact HI0.out | apply IsS80.alloc | apply IsS80.drewN | apply IsS80.drew | apply IsS80.set_1 | apply IsS80.set_2 | refine IsS80.far ?_ NB0_257.out _) | exact HI0.out)) hb); clear hb hbox hg; obtain ⟨Ao9, co9, eo9⟩ := Kd.R_slice HO263.out; subst eo9; have hnb10 := NB268_257.out; have hnc10 := NB257_268.out; have hnb11 := NB268_0.out; have hnc11 := NB0_268.out; obtain ⟨hcz12_0, hcz12_1, hcz12_2, hcz12_3⟩ := cz4 BK268; obtain ⟨hfz12_0, hfz12_1, hfz12_2, hfz12_3⟩ := fz4 BK268) | ((with_reducible refine gate_callee (f := 66) rfl ?_); refine gL (some 16) rfl rfl Tryd.func66 (by kernel_rfl) rfl #[.pointer (some ⟨g, 0, none⟩), .int .i64 24] rfl ?_; (with_reducible refine (spec_l1Cur_pick.calls g s0_0 t259 t260 24 t269 t270 t271 w0 _ ?side1 ?side2 A4.out).mono ?_); (case side1 => repeat (first | (with_reducible first | exact HI0.out | apply IsS80.alloc | apply IsS80.drewN | apply IsS80.drew | apply IsS80.set_1 | apply IsS80.set_2 | refine IsS80.far ?_ NB0_257.out _ | refine IsS80.far ?_ NB0_268.out _) | exact HI0.out)); (case side2 => repeat (first | (with_reducible first | exact HB.out | apply below_alloc | apply pw_below_drewN | apply below_drew1 | refine below_set ?_ (IsS80.ge HI0.out) | refine below_set ?_ GE257.out | refine below_set ?_ GE268.out) | exact HB.out)); rintro e w13 ⟨rfl, hi, hb, hk⟩; refine ⟨_, rfl, ?_⟩; replace BK257 := Aside0.mk (KeepBut.blk hk (g' := gb257) (o := .cells #[.slice none 0 0, .int .i64 0, .int .i64 0, .int .i64 0] 36 (0, 0)) (bf BK257 NB257_268) NB257_0.out (by simp)); replace HO263 := Aside0.mk (Kd.R_mono (Kd.R_keep (IsS80.apart (show IsS80 w0 _ g s0_0 t259 t260 from by repeat (first | (with_reducible first | exact HI0.out | apply IsS80.alloc | apply IsS80.drewN | apply IsS80.drew | apply IsS80.set_1 | apply IsS80.set_2 | refine IsS80.far ?_ NB0_257.out _ | refine IsS80.far ?_ NB0_268.out _) | exact HI0.out)) (rf HO263 BK268) (by decide)) hk (fun _ h => h.2)) (fun _ h => h.1)); replace BK268 := Aside0.mk (KeepBut.blk hk (g' := gb268) (o := .cells #[.slice Ao9 t261.length co9, .int .i64 t264, .int .i64 t265, .int .i64 t266] 36 (0, 0)) (by (with_reducible repeat (first | refine blk_drewN ?_ _ | refine blk_drew ?_ | refine blk_alloc ?_ _)); refine blk_put (cs := #[.slice Ao9 t261.length co9, .int .i64 t264, .int .i64 t265, .int .i64 0]) ?_ 3 _ rfl; (with_reducible repeat (first | refine blk_drewN ?_ _ | refine blk_drew ?_ | refine blk_alloc ?_ _)); refine blk_put (cs := #[.slice Ao9 t261.length co9, .int .i64 t264, .int .i64 0, .int .i64 0]) ?_ 2 _ rfl; (with_reducible repeat (first | refine blk_drewN ?_ _ | refine blk_drew ?_ | refine blk_alloc ?_ _)); refine blk_put (cs := #[.slice Ao9 t261.length co9, .int .i64 0, .int .i64 0, .int .i64 0]) ?_ 1 _ rfl; (with_reducible repeat (first | refine blk_drewN ?_ _ | refine blk_drew ?_ | refine blk_alloc ?_ _)); refine blk_put (cs := #[.slice none 0 0, .int .i64 0, .int .i64 0, .int .i64 0]) ?_ 0 _ rfl; (with_reducible repeat (first | refine blk_drewN ?_ _ | refine blk_drew ?_ | refine blk_alloc ?_ _)); exact BK268.out) NB268_0.out (by simp)); replace HK := Aside0.mk (KeepBut.trans (by repeat (first | (with_reducible first | exact HK.out | apply KeepBut.set_ | apply keep_drewN | apply keep_drew | apply keep_alloc | refine keep_far ?_ GW257.out _ | refine keep_far ?_ GW268.out _) | exact HK.out)) hk (.inl rfl)); replace HB := Aside0.mk (hb); replace HI0 := Aside0.mk (hi); (try clear hb); (try clear hb2); (try clear hk); (try clear hi)))
 go_loopg [5] k (fun kq v5 w' => ∃ (x5_1 : Int) (x1001_1 : Int) (x1002_1 : Int) (x269000_1 : List (S26)) (x269001_1 : Int) (x269002_1 : Int) (x269003_1 : Int) (u269000 : Value), v5 = .int .i64 x5_1 ∧ Aside0 (spec_l1Cur_ring.l0 kq x5_1 s0_0 x1001_1 x1002_1 x269000_1 x269001_1 x269002_1 x269003_1 = some (r1, r2, r3, r4, r5, r6)) ∧ Aside0 (kq ≤ k) ∧ Aside0 (Kd.R k26 26 w' w.heap.size (fun _ => True) u269000 x269000_1) ∧ Aside0 (w'.heap[gb257]? = some (.cells #[(.slice none 0 0), .int .i64 0, .int .i64 0, .int .i64 0] 36 (0, 0))) ∧ Aside0 (w'.heap[gb268]? = some (.cells #[u269000, .int .i64 x269001_1, .int .i64 x269002_1, .int .i64 x269003_1] 36 (0, 0))) ∧ Aside0 (IsS80 w0 w' g s0_0 x1001_1 x1002_1) ∧ Aside0 (KeepBut w w' g none) ∧ Aside0 (Below w0.heap.size w0 w'))
 case atStart => exact ⟨(t269), (t270), (t271), (t261), (t264), (t265), (t266), (.slice Ao9 t261.length co9), (by first | rfl | (simp; done) | (simp [*]; done)), H', ⟨Nat.le_refl _⟩, ⟨rr HO263.out⟩, ⟨bk BK257⟩, ⟨bk BK268⟩, ⟨by repeat (first | (with_reducible first | exact HI0.out | apply IsS80.alloc | apply IsS80.drewN | apply IsS80.drew | apply IsS80.set_1 | apply IsS80.set_2 | refine IsS80.far ?_ NB0_257.out _ | refine IsS80.far ?_ NB0_268.out _) | exact HI0.out)⟩, ⟨by repeat (first | (with_reducible first | exact HK.out | apply KeepBut.set_ | apply keep_drewN | apply keep_drew | apply keep_alloc | refine keep_far ?_ GW257.out _ | refine keep_far ?_ GW268.out _) | exact HK.out)⟩, ⟨by repeat (first | (with_reducible first | exact HB.out | apply below_alloc | apply pw_below_drewN | apply below_drew1 | refine below_set ?_ (IsS80.ge HI0.out) | refine below_set ?_ GE257.out | refine below_set ?_ GE268.out) | exact HB.out)⟩⟩
 case round =>
  clear H'
  try clear c1
  try clear c2
  try clear p2
  try clear c6
  try clear p6
  try clear c10
  try clear c11
  try clear hcz12_0 hcz12_1 hcz12_2 hcz12_3
  try clear hfz12_0 hfz12_1 hfz12_2 hfz12_3
  obtain ⟨x5_1, x1001_1, x1002_1, x269000_1, x269001_1, x269002_1, x269003_1, u269000, rfl, HA, HK1, HO_269000, BK257, BK268, HI0, HK, HB⟩ := hrel
  cases gk with
  | zero => exact absurd HA.out (by simp [spec_l1Cur_ring.l0])
  | succ k1 =>
   have H := HA.out
   clear HA
   simp only [spec_l1Cur_ring.l0] at H
   by_cases c14 : x5_1 > 0
   ·
    rw [if_pos c14] at H
    have c14b0 : decide (0 < x5_1) = true := decide_eq_true c14
    clear c14
    replace H := Option.bind_eq_some_iff.mp H
    obtain ⟨⟨t273, t274, t275⟩, A150, H⟩ := H
    replace H : (if t273 = true then ((spec_l1Cur_pick.f s0_0 t274 t275 3).bind fun bt276 => ((spec_PushTail.f k1 x269000_1 x269001_1 x269002_1 x269003_1 bt276.1).bind fun bt279 => (if bt279.2.2.2.2 = true then (spec_l1Cur_ring.l0 k1 (wrap64 (x5_1 - 1)) s0_0 bt276.2.1 bt276.2.2 bt279.1 bt279.2.1 bt279.2.2.1 bt279.2.2.2.1) else (spec_l1Cur_ring.l0 k1 (wrap64 (x5_1 - 1)) s0_0 bt276.2.1 bt276.2.2 x269000_1 x269001_1 x269002_1 x269003_1)))) else ((spec_l1Cur_pick.f s0_0 t274 t275 5).bind fun bt286 => ((spec_l1Cur_text.f k1 s0_0 bt286.2.1 bt286.2.2 bt286.1).bind fun bt289 => ((spec_PutRecord.f k1 x269000_1 x269001_1 x269002_1 x269003_1 bt289.1).bind fun bt292 => (if bt292.2.2.2.2 = true then (spec_l1Cur_ring.l0 k1 (wrap64 (x5_1 - 1)) s0_0 bt289.2.1 bt289.2.2 bt292.1 bt292.2.1 bt292.2.2.1 bt292.2.2.2.1) else (spec_l1Cur_ring.l0 k1 (wrap64 (x5_1 - 1)) s0_0 bt289.2.1 bt289.2.2 x269000_1 x269001_1 x269002_1 x269003_1)))))) = some (r1, r2, r3, r4, r5, r6) := H
    have A15 := Aside0.mk A150
    clear A150
    by_cases c16 : t273 = true
    ·
     subst c16
     rw [if_pos rfl] at H
     replace H := Option.bind_eq_some_iff.mp H
     obtain ⟨⟨t276, t277, t278⟩, A170, H⟩ := H
     replace H : ((spec_PushTail.f k1 x269000_1 x269001_1 x269002_1 x269003_1 t276).bind fun bt279 => (if bt279.2.2.2.2 = true then (spec_l1Cur_ring.l0 k1 (wrap64 (x5_1 - 1)) s0_0 t277 t278 bt279.1 bt279.2.1 bt279.2.2.1 bt279.2.2.2.1) else (spec_l1Cur_ring.l0 k1 (wrap64 (x5_1 - 1)) s0_0 t277 t278 x269000_1 x269001_1 x269002_1 x269003_1))) = some (r1, r2, r3, r4, r5, r6) := H
     have A17 := Aside0.mk A170
     clear A170
     replace H := Option.bind_eq_some_iff.mp H
     obtain ⟨⟨t279, t282, t283, t284, t285⟩, A180, H⟩ := H
     replace H : (if t285 = true then (spec_l1Cur_ring.l0 k1 (wrap64 (x5_1 - 1)) s0_0 t277 t278 t279 t282 t283 t284) else (spec_l1Cur_ring.l0 k1 (wrap64 (x5_1 - 1)) s0_0 t277 t278 x269000_1 x269001_1 x269002_1 x269003_1)) = some (r1, r2, r3, r4, r5, r6) := H
     have A18 := Aside0.mk A180
     clear A180
     by_cases c19 : t285 = true
     ·
      subst c19
      rw [if_pos rfl] at H
      have H' := Aside0.mk H
      clear H
      have hnb20 := NB268_257.out
      have hnc20 := NB257_268.out
      have hnb21 := NB268_0.out
      have hnc21 := NB0_268.out
      obtain ⟨hcz22_0, hcz22_1, hcz22_2, hcz22_3⟩ := cz4 BK268
      obtain ⟨hfz22_0, hfz22_1, hfz22_2, hfz22_3⟩ := fz4 BK268
      try go_wp2_with (first | ((with_reducible refine gate_dst (N := 6) rfl ?_); refine box_event ?hg (N := 6) ?hd (cs := #[.slice none 0 0, .int .i64 0, .int .i64 0, .int .i64 0]) (t := 36) ?hr ?_; (case hd => rfl); (case hg => rfl); (case hr => first | (go_simp; done) | (go_simp; rfl)); intro gb272 hg w23 hbox hb; replace HO_269000 := nr HO_269000 hb; replace HB := Aside0.mk (below_step (by repeat (first | (with_reducible first | exact HB.out | apply below_alloc | apply pw_below_drewN | apply below_drew1 | refine below_set ?_ (IsS80.ge HI0.out) | refine below_set ?_ GE257.out | refine below_set ?_ GE268.out) | exact HB.out)) hb); have BK272 := Aside0.mk (hbox); have GW272 := Aside0.mk ((by rw [hg]; exact (keep_size (w := w) (g := g) (row := none) (by repeat (first | (with_reducible first | exact HK.out | apply KeepBut.set_ | apply keep_drewN | apply keep_drew | apply keep_alloc | refine keep_far ?_ GW257.out _ | refine keep_far ?_ GW268.out _) | exact HK.out))) : w.heap.size ≤ gb272)); have GE272 := Aside0.mk ((Nat.le_trans HW0.out (by rw [hg]; exact (keep_size (w := w) (g := g) (row := none) (by repeat (first | (with_reducible first | exact HK.out | apply KeepBut.set_ | apply keep_drewN | apply keep_drew | apply keep_alloc | refine keep_far ?_ GW257.out _ | refine keep_far ?_ GW268.out _) | exact HK.out))) : w.heap.size ≤ gb272) : w0.heap.size ≤ gb272)); replace HK := Aside0.mk (KeepBut.trans (by repeat (first | (with_reducible first | exact HK.out | apply KeepBut.set_ | apply keep_drewN | apply keep_drew | apply keep_alloc | refine keep_far ?_ GW257.out _ | refine keep_far ?_ GW268.out _) | exact HK.out)) (KeepBut.of_below hb g none) (.inl rfl)); have NB257_272 := Aside0.mk ((bn BK257 hg : gb257 ≠ gb272)); have NB272_257 := Aside0.mk ((bm BK257 hg : gb272 ≠ gb257)); replace BK257 := nb BK257 hb; have NB268_272 := Aside0.mk ((bn BK268 hg : gb268 ≠ gb272)); have NB272_268 := Aside0.mk ((bm BK268 hg : gb272 ≠ gb268)); replace BK268 := nb BK268 hb; have NB0_272 := Aside0.mk ((by rw [hg]; exact Nat.ne_of_lt (IsS80.lt (show IsS80 w0 _ g s0_0 x1001_1 x1002_1 from by repeat (first | (with_reducible first | exact HI0.out | apply IsS80.alloc | apply IsS80.drewN | apply IsS80.drew | apply IsS80.set_1 | apply IsS80.set_2 | refine IsS80.far ?_ NB0_257.out _ | refine IsS80.far ?_ NB0_268.out _) | exact HI0.out))) : g ≠ gb272)); have NB272_0 := Aside0.mk ((by rw [hg]; exact Nat.ne_of_gt (IsS80.lt (show IsS80 w0 _ g s0_0 x1001_1 x1002_1 from by repeat (first | (with_reducible first | exact HI0.out | apply IsS80.alloc | apply IsS80.drewN | apply IsS80.drew | apply IsS80.set_1 | apply IsS80.set_2 | refine IsS80.far ?_ NB0_257.out _ | refine IsS80.far ?_ NB0_268.out _) | exact HI0.out))) : gb272 ≠ g)); replace HI0 := Aside0.mk (IsS80.below (by repeat (first | (with_reducible first | exact HI0.out | apply IsS80.alloc | apply IsS80.drewN | apply IsS80.drew | apply IsS80.set_1 | apply IsS80.set_2 | refine IsS80.far ?_ NB0_257.out _ | refine IsS80.far ?_ NB0_268.out _) | exact HI0.out)) hb); clear hb hbox hg; obtain ⟨Ao24, co24, eo24⟩ := Kd.R_slice HO_269000.out; subst eo24; have hnb25 := NB272_257.out; have hnc25 := NB257_272.out; have hnb26 := NB272_268.out; have hnc26 := NB268_272.out; have hnb27 := NB272_0.out; have hnc27 := NB0_272.out; obtain ⟨hcz28_0, hcz28_1, hcz28_2, hcz28_3⟩ := cz4 BK272; obtain ⟨hfz28_0, hfz28_1, hfz28_2, hfz28_3⟩ := fz4 BK272) | ((with_reducible refine gate_callee (f := 70) rfl ?_); refine gL (some 23) rfl rfl Tryd.func70 (by kernel_rfl) rfl #[.pointer (some ⟨g, 0, none⟩), .int .i64 3] rfl ?_; (with_reducible refine (spec_l1Cur_one.calls g s0_0 x1001_1 x1002_1 3 true t274 t275 w0 _ ?side1 ?side2 A15.out).mono ?_); (case side1 => repeat (first | (with_reducible first | exact HI0.out | apply IsS80.alloc | apply IsS80.drewN | apply IsS80.drew | apply IsS80.set_1 | apply IsS80.set_2 | refine IsS80.far ?_ NB0_257.out _ | refine IsS80.far ?_ NB0_268.out _ | refine IsS80.far ?_ NB0_272.out _) | exact HI0.out)); (case side2 => repeat (first | (with_reducible first | exact HB.out | apply below_alloc | apply pw_below_drewN | apply below_drew1 | refine below_set ?_ (IsS80.ge HI0.out) | refine below_set ?_ GE257.out | refine below_set ?_ GE268.out | refine below_set ?_ GE272.out) | exact HB.out)); rintro e w29 ⟨rfl, hi, hb, hk⟩; refine ⟨_, rfl, ?_⟩; replace HO_269000 := Aside0.mk (Kd.R_mono (Kd.R_keep (IsS80.apart (show IsS80 w0 _ g s0_0 x1001_1 x1002_1 from by repeat (first | (with_reducible first | exact HI0.out | apply IsS80.alloc | apply IsS80.drewN | apply IsS80.drew | apply IsS80.set_1 | apply IsS80.set_2 | refine IsS80.far ?_ NB0_257.out _ | refine IsS80.far ?_ NB0_268.out _ | refine IsS80.far ?_ NB0_272.out _) | exact HI0.out)) (rf HO_269000 BK272) (by decide)) hk (fun _ h => h.2)) (fun _ h => h.1)); replace BK257 := Aside0.mk (KeepBut.blk hk (g' := gb257) (o := .cells #[.slice none 0 0, .int .i64 0, .int .i64 0, .int .i64 0] 36 (0, 0)) (bf BK257 NB257_272) NB257_0.out (by simp)); replace BK268 := Aside0.mk (KeepBut.blk hk (g' := gb268) (o := .cells #[.slice Ao24 x269000_1.length co24, .int .i64 x269001_1, .int .i64 x269002_1, .int .i64 x269003_1] 36 (0, 0)) (bf BK268 NB268_272) NB268_0.out (by simp)); replace BK272 := Aside0.mk (KeepBut.blk hk (g' := gb272) (o := .cells #[.slice Ao24 x269000_1.length co24, .int .i64 x269001_1, .int .i64 x269002_1, .int .i64 x269003_1] 36 (0, 0)) (by (with_reducible repeat (first | refine blk_drewN ?_ _ | refine blk_drew ?_ | refine blk_alloc ?_ _)); refine blk_put (cs := #[.slice Ao24 x269000_1.length co24, .int .i64 x269001_1, .int .i64 x269002_1, .int .i64 0]) ?_ 3 _ rfl; (with_reducible repeat (first | refine blk_drewN ?_ _ | refine blk_drew ?_ | refine blk_alloc ?_ _)); refine blk_put (cs := #[.slice Ao24 x269000_1.length co24, .int .i64 x269001_1, .int .i64 0, .int .i64 0]) ?_ 2 _ rfl; (with_reducible repeat (first | refine blk_drewN ?_ _ | refine blk_drew ?_ | refine blk_alloc ?_ _)); refine blk_put (cs := #[.slice Ao24 x269000_1.length co24, .int .i64 0, .int .i64 0, .int .i64 0]) ?_ 1 _ rfl; (with_reducible repeat (first | refine blk_drewN ?_ _ | refine blk_drew ?_ | refine blk_alloc ?_ _)); refine blk_put (cs := #[.slice none 0 0, .int .i64 0, .int .i64 0, .int .i64 0]) ?_ 0 _ rfl; (with_reducible repeat (first | refine blk_drewN ?_ _ | refine blk_drew ?_ | refine blk_alloc ?_ _)); exact BK272.out) NB272_0.out (by simp)); replace HK := Aside0.mk (KeepBut.trans (by repeat (first | (with_reducible first | exact HK.out | apply KeepBut.set_ | apply keep_drewN | apply keep_drew | apply keep_alloc | refine keep_far ?_ GW257.out _ | refine keep_far ?_ GW268.out _ | refine keep_far ?_ GW272.out _) | exact HK.out)) hk (.inl rfl)); replace HB := Aside0.mk (hb); replace HI0 := Aside0.mk (hi); (try clear hb); (try clear hb2); (try clear hk); (try clear hi)))
      have n0_ := Aside0.mk (Kd.R_drew HO_269000.out)
      have n1_ := Aside0.mk (blk_drew BK257.out)
      have n2_ := Aside0.mk (blk_drew BK268.out)
      have n3_ := Aside0.mk (blk_drew BK272.out)
      have n4_ := Aside0.mk (IsS80.drew HI0.out)
      have n5_ := Aside0.mk (keep_drew HK.out)
      have n6_ := Aside0.mk (below_drew1 HB.out)
      clear HO_269000
      clear BK257
      clear BK268
      clear BK272
      clear HI0
      clear HK
      clear HB
      have HO_269000 := n0_
      have BK257 := n1_
      have BK268 := n2_
      have BK272 := n3_
      have HI0 := n4_
      have HK := n5_
      have HB := n6_
      clear n0_ n1_ n2_ n3_ n4_ n5_ n6_
      refine start_ (n := 9) (S := fun w' => w'.cell? ⟨gb268, 0, none⟩ = some (.slice Ao24 x269000_1.length co24) ∧ w'.cell? ⟨gb268, 1, none⟩ = some (.int .i64 x269001_1) ∧ w'.cell? ⟨gb268, 2, none⟩ = some (.int .i64 x269002_1) ∧ w'.cell? ⟨gb268, 3, none⟩ = some (.int .i64 x269003_1)) (ds := []) #[false, false, false, false, false, false, false, false, false] (by kernel_rfl) rfl rfl ⟨(blk_cell BK268.out 0).trans rfl, (blk_cell BK268.out 1).trans rfl, (blk_cell BK268.out 2).trans rfl, (blk_cell BK268.out 3).trans rfl⟩ (fun hHeld => ?_); refine with_tabW spec_l1Cur_ring.tab7 spec_l1Cur_ring.bits7 (fun HT_ HW_ => ?_)
      generalize w29.drew = w30 at HO_269000 BK257 BK268 BK272 HI0 HK HB hHeld ⊢
      refine pureS 1 26 HT_.out ?_
      refine takeS 0 25 HT_.out HW_.out hHeld (hr := by rintro w' ⟨s0, s1, s2, s3⟩; go_simp; with_reducible rfl) (h := ?_)
      refine one_ (i := 2) (N := some 27) #[true, true, true, false, false, false, false, false, false] rfl rfl (one_of HT_.out (by kernel_rfl)) (by decide) (fun K hK => ?_)
      refine goes_ Tryd.func66 (by kernel_rfl) rfl #[.pointer (some ⟨g, 0, none⟩), .int .i64 3] (by rfl) rfl rfl (by (try simp only [List.map_toArray, List.map_cons, List.map_nil]); first | done | rfl | (simp only [List.length_drop, List.length_take]; rfl)) ?_
      with_reducible refine (spec_l1Cur_pick.calls g s0_0 t274 t275 3 t276 t277 t278 w0 _ ?side1 ?side2 A17.out).mono ?_
      (case side1 => repeat (first | (with_reducible first | exact HI0.out | apply IsS80.alloc | apply IsS80.drewN | apply IsS80.drew | apply IsS80.set_1 | apply IsS80.set_2 | refine IsS80.far ?_ NB0_257.out _ | refine IsS80.far ?_ NB0_268.out _ | refine IsS80.far ?_ NB0_272.out _) | exact HI0.out))
      (case side2 => repeat (first | (with_reducible first | exact HB.out | apply below_alloc | apply pw_below_drewN | apply below_drew1 | refine below_set ?_ (IsS80.ge HI0.out) | refine below_set ?_ GE257.out | refine below_set ?_ GE268.out | refine below_set ?_ GE272.out) | exact HB.out))
      rintro e w31 ⟨rfl, hi, hb, hk⟩
      refine ⟨_, rfl, ?_⟩
      have n0_ := Aside0.mk (Kd.R_mono (Kd.R_keep (IsS80.apart (show IsS80 w0 _ g s0_0 t274 t275 from by repeat (first | (with_reducible first | exact HI0.out | apply IsS80.alloc | apply IsS80.drewN | apply IsS80.drew | apply IsS80.set_1 | apply IsS80.set_2 | refine IsS80.far ?_ NB0_257.out _ | refine IsS80.far ?_ NB0_268.out _ | refine IsS80.far ?_ NB0_272.out _) | exact HI0.out)) (rr HO_269000.out) (by decide)) hk (fun _ h => h.2)) (fun _ h => h.1))
      have n1_ := Aside0.mk (KeepBut.blk hk (g' := gb257) (o := .cells #[.slice none 0 0, .int .i64 0, .int .i64 0, .int .i64 0] 36 (0, 0)) (bk BK257) NB257_0.out (by simp))
      have n2_ := Aside0.mk (KeepBut.blk hk (g' := gb268) (o := .cells #[.slice Ao24 x269000_1.length co24, .int .i64 x269001_1, .int .i64 x269002_1, .int .i64 x269003_1] 36 (0, 0)) (bk BK268) NB268_0.out (by simp))
      have n3_ := Aside0.mk (KeepBut.blk hk (g' := gb272) (o := .cells #[.slice Ao24 x269000_1.length co24, .int .i64 x269001_1, .int .i64 x269002_1, .int .i64 x269003_1] 36 (0, 0)) (bk BK272) NB272_0.out (by simp))
      have n4_ := Aside0.mk (KeepBut.trans (by repeat (first | (with_reducible first | exact HK.out | apply KeepBut.set_ | apply keep_drewN | apply keep_drew | apply keep_alloc | refine keep_far ?_ GW257.out _ | refine keep_far ?_ GW268.out _ | refine keep_far ?_ GW272.out _) | exact HK.out)) hk (.inl rfl))
      have n5_ := Aside0.mk (hb)
      have n6_ := Aside0.mk (hi)
      clear HO_269000
      clear BK257
      clear BK268
      clear BK272
      clear HK
      clear HB
      clear HI0
      have HO_269000 := n0_
      have BK257 := n1_
      have BK268 := n2_
      have BK272 := n3_
      have HK := n4_
      have HB := n5_
      have HI0 := n6_
      clear n0_ n1_ n2_ n3_ n4_ n5_ n6_
      (try clear hb)
      (try clear hb2)
      (try clear hk)
      (try clear hi)
      refine hK.out _ _ ⟨(blk_cell BK268.out 0).trans rfl, (blk_cell BK268.out 1).trans rfl, (blk_cell BK268.out 2).trans rfl, (blk_cell BK268.out 3).trans rfl⟩ (fun hHeld => ?_)
      clear hK K
      refine norm_ (a' := ?_) ?_ ?_
      rotate_left
      ·
       show Act.put _ (some 27) _ = _
       simp only [Act.put, List.setIfInBounds_toArray, List.set_cons_zero, List.set_cons_succ, i64_w, i32_w]
       rfl
      refine one_ (i := 3) (N := some 28) #[true, true, true, true, false, false, false, false, false] rfl rfl (one_of HT_.out (by kernel_rfl)) (by decide) (fun K hK => ?_)
      refine goes_ Tryd.func40 (by kernel_rfl) rfl #[.agg #[.slice Ao24 x269000_1.length co24, .int .i64 x269001_1, .int .i64 x269002_1, .int .i64 x269003_1], .int .i64 t276] (by rfl) rfl rfl (by (try simp only [List.map_toArray, List.map_cons, List.map_nil]); first | done | rfl | (simp only [List.length_drop, List.length_take]; rfl)) ?_
      with_reducible refine (spec_PushTail.calls k1 _ _ x269000_1 x269001_1 x269002_1 x269003_1 t276 t279 t282 t283 t284 true _ ?side1 ?side2 A18.out).mono ?_
      (case side1 => exact rc0 HO_269000)
      (case side2 => exact (Kd.R_reads' HO_269000.out).2.1)
      rintro e w32 ⟨v280, rfl, ho0, hb⟩
      refine ⟨_, rfl, ?_⟩
      have n0_ := Aside0.mk (Kd.R_elder' (rr HO_269000.out) (Kd.R_base ho0) hb)
      have n1_ := Aside0.mk (Kd.R_lower (Kd.R_new' ho0 (Kd.R_lt (rr HO_269000.out))) (keep_size (w := w) (g := g) (row := none) (by repeat (first | (with_reducible first | exact HK.out | apply KeepBut.set_ | apply keep_drewN | apply keep_drew | apply keep_alloc | refine keep_far ?_ GW257.out _ | refine keep_far ?_ GW268.out _ | refine keep_far ?_ GW272.out _) | exact HK.out))))
      have n2_ := Aside0.mk (bb BK257 hb)
      have n3_ := Aside0.mk (bb BK268 hb)
      have n4_ := Aside0.mk (IsS80.below (by repeat (first | (with_reducible first | exact HI0.out | apply IsS80.alloc | apply IsS80.drewN | apply IsS80.drew | apply IsS80.set_1 | apply IsS80.set_2 | refine IsS80.far ?_ NB0_257.out _ | refine IsS80.far ?_ NB0_268.out _ | refine IsS80.far ?_ NB0_272.out _) | exact HI0.out)) hb)
      have n5_ := Aside0.mk (bb BK272 hb)
      have n6_ := Aside0.mk (KeepBut.trans (by repeat (first | (with_reducible first | exact HK.out | apply KeepBut.set_ | apply keep_drewN | apply keep_drew | apply keep_alloc | refine keep_far ?_ GW257.out _ | refine keep_far ?_ GW268.out _ | refine keep_far ?_ GW272.out _) | exact HK.out)) (KeepBut.of_below hb g none) (.inl rfl))
      have n7_ := Aside0.mk (below_step (by repeat (first | (with_reducible first | exact HB.out | apply below_alloc | apply pw_below_drewN | apply below_drew1 | refine below_set ?_ (IsS80.ge HI0.out) | refine below_set ?_ GE257.out | refine below_set ?_ GE268.out | refine below_set ?_ GE272.out) | exact HB.out)) hb)
      clear HO_269000
      clear BK257
      clear BK268
      clear HI0
      clear BK272
      clear HK
      clear HB
      have HO_269000 := n0_
      have HO281 := n1_
      have BK257 := n2_
      have BK268 := n3_
      have HI0 := n4_
      have BK272 := n5_
      have HK := n6_
      have HB := n7_
      clear n0_ n1_ n2_ n3_ n4_ n5_ n6_ n7_
      (try clear hb)
      (try clear hb2)
      (try clear hk)
      (try clear hi)
      (try clear ho0)
      obtain ⟨Ao33, co33, eo33⟩ := Kd.R_slice HO281.out
      (first | subst eo33 | (injection eo33 with f1_ f2_ f3_; have f4_ := f1_.symm; have f5_ := f3_.symm; clear f1_ f2_ f3_; subst f4_; subst f5_))
      refine hK.out _ _ ⟨(blk_cell BK268.out 0).trans rfl, (blk_cell BK268.out 1).trans rfl, (blk_cell BK268.out 2).trans rfl, (blk_cell BK268.out 3).trans rfl⟩ (fun hHeld => ?_)
      clear hK K
      refine norm_ (a' := ?_) ?_ ?_
      rotate_left
      ·
       show Act.put _ (some 28) _ = _
       simp only [Act.put, List.setIfInBounds_toArray, List.set_cons_zero, List.set_cons_succ, i64_w, i32_w]
       rfl
      refine pureS 4 24 HT_.out ?_
      refine pureS 5 29 HT_.out ?_
      refine pureS 6 30 HT_.out ?_
      refine one_ (i := 7) (N := none) #[true, true, true, true, true, true, true, true, false] rfl rfl (one_of HT_.out (by kernel_rfl)) (by decide) (fun K hK => ?_)
      have hs34 : w32.cell? ⟨gb272, 0, none⟩ = some (.slice Ao24 x269000_1.length co24) := (blk_cell BK272.out 0).trans rfl
      have hfs34 := blk_frozen BK272.out 0
      have hns34_0 := NB257_272.out
      have hns34_1 := NB268_272.out
      have hms34_0 := NB272_257.out
      have hms34_1 := NB272_268.out
      have hs35 : w32.cell? ⟨gb272, 1, none⟩ = some (.int .i64 x269001_1) := (blk_cell BK272.out 1).trans rfl
      have hfs35 := blk_frozen BK272.out 1
      have hns35_0 := NB257_272.out
      have hns35_1 := NB268_272.out
      have hms35_0 := NB272_257.out
      have hms35_1 := NB272_268.out
      have hs36 : w32.cell? ⟨gb272, 2, none⟩ = some (.int .i64 x269002_1) := (blk_cell BK272.out 2).trans rfl
      have hfs36 := blk_frozen BK272.out 2
      have hns36_0 := NB257_272.out
      have hns36_1 := NB268_272.out
      have hms36_0 := NB272_257.out
      have hms36_1 := NB272_268.out
      have hs37 : w32.cell? ⟨gb272, 3, none⟩ = some (.int .i64 x269003_1) := (blk_cell BK272.out 3).trans rfl
      have hfs37 := blk_frozen BK272.out 3
      have hns37_0 := NB257_272.out
      have hns37_1 := NB268_272.out
      have hms37_0 := NB272_257.out
      have hms37_1 := NB272_268.out
      refine skip_ (w1 := ?_) (by rfl) rfl ?_ ?_
      rotate_left
      ·
       go_simp
       rfl
      refine hK.out _ _ ⟨((cell_far (p := ⟨gb272, _, none⟩) NB268_272.out _).trans (((cell_far (p := ⟨gb272, _, none⟩) NB268_272.out _).trans (((cell_far (p := ⟨gb272, _, none⟩) NB268_272.out _).trans (((cell_far (p := ⟨gb272, _, none⟩) NB268_272.out _).trans (hHeld.1)))))))), ((cell_far (p := ⟨gb272, _, none⟩) NB268_272.out _).trans (((cell_far (p := ⟨gb272, _, none⟩) NB268_272.out _).trans (((cell_far (p := ⟨gb272, _, none⟩) NB268_272.out _).trans (((cell_far (p := ⟨gb272, _, none⟩) NB268_272.out _).trans (hHeld.2.1)))))))), ((cell_far (p := ⟨gb272, _, none⟩) NB268_272.out _).trans (((cell_far (p := ⟨gb272, _, none⟩) NB268_272.out _).trans (((cell_far (p := ⟨gb272, _, none⟩) NB268_272.out _).trans (((cell_far (p := ⟨gb272, _, none⟩) NB268_272.out _).trans (hHeld.2.2.1)))))))), ((cell_far (p := ⟨gb272, _, none⟩) NB268_272.out _).trans (((cell_far (p := ⟨gb272, _, none⟩) NB268_272.out _).trans (((cell_far (p := ⟨gb272, _, none⟩) NB268_272.out _).trans (((cell_far (p := ⟨gb272, _, none⟩) NB268_272.out _).trans (hHeld.2.2.2))))))))⟩ (fun hHeld => ?_)
      clear hK K
      refine pureS 8 7 HT_.out ?_
      refine done_ (done_of HT_.out (by kernel_rfl)) ?_
      obtain ⟨hcz38_0, hcz38_1, hcz38_2, hcz38_3⟩ := cz4 BK272
      obtain ⟨hfz38_0, hfz38_1, hfz38_2, hfz38_3⟩ := fz4 BK272
      obtain ⟨hcz39_0, hcz39_1, hcz39_2, hcz39_3⟩ := cz4 BK268
      obtain ⟨hfz39_0, hfz39_1, hfz39_2, hfz39_3⟩ := fz4 BK268
      try go_wp2
      go_roundg k1
      case measure => have := HK1.out; omega
      case rel => exact ⟨(wrap64 (x5_1 - 1)), (t277), (t278), (t279), (t282), (t283), (t284), (.slice Ao33 t279.length co33), (by first | rfl | (simp; done) | (simp [*]; done)), H', ⟨by have := HK1.out; omega⟩, ⟨by (with_reducible repeat (first | apply Kd.R_alloc | apply Kd.R_drewN | apply Kd.R_drew)); exact Kd.R_mono (Kd.R_far (p := ⟨gb268, 3, none⟩) (Kd.R_far (p := ⟨gb268, 2, none⟩) (Kd.R_far (p := ⟨gb268, 1, none⟩) (Kd.R_far (p := ⟨gb268, 0, none⟩) (Kd.R_far (p := ⟨gb272, 3, none⟩) (Kd.R_far (p := ⟨gb272, 2, none⟩) (Kd.R_far (p := ⟨gb272, 1, none⟩) (Kd.R_far (p := ⟨gb272, 0, none⟩) (Kd.R_types (Kd.R_types HO281.out BK272.out (by decide)) BK268.out (by decide)) (fun _ hk => hk.1.2) (.slice Ao33 t279.length co33)) (fun _ hk => hk.1.2) (.int .i64 t282)) (fun _ hk => hk.1.2) (.int .i64 t283)) (fun _ hk => hk.1.2) (.int .i64 t284)) (fun _ hk => hk.2) (.slice Ao33 t279.length co33)) (fun _ hk => hk.2) (.int .i64 t282)) (fun _ hk => hk.2) (.int .i64 t283)) (fun _ hk => hk.2) (.int .i64 t284)) (fun _ hk => trivial)⟩, ⟨by (with_reducible repeat (first | refine blk_drewN ?_ _ | refine blk_drew ?_ | refine blk_alloc ?_ _)); refine blk_far ?_ NB257_268.out _; (with_reducible repeat (first | refine blk_drewN ?_ _ | refine blk_drew ?_ | refine blk_alloc ?_ _)); refine blk_far ?_ NB257_268.out _; (with_reducible repeat (first | refine blk_drewN ?_ _ | refine blk_drew ?_ | refine blk_alloc ?_ _)); refine blk_far ?_ NB257_268.out _; (with_reducible repeat (first | refine blk_drewN ?_ _ | refine blk_drew ?_ | refine blk_alloc ?_ _)); refine blk_far ?_ NB257_268.out _; (with_reducible repeat (first | refine blk_drewN ?_ _ | refine blk_drew ?_ | refine blk_alloc ?_ _)); refine blk_far ?_ NB257_272.out _; (with_reducible repeat (first | refine blk_drewN ?_ _ | refine blk_drew ?_ | refine blk_alloc ?_ _)); refine blk_far ?_ NB257_272.out _; (with_reducible repeat (first | refine blk_drewN ?_ _ | refine blk_drew ?_ | refine blk_alloc ?_ _)); refine blk_far ?_ NB257_272.out _; (with_reducible repeat (first | refine blk_drewN ?_ _ | refine blk_drew ?_ | refine blk_alloc ?_ _)); refine blk_far ?_ NB257_272.out _; (with_reducible repeat (first | refine blk_drewN ?_ _ | refine blk_drew ?_ | refine blk_alloc ?_ _)); exact BK257.out⟩, ⟨by (with_reducible repeat (first | refine blk_drewN ?_ _ | refine blk_drew ?_ | refine blk_alloc ?_ _)); refine blk_put (cs := #[.slice Ao33 t279.length co33, .int .i64 t282, .int .i64 t283, .int .i64 x269003_1]) ?_ 3 _ rfl; (with_reducible repeat (first | refine blk_drewN ?_ _ | refine blk_drew ?_ | refine blk_alloc ?_ _)); refine blk_put (cs := #[.slice Ao33 t279.length co33, .int .i64 t282, .int .i64 x269002_1, .int .i64 x269003_1]) ?_ 2 _ rfl; (with_reducible repeat (first | refine blk_drewN ?_ _ | refine blk_drew ?_ | refine blk_alloc ?_ _)); refine blk_put (cs := #[.slice Ao33 t279.length co33, .int .i64 x269001_1, .int .i64 x269002_1, .int .i64 x269003_1]) ?_ 1 _ rfl; (with_reducible repeat (first | refine blk_drewN ?_ _ | refine blk_drew ?_ | refine blk_alloc ?_ _)); refine blk_put (cs := #[.slice Ao24 x269000_1.length co24, .int .i64 x269001_1, .int .i64 x269002_1, .int .i64 x269003_1]) ?_ 0 _ rfl; (with_reducible repeat (first | refine blk_drewN ?_ _ | refine blk_drew ?_ | refine blk_alloc ?_ _)); refine blk_far ?_ NB268_272.out _; (with_reducible repeat (first | refine blk_drewN ?_ _ | refine blk_drew ?_ | refine blk_alloc ?_ _)); refine blk_far ?_ NB268_272.out _; (with_reducible repeat (first | refine blk_drewN ?_ _ | refine blk_drew ?_ | refine blk_alloc ?_ _)); refine blk_far ?_ NB268_272.out _; (with_reducible repeat (first | refine blk_drewN ?_ _ | refine blk_drew ?_ | refine blk_alloc ?_ _)); refine blk_far ?_ NB268_272.out _; (with_reducible repeat (first | refine blk_drewN ?_ _ | refine blk_drew ?_ | refine blk_alloc ?_ _)); exact BK268.out⟩, ⟨by repeat (first | (with_reducible first | exact HI0.out | apply IsS80.alloc | apply IsS80.drewN | apply IsS80.drew | apply IsS80.set_1 | apply IsS80.set_2 | refine IsS80.far ?_ NB0_257.out _ | refine IsS80.far ?_ NB0_268.out _ | refine IsS80.far ?_ NB0_272.out _) | exact HI0.out)⟩, ⟨by repeat (first | (with_reducible first | exact HK.out | apply KeepBut.set_ | apply keep_drewN | apply keep_drew | apply keep_alloc | refine keep_far ?_ GW257.out _ | refine keep_far ?_ GW268.out _ | refine keep_far ?_ GW272.out _) | exact HK.out)⟩, ⟨by repeat (first | (with_reducible first | exact HB.out | apply below_alloc | apply pw_below_drewN | apply below_drew1 | refine below_set ?_ (IsS80.ge HI0.out) | refine below_set ?_ GE257.out | refine below_set ?_ GE268.out | refine below_set ?_ GE272.out) | exact HB.out)⟩⟩
     ·
      replace c19 := Bool.eq_false_iff.mpr c19
      subst c19
      rw [if_neg (show ¬ (false = true) by decide)] at H
      have H' := Aside0.mk H
      clear H
      have hnb40 := NB268_257.out
      have hnc40 := NB257_268.out
      have hnb41 := NB268_0.out
      have hnc41 := NB0_268.out
      obtain ⟨hcz42_0, hcz42_1, hcz42_2, hcz42_3⟩ := cz4 BK268
      obtain ⟨hfz42_0, hfz42_1, hfz42_2, hfz42_3⟩ := fz4 BK268
      try go_wp2_with (first | ((with_reducible refine gate_dst (N := 6) rfl ?_); refine box_event ?hg (N := 6) ?hd (cs := #[.slice none 0 0, .int .i64 0, .int .i64 0, .int .i64 0]) (t := 36) ?hr ?_; (case hd => rfl); (case hg => rfl); (case hr => first | (go_simp; done) | (go_simp; rfl)); intro gb272 hg w43 hbox hb; replace HO_269000 := nr HO_269000 hb; replace HB := Aside0.mk (below_step (by repeat (first | (with_reducible first | exact HB.out | apply below_alloc | apply pw_below_drewN | apply below_drew1 | refine below_set ?_ (IsS80.ge HI0.out) | refine below_set ?_ GE257.out | refine below_set ?_ GE268.out) | exact HB.out)) hb); have BK272 := Aside0.mk (hbox); have GW272 := Aside0.mk ((by rw [hg]; exact (keep_size (w := w) (g := g) (row := none) (by repeat (first | (with_reducible first | exact HK.out | apply KeepBut.set_ | apply keep_drewN | apply keep_drew | apply keep_alloc | refine keep_far ?_ GW257.out _ | refine keep_far ?_ GW268.out _) | exact HK.out))) : w.heap.size ≤ gb272)); have GE272 := Aside0.mk ((Nat.le_trans HW0.out (by rw [hg]; exact (keep_size (w := w) (g := g) (row := none) (by repeat (first | (with_reducible first | exact HK.out | apply KeepBut.set_ | apply keep_drewN | apply keep_drew | apply keep_alloc | refine keep_far ?_ GW257.out _ | refine keep_far ?_ GW268.out _) | exact HK.out))) : w.heap.size ≤ gb272) : w0.heap.size ≤ gb272)); replace HK := Aside0.mk (KeepBut.trans (by repeat (first | (with_reducible first | exact HK.out | apply KeepBut.set_ | apply keep_drewN | apply keep_drew | apply keep_alloc | refine keep_far ?_ GW257.out _ | refine keep_far ?_ GW268.out _) | exact HK.out)) (KeepBut.of_below hb g none) (.inl rfl)); have NB257_272 := Aside0.mk ((bn BK257 hg : gb257 ≠ gb272)); have NB272_257 := Aside0.mk ((bm BK257 hg : gb272 ≠ gb257)); replace BK257 := nb BK257 hb; have NB268_272 := Aside0.mk ((bn BK268 hg : gb268 ≠ gb272)); have NB272_268 := Aside0.mk ((bm BK268 hg : gb272 ≠ gb268)); replace BK268 := nb BK268 hb; have NB0_272 := Aside0.mk ((by rw [hg]; exact Nat.ne_of_lt (IsS80.lt (show IsS80 w0 _ g s0_0 x1001_1 x1002_1 from by repeat (first | (with_reducible first | exact HI0.out | apply IsS80.alloc | apply IsS80.drewN | apply IsS80.drew | apply IsS80.set_1 | apply IsS80.set_2 | refine IsS80.far ?_ NB0_257.out _ | refine IsS80.far ?_ NB0_268.out _) | exact HI0.out))) : g ≠ gb272)); have NB272_0 := Aside0.mk ((by rw [hg]; exact Nat.ne_of_gt (IsS80.lt (show IsS80 w0 _ g s0_0 x1001_1 x1002_1 from by repeat (first | (with_reducible first | exact HI0.out | apply IsS80.alloc | apply IsS80.drewN | apply IsS80.drew | apply IsS80.set_1 | apply IsS80.set_2 | refine IsS80.far ?_ NB0_257.out _ | refine IsS80.far ?_ NB0_268.out _) | exact HI0.out))) : gb272 ≠ g)); replace HI0 := Aside0.mk (IsS80.below (by repeat (first | (with_reducible first | exact HI0.out | apply IsS80.alloc | apply IsS80.drewN | apply IsS80.drew | apply IsS80.set_1 | apply IsS80.set_2 | refine IsS80.far ?_ NB0_257.out _ | refine IsS80.far ?_ NB0_268.out _) | exact HI0.out)) hb); clear hb hbox hg; obtain ⟨Ao44, co44, eo44⟩ := Kd.R_slice HO_269000.out; subst eo44; have hnb45 := NB272_257.out; have hnc45 := NB257_272.out; have hnb46 := NB272_268.out; have hnc46 := NB268_272.out; have hnb47 := NB272_0.out; have hnc47 := NB0_272.out; obtain ⟨hcz48_0, hcz48_1, hcz48_2, hcz48_3⟩ := cz4 BK272; obtain ⟨hfz48_0, hfz48_1, hfz48_2, hfz48_3⟩ := fz4 BK272) | ((with_reducible refine gate_callee (f := 70) rfl ?_); refine gL (some 23) rfl rfl Tryd.func70 (by kernel_rfl) rfl #[.pointer (some ⟨g, 0, none⟩), .int .i64 3] rfl ?_; (with_reducible refine (spec_l1Cur_one.calls g s0_0 x1001_1 x1002_1 3 true t274 t275 w0 _ ?side1 ?side2 A15.out).mono ?_); (case side1 => repeat (first | (with_reducible first | exact HI0.out | apply IsS80.alloc | apply IsS80.drewN | apply IsS80.drew | apply IsS80.set_1 | apply IsS80.set_2 | refine IsS80.far ?_ NB0_257.out _ | refine IsS80.far ?_ NB0_268.out _ | refine IsS80.far ?_ NB0_272.out _) | exact HI0.out)); (case side2 => repeat (first | (with_reducible first | exact HB.out | apply below_alloc | apply pw_below_drewN | apply below_drew1 | refine below_set ?_ (IsS80.ge HI0.out) | refine below_set ?_ GE257.out | refine below_set ?_ GE268.out | refine below_set ?_ GE272.out) | exact HB.out)); rintro e w49 ⟨rfl, hi, hb, hk⟩; refine ⟨_, rfl, ?_⟩; replace HO_269000 := Aside0.mk (Kd.R_mono (Kd.R_keep (IsS80.apart (show IsS80 w0 _ g s0_0 x1001_1 x1002_1 from by repeat (first | (with_reducible first | exact HI0.out | apply IsS80.alloc | apply IsS80.drewN | apply IsS80.drew | apply IsS80.set_1 | apply IsS80.set_2 | refine IsS80.far ?_ NB0_257.out _ | refine IsS80.far ?_ NB0_268.out _ | refine IsS80.far ?_ NB0_272.out _) | exact HI0.out)) (rf HO_269000 BK272) (by decide)) hk (fun _ h => h.2)) (fun _ h => h.1)); replace BK257 := Aside0.mk (KeepBut.blk hk (g' := gb257) (o := .cells #[.slice none 0 0, .int .i64 0, .int .i64 0, .int .i64 0] 36 (0, 0)) (bf BK257 NB257_272) NB257_0.out (by simp)); replace BK268 := Aside0.mk (KeepBut.blk hk (g' := gb268) (o := .cells #[.slice Ao44 x269000_1.length co44, .int .i64 x269001_1, .int .i64 x269002_1, .int .i64 x269003_1] 36 (0, 0)) (bf BK268 NB268_272) NB268_0.out (by simp)); replace BK272 := Aside0.mk (KeepBut.blk hk (g' := gb272) (o := .cells #[.slice Ao44 x269000_1.length co44, .int .i64 x269001_1, .int .i64 x269002_1, .int .i64 x269003_1] 36 (0, 0)) (by (with_reducible repeat (first | refine blk_drewN ?_ _ | refine blk_drew ?_ | refine blk_alloc ?_ _)); refine blk_put (cs := #[.slice Ao44 x269000_1.length co44, .int .i64 x269001_1, .int .i64 x269002_1, .int .i64 0]) ?_ 3 _ rfl; (with_reducible repeat (first | refine blk_drewN ?_ _ | refine blk_drew ?_ | refine blk_alloc ?_ _)); refine blk_put (cs := #[.slice Ao44 x269000_1.length co44, .int .i64 x269001_1, .int .i64 0, .int .i64 0]) ?_ 2 _ rfl; (with_reducible repeat (first | refine blk_drewN ?_ _ | refine blk_drew ?_ | refine blk_alloc ?_ _)); refine blk_put (cs := #[.slice Ao44 x269000_1.length co44, .int .i64 0, .int .i64 0, .int .i64 0]) ?_ 1 _ rfl; (with_reducible repeat (first | refine blk_drewN ?_ _ | refine blk_drew ?_ | refine blk_alloc ?_ _)); refine blk_put (cs := #[.slice none 0 0, .int .i64 0, .int .i64 0, .int .i64 0]) ?_ 0 _ rfl; (with_reducible repeat (first | refine blk_drewN ?_ _ | refine blk_drew ?_ | refine blk_alloc ?_ _)); exact BK272.out) NB272_0.out (by simp)); replace HK := Aside0.mk (KeepBut.trans (by repeat (first | (with_reducible first | exact HK.out | apply KeepBut.set_ | apply keep_drewN | apply keep_drew | apply keep_alloc | refine keep_far ?_ GW257.out _ | refine keep_far ?_ GW268.out _ | refine keep_far ?_ GW272.out _) | exact HK.out)) hk (.inl rfl)); replace HB := Aside0.mk (hb); replace HI0 := Aside0.mk (hi); (try clear hb); (try clear hb2); (try clear hk); (try clear hi)))
      have n0_ := Aside0.mk (Kd.R_drew HO_269000.out)
      have n1_ := Aside0.mk (blk_drew BK257.out)
      have n2_ := Aside0.mk (blk_drew BK268.out)
      have n3_ := Aside0.mk (blk_drew BK272.out)
      have n4_ := Aside0.mk (IsS80.drew HI0.out)
      have n5_ := Aside0.mk (keep_drew HK.out)
      have n6_ := Aside0.mk (below_drew1 HB.out)
      clear HO_269000
      clear BK257
      clear BK268
      clear BK272
      clear HI0
      clear HK
      clear HB
      have HO_269000 := n0_
      have BK257 := n1_
      have BK268 := n2_
      have BK272 := n3_
      have HI0 := n4_
      have HK := n5_
      have HB := n6_
      clear n0_ n1_ n2_ n3_ n4_ n5_ n6_
      refine start_ (n := 9) (S := fun w' => w'.cell? ⟨gb268, 0, none⟩ = some (.slice Ao44 x269000_1.length co44) ∧ w'.cell? ⟨gb268, 1, none⟩ = some (.int .i64 x269001_1) ∧ w'.cell? ⟨gb268, 2, none⟩ = some (.int .i64 x269002_1) ∧ w'.cell? ⟨gb268, 3, none⟩ = some (.int .i64 x269003_1)) (ds := []) #[false, false, false, false, false, false, false, false, false] (by kernel_rfl) rfl rfl ⟨(blk_cell BK268.out 0).trans rfl, (blk_cell BK268.out 1).trans rfl, (blk_cell BK268.out 2).trans rfl, (blk_cell BK268.out 3).trans rfl⟩ (fun hHeld => ?_); refine with_tabW spec_l1Cur_ring.tab7 spec_l1Cur_ring.bits7 (fun HT_ HW_ => ?_)
      generalize w49.drew = w50 at HO_269000 BK257 BK268 BK272 HI0 HK HB hHeld ⊢
      refine pureS 1 26 HT_.out ?_
      refine takeS 0 25 HT_.out HW_.out hHeld (hr := by rintro w' ⟨s0, s1, s2, s3⟩; go_simp; with_reducible rfl) (h := ?_)
      refine one_ (i := 2) (N := some 27) #[true, true, true, false, false, false, false, false, false] rfl rfl (one_of HT_.out (by kernel_rfl)) (by decide) (fun K hK => ?_)
      refine goes_ Tryd.func66 (by kernel_rfl) rfl #[.pointer (some ⟨g, 0, none⟩), .int .i64 3] (by rfl) rfl rfl (by (try simp only [List.map_toArray, List.map_cons, List.map_nil]); first | done | rfl | (simp only [List.length_drop, List.length_take]; rfl)) ?_
      with_reducible refine (spec_l1Cur_pick.calls g s0_0 t274 t275 3 t276 t277 t278 w0 _ ?side1 ?side2 A17.out).mono ?_
      (case side1 => repeat (first | (with_reducible first | exact HI0.out | apply IsS80.alloc | apply IsS80.drewN | apply IsS80.drew | apply IsS80.set_1 | apply IsS80.set_2 | refine IsS80.far ?_ NB0_257.out _ | refine IsS80.far ?_ NB0_268.out _ | refine IsS80.far ?_ NB0_272.out _) | exact HI0.out))
      (case side2 => repeat (first | (with_reducible first | exact HB.out | apply below_alloc | apply pw_below_drewN | apply below_drew1 | refine below_set ?_ (IsS80.ge HI0.out) | refine below_set ?_ GE257.out | refine below_set ?_ GE268.out | refine below_set ?_ GE272.out) | exact HB.out))
      rintro e w51 ⟨rfl, hi, hb, hk⟩
      refine ⟨_, rfl, ?_⟩
      have n0_ := Aside0.mk (Kd.R_mono (Kd.R_keep (IsS80.apart (show IsS80 w0 _ g s0_0 t274 t275 from by repeat (first | (with_reducible first | exact HI0.out | apply IsS80.alloc | apply IsS80.drewN | apply IsS80.drew | apply IsS80.set_1 | apply IsS80.set_2 | refine IsS80.far ?_ NB0_257.out _ | refine IsS80.far ?_ NB0_268.out _ | refine IsS80.far ?_ NB0_272.out _) | exact HI0.out)) (rr HO_269000.out) (by decide)) hk (fun _ h => h.2)) (fun _ h => h.1))
      have n1_ := Aside0.mk (KeepBut.blk hk (g' := gb257) (o := .cells #[.slice none 0 0, .int .i64 0, .int .i64 0, .int .i64 0] 36 (0, 0)) (bk BK257) NB257_0.out (by simp))
      have n2_ := Aside0.mk (KeepBut.blk hk (g' := gb268) (o := .cells #[.slice Ao44 x269000_1.length co44, .int .i64 x269001_1, .int .i64 x269002_1, .int .i64 x269003_1] 36 (0, 0)) (bk BK268) NB268_0.out (by simp))
      have n3_ := Aside0.mk (KeepBut.blk hk (g' := gb272) (o := .cells #[.slice Ao44 x269000_1.length co44, .int .i64 x269001_1, .int .i64 x269002_1, .int .i64 x269003_1] 36 (0, 0)) (bk BK272) NB272_0.out (by simp))
      have n4_ := Aside0.mk (KeepBut.trans (by repeat (first | (with_reducible first | exact HK.out | apply KeepBut.set_ | apply keep_drewN | apply keep_drew | apply keep_alloc | refine keep_far ?_ GW257.out _ | refine keep_far ?_ GW268.out _ | refine keep_far ?_ GW272.out _) | exact HK.out)) hk (.inl rfl))
      have n5_ := Aside0.mk (hb)
      have n6_ := Aside0.mk (hi)
      clear HO_269000
      clear BK257
      clear BK268
      clear BK272
      clear HK
      clear HB
      clear HI0
      have HO_269000 := n0_
      have BK257 := n1_
      have BK268 := n2_
      have BK272 := n3_
      have HK := n4_
      have HB := n5_
      have HI0 := n6_
      clear n0_ n1_ n2_ n3_ n4_ n5_ n6_
      (try clear hb)
      (try clear hb2)
      (try clear hk)
      (try clear hi)
      refine hK.out _ _ ⟨(blk_cell BK268.out 0).trans rfl, (blk_cell BK268.out 1).trans rfl, (blk_cell BK268.out 2).trans rfl, (blk_cell BK268.out 3).trans rfl⟩ (fun hHeld => ?_)
      clear hK K
      refine norm_ (a' := ?_) ?_ ?_
      rotate_left
      ·
       show Act.put _ (some 27) _ = _
       simp only [Act.put, List.setIfInBounds_toArray, List.set_cons_zero, List.set_cons_succ, i64_w, i32_w]
       rfl
      refine one_ (i := 3) (N := some 28) #[true, true, true, true, false, false, false, false, false] rfl rfl (one_of HT_.out (by kernel_rfl)) (by decide) (fun K hK => ?_)
      refine goes_ Tryd.func40 (by kernel_rfl) rfl #[.agg #[.slice Ao44 x269000_1.length co44, .int .i64 x269001_1, .int .i64 x269002_1, .int .i64 x269003_1], .int .i64 t276] (by rfl) rfl rfl (by (try simp only [List.map_toArray, List.map_cons, List.map_nil]); first | done | rfl | (simp only [List.length_drop, List.length_take]; rfl)) ?_
      with_reducible refine (spec_PushTail.calls k1 _ _ x269000_1 x269001_1 x269002_1 x269003_1 t276 t279 t282 t283 t284 false _ ?side1 ?side2 A18.out).mono ?_
      (case side1 => exact rc0 HO_269000)
      (case side2 => exact (Kd.R_reads' HO_269000.out).2.1)
      rintro e w52 ⟨v280, rfl, ho0, hb⟩
      refine ⟨_, rfl, ?_⟩
      have n0_ := Aside0.mk (Kd.R_elder' (rr HO_269000.out) (Kd.R_base ho0) hb)
      have n1_ := Aside0.mk (Kd.R_lower (Kd.R_new' ho0 (Kd.R_lt (rr HO_269000.out))) (keep_size (w := w) (g := g) (row := none) (by repeat (first | (with_reducible first | exact HK.out | apply KeepBut.set_ | apply keep_drewN | apply keep_drew | apply keep_alloc | refine keep_far ?_ GW257.out _ | refine keep_far ?_ GW268.out _ | refine keep_far ?_ GW272.out _) | exact HK.out))))
      have n2_ := Aside0.mk (bb BK257 hb)
      have n3_ := Aside0.mk (bb BK268 hb)
      have n4_ := Aside0.mk (IsS80.below (by repeat (first | (with_reducible first | exact HI0.out | apply IsS80.alloc | apply IsS80.drewN | apply IsS80.drew | apply IsS80.set_1 | apply IsS80.set_2 | refine IsS80.far ?_ NB0_257.out _ | refine IsS80.far ?_ NB0_268.out _ | refine IsS80.far ?_ NB0_272.out _) | exact HI0.out)) hb)
      have n5_ := Aside0.mk (bb BK272 hb)
      have n6_ := Aside0.mk (KeepBut.trans (by repeat (first | (with_reducible first | exact HK.out | apply KeepBut.set_ | apply keep_drewN | apply keep_drew | apply keep_alloc | refine keep_far ?_ GW257.out _ | refine keep_far ?_ GW268.out _ | refine keep_far ?_ GW272.out _) | exact HK.out)) (KeepBut.of_below hb g none) (.inl rfl))
      have n7_ := Aside0.mk (below_step (by repeat (first | (with_reducible first | exact HB.out | apply below_alloc | apply pw_below_drewN | apply below_drew1 | refine below_set ?_ (IsS80.ge HI0.out) | refine below_set ?_ GE257.out | refine below_set ?_ GE268.out | refine below_set ?_ GE272.out) | exact HB.out)) hb)
      clear HO_269000
      clear BK257
      clear BK268
      clear HI0
      clear BK272
      clear HK
      clear HB
      have HO_269000 := n0_
      have HO281 := n1_
      have BK257 := n2_
      have BK268 := n3_
      have HI0 := n4_
      have BK272 := n5_
      have HK := n6_
      have HB := n7_
      clear n0_ n1_ n2_ n3_ n4_ n5_ n6_ n7_
      (try clear hb)
      (try clear hb2)
      (try clear hk)
      (try clear hi)
      (try clear ho0)
      obtain ⟨Ao53, co53, eo53⟩ := Kd.R_slice HO281.out
      (first | subst eo53 | (injection eo53 with f1_ f2_ f3_; have f4_ := f1_.symm; have f5_ := f3_.symm; clear f1_ f2_ f3_; subst f4_; subst f5_))
      refine hK.out _ _ ⟨(blk_cell BK268.out 0).trans rfl, (blk_cell BK268.out 1).trans rfl, (blk_cell BK268.out 2).trans rfl, (blk_cell BK268.out 3).trans rfl⟩ (fun hHeld => ?_)
      clear hK K
      refine norm_ (a' := ?_) ?_ ?_
      rotate_left
      ·
       show Act.put _ (some 28) _ = _
       simp only [Act.put, List.setIfInBounds_toArray, List.set_cons_zero, List.set_cons_succ, i64_w, i32_w]
       rfl
      refine pureS 4 24 HT_.out ?_
      refine pureS 5 29 HT_.out ?_
      refine pureS 6 30 HT_.out ?_
      refine one_ (i := 7) (N := none) #[true, true, true, true, true, true, true, true, false] rfl rfl (one_of HT_.out (by kernel_rfl)) (by decide) (fun K hK => ?_)
      have hs54 : w52.cell? ⟨gb272, 0, none⟩ = some (.slice Ao44 x269000_1.length co44) := (blk_cell BK272.out 0).trans rfl
      have hfs54 := blk_frozen BK272.out 0
      have hns54_0 := NB257_272.out
      have hns54_1 := NB268_272.out
      have hms54_0 := NB272_257.out
      have hms54_1 := NB272_268.out
      have hs55 : w52.cell? ⟨gb272, 1, none⟩ = some (.int .i64 x269001_1) := (blk_cell BK272.out 1).trans rfl
      have hfs55 := blk_frozen BK272.out 1
      have hns55_0 := NB257_272.out
      have hns55_1 := NB268_272.out
      have hms55_0 := NB272_257.out
      have hms55_1 := NB272_268.out
      have hs56 : w52.cell? ⟨gb272, 2, none⟩ = some (.int .i64 x269002_1) := (blk_cell BK272.out 2).trans rfl
      have hfs56 := blk_frozen BK272.out 2
      have hns56_0 := NB257_272.out
      have hns56_1 := NB268_272.out
      have hms56_0 := NB272_257.out
      have hms56_1 := NB272_268.out
      have hs57 : w52.cell? ⟨gb272, 3, none⟩ = some (.int .i64 x269003_1) := (blk_cell BK272.out 3).trans rfl
      have hfs57 := blk_frozen BK272.out 3
      have hns57_0 := NB257_272.out
      have hns57_1 := NB268_272.out
      have hms57_0 := NB272_257.out
      have hms57_1 := NB272_268.out
      refine skip_ (w1 := ?_) (by rfl) rfl ?_ ?_
      rotate_left
      ·
       go_simp
       rfl
      refine hK.out _ _ ⟨((cell_far (p := ⟨gb272, _, none⟩) NB268_272.out _).trans (((cell_far (p := ⟨gb272, _, none⟩) NB268_272.out _).trans (((cell_far (p := ⟨gb272, _, none⟩) NB268_272.out _).trans (((cell_far (p := ⟨gb272, _, none⟩) NB268_272.out _).trans (hHeld.1)))))))), ((cell_far (p := ⟨gb272, _, none⟩) NB268_272.out _).trans (((cell_far (p := ⟨gb272, _, none⟩) NB268_272.out _).trans (((cell_far (p := ⟨gb272, _, none⟩) NB268_272.out _).trans (((cell_far (p := ⟨gb272, _, none⟩) NB268_272.out _).trans (hHeld.2.1)))))))), ((cell_far (p := ⟨gb272, _, none⟩) NB268_272.out _).trans (((cell_far (p := ⟨gb272, _, none⟩) NB268_272.out _).trans (((cell_far (p := ⟨gb272, _, none⟩) NB268_272.out _).trans (((cell_far (p := ⟨gb272, _, none⟩) NB268_272.out _).trans (hHeld.2.2.1)))))))), ((cell_far (p := ⟨gb272, _, none⟩) NB268_272.out _).trans (((cell_far (p := ⟨gb272, _, none⟩) NB268_272.out _).trans (((cell_far (p := ⟨gb272, _, none⟩) NB268_272.out _).trans (((cell_far (p := ⟨gb272, _, none⟩) NB268_272.out _).trans (hHeld.2.2.2))))))))⟩ (fun hHeld => ?_)
      clear hK K
      refine pureS 8 7 HT_.out ?_
      refine done_ (done_of HT_.out (by kernel_rfl)) ?_
      try go_wp2
      go_roundg k1
      case measure => have := HK1.out; omega
      case rel => exact ⟨(wrap64 (x5_1 - 1)), (t277), (t278), (x269000_1), (x269001_1), (x269002_1), (x269003_1), (.slice Ao44 x269000_1.length co44), (by first | rfl | (simp; done) | (simp [*]; done)), H', ⟨by have := HK1.out; omega⟩, ⟨by (with_reducible repeat (first | apply Kd.R_alloc | apply Kd.R_drewN | apply Kd.R_drew)); exact Kd.R_mono (Kd.R_far (p := ⟨gb272, 3, none⟩) (Kd.R_far (p := ⟨gb272, 2, none⟩) (Kd.R_far (p := ⟨gb272, 1, none⟩) (Kd.R_far (p := ⟨gb272, 0, none⟩) (Kd.R_types HO_269000.out BK272.out (by decide)) (fun _ hk => hk.2) (.slice Ao53 t279.length co53)) (fun _ hk => hk.2) (.int .i64 t282)) (fun _ hk => hk.2) (.int .i64 t283)) (fun _ hk => hk.2) (.int .i64 t284)) (fun _ hk => trivial)⟩, ⟨bf BK257 NB257_272⟩, ⟨bf BK268 NB268_272⟩, ⟨by repeat (first | (with_reducible first | exact HI0.out | apply IsS80.alloc | apply IsS80.drewN | apply IsS80.drew | apply IsS80.set_1 | apply IsS80.set_2 | refine IsS80.far ?_ NB0_257.out _ | refine IsS80.far ?_ NB0_268.out _ | refine IsS80.far ?_ NB0_272.out _) | exact HI0.out)⟩, ⟨by repeat (first | (with_reducible first | exact HK.out | apply KeepBut.set_ | apply keep_drewN | apply keep_drew | apply keep_alloc | refine keep_far ?_ GW257.out _ | refine keep_far ?_ GW268.out _ | refine keep_far ?_ GW272.out _) | exact HK.out)⟩, ⟨by repeat (first | (with_reducible first | exact HB.out | apply below_alloc | apply pw_below_drewN | apply below_drew1 | refine below_set ?_ (IsS80.ge HI0.out) | refine below_set ?_ GE257.out | refine below_set ?_ GE268.out | refine below_set ?_ GE272.out) | exact HB.out)⟩⟩
    ·
     replace c16 := Bool.eq_false_iff.mpr c16
     subst c16
     rw [if_neg (show ¬ (false = true) by decide)] at H
     replace H := Option.bind_eq_some_iff.mp H
     obtain ⟨⟨t286, t287, t288⟩, A580, H⟩ := H
     replace H : ((spec_l1Cur_text.f k1 s0_0 t287 t288 t286).bind fun bt289 => ((spec_PutRecord.f k1 x269000_1 x269001_1 x269002_1 x269003_1 bt289.1).bind fun bt292 => (if bt292.2.2.2.2 = true then (spec_l1Cur_ring.l0 k1 (wrap64 (x5_1 - 1)) s0_0 bt289.2.1 bt289.2.2 bt292.1 bt292.2.1 bt292.2.2.1 bt292.2.2.2.1) else (spec_l1Cur_ring.l0 k1 (wrap64 (x5_1 - 1)) s0_0 bt289.2.1 bt289.2.2 x269000_1 x269001_1 x269002_1 x269003_1)))) = some (r1, r2, r3, r4, r5, r6) := H
     have A58 := Aside0.mk A580
     clear A580
     replace H := Option.bind_eq_some_iff.mp H
     obtain ⟨⟨t289, t290, t291⟩, A590, H⟩ := H
     replace H : ((spec_PutRecord.f k1 x269000_1 x269001_1 x269002_1 x269003_1 t289).bind fun bt292 => (if bt292.2.2.2.2 = true then (spec_l1Cur_ring.l0 k1 (wrap64 (x5_1 - 1)) s0_0 t290 t291 bt292.1 bt292.2.1 bt292.2.2.1 bt292.2.2.2.1) else (spec_l1Cur_ring.l0 k1 (wrap64 (x5_1 - 1)) s0_0 t290 t291 x269000_1 x269001_1 x269002_1 x269003_1))) = some (r1, r2, r3, r4, r5, r6) := H
     have A59 := Aside0.mk A590
     clear A590
     replace H := Option.bind_eq_some_iff.mp H
     obtain ⟨⟨t292, t295, t296, t297, t298⟩, A600, H⟩ := H
     replace H : (if t298 = true then (spec_l1Cur_ring.l0 k1 (wrap64 (x5_1 - 1)) s0_0 t290 t291 t292 t295 t296 t297) else (spec_l1Cur_ring.l0 k1 (wrap64 (x5_1 - 1)) s0_0 t290 t291 x269000_1 x269001_1 x269002_1 x269003_1)) = some (r1, r2, r3, r4, r5, r6) := H
     have A60 := Aside0.mk A600
     clear A600
     by_cases c61 : t298 = true
     ·
      subst c61
      rw [if_pos rfl] at H
      have H' := Aside0.mk H
      clear H
      have hnb62 := NB268_257.out
      have hnc62 := NB257_268.out
      have hnb63 := NB268_0.out
      have hnc63 := NB0_268.out
      obtain ⟨hcz64_0, hcz64_1, hcz64_2, hcz64_3⟩ := cz4 BK268
      obtain ⟨hfz64_0, hfz64_1, hfz64_2, hfz64_3⟩ := fz4 BK268
      try go_wp2_with (first | ((with_reducible refine gate_dst (N := 6) rfl ?_); refine box_event ?hg (N := 6) ?hd (cs := #[.slice none 0 0, .int .i64 0, .int .i64 0, .int .i64 0]) (t := 36) ?hr ?_; (case hd => rfl); (case hg => rfl); (case hr => first | (go_simp; done) | (go_simp; rfl)); intro gb272 hg w65 hbox hb; replace HO_269000 := nr HO_269000 hb; replace HB := Aside0.mk (below_step (by repeat (first | (with_reducible first | exact HB.out | apply below_alloc | apply pw_below_drewN | apply below_drew1 | refine below_set ?_ (IsS80.ge HI0.out) | refine below_set ?_ GE257.out | refine below_set ?_ GE268.out) | exact HB.out)) hb); have BK272 := Aside0.mk (hbox); have GW272 := Aside0.mk ((by rw [hg]; exact (keep_size (w := w) (g := g) (row := none) (by repeat (first | (with_reducible first | exact HK.out | apply KeepBut.set_ | apply keep_drewN | apply keep_drew | apply keep_alloc | refine keep_far ?_ GW257.out _ | refine keep_far ?_ GW268.out _) | exact HK.out))) : w.heap.size ≤ gb272)); have GE272 := Aside0.mk ((Nat.le_trans HW0.out (by rw [hg]; exact (keep_size (w := w) (g := g) (row := none) (by repeat (first | (with_reducible first | exact HK.out | apply KeepBut.set_ | apply keep_drewN | apply keep_drew | apply keep_alloc | refine keep_far ?_ GW257.out _ | refine keep_far ?_ GW268.out _) | exact HK.out))) : w.heap.size ≤ gb272) : w0.heap.size ≤ gb272)); replace HK := Aside0.mk (KeepBut.trans (by repeat (first | (with_reducible first | exact HK.out | apply KeepBut.set_ | apply keep_drewN | apply keep_drew | apply keep_alloc | refine keep_far ?_ GW257.out _ | refine keep_far ?_ GW268.out _) | exact HK.out)) (KeepBut.of_below hb g none) (.inl rfl)); have NB257_272 := Aside0.mk ((bn BK257 hg : gb257 ≠ gb272)); have NB272_257 := Aside0.mk ((bm BK257 hg : gb272 ≠ gb257)); replace BK257 := nb BK257 hb; have NB268_272 := Aside0.mk ((bn BK268 hg : gb268 ≠ gb272)); have NB272_268 := Aside0.mk ((bm BK268 hg : gb272 ≠ gb268)); replace BK268 := nb BK268 hb; have NB0_272 := Aside0.mk ((by rw [hg]; exact Nat.ne_of_lt (IsS80.lt (show IsS80 w0 _ g s0_0 x1001_1 x1002_1 from by repeat (first | (with_reducible first | exact HI0.out | apply IsS80.alloc | apply IsS80.drewN | apply IsS80.drew | apply IsS80.set_1 | apply IsS80.set_2 | refine IsS80.far ?_ NB0_257.out _ | refine IsS80.far ?_ NB0_268.out _) | exact HI0.out))) : g ≠ gb272)); have NB272_0 := Aside0.mk ((by rw [hg]; exact Nat.ne_of_gt (IsS80.lt (show IsS80 w0 _ g s0_0 x1001_1 x1002_1 from by repeat (first | (with_reducible first | exact HI0.out | apply IsS80.alloc | apply IsS80.drewN | apply IsS80.drew | apply IsS80.set_1 | apply IsS80.set_2 | refine IsS80.far ?_ NB0_257.out _ | refine IsS80.far ?_ NB0_268.out _) | exact HI0.out))) : gb272 ≠ g)); replace HI0 := Aside0.mk (IsS80.below (by repeat (first | (with_reducible first | exact HI0.out | apply IsS80.alloc | apply IsS80.drewN | apply IsS80.drew | apply IsS80.set_1 | apply IsS80.set_2 | refine IsS80.far ?_ NB0_257.out _ | refine IsS80.far ?_ NB0_268.out _) | exact HI0.out)) hb); clear hb hbox hg; obtain ⟨Ao66, co66, eo66⟩ := Kd.R_slice HO_269000.out; subst eo66; have hnb67 := NB272_257.out; have hnc67 := NB257_272.out; have hnb68 := NB272_268.out; have hnc68 := NB268_272.out; have hnb69 := NB272_0.out; have hnc69 := NB0_272.out; obtain ⟨hcz70_0, hcz70_1, hcz70_2, hcz70_3⟩ := cz4 BK272; obtain ⟨hfz70_0, hfz70_1, hfz70_2, hfz70_3⟩ := fz4 BK272) | ((with_reducible refine gate_callee (f := 70) rfl ?_); refine gL (some 23) rfl rfl Tryd.func70 (by kernel_rfl) rfl #[.pointer (some ⟨g, 0, none⟩), .int .i64 3] rfl ?_; (with_reducible refine (spec_l1Cur_one.calls g s0_0 x1001_1 x1002_1 3 false t274 t275 w0 _ ?side1 ?side2 A15.out).mono ?_); (case side1 => repeat (first | (with_reducible first | exact HI0.out | apply IsS80.alloc | apply IsS80.drewN | apply IsS80.drew | apply IsS80.set_1 | apply IsS80.set_2 | refine IsS80.far ?_ NB0_257.out _ | refine IsS80.far ?_ NB0_268.out _ | refine IsS80.far ?_ NB0_272.out _) | exact HI0.out)); (case side2 => repeat (first | (with_reducible first | exact HB.out | apply below_alloc | apply pw_below_drewN | apply below_drew1 | refine below_set ?_ (IsS80.ge HI0.out) | refine below_set ?_ GE257.out | refine below_set ?_ GE268.out | refine below_set ?_ GE272.out) | exact HB.out)); rintro e w71 ⟨rfl, hi, hb, hk⟩; refine ⟨_, rfl, ?_⟩; replace HO_269000 := Aside0.mk (Kd.R_mono (Kd.R_keep (IsS80.apart (show IsS80 w0 _ g s0_0 x1001_1 x1002_1 from by repeat (first | (with_reducible first | exact HI0.out | apply IsS80.alloc | apply IsS80.drewN | apply IsS80.drew | apply IsS80.set_1 | apply IsS80.set_2 | refine IsS80.far ?_ NB0_257.out _ | refine IsS80.far ?_ NB0_268.out _ | refine IsS80.far ?_ NB0_272.out _) | exact HI0.out)) (rf HO_269000 BK272) (by decide)) hk (fun _ h => h.2)) (fun _ h => h.1)); replace BK257 := Aside0.mk (KeepBut.blk hk (g' := gb257) (o := .cells #[.slice none 0 0, .int .i64 0, .int .i64 0, .int .i64 0] 36 (0, 0)) (bf BK257 NB257_272) NB257_0.out (by simp)); replace BK268 := Aside0.mk (KeepBut.blk hk (g' := gb268) (o := .cells #[.slice Ao66 x269000_1.length co66, .int .i64 x269001_1, .int .i64 x269002_1, .int .i64 x269003_1] 36 (0, 0)) (bf BK268 NB268_272) NB268_0.out (by simp)); replace BK272 := Aside0.mk (KeepBut.blk hk (g' := gb272) (o := .cells #[.slice Ao66 x269000_1.length co66, .int .i64 x269001_1, .int .i64 x269002_1, .int .i64 x269003_1] 36 (0, 0)) (by (with_reducible repeat (first | refine blk_drewN ?_ _ | refine blk_drew ?_ | refine blk_alloc ?_ _)); refine blk_put (cs := #[.slice Ao66 x269000_1.length co66, .int .i64 x269001_1, .int .i64 x269002_1, .int .i64 0]) ?_ 3 _ rfl; (with_reducible repeat (first | refine blk_drewN ?_ _ | refine blk_drew ?_ | refine blk_alloc ?_ _)); refine blk_put (cs := #[.slice Ao66 x269000_1.length co66, .int .i64 x269001_1, .int .i64 0, .int .i64 0]) ?_ 2 _ rfl; (with_reducible repeat (first | refine blk_drewN ?_ _ | refine blk_drew ?_ | refine blk_alloc ?_ _)); refine blk_put (cs := #[.slice Ao66 x269000_1.length co66, .int .i64 0, .int .i64 0, .int .i64 0]) ?_ 1 _ rfl; (with_reducible repeat (first | refine blk_drewN ?_ _ | refine blk_drew ?_ | refine blk_alloc ?_ _)); refine blk_put (cs := #[.slice none 0 0, .int .i64 0, .int .i64 0, .int .i64 0]) ?_ 0 _ rfl; (with_reducible repeat (first | refine blk_drewN ?_ _ | refine blk_drew ?_ | refine blk_alloc ?_ _)); exact BK272.out) NB272_0.out (by simp)); replace HK := Aside0.mk (KeepBut.trans (by repeat (first | (with_reducible first | exact HK.out | apply KeepBut.set_ | apply keep_drewN | apply keep_drew | apply keep_alloc | refine keep_far ?_ GW257.out _ | refine keep_far ?_ GW268.out _ | refine keep_far ?_ GW272.out _) | exact HK.out)) hk (.inl rfl)); replace HB := Aside0.mk (hb); replace HI0 := Aside0.mk (hi); (try clear hb); (try clear hb2); (try clear hk); (try clear hi)))
      have n0_ := Aside0.mk (Kd.R_drew HO_269000.out)
      have n1_ := Aside0.mk (blk_drew BK257.out)
      have n2_ := Aside0.mk (blk_drew BK268.out)
      have n3_ := Aside0.mk (blk_drew BK272.out)
      have n4_ := Aside0.mk (IsS80.drew HI0.out)
      have n5_ := Aside0.mk (keep_drew HK.out)
      have n6_ := Aside0.mk (below_drew1 HB.out)
      clear HO_269000
      clear BK257
      clear BK268
      clear BK272
      clear HI0
      clear HK
      clear HB
      have HO_269000 := n0_
      have BK257 := n1_
      have BK268 := n2_
      have BK272 := n3_
      have HI0 := n4_
      have HK := n5_
      have HB := n6_
      clear n0_ n1_ n2_ n3_ n4_ n5_ n6_
      refine start_ (n := 11) (S := fun w' => w'.cell? ⟨gb268, 0, none⟩ = some (.slice Ao66 x269000_1.length co66) ∧ w'.cell? ⟨gb268, 1, none⟩ = some (.int .i64 x269001_1) ∧ w'.cell? ⟨gb268, 2, none⟩ = some (.int .i64 x269002_1) ∧ w'.cell? ⟨gb268, 3, none⟩ = some (.int .i64 x269003_1)) (ds := []) #[false, false, false, false, false, false, false, false, false, false, false] (by kernel_rfl) rfl rfl ⟨(blk_cell BK268.out 0).trans rfl, (blk_cell BK268.out 1).trans rfl, (blk_cell BK268.out 2).trans rfl, (blk_cell BK268.out 3).trans rfl⟩ (fun hHeld => ?_); refine with_tabW spec_l1Cur_ring.tab8 spec_l1Cur_ring.bits8 (fun HT_ HW_ => ?_)
      generalize w71.drew = w72 at HO_269000 BK257 BK268 BK272 HI0 HK HB hHeld ⊢
      refine pureS 1 33 HT_.out ?_
      refine pureS 2 34 HT_.out ?_
      refine takeS 0 32 HT_.out HW_.out hHeld (hr := by rintro w' ⟨s0, s1, s2, s3⟩; go_simp; with_reducible rfl) (h := ?_)
      refine one_ (i := 3) (N := some 35) #[true, true, true, true, false, false, false, false, false, false, false] rfl rfl (one_of HT_.out (by kernel_rfl)) (by decide) (fun K hK => ?_)
      refine goes_ Tryd.func66 (by kernel_rfl) rfl #[.pointer (some ⟨g, 0, none⟩), .int .i64 5] (by rfl) rfl rfl (by (try simp only [List.map_toArray, List.map_cons, List.map_nil]); first | done | rfl | (simp only [List.length_drop, List.length_take]; rfl)) ?_
      with_reducible refine (spec_l1Cur_pick.calls g s0_0 t274 t275 5 t286 t287 t288 w0 _ ?side1 ?side2 A58.out).mono ?_
      (case side1 => repeat (first | (with_reducible first | exact HI0.out | apply IsS80.alloc | apply IsS80.drewN | apply IsS80.drew | apply IsS80.set_1 | apply IsS80.set_2 | refine IsS80.far ?_ NB0_257.out _ | refine IsS80.far ?_ NB0_268.out _ | refine IsS80.far ?_ NB0_272.out _) | exact HI0.out))
      (case side2 => repeat (first | (with_reducible first | exact HB.out | apply below_alloc | apply pw_below_drewN | apply below_drew1 | refine below_set ?_ (IsS80.ge HI0.out) | refine below_set ?_ GE257.out | refine below_set ?_ GE268.out | refine below_set ?_ GE272.out) | exact HB.out))
      rintro e w73 ⟨rfl, hi, hb, hk⟩
      refine ⟨_, rfl, ?_⟩
      have n0_ := Aside0.mk (Kd.R_mono (Kd.R_keep (IsS80.apart (show IsS80 w0 _ g s0_0 t274 t275 from by repeat (first | (with_reducible first | exact HI0.out | apply IsS80.alloc | apply IsS80.drewN | apply IsS80.drew | apply IsS80.set_1 | apply IsS80.set_2 | refine IsS80.far ?_ NB0_257.out _ | refine IsS80.far ?_ NB0_268.out _ | refine IsS80.far ?_ NB0_272.out _) | exact HI0.out)) (rr HO_269000.out) (by decide)) hk (fun _ h => h.2)) (fun _ h => h.1))
      have n1_ := Aside0.mk (KeepBut.blk hk (g' := gb257) (o := .cells #[.slice none 0 0, .int .i64 0, .int .i64 0, .int .i64 0] 36 (0, 0)) (bk BK257) NB257_0.out (by simp))
      have n2_ := Aside0.mk (KeepBut.blk hk (g' := gb268) (o := .cells #[.slice Ao66 x269000_1.length co66, .int .i64 x269001_1, .int .i64 x269002_1, .int .i64 x269003_1] 36 (0, 0)) (bk BK268) NB268_0.out (by simp))
      have n3_ := Aside0.mk (KeepBut.blk hk (g' := gb272) (o := .cells #[.slice Ao66 x269000_1.length co66, .int .i64 x269001_1, .int .i64 x269002_1, .int .i64 x269003_1] 36 (0, 0)) (bk BK272) NB272_0.out (by simp))
      have n4_ := Aside0.mk (KeepBut.trans (by repeat (first | (with_reducible first | exact HK.out | apply KeepBut.set_ | apply keep_drewN | apply keep_drew | apply keep_alloc | refine keep_far ?_ GW257.out _ | refine keep_far ?_ GW268.out _ | refine keep_far ?_ GW272.out _) | exact HK.out)) hk (.inl rfl))
      have n5_ := Aside0.mk (hb)
      have n6_ := Aside0.mk (hi)
      clear HO_269000
      clear BK257
      clear BK268
      clear BK272
      clear HK
      clear HB
      clear HI0
      have HO_269000 := n0_
      have BK257 := n1_
      have BK268 := n2_
      have BK272 := n3_
      have HK := n4_
      have HB := n5_
      have HI0 := n6_
      clear n0_ n1_ n2_ n3_ n4_ n5_ n6_
      (try clear hb)
      (try clear hb2)
      (try clear hk)
      (try clear hi)
      refine hK.out _ _ ⟨(blk_cell BK268.out 0).trans rfl, (blk_cell BK268.out 1).trans rfl, (blk_cell BK268.out 2).trans rfl, (blk_cell BK268.out 3).trans rfl⟩ (fun hHeld => ?_)
      clear hK K
      refine norm_ (a' := ?_) ?_ ?_
      rotate_left
      ·
       show Act.put _ (some 35) _ = _
       simp only [Act.put, List.setIfInBounds_toArray, List.set_cons_zero, List.set_cons_succ, i64_w, i32_w]
       rfl
      refine one_ (i := 4) (N := some 36) #[true, true, true, true, true, false, false, false, false, false, false] rfl rfl (one_of HT_.out (by kernel_rfl)) (by decide) (fun K hK => ?_)
      refine goes_ Tryd.func65 (by kernel_rfl) rfl #[.pointer (some ⟨g, 0, none⟩), .int .i64 t286] (by rfl) rfl rfl (by (try simp only [List.map_toArray, List.map_cons, List.map_nil]); first | done | rfl | (simp only [List.length_drop, List.length_take]; rfl)) ?_
      with_reducible refine (spec_l1Cur_text.calls k1 g s0_0 t287 t288 t286 t289 t290 t291 w0 _ ?side1 ?side2 A59.out).mono ?_
      (case side1 => repeat (first | (with_reducible first | exact HI0.out | apply IsS80.alloc | apply IsS80.drewN | apply IsS80.drew | apply IsS80.set_1 | apply IsS80.set_2 | refine IsS80.far ?_ NB0_257.out _ | refine IsS80.far ?_ NB0_268.out _ | refine IsS80.far ?_ NB0_272.out _) | exact HI0.out))
      (case side2 => repeat (first | (with_reducible first | exact HB.out | apply below_alloc | apply pw_below_drewN | apply below_drew1 | refine below_set ?_ (IsS80.ge HI0.out) | refine below_set ?_ GE257.out | refine below_set ?_ GE268.out | refine below_set ?_ GE272.out) | exact HB.out))
      rintro e w74 ⟨rfl, hi, hb, hk⟩
      refine ⟨_, rfl, ?_⟩
      have n0_ := Aside0.mk (Kd.R_mono (Kd.R_keep (IsS80.apart (show IsS80 w0 _ g s0_0 t287 t288 from by repeat (first | (with_reducible first | exact HI0.out | apply IsS80.alloc | apply IsS80.drewN | apply IsS80.drew | apply IsS80.set_1 | apply IsS80.set_2 | refine IsS80.far ?_ NB0_257.out _ | refine IsS80.far ?_ NB0_268.out _ | refine IsS80.far ?_ NB0_272.out _) | exact HI0.out)) (rr HO_269000.out) (by decide)) hk (fun _ h => h.2)) (fun _ h => h.1))
      have n1_ := Aside0.mk (KeepBut.blk hk (g' := gb257) (o := .cells #[.slice none 0 0, .int .i64 0, .int .i64 0, .int .i64 0] 36 (0, 0)) (bk BK257) NB257_0.out (by simp))
      have n2_ := Aside0.mk (KeepBut.blk hk (g' := gb268) (o := .cells #[.slice Ao66 x269000_1.length co66, .int .i64 x269001_1, .int .i64 x269002_1, .int .i64 x269003_1] 36 (0, 0)) (bk BK268) NB268_0.out (by simp))
      have n3_ := Aside0.mk (KeepBut.blk hk (g' := gb272) (o := .cells #[.slice Ao66 x269000_1.length co66, .int .i64 x269001_1, .int .i64 x269002_1, .int .i64 x269003_1] 36 (0, 0)) (bk BK272) NB272_0.out (by simp))
      have n4_ := Aside0.mk (KeepBut.trans (by repeat (first | (with_reducible first | exact HK.out | apply KeepBut.set_ | apply keep_drewN | apply keep_drew | apply keep_alloc | refine keep_far ?_ GW257.out _ | refine keep_far ?_ GW268.out _ | refine keep_far ?_ GW272.out _) | exact HK.out)) hk (.inl rfl))
      have n5_ := Aside0.mk (hb)
      have n6_ := Aside0.mk (hi)
      clear HO_269000
      clear BK257
      clear BK268
      clear BK272
      clear HK
      clear HB
      clear HI0
      have HO_269000 := n0_
      have BK257 := n1_
      have BK268 := n2_
      have BK272 := n3_
      have HK := n4_
      have HB := n5_
      have HI0 := n6_
      clear n0_ n1_ n2_ n3_ n4_ n5_ n6_
      (try clear hb)
      (try clear hb2)
      (try clear hk)
      (try clear hi)
      refine hK.out _ _ ⟨(blk_cell BK268.out 0).trans rfl, (blk_cell BK268.out 1).trans rfl, (blk_cell BK268.out 2).trans rfl, (blk_cell BK268.out 3).trans rfl⟩ (fun hHeld => ?_)
      clear hK K
      refine norm_ (a' := ?_) ?_ ?_
      rotate_left
      ·
       show Act.put _ (some 36) _ = _
       simp only [Act.put, List.setIfInBounds_toArray, List.set_cons_zero, List.set_cons_succ, i64_w, i32_w]
       rfl
      refine one_ (i := 5) (N := some 37) #[true, true, true, true, true, true, false, false, false, false, false] rfl rfl (one_of HT_.out (by kernel_rfl)) (by decide) (fun K hK => ?_)
      refine goes_ Tryd.func35 (by kernel_rfl) rfl #[.agg #[.slice Ao66 x269000_1.length co66, .int .i64 x269001_1, .int .i64 x269002_1, .int .i64 x269003_1], .string t289] (by rfl) rfl rfl (by (try simp only [List.map_toArray, List.map_cons, List.map_nil]); first | done | rfl | (simp only [List.length_drop, List.length_take]; rfl)) ?_
      with_reducible refine (spec_PutRecord.calls k1 _ _ x269000_1 x269001_1 x269002_1 x269003_1 t289 t292 t295 t296 t297 true _ ?side1 ?side2 A60.out).mono ?_
      (case side1 => exact rc0 HO_269000)
      (case side2 => exact (Kd.R_reads' HO_269000.out).2.1)
      rintro e w75 ⟨v293, rfl, ho0, hb⟩
      refine ⟨_, rfl, ?_⟩
      have n0_ := Aside0.mk (Kd.R_elder' (rr HO_269000.out) (Kd.R_base ho0) hb)
      have n1_ := Aside0.mk (Kd.R_lower (Kd.R_new' ho0 (Kd.R_lt (rr HO_269000.out))) (keep_size (w := w) (g := g) (row := none) (by repeat (first | (with_reducible first | exact HK.out | apply KeepBut.set_ | apply keep_drewN | apply keep_drew | apply keep_alloc | refine keep_far ?_ GW257.out _ | refine keep_far ?_ GW268.out _ | refine keep_far ?_ GW272.out _) | exact HK.out))))
      have n2_ := Aside0.mk (bb BK257 hb)
      have n3_ := Aside0.mk (bb BK268 hb)
      have n4_ := Aside0.mk (IsS80.below (by repeat (first | (with_reducible first | exact HI0.out | apply IsS80.alloc | apply IsS80.drewN | apply IsS80.drew | apply IsS80.set_1 | apply IsS80.set_2 | refine IsS80.far ?_ NB0_257.out _ | refine IsS80.far ?_ NB0_268.out _ | refine IsS80.far ?_ NB0_272.out _) | exact HI0.out)) hb)
      have n5_ := Aside0.mk (bb BK272 hb)
      have n6_ := Aside0.mk (KeepBut.trans (by repeat (first | (with_reducible first | exact HK.out | apply KeepBut.set_ | apply keep_drewN | apply keep_drew | apply keep_alloc | refine keep_far ?_ GW257.out _ | refine keep_far ?_ GW268.out _ | refine keep_far ?_ GW272.out _) | exact HK.out)) (KeepBut.of_below hb g none) (.inl rfl))
      have n7_ := Aside0.mk (below_step (by repeat (first | (with_reducible first | exact HB.out | apply below_alloc | apply pw_below_drewN | apply below_drew1 | refine below_set ?_ (IsS80.ge HI0.out) | refine below_set ?_ GE257.out | refine below_set ?_ GE268.out | refine below_set ?_ GE272.out) | exact HB.out)) hb)
      clear HO_269000
      clear BK257
      clear BK268
      clear HI0
      clear BK272
      clear HK
      clear HB
      have HO_269000 := n0_
      have HO294 := n1_
      have BK257 := n2_
      have BK268 := n3_
      have HI0 := n4_
      have BK272 := n5_
      have HK := n6_
      have HB := n7_
      clear n0_ n1_ n2_ n3_ n4_ n5_ n6_ n7_
      (try clear hb)
      (try clear hb2)
      (try clear hk)
      (try clear hi)
      (try clear ho0)
      obtain ⟨Ao76, co76, eo76⟩ := Kd.R_slice HO294.out
      (first | subst eo76 | (injection eo76 with f1_ f2_ f3_; have f4_ := f1_.symm; have f5_ := f3_.symm; clear f1_ f2_ f3_; subst f4_; subst f5_))
      refine hK.out _ _ ⟨(blk_cell BK268.out 0).trans rfl, (blk_cell BK268.out 1).trans rfl, (blk_cell BK268.out 2).trans rfl, (blk_cell BK268.out 3).trans rfl⟩ (fun hHeld => ?_)
      clear hK K
      refine norm_ (a' := ?_) ?_ ?_
      rotate_left
      ·
       show Act.put _ (some 37) _ = _
       simp only [Act.put, List.setIfInBounds_toArray, List.set_cons_zero, List.set_cons_succ, i64_w, i32_w]
       rfl
      refine pureS 6 31 HT_.out ?_
      refine pureS 7 38 HT_.out ?_
      refine pureS 8 39 HT_.out ?_
      refine one_ (i := 9) (N := none) #[true, true, true, true, true, true, true, true, true, true, false] rfl rfl (one_of HT_.out (by kernel_rfl)) (by decide) (fun K hK => ?_)
      have hs77 : w75.cell? ⟨gb272, 0, none⟩ = some (.slice Ao66 x269000_1.length co66) := (blk_cell BK272.out 0).trans rfl
      have hfs77 := blk_frozen BK272.out 0
      have hns77_0 := NB257_272.out
      have hns77_1 := NB268_272.out
      have hms77_0 := NB272_257.out
      have hms77_1 := NB272_268.out
      have hs78 : w75.cell? ⟨gb272, 1, none⟩ = some (.int .i64 x269001_1) := (blk_cell BK272.out 1).trans rfl
      have hfs78 := blk_frozen BK272.out 1
      have hns78_0 := NB257_272.out
      have hns78_1 := NB268_272.out
      have hms78_0 := NB272_257.out
      have hms78_1 := NB272_268.out
      have hs79 : w75.cell? ⟨gb272, 2, none⟩ = some (.int .i64 x269002_1) := (blk_cell BK272.out 2).trans rfl
      have hfs79 := blk_frozen BK272.out 2
      have hns79_0 := NB257_272.out
      have hns79_1 := NB268_272.out
      have hms79_0 := NB272_257.out
      have hms79_1 := NB272_268.out
      have hs80 : w75.cell? ⟨gb272, 3, none⟩ = some (.int .i64 x269003_1) := (blk_cell BK272.out 3).trans rfl
      have hfs80 := blk_frozen BK272.out 3
      have hns80_0 := NB257_272.out
      have hns80_1 := NB268_272.out
      have hms80_0 := NB272_257.out
      have hms80_1 := NB272_268.out
      refine skip_ (w1 := ?_) (by rfl) rfl ?_ ?_
      rotate_left
      ·
       go_simp
       rfl
      refine hK.out _ _ ⟨((cell_far (p := ⟨gb272, _, none⟩) NB268_272.out _).trans (((cell_far (p := ⟨gb272, _, none⟩) NB268_272.out _).trans (((cell_far (p := ⟨gb272, _, none⟩) NB268_272.out _).trans (((cell_far (p := ⟨gb272, _, none⟩) NB268_272.out _).trans (hHeld.1)))))))), ((cell_far (p := ⟨gb272, _, none⟩) NB268_272.out _).trans (((cell_far (p := ⟨gb272, _, none⟩) NB268_272.out _).trans (((cell_far (p := ⟨gb272, _, none⟩) NB268_272.out _).trans (((cell_far (p := ⟨gb272, _, none⟩) NB268_272.out _).trans (hHeld.2.1)))))))), ((cell_far (p := ⟨gb272, _, none⟩) NB268_272.out _).trans (((cell_far (p := ⟨gb272, _, none⟩) NB268_272.out _).trans (((cell_far (p := ⟨gb272, _, none⟩) NB268_272.out _).trans (((cell_far (p := ⟨gb272, _, none⟩) NB268_272.out _).trans (hHeld.2.2.1)))))))), ((cell_far (p := ⟨gb272, _, none⟩) NB268_272.out _).trans (((cell_far (p := ⟨gb272, _, none⟩) NB268_272.out _).trans (((cell_far (p := ⟨gb272, _, none⟩) NB268_272.out _).trans (((cell_far (p := ⟨gb272, _, none⟩) NB268_272.out _).trans (hHeld.2.2.2))))))))⟩ (fun hHeld => ?_)
      clear hK K
      refine pureS 10 7 HT_.out ?_
      refine done_ (done_of HT_.out (by kernel_rfl)) ?_
      obtain ⟨hcz81_0, hcz81_1, hcz81_2, hcz81_3⟩ := cz4 BK272
      obtain ⟨hfz81_0, hfz81_1, hfz81_2, hfz81_3⟩ := fz4 BK272
      obtain ⟨hcz82_0, hcz82_1, hcz82_2, hcz82_3⟩ := cz4 BK268
      obtain ⟨hfz82_0, hfz82_1, hfz82_2, hfz82_3⟩ := fz4 BK268
      try go_wp2
      go_roundg k1
      case measure => have := HK1.out; omega
      case rel => exact ⟨(wrap64 (x5_1 - 1)), (t290), (t291), (t292), (t295), (t296), (t297), (.slice Ao76 t292.length co76), (by first | rfl | (simp; done) | (simp [*]; done)), H', ⟨by have := HK1.out; omega⟩, ⟨by (with_reducible repeat (first | apply Kd.R_alloc | apply Kd.R_drewN | apply Kd.R_drew)); exact Kd.R_mono (Kd.R_far (p := ⟨gb268, 3, none⟩) (Kd.R_far (p := ⟨gb268, 2, none⟩) (Kd.R_far (p := ⟨gb268, 1, none⟩) (Kd.R_far (p := ⟨gb268, 0, none⟩) (Kd.R_far (p := ⟨gb272, 3, none⟩) (Kd.R_far (p := ⟨gb272, 2, none⟩) (Kd.R_far (p := ⟨gb272, 1, none⟩) (Kd.R_far (p := ⟨gb272, 0, none⟩) (Kd.R_types (Kd.R_types HO294.out BK272.out (by decide)) BK268.out (by decide)) (fun _ hk => hk.1.2) (.slice Ao76 t292.length co76)) (fun _ hk => hk.1.2) (.int .i64 t295)) (fun _ hk => hk.1.2) (.int .i64 t296)) (fun _ hk => hk.1.2) (.int .i64 t297)) (fun _ hk => hk.2) (.slice Ao76 t292.length co76)) (fun _ hk => hk.2) (.int .i64 t295)) (fun _ hk => hk.2) (.int .i64 t296)) (fun _ hk => hk.2) (.int .i64 t297)) (fun _ hk => trivial)⟩, ⟨by (with_reducible repeat (first | refine blk_drewN ?_ _ | refine blk_drew ?_ | refine blk_alloc ?_ _)); refine blk_far ?_ NB257_268.out _; (with_reducible repeat (first | refine blk_drewN ?_ _ | refine blk_drew ?_ | refine blk_alloc ?_ _)); refine blk_far ?_ NB257_268.out _; (with_reducible repeat (first | refine blk_drewN ?_ _ | refine blk_drew ?_ | refine blk_alloc ?_ _)); refine blk_far ?_ NB257_268.out _; (with_reducible repeat (first | refine blk_drewN ?_ _ | refine blk_drew ?_ | refine blk_alloc ?_ _)); refine blk_far ?_ NB257_268.out _; (with_reducible repeat (first | refine blk_drewN ?_ _ | refine blk_drew ?_ | refine blk_alloc ?_ _)); refine blk_far ?_ NB257_272.out _; (with_reducible repeat (first | refine blk_drewN ?_ _ | refine blk_drew ?_ | refine blk_alloc ?_ _)); refine blk_far ?_ NB257_272.out _; (with_reducible repeat (first | refine blk_drewN ?_ _ | refine blk_drew ?_ | refine blk_alloc ?_ _)); refine blk_far ?_ NB257_272.out _; (with_reducible repeat (first | refine blk_drewN ?_ _ | refine blk_drew ?_ | refine blk_alloc ?_ _)); refine blk_far ?_ NB257_272.out _; (with_reducible repeat (first | refine blk_drewN ?_ _ | refine blk_drew ?_ | refine blk_alloc ?_ _)); exact BK257.out⟩, ⟨by (with_reducible repeat (first | refine blk_drewN ?_ _ | refine blk_drew ?_ | refine blk_alloc ?_ _)); refine blk_put (cs := #[.slice Ao76 t292.length co76, .int .i64 t295, .int .i64 t296, .int .i64 x269003_1]) ?_ 3 _ rfl; (with_reducible repeat (first | refine blk_drewN ?_ _ | refine blk_drew ?_ | refine blk_alloc ?_ _)); refine blk_put (cs := #[.slice Ao76 t292.length co76, .int .i64 t295, .int .i64 x269002_1, .int .i64 x269003_1]) ?_ 2 _ rfl; (with_reducible repeat (first | refine blk_drewN ?_ _ | refine blk_drew ?_ | refine blk_alloc ?_ _)); refine blk_put (cs := #[.slice Ao76 t292.length co76, .int .i64 x269001_1, .int .i64 x269002_1, .int .i64 x269003_1]) ?_ 1 _ rfl; (with_reducible repeat (first | refine blk_drewN ?_ _ | refine blk_drew ?_ | refine blk_alloc ?_ _)); refine blk_put (cs := #[.slice Ao66 x269000_1.length co66, .int .i64 x269001_1, .int .i64 x269002_1, .int .i64 x269003_1]) ?_ 0 _ rfl; (with_reducible repeat (first | refine blk_drewN ?_ _ | refine blk_drew ?_ | refine blk_alloc ?_ _)); refine blk_far ?_ NB268_272.out _; (with_reducible repeat (first | refine blk_drewN ?_ _ | refine blk_drew ?_ | refine blk_alloc ?_ _)); refine blk_far ?_ NB268_272.out _; (with_reducible repeat (first | refine blk_drewN ?_ _ | refine blk_drew ?_ | refine blk_alloc ?_ _)); refine blk_far ?_ NB268_272.out _; (with_reducible repeat (first | refine blk_drewN ?_ _ | refine blk_drew ?_ | refine blk_alloc ?_ _)); refine blk_far ?_ NB268_272.out _; (with_reducible repeat (first | refine blk_drewN ?_ _ | refine blk_drew ?_ | refine blk_alloc ?_ _)); exact BK268.out⟩, ⟨by repeat (first | (with_reducible first | exact HI0.out | apply IsS80.alloc | apply IsS80.drewN | apply IsS80.drew | apply IsS80.set_1 | apply IsS80.set_2 | refine IsS80.far ?_ NB0_257.out _ | refine IsS80.far ?_ NB0_268.out _ | refine IsS80.far ?_ NB0_272.out _) | exact HI0.out)⟩, ⟨by repeat (first | (with_reducible first | exact HK.out | apply KeepBut.set_ | apply keep_drewN | apply keep_drew | apply keep_alloc | refine keep_far ?_ GW257.out _ | refine keep_far ?_ GW268.out _ | refine keep_far ?_ GW272.out _) | exact HK.out)⟩, ⟨by repeat (first | (with_reducible first | exact HB.out | apply below_alloc | apply pw_below_drewN | apply below_drew1 | refine below_set ?_ (IsS80.ge HI0.out) | refine below_set ?_ GE257.out | refine below_set ?_ GE268.out | refine below_set ?_ GE272.out) | exact HB.out)⟩⟩
     ·
      replace c61 := Bool.eq_false_iff.mpr c61
      subst c61
      rw [if_neg (show ¬ (false = true) by decide)] at H
      have H' := Aside0.mk H
      clear H
      have hnb83 := NB268_257.out
      have hnc83 := NB257_268.out
      have hnb84 := NB268_0.out
      have hnc84 := NB0_268.out
      obtain ⟨hcz85_0, hcz85_1, hcz85_2, hcz85_3⟩ := cz4 BK268
      obtain ⟨hfz85_0, hfz85_1, hfz85_2, hfz85_3⟩ := fz4 BK268
      try go_wp2_with (first | ((with_reducible refine gate_dst (N := 6) rfl ?_); refine box_event ?hg (N := 6) ?hd (cs := #[.slice none 0 0, .int .i64 0, .int .i64 0, .int .i64 0]) (t := 36) ?hr ?_; (case hd => rfl); (case hg => rfl); (case hr => first | (go_simp; done) | (go_simp; rfl)); intro gb272 hg w86 hbox hb; replace HO_269000 := nr HO_269000 hb; replace HB := Aside0.mk (below_step (by repeat (first | (with_reducible first | exact HB.out | apply below_alloc | apply pw_below_drewN | apply below_drew1 | refine below_set ?_ (IsS80.ge HI0.out) | refine below_set ?_ GE257.out | refine below_set ?_ GE268.out) | exact HB.out)) hb); have BK272 := Aside0.mk (hbox); have GW272 := Aside0.mk ((by rw [hg]; exact (keep_size (w := w) (g := g) (row := none) (by repeat (first | (with_reducible first | exact HK.out | apply KeepBut.set_ | apply keep_drewN | apply keep_drew | apply keep_alloc | refine keep_far ?_ GW257.out _ | refine keep_far ?_ GW268.out _) | exact HK.out))) : w.heap.size ≤ gb272)); have GE272 := Aside0.mk ((Nat.le_trans HW0.out (by rw [hg]; exact (keep_size (w := w) (g := g) (row := none) (by repeat (first | (with_reducible first | exact HK.out | apply KeepBut.set_ | apply keep_drewN | apply keep_drew | apply keep_alloc | refine keep_far ?_ GW257.out _ | refine keep_far ?_ GW268.out _) | exact HK.out))) : w.heap.size ≤ gb272) : w0.heap.size ≤ gb272)); replace HK := Aside0.mk (KeepBut.trans (by repeat (first | (with_reducible first | exact HK.out | apply KeepBut.set_ | apply keep_drewN | apply keep_drew | apply keep_alloc | refine keep_far ?_ GW257.out _ | refine keep_far ?_ GW268.out _) | exact HK.out)) (KeepBut.of_below hb g none) (.inl rfl)); have NB257_272 := Aside0.mk ((bn BK257 hg : gb257 ≠ gb272)); have NB272_257 := Aside0.mk ((bm BK257 hg : gb272 ≠ gb257)); replace BK257 := nb BK257 hb; have NB268_272 := Aside0.mk ((bn BK268 hg : gb268 ≠ gb272)); have NB272_268 := Aside0.mk ((bm BK268 hg : gb272 ≠ gb268)); replace BK268 := nb BK268 hb; have NB0_272 := Aside0.mk ((by rw [hg]; exact Nat.ne_of_lt (IsS80.lt (show IsS80 w0 _ g s0_0 x1001_1 x1002_1 from by repeat (first | (with_reducible first | exact HI0.out | apply IsS80.alloc | apply IsS80.drewN | apply IsS80.drew | apply IsS80.set_1 | apply IsS80.set_2 | refine IsS80.far ?_ NB0_257.out _ | refine IsS80.far ?_ NB0_268.out _) | exact HI0.out))) : g ≠ gb272)); have NB272_0 := Aside0.mk ((by rw [hg]; exact Nat.ne_of_gt (IsS80.lt (show IsS80 w0 _ g s0_0 x1001_1 x1002_1 from by repeat (first | (with_reducible first | exact HI0.out | apply IsS80.alloc | apply IsS80.drewN | apply IsS80.drew | apply IsS80.set_1 | apply IsS80.set_2 | refine IsS80.far ?_ NB0_257.out _ | refine IsS80.far ?_ NB0_268.out _) | exact HI0.out))) : gb272 ≠ g)); replace HI0 := Aside0.mk (IsS80.below (by repeat (first | (with_reducible first | exact HI0.out | apply IsS80.alloc | apply IsS80.drewN | apply IsS80.drew | apply IsS80.set_1 | apply IsS80.set_2 | refine IsS80.far ?_ NB0_257.out _ | refine IsS80.far ?_ NB0_268.out _) | exact HI0.out)) hb); clear hb hbox hg; obtain ⟨Ao87, co87, eo87⟩ := Kd.R_slice HO_269000.out; subst eo87; have hnb88 := NB272_257.out; have hnc88 := NB257_272.out; have hnb89 := NB272_268.out; have hnc89 := NB268_272.out; have hnb90 := NB272_0.out; have hnc90 := NB0_272.out; obtain ⟨hcz91_0, hcz91_1, hcz91_2, hcz91_3⟩ := cz4 BK272; obtain ⟨hfz91_0, hfz91_1, hfz91_2, hfz91_3⟩ := fz4 BK272) | ((with_reducible refine gate_callee (f := 70) rfl ?_); refine gL (some 23) rfl rfl Tryd.func70 (by kernel_rfl) rfl #[.pointer (some ⟨g, 0, none⟩), .int .i64 3] rfl ?_; (with_reducible refine (spec_l1Cur_one.calls g s0_0 x1001_1 x1002_1 3 false t274 t275 w0 _ ?side1 ?side2 A15.out).mono ?_); (case side1 => repeat (first | (with_reducible first | exact HI0.out | apply IsS80.alloc | apply IsS80.drewN | apply IsS80.drew | apply IsS80.set_1 | apply IsS80.set_2 | refine IsS80.far ?_ NB0_257.out _ | refine IsS80.far ?_ NB0_268.out _ | refine IsS80.far ?_ NB0_272.out _) | exact HI0.out)); (case side2 => repeat (first | (with_reducible first | exact HB.out | apply below_alloc | apply pw_below_drewN | apply below_drew1 | refine below_set ?_ (IsS80.ge HI0.out) | refine below_set ?_ GE257.out | refine below_set ?_ GE268.out | refine below_set ?_ GE272.out) | exact HB.out)); rintro e w92 ⟨rfl, hi, hb, hk⟩; refine ⟨_, rfl, ?_⟩; replace HO_269000 := Aside0.mk (Kd.R_mono (Kd.R_keep (IsS80.apart (show IsS80 w0 _ g s0_0 x1001_1 x1002_1 from by repeat (first | (with_reducible first | exact HI0.out | apply IsS80.alloc | apply IsS80.drewN | apply IsS80.drew | apply IsS80.set_1 | apply IsS80.set_2 | refine IsS80.far ?_ NB0_257.out _ | refine IsS80.far ?_ NB0_268.out _ | refine IsS80.far ?_ NB0_272.out _) | exact HI0.out)) (rf HO_269000 BK272) (by decide)) hk (fun _ h => h.2)) (fun _ h => h.1)); replace BK257 := Aside0.mk (KeepBut.blk hk (g' := gb257) (o := .cells #[.slice none 0 0, .int .i64 0, .int .i64 0, .int .i64 0] 36 (0, 0)) (bf BK257 NB257_272) NB257_0.out (by simp)); replace BK268 := Aside0.mk (KeepBut.blk hk (g' := gb268) (o := .cells #[.slice Ao87 x269000_1.length co87, .int .i64 x269001_1, .int .i64 x269002_1, .int .i64 x269003_1] 36 (0, 0)) (bf BK268 NB268_272) NB268_0.out (by simp)); replace BK272 := Aside0.mk (KeepBut.blk hk (g' := gb272) (o := .cells #[.slice Ao87 x269000_1.length co87, .int .i64 x269001_1, .int .i64 x269002_1, .int .i64 x269003_1] 36 (0, 0)) (by (with_reducible repeat (first | refine blk_drewN ?_ _ | refine blk_drew ?_ | refine blk_alloc ?_ _)); refine blk_put (cs := #[.slice Ao87 x269000_1.length co87, .int .i64 x269001_1, .int .i64 x269002_1, .int .i64 0]) ?_ 3 _ rfl; (with_reducible repeat (first | refine blk_drewN ?_ _ | refine blk_drew ?_ | refine blk_alloc ?_ _)); refine blk_put (cs := #[.slice Ao87 x269000_1.length co87, .int .i64 x269001_1, .int .i64 0, .int .i64 0]) ?_ 2 _ rfl; (with_reducible repeat (first | refine blk_drewN ?_ _ | refine blk_drew ?_ | refine blk_alloc ?_ _)); refine blk_put (cs := #[.slice Ao87 x269000_1.length co87, .int .i64 0, .int .i64 0, .int .i64 0]) ?_ 1 _ rfl; (with_reducible repeat (first | refine blk_drewN ?_ _ | refine blk_drew ?_ | refine blk_alloc ?_ _)); refine blk_put (cs := #[.slice none 0 0, .int .i64 0, .int .i64 0, .int .i64 0]) ?_ 0 _ rfl; (with_reducible repeat (first | refine blk_drewN ?_ _ | refine blk_drew ?_ | refine blk_alloc ?_ _)); exact BK272.out) NB272_0.out (by simp)); replace HK := Aside0.mk (KeepBut.trans (by repeat (first | (with_reducible first | exact HK.out | apply KeepBut.set_ | apply keep_drewN | apply keep_drew | apply keep_alloc | refine keep_far ?_ GW257.out _ | refine keep_far ?_ GW268.out _ | refine keep_far ?_ GW272.out _) | exact HK.out)) hk (.inl rfl)); replace HB := Aside0.mk (hb); replace HI0 := Aside0.mk (hi); (try clear hb); (try clear hb2); (try clear hk); (try clear hi)))
      have n0_ := Aside0.mk (Kd.R_drew HO_269000.out)
      have n1_ := Aside0.mk (blk_drew BK257.out)
      have n2_ := Aside0.mk (blk_drew BK268.out)
      have n3_ := Aside0.mk (blk_drew BK272.out)
      have n4_ := Aside0.mk (IsS80.drew HI0.out)
      have n5_ := Aside0.mk (keep_drew HK.out)
      have n6_ := Aside0.mk (below_drew1 HB.out)
      clear HO_269000
      clear BK257
      clear BK268
      clear BK272
      clear HI0
      clear HK
      clear HB
      have HO_269000 := n0_
      have BK257 := n1_
      have BK268 := n2_
      have BK272 := n3_
      have HI0 := n4_
      have HK := n5_
      have HB := n6_
      clear n0_ n1_ n2_ n3_ n4_ n5_ n6_
      refine start_ (n := 11) (S := fun w' => w'.cell? ⟨gb268, 0, none⟩ = some (.slice Ao87 x269000_1.length co87) ∧ w'.cell? ⟨gb268, 1, none⟩ = some (.int .i64 x269001_1) ∧ w'.cell? ⟨gb268, 2, none⟩ = some (.int .i64 x269002_1) ∧ w'.cell? ⟨gb268, 3, none⟩ = some (.int .i64 x269003_1)) (ds := []) #[false, false, false, false, false, false, false, false, false, false, false] (by kernel_rfl) rfl rfl ⟨(blk_cell BK268.out 0).trans rfl, (blk_cell BK268.out 1).trans rfl, (blk_cell BK268.out 2).trans rfl, (blk_cell BK268.out 3).trans rfl⟩ (fun hHeld => ?_); refine with_tabW spec_l1Cur_ring.tab8 spec_l1Cur_ring.bits8 (fun HT_ HW_ => ?_)
      generalize w92.drew = w93 at HO_269000 BK257 BK268 BK272 HI0 HK HB hHeld ⊢
      refine pureS 1 33 HT_.out ?_
      refine pureS 2 34 HT_.out ?_
      refine takeS 0 32 HT_.out HW_.out hHeld (hr := by rintro w' ⟨s0, s1, s2, s3⟩; go_simp; with_reducible rfl) (h := ?_)
      refine one_ (i := 3) (N := some 35) #[true, true, true, true, false, false, false, false, false, false, false] rfl rfl (one_of HT_.out (by kernel_rfl)) (by decide) (fun K hK => ?_)
      refine goes_ Tryd.func66 (by kernel_rfl) rfl #[.pointer (some ⟨g, 0, none⟩), .int .i64 5] (by rfl) rfl rfl (by (try simp only [List.map_toArray, List.map_cons, List.map_nil]); first | done | rfl | (simp only [List.length_drop, List.length_take]; rfl)) ?_
      with_reducible refine (spec_l1Cur_pick.calls g s0_0 t274 t275 5 t286 t287 t288 w0 _ ?side1 ?side2 A58.out).mono ?_
      (case side1 => repeat (first | (with_reducible first | exact HI0.out | apply IsS80.alloc | apply IsS80.drewN | apply IsS80.drew | apply IsS80.set_1 | apply IsS80.set_2 | refine IsS80.far ?_ NB0_257.out _ | refine IsS80.far ?_ NB0_268.out _ | refine IsS80.far ?_ NB0_272.out _) | exact HI0.out))
      (case side2 => repeat (first | (with_reducible first | exact HB.out | apply below_alloc | apply pw_below_drewN | apply below_drew1 | refine below_set ?_ (IsS80.ge HI0.out) | refine below_set ?_ GE257.out | refine below_set ?_ GE268.out | refine below_set ?_ GE272.out) | exact HB.out))
      rintro e w94 ⟨rfl, hi, hb, hk⟩
      refine ⟨_, rfl, ?_⟩
      have n0_ := Aside0.mk (Kd.R_mono (Kd.R_keep (IsS80.apart (show IsS80 w0 _ g s0_0 t274 t275 from by repeat (first | (with_reducible first | exact HI0.out | apply IsS80.alloc | apply IsS80.drewN | apply IsS80.drew | apply IsS80.set_1 | apply IsS80.set_2 | refine IsS80.far ?_ NB0_257.out _ | refine IsS80.far ?_ NB0_268.out _ | refine IsS80.far ?_ NB0_272.out _) | exact HI0.out)) (rr HO_269000.out) (by decide)) hk (fun _ h => h.2)) (fun _ h => h.1))
      have n1_ := Aside0.mk (KeepBut.blk hk (g' := gb257) (o := .cells #[.slice none 0 0, .int .i64 0, .int .i64 0, .int .i64 0] 36 (0, 0)) (bk BK257) NB257_0.out (by simp))
      have n2_ := Aside0.mk (KeepBut.blk hk (g' := gb268) (o := .cells #[.slice Ao87 x269000_1.length co87, .int .i64 x269001_1, .int .i64 x269002_1, .int .i64 x269003_1] 36 (0, 0)) (bk BK268) NB268_0.out (by simp))
      have n3_ := Aside0.mk (KeepBut.blk hk (g' := gb272) (o := .cells #[.slice Ao87 x269000_1.length co87, .int .i64 x269001_1, .int .i64 x269002_1, .int .i64 x269003_1] 36 (0, 0)) (bk BK272) NB272_0.out (by simp))
      have n4_ := Aside0.mk (KeepBut.trans (by repeat (first | (with_reducible first | exact HK.out | apply KeepBut.set_ | apply keep_drewN | apply keep_drew | apply keep_alloc | refine keep_far ?_ GW257.out _ | refine keep_far ?_ GW268.out _ | refine keep_far ?_ GW272.out _) | exact HK.out)) hk (.inl rfl))
      have n5_ := Aside0.mk (hb)
      have n6_ := Aside0.mk (hi)
      clear HO_269000
      clear BK257
      clear BK268
      clear BK272
      clear HK
      clear HB
      clear HI0
      have HO_269000 := n0_
      have BK257 := n1_
      have BK268 := n2_
      have BK272 := n3_
      have HK := n4_
      have HB := n5_
      have HI0 := n6_
      clear n0_ n1_ n2_ n3_ n4_ n5_ n6_
      (try clear hb)
      (try clear hb2)
      (try clear hk)
      (try clear hi)
      refine hK.out _ _ ⟨(blk_cell BK268.out 0).trans rfl, (blk_cell BK268.out 1).trans rfl, (blk_cell BK268.out 2).trans rfl, (blk_cell BK268.out 3).trans rfl⟩ (fun hHeld => ?_)
      clear hK K
      refine norm_ (a' := ?_) ?_ ?_
      rotate_left
      ·
       show Act.put _ (some 35) _ = _
       simp only [Act.put, List.setIfInBounds_toArray, List.set_cons_zero, List.set_cons_succ, i64_w, i32_w]
       rfl
      refine one_ (i := 4) (N := some 36) #[true, true, true, true, true, false, false, false, false, false, false] rfl rfl (one_of HT_.out (by kernel_rfl)) (by decide) (fun K hK => ?_)
      refine goes_ Tryd.func65 (by kernel_rfl) rfl #[.pointer (some ⟨g, 0, none⟩), .int .i64 t286] (by rfl) rfl rfl (by (try simp only [List.map_toArray, List.map_cons, List.map_nil]); first | done | rfl | (simp only [List.length_drop, List.length_take]; rfl)) ?_
      with_reducible refine (spec_l1Cur_text.calls k1 g s0_0 t287 t288 t286 t289 t290 t291 w0 _ ?side1 ?side2 A59.out).mono ?_
      (case side1 => repeat (first | (with_reducible first | exact HI0.out | apply IsS80.alloc | apply IsS80.drewN | apply IsS80.drew | apply IsS80.set_1 | apply IsS80.set_2 | refine IsS80.far ?_ NB0_257.out _ | refine IsS80.far ?_ NB0_268.out _ | refine IsS80.far ?_ NB0_272.out _) | exact HI0.out))
      (case side2 => repeat (first | (with_reducible first | exact HB.out | apply below_alloc | apply pw_below_drewN | apply below_drew1 | refine below_set ?_ (IsS80.ge HI0.out) | refine below_set ?_ GE257.out | refine below_set ?_ GE268.out | refine below_set ?_ GE272.out) | exact HB.out))
      rintro e w95 ⟨rfl, hi, hb, hk⟩
      refine ⟨_, rfl, ?_⟩
      have n0_ := Aside0.mk (Kd.R_mono (Kd.R_keep (IsS80.apart (show IsS80 w0 _ g s0_0 t287 t288 from by repeat (first | (with_reducible first | exact HI0.out | apply IsS80.alloc | apply IsS80.drewN | apply IsS80.drew | apply IsS80.set_1 | apply IsS80.set_2 | refine IsS80.far ?_ NB0_257.out _ | refine IsS80.far ?_ NB0_268.out _ | refine IsS80.far ?_ NB0_272.out _) | exact HI0.out)) (rr HO_269000.out) (by decide)) hk (fun _ h => h.2)) (fun _ h => h.1))
      have n1_ := Aside0.mk (KeepBut.blk hk (g' := gb257) (o := .cells #[.slice none 0 0, .int .i64 0, .int .i64 0, .int .i64 0] 36 (0, 0)) (bk BK257) NB257_0.out (by simp))
      have n2_ := Aside0.mk (KeepBut.blk hk (g' := gb268) (o := .cells #[.slice Ao87 x269000_1.length co87, .int .i64 x269001_1, .int .i64 x269002_1, .int .i64 x269003_1] 36 (0, 0)) (bk BK268) NB268_0.out (by simp))
      have n3_ := Aside0.mk (KeepBut.blk hk (g' := gb272) (o := .cells #[.slice Ao87 x269000_1.length co87, .int .i64 x269001_1, .int .i64 x269002_1, .int .i64 x269003_1] 36 (0, 0)) (bk BK272) NB272_0.out (by simp))
      have n4_ := Aside0.mk (KeepBut.trans (by repeat (first | (with_reducible first | exact HK.out | apply KeepBut.set_ | apply keep_drewN | apply keep_drew | apply keep_alloc | refine keep_far ?_ GW257.out _ | refine keep_far ?_ GW268.out _ | refine keep_far ?_ GW272.out _) | exact HK.out)) hk (.inl rfl))
      have n5_ := Aside0.mk (hb)
      have n6_ := Aside0.mk (hi)
      clear HO_269000
      clear BK257
      clear BK268
      clear BK272
      clear HK
      clear HB
      clear HI0
      have HO_269000 := n0_
      have BK257 := n1_
      have BK268 := n2_
      have BK272 := n3_
      have HK := n4_
      have HB := n5_
      have HI0 := n6_
      clear n0_ n1_ n2_ n3_ n4_ n5_ n6_
      (try clear hb)
      (try clear hb2)
      (try clear hk)
      (try clear hi)
      refine hK.out _ _ ⟨(blk_cell BK268.out 0).trans rfl, (blk_cell BK268.out 1).trans rfl, (blk_cell BK268.out 2).trans rfl, (blk_cell BK268.out 3).trans rfl⟩ (fun hHeld => ?_)
      clear hK K
      refine norm_ (a' := ?_) ?_ ?_
      rotate_left
      ·
       show Act.put _ (some 36) _ = _
       simp only [Act.put, List.setIfInBounds_toArray, List.set_cons_zero, List.set_cons_succ, i64_w, i32_w]
       rfl
      refine one_ (i := 5) (N := some 37) #[true, true, true, true, true, true, false, false, false, false, false] rfl rfl (one_of HT_.out (by kernel_rfl)) (by decide) (fun K hK => ?_)
      refine goes_ Tryd.func35 (by kernel_rfl) rfl #[.agg #[.slice Ao87 x269000_1.length co87, .int .i64 x269001_1, .int .i64 x269002_1, .int .i64 x269003_1], .string t289] (by rfl) rfl rfl (by (try simp only [List.map_toArray, List.map_cons, List.map_nil]); first | done | rfl | (simp only [List.length_drop, List.length_take]; rfl)) ?_
      with_reducible refine (spec_PutRecord.calls k1 _ _ x269000_1 x269001_1 x269002_1 x269003_1 t289 t292 t295 t296 t297 false _ ?side1 ?side2 A60.out).mono ?_
      (case side1 => exact rc0 HO_269000)
      (case side2 => exact (Kd.R_reads' HO_269000.out).2.1)
      rintro e w96 ⟨v293, rfl, ho0, hb⟩
      refine ⟨_, rfl, ?_⟩
      have n0_ := Aside0.mk (Kd.R_elder' (rr HO_269000.out) (Kd.R_base ho0) hb)
      have n1_ := Aside0.mk (Kd.R_lower (Kd.R_new' ho0 (Kd.R_lt (rr HO_269000.out))) (keep_size (w := w) (g := g) (row := none) (by repeat (first | (with_reducible first | exact HK.out | apply KeepBut.set_ | apply keep_drewN | apply keep_drew | apply keep_alloc | refine keep_far ?_ GW257.out _ | refine keep_far ?_ GW268.out _ | refine keep_far ?_ GW272.out _) | exact HK.out))))
      have n2_ := Aside0.mk (bb BK257 hb)
      have n3_ := Aside0.mk (bb BK268 hb)
      have n4_ := Aside0.mk (IsS80.below (by repeat (first | (with_reducible first | exact HI0.out | apply IsS80.alloc | apply IsS80.drewN | apply IsS80.drew | apply IsS80.set_1 | apply IsS80.set_2 | refine IsS80.far ?_ NB0_257.out _ | refine IsS80.far ?_ NB0_268.out _ | refine IsS80.far ?_ NB0_272.out _) | exact HI0.out)) hb)
      have n5_ := Aside0.mk (bb BK272 hb)
      have n6_ := Aside0.mk (KeepBut.trans (by repeat (first | (with_reducible first | exact HK.out | apply KeepBut.set_ | apply keep_drewN | apply keep_drew | apply keep_alloc | refine keep_far ?_ GW257.out _ | refine keep_far ?_ GW268.out _ | refine keep_far ?_ GW272.out _) | exact HK.out)) (KeepBut.of_below hb g none) (.inl rfl))
      have n7_ := Aside0.mk (below_step (by repeat (first | (with_reducible first | exact HB.out | apply below_alloc | apply pw_below_drewN | apply below_drew1 | refine below_set ?_ (IsS80.ge HI0.out) | refine below_set ?_ GE257.out | refine below_set ?_ GE268.out | refine below_set ?_ GE272.out) | exact HB.out)) hb)
      clear HO_269000
      clear BK257
      clear BK268
      clear HI0
      clear BK272
      clear HK
      clear HB
      have HO_269000 := n0_
      have HO294 := n1_
      have BK257 := n2_
      have BK268 := n3_
      have HI0 := n4_
      have BK272 := n5_
      have HK := n6_
      have HB := n7_
      clear n0_ n1_ n2_ n3_ n4_ n5_ n6_ n7_
      (try clear hb)
      (try clear hb2)
      (try clear hk)
      (try clear hi)
      (try clear ho0)
      obtain ⟨Ao97, co97, eo97⟩ := Kd.R_slice HO294.out
      (first | subst eo97 | (injection eo97 with f1_ f2_ f3_; have f4_ := f1_.symm; have f5_ := f3_.symm; clear f1_ f2_ f3_; subst f4_; subst f5_))
      refine hK.out _ _ ⟨(blk_cell BK268.out 0).trans rfl, (blk_cell BK268.out 1).trans rfl, (blk_cell BK268.out 2).trans rfl, (blk_cell BK268.out 3).trans rfl⟩ (fun hHeld => ?_)
      clear hK K
      refine norm_ (a' := ?_) ?_ ?_
      rotate_left
      ·
       show Act.put _ (some 37) _ = _
       simp only [Act.put, List.setIfInBounds_toArray, List.set_cons_zero, List.set_cons_succ, i64_w, i32_w]
       rfl
      refine pureS 6 31 HT_.out ?_
      refine pureS 7 38 HT_.out ?_
      refine pureS 8 39 HT_.out ?_
      refine one_ (i := 9) (N := none) #[true, true, true, true, true, true, true, true, true, true, false] rfl rfl (one_of HT_.out (by kernel_rfl)) (by decide) (fun K hK => ?_)
      have hs98 : w96.cell? ⟨gb272, 0, none⟩ = some (.slice Ao87 x269000_1.length co87) := (blk_cell BK272.out 0).trans rfl
      have hfs98 := blk_frozen BK272.out 0
      have hns98_0 := NB257_272.out
      have hns98_1 := NB268_272.out
      have hms98_0 := NB272_257.out
      have hms98_1 := NB272_268.out
      have hs99 : w96.cell? ⟨gb272, 1, none⟩ = some (.int .i64 x269001_1) := (blk_cell BK272.out 1).trans rfl
      have hfs99 := blk_frozen BK272.out 1
      have hns99_0 := NB257_272.out
      have hns99_1 := NB268_272.out
      have hms99_0 := NB272_257.out
      have hms99_1 := NB272_268.out
      have hs100 : w96.cell? ⟨gb272, 2, none⟩ = some (.int .i64 x269002_1) := (blk_cell BK272.out 2).trans rfl
      have hfs100 := blk_frozen BK272.out 2
      have hns100_0 := NB257_272.out
      have hns100_1 := NB268_272.out
      have hms100_0 := NB272_257.out
      have hms100_1 := NB272_268.out
      have hs101 : w96.cell? ⟨gb272, 3, none⟩ = some (.int .i64 x269003_1) := (blk_cell BK272.out 3).trans rfl
      have hfs101 := blk_frozen BK272.out 3
      have hns101_0 := NB257_272.out
      have hns101_1 := NB268_272.out
      have hms101_0 := NB272_257.out
      have hms101_1 := NB272_268.out
      refine skip_ (w1 := ?_) (by rfl) rfl ?_ ?_
      rotate_left
      ·
       go_simp
       rfl
      refine hK.out _ _ ⟨((cell_far (p := ⟨gb272, _, none⟩) NB268_272.out _).trans (((cell_far (p := ⟨gb272, _, none⟩) NB268_272.out _).trans (((cell_far (p := ⟨gb272, _, none⟩) NB268_272.out _).trans (((cell_far (p := ⟨gb272, _, none⟩) NB268_272.out _).trans (hHeld.1)))))))), ((cell_far (p := ⟨gb272, _, none⟩) NB268_272.out _).trans (((cell_far (p := ⟨gb272, _, none⟩) NB268_272.out _).trans (((cell_far (p := ⟨gb272, _, none⟩) NB268_272.out _).trans (((cell_far (p := ⟨gb272, _, none⟩) NB268_272.out _).trans (hHeld.2.1)))))))), ((cell_far (p := ⟨gb272, _, none⟩) NB268_272.out _).trans (((cell_far (p := ⟨gb272, _, none⟩) NB268_272.out _).trans (((cell_far (p := ⟨gb272, _, none⟩) NB268_272.out _).trans (((cell_far (p := ⟨gb272, _, none⟩) NB268_272.out _).trans (hHeld.2.2.1)))))))), ((cell_far (p := ⟨gb272, _, none⟩) NB268_272.out _).trans (((cell_far (p := ⟨gb272, _, none⟩) NB268_272.out _).trans (((cell_far (p := ⟨gb272, _, none⟩) NB268_272.out _).trans (((cell_far (p := ⟨gb272, _, none⟩) NB268_272.out _).trans (hHeld.2.2.2))))))))⟩ (fun hHeld => ?_)
      clear hK K
      refine pureS 10 7 HT_.out ?_
      refine done_ (done_of HT_.out (by kernel_rfl)) ?_
      try go_wp2
      go_roundg k1
      case measure => have := HK1.out; omega
      case rel => exact ⟨(wrap64 (x5_1 - 1)), (t290), (t291), (x269000_1), (x269001_1), (x269002_1), (x269003_1), (.slice Ao87 x269000_1.length co87), (by first | rfl | (simp; done) | (simp [*]; done)), H', ⟨by have := HK1.out; omega⟩, ⟨by (with_reducible repeat (first | apply Kd.R_alloc | apply Kd.R_drewN | apply Kd.R_drew)); exact Kd.R_mono (Kd.R_far (p := ⟨gb272, 3, none⟩) (Kd.R_far (p := ⟨gb272, 2, none⟩) (Kd.R_far (p := ⟨gb272, 1, none⟩) (Kd.R_far (p := ⟨gb272, 0, none⟩) (Kd.R_types HO_269000.out BK272.out (by decide)) (fun _ hk => hk.2) (.slice Ao97 t292.length co97)) (fun _ hk => hk.2) (.int .i64 t295)) (fun _ hk => hk.2) (.int .i64 t296)) (fun _ hk => hk.2) (.int .i64 t297)) (fun _ hk => trivial)⟩, ⟨bf BK257 NB257_272⟩, ⟨bf BK268 NB268_272⟩, ⟨by repeat (first | (with_reducible first | exact HI0.out | apply IsS80.alloc | apply IsS80.drewN | apply IsS80.drew | apply IsS80.set_1 | apply IsS80.set_2 | refine IsS80.far ?_ NB0_257.out _ | refine IsS80.far ?_ NB0_268.out _ | refine IsS80.far ?_ NB0_272.out _) | exact HI0.out)⟩, ⟨by repeat (first | (with_reducible first | exact HK.out | apply KeepBut.set_ | apply keep_drewN | apply keep_drew | apply keep_alloc | refine keep_far ?_ GW257.out _ | refine keep_far ?_ GW268.out _ | refine keep_far ?_ GW272.out _) | exact HK.out)⟩, ⟨by repeat (first | (with_reducible first | exact HB.out | apply below_alloc | apply pw_below_drewN | apply below_drew1 | refine below_set ?_ (IsS80.ge HI0.out) | refine below_set ?_ GE257.out | refine below_set ?_ GE268.out | refine below_set ?_ GE272.out) | exact HB.out)⟩⟩
   ·
    rw [if_neg c14] at H
    have c14b0 : decide (0 < x5_1) = false := decide_eq_false c14
    clear c14
    replace H := Option.bind_eq_some_iff.mp H
    obtain ⟨⟨t299, t300, t301⟩, A1020, H⟩ := H
    replace H : (if t299 = 0 then ((spec_l1Cur_pick.f s0_0 t300 t301 3).bind fun bt302 => (some (x269000_1, wrap64 (x269001_1 + (wrap64 (bt302.1 - 1))), x269002_1, x269003_1, bt302.2.1, bt302.2.2))) else (if t299 = 1 then ((spec_l1Cur_pick.f s0_0 t300 t301 (x269000_1.length : Int)).bind fun bt305 => (if 0 ≤ bt305.1 then (if bt305.1 < (x269000_1.length : Int) then (some ((x269000_1.set (bt305.1 : Int).toNat (⟨(rd_T26 x269000_1 bt305.1).f0, (rd_T26 x269000_1 bt305.1).f1, (rd_T26 x269000_1 bt305.1).f2, wrap64 (((rd_T26 x269000_1 bt305.1).f3) + 1)⟩ : S26)), x269001_1, x269002_1, x269003_1, bt305.2.1, bt305.2.2)) else (none)) else (none))) else (if t299 = 2 then ((spec_l1Cur_pick.f s0_0 t300 t301 3).bind fun bt310 => (some (x269000_1, x269001_1, x269002_1, wrap64 (x269003_1 + (wrap64 (bt310.1 - 1))), bt310.2.1, bt310.2.2))) else (some (x269000_1, x269001_1, x269002_1, x269003_1, t300, t301))))) = some (r1, r2, r3, r4, r5, r6) := H
    have A102 := Aside0.mk A1020
    clear A1020
    by_cases c103 : t299 = 0
    ·
     rw [if_pos c103] at H
     have c103b0 : (t299 == 0) = true := beq_iff_eq.mpr c103
     have c103b1 : (t299 != 0) = false := bne_eq_false_iff_eq.mpr c103
     clear c103
     replace H := Option.bind_eq_some_iff.mp H
     obtain ⟨⟨t302, t303, t304⟩, A1040, H⟩ := H
     replace H : (some (x269000_1, wrap64 (x269001_1 + (wrap64 (t302 - 1))), x269002_1, x269003_1, t303, t304)) = some (r1, r2, r3, r4, r5, r6) := H
     have A104 := Aside0.mk A1040
     clear A1040
     simp only [Option.some.injEq, Prod.mk.injEq] at H
     obtain ⟨rfl, rfl, rfl, rfl, rfl, rfl⟩ := H
     try go_wp2_with (first | ((with_reducible refine gate_callee (f := 66) rfl ?_); refine gL (some 43) rfl rfl Tryd.func66 (by kernel_rfl) rfl #[.pointer (some ⟨g, 0, none⟩), .int .i64 40] rfl ?_; (with_reducible refine (spec_l1Cur_pick.calls g s0_0 x1001_1 x1002_1 40 t299 t300 t301 w0 _ ?side1 ?side2 A102.out).mono ?_); (case side1 => repeat (first | (with_reducible first | exact HI0.out | apply IsS80.alloc | apply IsS80.drewN | apply IsS80.drew | apply IsS80.set_1 | apply IsS80.set_2 | refine IsS80.far ?_ NB0_257.out _ | refine IsS80.far ?_ NB0_268.out _) | exact HI0.out)); (case side2 => repeat (first | (with_reducible first | exact HB.out | apply below_alloc | apply pw_below_drewN | apply below_drew1 | refine below_set ?_ (IsS80.ge HI0.out) | refine below_set ?_ GE257.out | refine below_set ?_ GE268.out) | exact HB.out)); rintro e w105 ⟨rfl, hi, hb, hk⟩; refine ⟨_, rfl, ?_⟩; replace HO_269000 := Aside0.mk (Kd.R_mono (Kd.R_keep (IsS80.apart (show IsS80 w0 _ g s0_0 x1001_1 x1002_1 from by repeat (first | (with_reducible first | exact HI0.out | apply IsS80.alloc | apply IsS80.drewN | apply IsS80.drew | apply IsS80.set_1 | apply IsS80.set_2 | refine IsS80.far ?_ NB0_257.out _ | refine IsS80.far ?_ NB0_268.out _) | exact HI0.out)) (rr HO_269000.out) (by decide)) hk (fun _ h => h.2)) (fun _ h => h.1)); replace BK257 := Aside0.mk (KeepBut.blk hk (g' := gb257) (o := .cells #[.slice none 0 0, .int .i64 0, .int .i64 0, .int .i64 0] 36 (0, 0)) (bk BK257) NB257_0.out (by simp)); replace BK268 := Aside0.mk (KeepBut.blk hk (g' := gb268) (o := .cells #[u269000, .int .i64 x269001_1, .int .i64 x269002_1, .int .i64 x269003_1] 36 (0, 0)) (bk BK268) NB268_0.out (by simp)); replace HK := Aside0.mk (KeepBut.trans (by repeat (first | (with_reducible first | exact HK.out | apply KeepBut.set_ | apply keep_drewN | apply keep_drew | apply keep_alloc | refine keep_far ?_ GW257.out _ | refine keep_far ?_ GW268.out _) | exact HK.out)) hk (.inl rfl)); replace HB := Aside0.mk (hb); replace HI0 := Aside0.mk (hi); (try clear hb); (try clear hb2); (try clear hk); (try clear hi)))
     have n0_ := Aside0.mk (Kd.R_drew HO_269000.out)
     have n1_ := Aside0.mk (blk_drew BK257.out)
     have n2_ := Aside0.mk (blk_drew BK268.out)
     have n3_ := Aside0.mk (IsS80.drew HI0.out)
     have n4_ := Aside0.mk (keep_drew HK.out)
     have n5_ := Aside0.mk (below_drew1 HB.out)
     clear HO_269000
     clear BK257
     clear BK268
     clear HI0
     clear HK
     clear HB
     have HO_269000 := n0_
     have BK257 := n1_
     have BK268 := n2_
     have HI0 := n3_
     have HK := n4_
     have HB := n5_
     clear n0_ n1_ n2_ n3_ n4_ n5_
     refine start_ (n := 8) (S := fun w' => w'.cell? ⟨gb268, 0, none⟩ = some (u269000) ∧ w'.cell? ⟨gb268, 1, none⟩ = some (.int .i64 x269001_1) ∧ w'.cell? ⟨gb268, 2, none⟩ = some (.int .i64 x269002_1) ∧ w'.cell? ⟨gb268, 3, none⟩ = some (.int .i64 x269003_1)) (ds := [7]) #[false, false, false, false, false, false, false, false] (by kernel_rfl) rfl rfl ⟨(blk_cell BK268.out 0).trans rfl, (blk_cell BK268.out 1).trans rfl, (blk_cell BK268.out 2).trans rfl, (blk_cell BK268.out 3).trans rfl⟩ (fun hHeld => ?_); refine with_tabW spec_l1Cur_ring.tab13 spec_l1Cur_ring.bits13 (fun HT_ HW_ => ?_)
     generalize w105.drew = w106 at HO_269000 BK257 BK268 HI0 HK HB hHeld ⊢
     refine pureS 0 46 HT_.out ?_
     refine pureS 2 48 HT_.out ?_
     refine takeS 1 47 HT_.out HW_.out hHeld (hr := by rintro w' ⟨s0, s1, s2, s3⟩; go_simp; with_reducible rfl) (h := ?_)
     refine one_ (i := 3) (N := some 49) #[true, true, true, true, false, false, false, false] rfl rfl (one_of HT_.out (by kernel_rfl)) (by decide) (fun K hK => ?_)
     refine goes_ Tryd.func66 (by kernel_rfl) rfl #[.pointer (some ⟨g, 0, none⟩), .int .i64 3] (by rfl) rfl rfl (by (try simp only [List.map_toArray, List.map_cons, List.map_nil]); first | done | rfl | (simp only [List.length_drop, List.length_take]; rfl)) ?_
     with_reducible refine (spec_l1Cur_pick.calls g s0_0 t300 t301 3 t302 t303 t304 w0 _ ?side1 ?side2 A104.out).mono ?_
     (case side1 => repeat (first | (with_reducible first | exact HI0.out | apply IsS80.alloc | apply IsS80.drewN | apply IsS80.drew | apply IsS80.set_1 | apply IsS80.set_2 | refine IsS80.far ?_ NB0_257.out _ | refine IsS80.far ?_ NB0_268.out _) | exact HI0.out))
     (case side2 => repeat (first | (with_reducible first | exact HB.out | apply below_alloc | apply pw_below_drewN | apply below_drew1 | refine below_set ?_ (IsS80.ge HI0.out) | refine below_set ?_ GE257.out | refine below_set ?_ GE268.out) | exact HB.out))
     rintro e w107 ⟨rfl, hi, hb, hk⟩
     refine ⟨_, rfl, ?_⟩
     have n0_ := Aside0.mk (Kd.R_mono (Kd.R_keep (IsS80.apart (show IsS80 w0 _ g s0_0 t300 t301 from by repeat (first | (with_reducible first | exact HI0.out | apply IsS80.alloc | apply IsS80.drewN | apply IsS80.drew | apply IsS80.set_1 | apply IsS80.set_2 | refine IsS80.far ?_ NB0_257.out _ | refine IsS80.far ?_ NB0_268.out _) | exact HI0.out)) (rr HO_269000.out) (by decide)) hk (fun _ h => h.2)) (fun _ h => h.1))
     have n1_ := Aside0.mk (KeepBut.blk hk (g' := gb257) (o := .cells #[.slice none 0 0, .int .i64 0, .int .i64 0, .int .i64 0] 36 (0, 0)) (bk BK257) NB257_0.out (by simp))
     have n2_ := Aside0.mk (KeepBut.blk hk (g' := gb268) (o := .cells #[u269000, .int .i64 x269001_1, .int .i64 x269002_1, .int .i64 x269003_1] 36 (0, 0)) (bk BK268) NB268_0.out (by simp))
     have n3_ := Aside0.mk (KeepBut.trans (by repeat (first | (with_reducible first | exact HK.out | apply KeepBut.set_ | apply keep_drewN | apply keep_drew | apply keep_alloc | refine keep_far ?_ GW257.out _ | refine keep_far ?_ GW268.out _) | exact HK.out)) hk (.inl rfl))
     have n4_ := Aside0.mk (hb)
     have n5_ := Aside0.mk (hi)
     clear HO_269000
     clear BK257
     clear BK268
     clear HK
     clear HB
     clear HI0
     have HO_269000 := n0_
     have BK257 := n1_
     have BK268 := n2_
     have HK := n3_
     have HB := n4_
     have HI0 := n5_
     clear n0_ n1_ n2_ n3_ n4_ n5_
     (try clear hb)
     (try clear hb2)
     (try clear hk)
     (try clear hi)
     refine hK.out _ _ ⟨(blk_cell BK268.out 0).trans rfl, (blk_cell BK268.out 1).trans rfl, (blk_cell BK268.out 2).trans rfl, (blk_cell BK268.out 3).trans rfl⟩ (fun hHeld => ?_)
     clear hK K
     refine norm_ (a' := ?_) ?_ ?_
     rotate_left
     ·
      show Act.put _ (some 49) _ = _
      simp only [Act.put, List.setIfInBounds_toArray, List.set_cons_zero, List.set_cons_succ, i64_w, i32_w]
      rfl
     refine pureS 4 50 HT_.out ?_
     refine pureS 5 51 HT_.out ?_
     refine pureS 6 52 HT_.out ?_
     refine last_ (i := 7) (N := none) #[true, true, true, true, true, true, true, true] rfl rfl (one_of HT_.out (by kernel_rfl)) (by decide) (fun K hK => ?_)
     have hs108 : w107.cell? ⟨gb268, 1, none⟩ = some (.int .i64 x269001_1) := (blk_cell BK268.out 1).trans rfl
     have hfs108 := blk_frozen BK268.out 1
     have hns108_0 := NB257_268.out
     have hms108_0 := NB268_257.out
     refine skip_ (w1 := ?_) (by rfl) rfl ?_ ?_
     rotate_left
     ·
      go_simp
      rfl
     refine hK.out _ _ ?_
     clear hK K
     refine done_ (done_of HT_.out (by kernel_rfl)) ?_
     have hnb109 := NB268_257.out
     have hnc109 := NB257_268.out
     have hnb110 := NB268_0.out
     have hnc110 := NB0_268.out
     obtain ⟨hcz111_0, hcz111_1, hcz111_2, hcz111_3⟩ := cz4 BK268
     obtain ⟨hfz111_0, hfz111_1, hfz111_2, hfz111_3⟩ := fz4 BK268
     obtain ⟨Ao112, co112, eo112⟩ := Kd.R_slice HO_269000.out
     subst eo112
     have hnb113 := NB257_0.out
     have hnc113 := NB0_257.out
     obtain ⟨hcz114_0, hcz114_1, hcz114_2, hcz114_3⟩ := cz4 BK257
     obtain ⟨hfz114_0, hfz114_1, hfz114_2, hfz114_3⟩ := fz4 BK257
     try go_wp2
     refine bodyPost_ret (results_cell_row rfl _ _ gb257 36 #[.slice Ao112 x269000_1.length co112, .int .i64 (wrap64 (x269001_1 + (wrap64 (t302 - 1)))), .int .i64 x269002_1, .int .i64 x269003_1] (0, 0) _ rfl (by (with_reducible repeat (first | refine blk_drewN ?_ _ | refine blk_drew ?_ | refine blk_alloc ?_ _)); refine blk_put (cs := #[.slice Ao112 x269000_1.length co112, .int .i64 (wrap64 (x269001_1 + (wrap64 (t302 - 1)))), .int .i64 x269002_1, .int .i64 0]) ?_ 3 _ rfl; (with_reducible repeat (first | refine blk_drewN ?_ _ | refine blk_drew ?_ | refine blk_alloc ?_ _)); refine blk_put (cs := #[.slice Ao112 x269000_1.length co112, .int .i64 (wrap64 (x269001_1 + (wrap64 (t302 - 1)))), .int .i64 0, .int .i64 0]) ?_ 2 _ rfl; (with_reducible repeat (first | refine blk_drewN ?_ _ | refine blk_drew ?_ | refine blk_alloc ?_ _)); refine blk_put (cs := #[.slice Ao112 x269000_1.length co112, .int .i64 0, .int .i64 0, .int .i64 0]) ?_ 1 _ rfl; (with_reducible repeat (first | refine blk_drewN ?_ _ | refine blk_drew ?_ | refine blk_alloc ?_ _)); refine blk_put (cs := #[.slice none 0 0, .int .i64 0, .int .i64 0, .int .i64 0]) ?_ 0 _ rfl; (with_reducible repeat (first | refine blk_drewN ?_ _ | refine blk_drew ?_ | refine blk_alloc ?_ _)); refine blk_far ?_ NB257_268.out _; (with_reducible repeat (first | refine blk_drewN ?_ _ | refine blk_drew ?_ | refine blk_alloc ?_ _)); exact BK257.out) Tryd.underlying36 rfl (by kernel_rfl)) rfl ?_
     exact ⟨_, by first | rfl | (simp [errW_none, errW_some] <;> rfl) | (simp [*, errW_none, errW_some] <;> rfl), by (with_reducible repeat (first | apply Kd.R_alloc | apply Kd.R_drewN | apply Kd.R_drew)); exact Kd.R_mono (Kd.R_far (p := ⟨gb257, 3, none⟩) (Kd.R_far (p := ⟨gb257, 2, none⟩) (Kd.R_far (p := ⟨gb257, 1, none⟩) (Kd.R_far (p := ⟨gb257, 0, none⟩) (Kd.R_far (p := ⟨gb268, 1, none⟩) (Kd.R_types (Kd.R_types HO_269000.out BK268.out (by decide)) BK257.out (by decide)) (fun _ hk => hk.1.2) (.int .i64 (wrap64 (x269001_1 + (wrap64 (t302 - 1)))))) (fun _ hk => hk.2) (.slice Ao112 x269000_1.length co112)) (fun _ hk => hk.2) (.int .i64 (wrap64 (x269001_1 + (wrap64 (t302 - 1)))))) (fun _ hk => hk.2) (.int .i64 x269002_1)) (fun _ hk => hk.2) (.int .i64 x269003_1)) (fun _ hk => trivial), by repeat (first | (with_reducible first | exact HI0.out | apply IsS80.alloc | apply IsS80.drewN | apply IsS80.drew | apply IsS80.set_1 | apply IsS80.set_2 | refine IsS80.far ?_ NB0_257.out _ | refine IsS80.far ?_ NB0_268.out _) | exact HI0.out), by repeat (first | (with_reducible first | exact HB.out | apply below_alloc | apply pw_below_drewN | apply below_drew1 | refine below_set ?_ (IsS80.ge HI0.out) | refine below_set ?_ GE257.out | refine below_set ?_ GE268.out) | exact HB.out), by repeat (first | (with_reducible first | exact HK.out | apply KeepBut.set_ | apply keep_drewN | apply keep_drew | apply keep_alloc | refine keep_far ?_ GW257.out _ | refine keep_far ?_ GW268.out _) | exact HK.out)⟩
    ·
     rw [if_neg c103] at H
     have c103b0 : (t299 == 0) = false := beq_eq_false_iff_ne.mpr c103
     have c103b1 : (t299 != 0) = true := bne_iff_ne.mpr c103
     by_cases c115 : t299 = 1
     ·
      rw [if_pos c115] at H
      have c115b0 : (t299 == 1) = true := beq_iff_eq.mpr c115
      have c115b1 : (t299 != 1) = false := bne_eq_false_iff_eq.mpr c115
      clear c115
      replace H := Option.bind_eq_some_iff.mp H
      obtain ⟨⟨t305, t306, t307⟩, A1160, H⟩ := H
      replace H : (if 0 ≤ t305 then (if t305 < (x269000_1.length : Int) then (some ((x269000_1.set (t305 : Int).toNat (⟨(rd_T26 x269000_1 t305).f0, (rd_T26 x269000_1 t305).f1, (rd_T26 x269000_1 t305).f2, wrap64 (((rd_T26 x269000_1 t305).f3) + 1)⟩ : S26)), x269001_1, x269002_1, x269003_1, t306, t307)) else (none)) else (none)) = some (r1, r2, r3, r4, r5, r6) := H
      have A116 := Aside0.mk A1160
      clear A1160
      by_cases c117 : 0 ≤ t305
      ·
       rw [if_pos c117] at H
       have c117b0 : decide (0 ≤ t305) = true := decide_eq_true c117
       clear c117
       by_cases c118 : t305 < (x269000_1.length : Int)
       ·
        rw [if_pos c118] at H
        have c118b0 : decide (t305 < (x269000_1.length : Int)) = true := decide_eq_true c118
        clear c118
        obtain ⟨y309, hy309⟩ : ∃ y_ : List (S26), y_ = (x269000_1.set (t305 : Int).toNat (⟨(rd_T26 x269000_1 t305).f0, (rd_T26 x269000_1 t305).f1, (rd_T26 x269000_1 t305).f2, wrap64 (((rd_T26 x269000_1 t305).f3) + 1)⟩ : S26)) := ⟨_, rfl⟩
        replace H : (some (y309, x269001_1, x269002_1, x269003_1, t306, t307)) = some (r1, r2, r3, r4, r5, r6) := by first | (rw [hy309]; with_reducible exact H) | (have H2_ := (Option.bind_some _ _).symm.trans H; rw [hy309]; with_reducible exact H2_) | (have H2_ := (Option.bind_some _ _).symm.trans H; with_reducible exact H2_) | with_reducible exact H | (rw [hy309]; exact H) | exact H
        have Ny309 := Aside0.mk hy309
        clear hy309
        simp only [Option.some.injEq, Prod.mk.injEq] at H
        obtain ⟨rfl, rfl, rfl, rfl, rfl, rfl⟩ := H
        try go_wp2_with (first | ((with_reducible refine gate_callee (f := 66) rfl ?_); refine gL (some 43) rfl rfl Tryd.func66 (by kernel_rfl) rfl #[.pointer (some ⟨g, 0, none⟩), .int .i64 40] rfl ?_; (with_reducible refine (spec_l1Cur_pick.calls g s0_0 x1001_1 x1002_1 40 t299 t300 t301 w0 _ ?side1 ?side2 A102.out).mono ?_); (case side1 => repeat (first | (with_reducible first | exact HI0.out | apply IsS80.alloc | apply IsS80.drewN | apply IsS80.drew | apply IsS80.set_1 | apply IsS80.set_2 | refine IsS80.far ?_ NB0_257.out _ | refine IsS80.far ?_ NB0_268.out _) | exact HI0.out)); (case side2 => repeat (first | (with_reducible first | exact HB.out | apply below_alloc | apply pw_below_drewN | apply below_drew1 | refine below_set ?_ (IsS80.ge HI0.out) | refine below_set ?_ GE257.out | refine below_set ?_ GE268.out) | exact HB.out)); rintro e w120 ⟨rfl, hi, hb, hk⟩; refine ⟨_, rfl, ?_⟩; replace HO_269000 := Aside0.mk (Kd.R_mono (Kd.R_keep (IsS80.apart (show IsS80 w0 _ g s0_0 x1001_1 x1002_1 from by repeat (first | (with_reducible first | exact HI0.out | apply IsS80.alloc | apply IsS80.drewN | apply IsS80.drew | apply IsS80.set_1 | apply IsS80.set_2 | refine IsS80.far ?_ NB0_257.out _ | refine IsS80.far ?_ NB0_268.out _) | exact HI0.out)) (rr HO_269000.out) (by decide)) hk (fun _ h => h.2)) (fun _ h => h.1)); replace BK257 := Aside0.mk (KeepBut.blk hk (g' := gb257) (o := .cells #[.slice none 0 0, .int .i64 0, .int .i64 0, .int .i64 0] 36 (0, 0)) (bk BK257) NB257_0.out (by simp)); replace BK268 := Aside0.mk (KeepBut.blk hk (g' := gb268) (o := .cells #[u269000, .int .i64 x269001_1, .int .i64 x269002_1, .int .i64 x269003_1] 36 (0, 0)) (bk BK268) NB268_0.out (by simp)); replace HK := Aside0.mk (KeepBut.trans (by repeat (first | (with_reducible first | exact HK.out | apply KeepBut.set_ | apply keep_drewN | apply keep_drew | apply keep_alloc | refine keep_far ?_ GW257.out _ | refine keep_far ?_ GW268.out _) | exact HK.out)) hk (.inl rfl)); replace HB := Aside0.mk (hb); replace HI0 := Aside0.mk (hi); (try clear hb); (try clear hb2); (try clear hk); (try clear hi)))
        have n0_ := Aside0.mk (Kd.R_drew HO_269000.out)
        have n1_ := Aside0.mk (blk_drew BK257.out)
        have n2_ := Aside0.mk (blk_drew BK268.out)
        have n3_ := Aside0.mk (IsS80.drew HI0.out)
        have n4_ := Aside0.mk (keep_drew HK.out)
        have n5_ := Aside0.mk (below_drew1 HB.out)
        clear HO_269000
        clear BK257
        clear BK268
        clear HI0
        clear HK
        clear HB
        have HO_269000 := n0_
        have BK257 := n1_
        have BK268 := n2_
        have HI0 := n3_
        have HK := n4_
        have HB := n5_
        clear n0_ n1_ n2_ n3_ n4_ n5_
        obtain ⟨Ao122, co122, eo122⟩ := Kd.R_slice HO_269000.out
        (first | subst eo122 | (injection eo122 with f1_ f2_ f3_; have f4_ := f1_.symm; have f5_ := f3_.symm; clear f1_ f2_ f3_; subst f4_; subst f5_))
        have p308 : 0 ≤ (t305 : Int) := of_decide_eq_true (by first | (with_reducible assumption) | assumption)
        have q308 : t305 < (x269000_1.length : Int) := of_decide_eq_true (by first | (with_reducible assumption) | assumption)
        obtain ⟨ad308, e308, hx308_0, hx308_1, hx308_2, hx308_3⟩ := at_T26 (Kd.R_reads' HO_269000.out).2.2 t305 p308 q308
        cases e308
        replace p308 := eq_true p308
        replace q308 := eq_true q308
        refine start_ (n := 14) (S := fun w' => w'.cell? ⟨gb268, 0, none⟩ = some (.slice (some ad308) x269000_1.length co122) ∧ w'.cell? ⟨gb268, 1, none⟩ = some (.int .i64 x269001_1) ∧ w'.cell? ⟨gb268, 2, none⟩ = some (.int .i64 x269002_1) ∧ w'.cell? ⟨gb268, 3, none⟩ = some (.int .i64 x269003_1) ∧ w'.cell? (ad308.add ((t305).toNat * 4)) = some (.int .i64 ((rd_T26 x269000_1 t305).f0)) ∧ w'.cell? ⟨(ad308.add ((t305).toNat * 4)).block, (ad308.add ((t305).toNat * 4)).off + 1, none⟩ = some (.int .i64 ((rd_T26 x269000_1 t305).f1)) ∧ w'.cell? ⟨(ad308.add ((t305).toNat * 4)).block, (ad308.add ((t305).toNat * 4)).off + 2, none⟩ = some (.string ((rd_T26 x269000_1 t305).f2)) ∧ w'.cell? ⟨(ad308.add ((t305).toNat * 4)).block, (ad308.add ((t305).toNat * 4)).off + 3, none⟩ = some (.int .i64 ((rd_T26 x269000_1 t305).f3))) (ds := [13]) #[false, false, false, false, false, false, false, false, false, false, false, false, false, false] (by kernel_rfl) rfl rfl ⟨(blk_cell BK268.out 0).trans rfl, (blk_cell BK268.out 1).trans rfl, (blk_cell BK268.out 2).trans rfl, (blk_cell BK268.out 3).trans rfl, hx308_0, hx308_1, hx308_2, hx308_3⟩ (fun hHeld => ?_); refine with_tabW spec_l1Cur_ring.tab15 spec_l1Cur_ring.bits15 (fun HT_ HW_ => ?_)
        generalize w120.drew = w121 at HO_269000 BK257 BK268 HI0 HK HB hx308_0 hx308_1 hx308_2 hx308_3 hHeld ⊢
        refine pureS 0 55 HT_.out ?_
        refine pureS 2 57 HT_.out ?_
        refine pureS 3 58 HT_.out ?_
        refine takeS 1 56 HT_.out HW_.out hHeld (hr := by rintro w' ⟨s0, s1, s2, s3, s4, s5, s6, s7⟩; (try simp only [add_at, Nat.zero_add] at s4 s5 s6 s7); go_simp; with_reducible rfl) (h := ?_)
        refine takeS 4 59 HT_.out HW_.out hHeld (hr := by rintro w' ⟨s0, s1, s2, s3, s4, s5, s6, s7⟩; (try simp only [add_at, Nat.zero_add] at s4 s5 s6 s7); go_simp; with_reducible rfl) (h := ?_)
        refine pureS 5 60 HT_.out ?_
        refine one_ (i := 6) (N := some 61) #[true, true, true, true, true, true, true, false, false, false, false, false, false, false] rfl rfl (one_of HT_.out (by kernel_rfl)) (by decide) (fun K hK => ?_)
        refine goes_ Tryd.func66 (by kernel_rfl) rfl #[.pointer (some ⟨g, 0, none⟩), .int .i64 (x269000_1.length : Int)] (by rfl) rfl rfl (by (try simp only [List.map_toArray, List.map_cons, List.map_nil]); first | done | rfl | (simp only [List.length_drop, List.length_take]; rfl)) ?_
        with_reducible refine (spec_l1Cur_pick.calls g s0_0 t300 t301 (x269000_1.length : Int) t305 t306 t307 w0 _ ?side1 ?side2 A116.out).mono ?_
        (case side1 => repeat (first | (with_reducible first | exact HI0.out | apply IsS80.alloc | apply IsS80.drewN | apply IsS80.drew | apply IsS80.set_1 | apply IsS80.set_2 | refine IsS80.far ?_ NB0_257.out _ | refine IsS80.far ?_ NB0_268.out _) | exact HI0.out))
        (case side2 => repeat (first | (with_reducible first | exact HB.out | apply below_alloc | apply pw_below_drewN | apply below_drew1 | refine below_set ?_ (IsS80.ge HI0.out) | refine below_set ?_ GE257.out | refine below_set ?_ GE268.out) | exact HB.out))
        rintro e w123 ⟨rfl, hi, hb, hk⟩
        have HS4_ := keep_cell hk (hHeld.2.2.2.2.1) (by first | (rw [add_block]; exact Kd.own_blk (IsS80.own_ne HI0.out HO_269000.out (by decide))) | (show (Addr.add _ _).block ≠ _; rw [add_block]; exact Kd.own_blk (IsS80.own_ne HI0.out HO_269000.out (by decide))) | exact Kd.own_blk (IsS80.own_ne HI0.out HO_269000.out (by decide)))
        have HS5_ := keep_cell hk (hHeld.2.2.2.2.2.1) (by first | (rw [add_block]; exact Kd.own_blk (IsS80.own_ne HI0.out HO_269000.out (by decide))) | (show (Addr.add _ _).block ≠ _; rw [add_block]; exact Kd.own_blk (IsS80.own_ne HI0.out HO_269000.out (by decide))) | exact Kd.own_blk (IsS80.own_ne HI0.out HO_269000.out (by decide)))
        have HS6_ := keep_cell hk (hHeld.2.2.2.2.2.2.1) (by first | (rw [add_block]; exact Kd.own_blk (IsS80.own_ne HI0.out HO_269000.out (by decide))) | (show (Addr.add _ _).block ≠ _; rw [add_block]; exact Kd.own_blk (IsS80.own_ne HI0.out HO_269000.out (by decide))) | exact Kd.own_blk (IsS80.own_ne HI0.out HO_269000.out (by decide)))
        have HS7_ := keep_cell hk (hHeld.2.2.2.2.2.2.2) (by first | (rw [add_block]; exact Kd.own_blk (IsS80.own_ne HI0.out HO_269000.out (by decide))) | (show (Addr.add _ _).block ≠ _; rw [add_block]; exact Kd.own_blk (IsS80.own_ne HI0.out HO_269000.out (by decide))) | exact Kd.own_blk (IsS80.own_ne HI0.out HO_269000.out (by decide)))
        refine ⟨_, rfl, ?_⟩
        have n0_ := Aside0.mk (Kd.R_mono (Kd.R_keep (IsS80.apart (show IsS80 w0 _ g s0_0 t300 t301 from by repeat (first | (with_reducible first | exact HI0.out | apply IsS80.alloc | apply IsS80.drewN | apply IsS80.drew | apply IsS80.set_1 | apply IsS80.set_2 | refine IsS80.far ?_ NB0_257.out _ | refine IsS80.far ?_ NB0_268.out _) | exact HI0.out)) (rr HO_269000.out) (by decide)) hk (fun _ h => h.2)) (fun _ h => h.1))
        have n1_ := Aside0.mk (KeepBut.blk hk (g' := gb257) (o := .cells #[.slice none 0 0, .int .i64 0, .int .i64 0, .int .i64 0] 36 (0, 0)) (bk BK257) NB257_0.out (by simp))
        have n2_ := Aside0.mk (KeepBut.blk hk (g' := gb268) (o := .cells #[.slice (some ad308) x269000_1.length co122, .int .i64 x269001_1, .int .i64 x269002_1, .int .i64 x269003_1] 36 (0, 0)) (bk BK268) NB268_0.out (by simp))
        have n3_ := Aside0.mk (KeepBut.trans (by repeat (first | (with_reducible first | exact HK.out | apply KeepBut.set_ | apply keep_drewN | apply keep_drew | apply keep_alloc | refine keep_far ?_ GW257.out _ | refine keep_far ?_ GW268.out _) | exact HK.out)) hk (.inl rfl))
        have n4_ := Aside0.mk (hb)
        have n5_ := Aside0.mk (hi)
        clear HO_269000
        clear BK257
        clear BK268
        clear HK
        clear HB
        clear HI0
        have HO_269000 := n0_
        have BK257 := n1_
        have BK268 := n2_
        have HK := n3_
        have HB := n4_
        have HI0 := n5_
        clear n0_ n1_ n2_ n3_ n4_ n5_
        (try clear hb)
        (try clear hb2)
        (try clear hk)
        (try clear hi)
        have p119 : 0 ≤ (t305 : Int) := of_decide_eq_true (by first | (with_reducible assumption) | assumption)
        have q119 : (t305 : Int) < ((x269000_1.length : Int) : Int) := of_decide_eq_true (by first | (with_reducible assumption) | assumption)
        obtain ⟨go119, co119, eo119, gb119, gl119, cl119, HG119⟩ := Kd.R_form HO_269000.out (by omega)
        (first | cases eo119 | (injection eo119 with ea_ en_ ec_; (first | subst ea_ | (injection ea_ with ea_; subst ea_)); subst ec_; clear en_))
        have GB119 := Aside0.mk gb119
        have GG119 := Aside0.mk HG119
        clear gb119 gl119 HG119
        (first | simp only [add_plain] at hx308_0 | skip)
        (first | simp only [add_plain] at hx308_1 | skip)
        (first | simp only [add_plain] at hx308_2 | skip)
        (first | simp only [add_plain] at hx308_3 | skip)
        obtain ⟨ce119, hcl119, hM119, hcc119, hfr119⟩ := Kd.R_elem HO_269000.out z26 (t305 : Int) p119 q119
        obtain rfl := k26_openM hM119
        have hx119_0 : World.cell? _ ⟨go119, (t305 : Int).toNat * 4, none⟩ = some (.int .i64 ((rd_T26 x269000_1 t305).f0)) := hcc119 0 _ rfl
        have hx119_1 : World.cell? _ ⟨go119, (t305 : Int).toNat * 4 + 1, none⟩ = some (.int .i64 ((rd_T26 x269000_1 t305).f1)) := hcc119 1 _ rfl
        have hx119_2 : World.cell? _ ⟨go119, (t305 : Int).toNat * 4 + 2, none⟩ = some (.string ((rd_T26 x269000_1 t305).f2)) := hcc119 2 _ rfl
        have hx119_3 : World.cell? _ ⟨go119, (t305 : Int).toNat * 4 + 3, none⟩ = some (.int .i64 ((rd_T26 x269000_1 t305).f3)) := hcc119 3 _ rfl
        have hf119_0 : World.frozen? _ ⟨go119, (t305 : Int).toNat * 4, none⟩ = false := hfr119 0
        have hf119_1 : World.frozen? _ ⟨go119, (t305 : Int).toNat * 4 + 1, none⟩ = false := hfr119 1
        have hf119_2 : World.frozen? _ ⟨go119, (t305 : Int).toNat * 4 + 2, none⟩ = false := hfr119 2
        have hf119_3 : World.frozen? _ ⟨go119, (t305 : Int).toNat * 4 + 3, none⟩ = false := hfr119 3
        clear hcl119 hcc119 hfr119 hM119
        replace p119 := eq_true p119
        replace q119 := eq_true q119
        have HN0_go119 := Aside0.mk (show g ≠ go119 from by have h_ := IsS80.own_ne HI0.out HO_269000.out (by decide); intro e_; exact h_ (by rw [e_]; rfl))
        obtain ⟨ce124, hcl124, hM124, hcc124, hfr124⟩ := Kd.R_elem HO_269000.out z26 (t305 : Int) (of_decide_eq_true (by first | (with_reducible assumption) | assumption)) (by have h_ : (t305 : Int) < ((x269000_1.length : Int) : Int) := of_decide_eq_true (by first | (with_reducible assumption) | assumption); first | exact h_ | (have e_ := (Kd.R_reads' HO_269000.out).1; omega) | simpa using h_)
        obtain rfl := k26_openM hM124
        have HP124 := (Kd.R_seg HO_269000.out (t305 : Int) (of_decide_eq_true (by first | (with_reducible assumption) | assumption)) (by have h_ : (t305 : Int) < ((x269000_1.length : Int) : Int) := of_decide_eq_true (by first | (with_reducible assumption) | assumption); first | exact h_ | (have e_ := (Kd.R_reads' HO_269000.out).1; omega) | simpa using h_) (seg := [.int .i64 (wrap64 (((rd_T26 x269000_1 t305).f3) + 1))]) (j := 3) hcl124 hcc124 (show 4 ≤ 4 from by decide) (x' := (⟨(rd_T26 x269000_1 t305).f0, (rd_T26 x269000_1 t305).f1, (rd_T26 x269000_1 t305).f2, wrap64 (((rd_T26 x269000_1 t305).f3) + 1)⟩ : S26)) (k26_mkM _ _ _ (⟨(rd_T26 x269000_1 t305).f0, (rd_T26 x269000_1 t305).f1, (rd_T26 x269000_1 t305).f2, wrap64 (((rd_T26 x269000_1 t305).f3) + 1)⟩ : S26) ) (fun _ hk => hk)).1
        rw [← Ny309.out] at HP124
        have HQ124 := Aside0.mk HP124
        clear hcl124 hcc124 hfr124 hM124 HP124
        refine hK.out _ _ ⟨(blk_cell BK268.out 0).trans rfl, (blk_cell BK268.out 1).trans rfl, (blk_cell BK268.out 2).trans rfl, (blk_cell BK268.out 3).trans rfl, HS4_, HS5_, HS6_, HS7_⟩ (fun hHeld => ?_)
        clear hK K
        refine norm_ (a' := ?_) ?_ ?_
        rotate_left
        ·
         show Act.put _ (some 61) _ = _
         simp only [Act.put, List.setIfInBounds_toArray, List.set_cons_zero, List.set_cons_succ, i64_w, i32_w]
         rfl
        refine pureS 7 62 HT_.out ?_
        refine pureS 8 63 HT_.out ?_
        refine takeS 9 64 HT_.out HW_.out hHeld (hr := by rintro w' ⟨s0, s1, s2, s3, s4, s5, s6, s7⟩; (try simp only [add_at, Nat.zero_add] at s4 s5 s6 s7); go_simp; with_reducible rfl) (h := ?_)
        refine pureS 10 65 HT_.out ?_
        refine pureS 11 66 HT_.out ?_
        refine pureS 12 67 HT_.out ?_
        refine last_ (i := 13) (N := none) #[true, true, true, true, true, true, true, true, true, true, true, true, true, true] rfl rfl (one_of HT_.out (by kernel_rfl)) (by decide) (fun K hK => ?_)
        refine skip_ (w1 := ?_) (by rfl) rfl ?_ ?_
        rotate_left
        ·
         go_simp
         rfl
        refine hK.out _ _ ?_
        clear hK K
        refine done_ (done_of HT_.out (by kernel_rfl)) ?_
        have n0_ : Aside0 (Kd.R k26 26 (w123.setCell ⟨go119, (t305 : Int).toNat * 4 + 3, none⟩ (.int .i64 (wrap64 (((rd_T26 x269000_1 t305).f3) + 1)))) w.heap.size (fun _ => True) (.slice (some ⟨go119, 0, none⟩) x269000_1.length co122) y309) := ⟨(by first | exact rr HQ124.out | exact HQ124.out)⟩
        have n1_ : Aside0 ((w123.setCell ⟨go119, (t305 : Int).toNat * 4 + 3, none⟩ (.int .i64 (wrap64 (((rd_T26 x269000_1 t305).f3) + 1)))).heap[gb257]? = some (.cells #[.slice none 0 0, .int .i64 0, .int .i64 0, .int .i64 0] 36 (0, 0))) := ⟨by (with_reducible repeat (first | refine blk_drewN ?_ _ | refine blk_drew ?_ | refine blk_alloc ?_ _)); refine blk_far ?_ (by have h_ := Kd.R_ne HO_269000.out BK257.out (by decide); intro e_; exact h_ (by rw [e_]; rfl)) _; (with_reducible repeat (first | refine blk_drewN ?_ _ | refine blk_drew ?_ | refine blk_alloc ?_ _)); exact BK257.out⟩
        have n2_ : Aside0 ((w123.setCell ⟨go119, (t305 : Int).toNat * 4 + 3, none⟩ (.int .i64 (wrap64 (((rd_T26 x269000_1 t305).f3) + 1)))).heap[gb268]? = some (.cells #[.slice (some ⟨go119, 0, none⟩) x269000_1.length co122, .int .i64 x269001_1, .int .i64 x269002_1, .int .i64 x269003_1] 36 (0, 0))) := ⟨by (with_reducible repeat (first | refine blk_drewN ?_ _ | refine blk_drew ?_ | refine blk_alloc ?_ _)); refine blk_far ?_ (by have h_ := Kd.R_ne HO_269000.out BK268.out (by decide); intro e_; exact h_ (by rw [e_]; rfl)) _; (with_reducible repeat (first | refine blk_drewN ?_ _ | refine blk_drew ?_ | refine blk_alloc ?_ _)); exact BK268.out⟩
        have n3_ : Aside0 (IsS80 w0 (w123.setCell ⟨go119, (t305 : Int).toNat * 4 + 3, none⟩ (.int .i64 (wrap64 (((rd_T26 x269000_1 t305).f3) + 1)))) g s0_0 t306 t307) := ⟨by repeat (first | (with_reducible first | exact HI0.out | apply IsS80.alloc | apply IsS80.drewN | apply IsS80.drew | apply IsS80.set_1 | apply IsS80.set_2 | refine IsS80.far ?_ HN0_go119.out _ | refine IsS80.far ?_ NB0_257.out _ | refine IsS80.far ?_ NB0_268.out _) | exact HI0.out)⟩
        have n4_ : Aside0 (KeepBut w (w123.setCell ⟨go119, (t305 : Int).toNat * 4 + 3, none⟩ (.int .i64 (wrap64 (((rd_T26 x269000_1 t305).f3) + 1)))) g none) := ⟨by repeat (first | (with_reducible first | exact HK.out | apply KeepBut.set_ | apply keep_drewN | apply keep_drew | apply keep_alloc | refine keep_far ?_ GB119.out _ | refine keep_far ?_ GW257.out _ | refine keep_far ?_ GW268.out _) | exact HK.out)⟩
        have n5_ : Aside0 (Below w0.heap.size w0 (w123.setCell ⟨go119, (t305 : Int).toNat * 4 + 3, none⟩ (.int .i64 (wrap64 (((rd_T26 x269000_1 t305).f3) + 1))))) := ⟨by repeat (first | (with_reducible first | exact HB.out | apply below_alloc | apply pw_below_drewN | apply below_drew1 | refine below_set ?_ (Nat.le_trans HL.out GB119.out) | refine below_set ?_ (IsS80.ge HI0.out) | refine below_set ?_ GE257.out | refine below_set ?_ GE268.out) | exact HB.out)⟩
        (try clear HO_269000)
        (try clear BK257)
        (try clear BK268)
        (try clear HI0)
        (try clear HK)
        (try clear HB)
        generalize (w123.setCell ⟨go119, (t305 : Int).toNat * 4 + 3, none⟩ (.int .i64 (wrap64 (((rd_T26 x269000_1 t305).f3) + 1)))) = w125 at n0_ n1_ n2_ n3_ n4_ n5_ ⊢
        have HO_269000 := n0_
        have BK257 := n1_
        have BK268 := n2_
        have HI0 := n3_
        have HK := n4_
        have HB := n5_
        clear n0_ n1_ n2_ n3_ n4_ n5_
        have hnb126 := NB268_257.out
        have hnc126 := NB257_268.out
        have hnb127 := NB268_0.out
        have hnc127 := NB0_268.out
        obtain ⟨hcz128_0, hcz128_1, hcz128_2, hcz128_3⟩ := cz4 BK268
        obtain ⟨hfz128_0, hfz128_1, hfz128_2, hfz128_3⟩ := fz4 BK268
        have hnb129 := NB257_0.out
        have hnc129 := NB0_257.out
        obtain ⟨hcz130_0, hcz130_1, hcz130_2, hcz130_3⟩ := cz4 BK257
        obtain ⟨hfz130_0, hfz130_1, hfz130_2, hfz130_3⟩ := fz4 BK257
        try go_wp2
        refine bodyPost_ret (results_cell_row rfl _ _ gb257 36 #[.slice (some ⟨go119, 0, none⟩) x269000_1.length co122, .int .i64 x269001_1, .int .i64 x269002_1, .int .i64 x269003_1] (0, 0) _ rfl (by (with_reducible repeat (first | refine blk_drewN ?_ _ | refine blk_drew ?_ | refine blk_alloc ?_ _)); refine blk_put (cs := #[.slice (some ⟨go119, 0, none⟩) x269000_1.length co122, .int .i64 x269001_1, .int .i64 x269002_1, .int .i64 0]) ?_ 3 _ rfl; (with_reducible repeat (first | refine blk_drewN ?_ _ | refine blk_drew ?_ | refine blk_alloc ?_ _)); refine blk_put (cs := #[.slice (some ⟨go119, 0, none⟩) x269000_1.length co122, .int .i64 x269001_1, .int .i64 0, .int .i64 0]) ?_ 2 _ rfl; (with_reducible repeat (first | refine blk_drewN ?_ _ | refine blk_drew ?_ | refine blk_alloc ?_ _)); refine blk_put (cs := #[.slice (some ⟨go119, 0, none⟩) x269000_1.length co122, .int .i64 0, .int .i64 0, .int .i64 0]) ?_ 1 _ rfl; (with_reducible repeat (first | refine blk_drewN ?_ _ | refine blk_drew ?_ | refine blk_alloc ?_ _)); refine blk_put (cs := #[.slice none 0 0, .int .i64 0, .int .i64 0, .int .i64 0]) ?_ 0 _ rfl; (with_reducible repeat (first | refine blk_drewN ?_ _ | refine blk_drew ?_ | refine blk_alloc ?_ _)); exact BK257.out) Tryd.underlying36 rfl (by kernel_rfl)) rfl ?_
        exact ⟨_, by first | rfl | (simp [errW_none, errW_some] <;> rfl) | (simp [*, errW_none, errW_some] <;> rfl), by (with_reducible repeat (first | apply Kd.R_alloc | apply Kd.R_drewN | apply Kd.R_drew)); exact Kd.R_mono (Kd.R_far (p := ⟨gb257, 3, none⟩) (Kd.R_far (p := ⟨gb257, 2, none⟩) (Kd.R_far (p := ⟨gb257, 1, none⟩) (Kd.R_far (p := ⟨gb257, 0, none⟩) (Kd.R_types HO_269000.out BK257.out (by decide)) (fun _ hk => hk.2) (.slice (some ⟨go119, 0, none⟩) x269000_1.length co122)) (fun _ hk => hk.2) (.int .i64 x269001_1)) (fun _ hk => hk.2) (.int .i64 x269002_1)) (fun _ hk => hk.2) (.int .i64 x269003_1)) (fun _ hk => trivial), by repeat (first | (with_reducible first | exact HI0.out | apply IsS80.alloc | apply IsS80.drewN | apply IsS80.drew | apply IsS80.set_1 | apply IsS80.set_2 | refine IsS80.far ?_ NB0_257.out _ | refine IsS80.far ?_ NB0_268.out _) | exact HI0.out), by repeat (first | (with_reducible first | exact HB.out | apply below_alloc | apply pw_below_drewN | apply below_drew1 | refine below_set ?_ (IsS80.ge HI0.out) | refine below_set ?_ GE257.out | refine below_set ?_ GE268.out) | exact HB.out), by repeat (first | (with_reducible first | exact HK.out | apply KeepBut.set_ | apply keep_drewN | apply keep_drew | apply keep_alloc | refine keep_far ?_ GW257.out _ | refine keep_far ?_ GW268.out _) | exact HK.out)⟩
       ·
        rw [if_neg c118] at H
        exact absurd H (by simp)
      ·
       rw [if_neg c117] at H
       exact absurd H (by simp)
     ·
      rw [if_neg c115] at H
      have c115b0 : (t299 == 1) = false := beq_eq_false_iff_ne.mpr c115
      have c115b1 : (t299 != 1) = true := bne_iff_ne.mpr c115
      by_cases c131 : t299 = 2
      ·
       rw [if_pos c131] at H
       have c131b0 : (t299 == 2) = true := beq_iff_eq.mpr c131
       have c131b1 : (t299 != 2) = false := bne_eq_false_iff_eq.mpr c131
       clear c131
       replace H := Option.bind_eq_some_iff.mp H
       obtain ⟨⟨t310, t311, t312⟩, A1320, H⟩ := H
       replace H : (some (x269000_1, x269001_1, x269002_1, wrap64 (x269003_1 + (wrap64 (t310 - 1))), t311, t312)) = some (r1, r2, r3, r4, r5, r6) := H
       have A132 := Aside0.mk A1320
       clear A1320
       simp only [Option.some.injEq, Prod.mk.injEq] at H
       obtain ⟨rfl, rfl, rfl, rfl, rfl, rfl⟩ := H
       try go_wp2_with (first | ((with_reducible refine gate_callee (f := 66) rfl ?_); refine gL (some 43) rfl rfl Tryd.func66 (by kernel_rfl) rfl #[.pointer (some ⟨g, 0, none⟩), .int .i64 40] rfl ?_; (with_reducible refine (spec_l1Cur_pick.calls g s0_0 x1001_1 x1002_1 40 t299 t300 t301 w0 _ ?side1 ?side2 A102.out).mono ?_); (case side1 => repeat (first | (with_reducible first | exact HI0.out | apply IsS80.alloc | apply IsS80.drewN | apply IsS80.drew | apply IsS80.set_1 | apply IsS80.set_2 | refine IsS80.far ?_ NB0_257.out _ | refine IsS80.far ?_ NB0_268.out _) | exact HI0.out)); (case side2 => repeat (first | (with_reducible first | exact HB.out | apply below_alloc | apply pw_below_drewN | apply below_drew1 | refine below_set ?_ (IsS80.ge HI0.out) | refine below_set ?_ GE257.out | refine below_set ?_ GE268.out) | exact HB.out)); rintro e w133 ⟨rfl, hi, hb, hk⟩; refine ⟨_, rfl, ?_⟩; replace HO_269000 := Aside0.mk (Kd.R_mono (Kd.R_keep (IsS80.apart (show IsS80 w0 _ g s0_0 x1001_1 x1002_1 from by repeat (first | (with_reducible first | exact HI0.out | apply IsS80.alloc | apply IsS80.drewN | apply IsS80.drew | apply IsS80.set_1 | apply IsS80.set_2 | refine IsS80.far ?_ NB0_257.out _ | refine IsS80.far ?_ NB0_268.out _) | exact HI0.out)) (rr HO_269000.out) (by decide)) hk (fun _ h => h.2)) (fun _ h => h.1)); replace BK257 := Aside0.mk (KeepBut.blk hk (g' := gb257) (o := .cells #[.slice none 0 0, .int .i64 0, .int .i64 0, .int .i64 0] 36 (0, 0)) (bk BK257) NB257_0.out (by simp)); replace BK268 := Aside0.mk (KeepBut.blk hk (g' := gb268) (o := .cells #[u269000, .int .i64 x269001_1, .int .i64 x269002_1, .int .i64 x269003_1] 36 (0, 0)) (bk BK268) NB268_0.out (by simp)); replace HK := Aside0.mk (KeepBut.trans (by repeat (first | (with_reducible first | exact HK.out | apply KeepBut.set_ | apply keep_drewN | apply keep_drew | apply keep_alloc | refine keep_far ?_ GW257.out _ | refine keep_far ?_ GW268.out _) | exact HK.out)) hk (.inl rfl)); replace HB := Aside0.mk (hb); replace HI0 := Aside0.mk (hi); (try clear hb); (try clear hb2); (try clear hk); (try clear hi)))
       have n0_ := Aside0.mk (Kd.R_drew HO_269000.out)
       have n1_ := Aside0.mk (blk_drew BK257.out)
       have n2_ := Aside0.mk (blk_drew BK268.out)
       have n3_ := Aside0.mk (IsS80.drew HI0.out)
       have n4_ := Aside0.mk (keep_drew HK.out)
       have n5_ := Aside0.mk (below_drew1 HB.out)
       clear HO_269000
       clear BK257
       clear BK268
       clear HI0
       clear HK
       clear HB
       have HO_269000 := n0_
       have BK257 := n1_
       have BK268 := n2_
       have HI0 := n3_
       have HK := n4_
       have HB := n5_
       clear n0_ n1_ n2_ n3_ n4_ n5_
       refine start_ (n := 8) (S := fun w' => w'.cell? ⟨gb268, 0, none⟩ = some (u269000) ∧ w'.cell? ⟨gb268, 1, none⟩ = some (.int .i64 x269001_1) ∧ w'.cell? ⟨gb268, 2, none⟩ = some (.int .i64 x269002_1) ∧ w'.cell? ⟨gb268, 3, none⟩ = some (.int .i64 x269003_1)) (ds := [7]) #[false, false, false, false, false, false, false, false] (by kernel_rfl) rfl rfl ⟨(blk_cell BK268.out 0).trans rfl, (blk_cell BK268.out 1).trans rfl, (blk_cell BK268.out 2).trans rfl, (blk_cell BK268.out 3).trans rfl⟩ (fun hHeld => ?_); refine with_tabW spec_l1Cur_ring.tab17 spec_l1Cur_ring.bits17 (fun HT_ HW_ => ?_)
       generalize w133.drew = w134 at HO_269000 BK257 BK268 HI0 HK HB hHeld ⊢
       refine pureS 0 70 HT_.out ?_
       refine pureS 2 72 HT_.out ?_
       refine takeS 1 71 HT_.out HW_.out hHeld (hr := by rintro w' ⟨s0, s1, s2, s3⟩; go_simp; with_reducible rfl) (h := ?_)
       refine one_ (i := 3) (N := some 73) #[true, true, true, true, false, false, false, false] rfl rfl (one_of HT_.out (by kernel_rfl)) (by decide) (fun K hK => ?_)
       refine goes_ Tryd.func66 (by kernel_rfl) rfl #[.pointer (some ⟨g, 0, none⟩), .int .i64 3] (by rfl) rfl rfl (by (try simp only [List.map_toArray, List.map_cons, List.map_nil]); first | done | rfl | (simp only [List.length_drop, List.length_take]; rfl)) ?_
       with_reducible refine (spec_l1Cur_pick.calls g s0_0 t300 t301 3 t310 t311 t312 w0 _ ?side1 ?side2 A132.out).mono ?_
       (case side1 => repeat (first | (with_reducible first | exact HI0.out | apply IsS80.alloc | apply IsS80.drewN | apply IsS80.drew | apply IsS80.set_1 | apply IsS80.set_2 | refine IsS80.far ?_ NB0_257.out _ | refine IsS80.far ?_ NB0_268.out _) | exact HI0.out))
       (case side2 => repeat (first | (with_reducible first | exact HB.out | apply below_alloc | apply pw_below_drewN | apply below_drew1 | refine below_set ?_ (IsS80.ge HI0.out) | refine below_set ?_ GE257.out | refine below_set ?_ GE268.out) | exact HB.out))
       rintro e w135 ⟨rfl, hi, hb, hk⟩
       refine ⟨_, rfl, ?_⟩
       have n0_ := Aside0.mk (Kd.R_mono (Kd.R_keep (IsS80.apart (show IsS80 w0 _ g s0_0 t300 t301 from by repeat (first | (with_reducible first | exact HI0.out | apply IsS80.alloc | apply IsS80.drewN | apply IsS80.drew | apply IsS80.set_1 | apply IsS80.set_2 | refine IsS80.far ?_ NB0_257.out _ | refine IsS80.far ?_ NB0_268.out _) | exact HI0.out)) (rr HO_269000.out) (by decide)) hk (fun _ h => h.2)) (fun _ h => h.1))
       have n1_ := Aside0.mk (KeepBut.blk hk (g' := gb257) (o := .cells #[.slice none 0 0, .int .i64 0, .int .i64 0, .int .i64 0] 36 (0, 0)) (bk BK257) NB257_0.out (by simp))
       have n2_ := Aside0.mk (KeepBut.blk hk (g' := gb268) (o := .cells #[u269000, .int .i64 x269001_1, .int .i64 x269002_1, .int .i64 x269003_1] 36 (0, 0)) (bk BK268) NB268_0.out (by simp))
       have n3_ := Aside0.mk (KeepBut.trans (by repeat (first | (with_reducible first | exact HK.out | apply KeepBut.set_ | apply keep_drewN | apply keep_drew | apply keep_alloc | refine keep_far ?_ GW257.out _ | refine keep_far ?_ GW268.out _) | exact HK.out)) hk (.inl rfl))
       have n4_ := Aside0.mk (hb)
       have n5_ := Aside0.mk (hi)
       clear HO_269000
       clear BK257
       clear BK268
       clear HK
       clear HB
       clear HI0
       have HO_269000 := n0_
       have BK257 := n1_
       have BK268 := n2_
       have HK := n3_
       have HB := n4_
       have HI0 := n5_
       clear n0_ n1_ n2_ n3_ n4_ n5_
       (try clear hb)
       (try clear hb2)
       (try clear hk)
       (try clear hi)
       refine hK.out _ _ ⟨(blk_cell BK268.out 0).trans rfl, (blk_cell BK268.out 1).trans rfl, (blk_cell BK268.out 2).trans rfl, (blk_cell BK268.out 3).trans rfl⟩ (fun hHeld => ?_)
       clear hK K
       refine norm_ (a' := ?_) ?_ ?_
       rotate_left
       ·
        show Act.put _ (some 73) _ = _
        simp only [Act.put, List.setIfInBounds_toArray, List.set_cons_zero, List.set_cons_succ, i64_w, i32_w]
        rfl
       refine pureS 4 74 HT_.out ?_
       refine pureS 5 75 HT_.out ?_
       refine pureS 6 76 HT_.out ?_
       refine last_ (i := 7) (N := none) #[true, true, true, true, true, true, true, true] rfl rfl (one_of HT_.out (by kernel_rfl)) (by decide) (fun K hK => ?_)
       have hs136 : w135.cell? ⟨gb268, 3, none⟩ = some (.int .i64 x269003_1) := (blk_cell BK268.out 3).trans rfl
       have hfs136 := blk_frozen BK268.out 3
       have hns136_0 := NB257_268.out
       have hms136_0 := NB268_257.out
       refine skip_ (w1 := ?_) (by rfl) rfl ?_ ?_
       rotate_left
       ·
        go_simp
        rfl
       refine hK.out _ _ ?_
       clear hK K
       refine done_ (done_of HT_.out (by kernel_rfl)) ?_
       have hnb137 := NB268_257.out
       have hnc137 := NB257_268.out
       have hnb138 := NB268_0.out
       have hnc138 := NB0_268.out
       obtain ⟨hcz139_0, hcz139_1, hcz139_2, hcz139_3⟩ := cz4 BK268
       obtain ⟨hfz139_0, hfz139_1, hfz139_2, hfz139_3⟩ := fz4 BK268
       obtain ⟨Ao140, co140, eo140⟩ := Kd.R_slice HO_269000.out
       subst eo140
       have hnb141 := NB257_0.out
       have hnc141 := NB0_257.out
       obtain ⟨hcz142_0, hcz142_1, hcz142_2, hcz142_3⟩ := cz4 BK257
       obtain ⟨hfz142_0, hfz142_1, hfz142_2, hfz142_3⟩ := fz4 BK257
       try go_wp2
       refine bodyPost_ret (results_cell_row rfl _ _ gb257 36 #[.slice Ao140 x269000_1.length co140, .int .i64 x269001_1, .int .i64 x269002_1, .int .i64 (wrap64 (x269003_1 + (wrap64 (t310 - 1))))] (0, 0) _ rfl (by (with_reducible repeat (first | refine blk_drewN ?_ _ | refine blk_drew ?_ | refine blk_alloc ?_ _)); refine blk_put (cs := #[.slice Ao140 x269000_1.length co140, .int .i64 x269001_1, .int .i64 x269002_1, .int .i64 0]) ?_ 3 _ rfl; (with_reducible repeat (first | refine blk_drewN ?_ _ | refine blk_drew ?_ | refine blk_alloc ?_ _)); refine blk_put (cs := #[.slice Ao140 x269000_1.length co140, .int .i64 x269001_1, .int .i64 0, .int .i64 0]) ?_ 2 _ rfl; (with_reducible repeat (first | refine blk_drewN ?_ _ | refine blk_drew ?_ | refine blk_alloc ?_ _)); refine blk_put (cs := #[.slice Ao140 x269000_1.length co140, .int .i64 0, .int .i64 0, .int .i64 0]) ?_ 1 _ rfl; (with_reducible repeat (first | refine blk_drewN ?_ _ | refine blk_drew ?_ | refine blk_alloc ?_ _)); refine blk_put (cs := #[.slice none 0 0, .int .i64 0, .int .i64 0, .int .i64 0]) ?_ 0 _ rfl; (with_reducible repeat (first | refine blk_drewN ?_ _ | refine blk_drew ?_ | refine blk_alloc ?_ _)); refine blk_far ?_ NB257_268.out _; (with_reducible repeat (first | refine blk_drewN ?_ _ | refine blk_drew ?_ | refine blk_alloc ?_ _)); exact BK257.out) Tryd.underlying36 rfl (by kernel_rfl)) rfl ?_
       exact ⟨_, by first | rfl | (simp [errW_none, errW_some] <;> rfl) | (simp [*, errW_none, errW_some] <;> rfl), by (with_reducible repeat (first | apply Kd.R_alloc | apply Kd.R_drewN | apply Kd.R_drew)); exact Kd.R_mono (Kd.R_far (p := ⟨gb257, 3, none⟩) (Kd.R_far (p := ⟨gb257, 2, none⟩) (Kd.R_far (p := ⟨gb257, 1, none⟩) (Kd.R_far (p := ⟨gb257, 0, none⟩) (Kd.R_far (p := ⟨gb268, 3, none⟩) (Kd.R_types (Kd.R_types HO_269000.out BK268.out (by decide)) BK257.out (by decide)) (fun _ hk => hk.1.2) (.int .i64 (wrap64 (x269003_1 + (wrap64 (t310 - 1)))))) (fun _ hk => hk.2) (.slice Ao140 x269000_1.length co140)) (fun _ hk => hk.2) (.int .i64 x269001_1)) (fun _ hk => hk.2) (.int .i64 x269002_1)) (fun _ hk => hk.2) (.int .i64 (wrap64 (x269003_1 + (wrap64 (t310 - 1)))))) (fun _ hk => trivial), by repeat (first | (with_reducible first | exact HI0.out | apply IsS80.alloc | apply IsS80.drewN | apply IsS80.drew | apply IsS80.set_1 | apply IsS80.set_2 | refine IsS80.far ?_ NB0_257.out _ | refine IsS80.far ?_ NB0_268.out _) | exact HI0.out), by repeat (first | (with_reducible first | exact HB.out | apply below_alloc | apply pw_below_drewN | apply below_drew1 | refine below_set ?_ (IsS80.ge HI0.out) | refine below_set ?_ GE257.out | refine below_set ?_ GE268.out) | exact HB.out), by repeat (first | (with_reducible first | exact HK.out | apply KeepBut.set_ | apply keep_drewN | apply keep_drew | apply keep_alloc | refine keep_far ?_ GW257.out _ | refine keep_far ?_ GW268.out _) | exact HK.out)⟩
      ·
       rw [if_neg c131] at H
       have c131b0 : (t299 == 2) = false := beq_eq_false_iff_ne.mpr c131
       have c131b1 : (t299 != 2) = true := bne_iff_ne.mpr c131
       simp only [Option.some.injEq, Prod.mk.injEq] at H
       obtain ⟨rfl, rfl, rfl, rfl, rfl, rfl⟩ := H
       go_wp2_with (first | ((with_reducible refine gate_callee (f := 66) rfl ?_); refine gL (some 43) rfl rfl Tryd.func66 (by kernel_rfl) rfl #[.pointer (some ⟨g, 0, none⟩), .int .i64 40] rfl ?_; (with_reducible refine (spec_l1Cur_pick.calls g s0_0 x1001_1 x1002_1 40 t299 t300 t301 w0 _ ?side1 ?side2 A102.out).mono ?_); (case side1 => repeat (first | (with_reducible first | exact HI0.out | apply IsS80.alloc | apply IsS80.drewN | apply IsS80.drew | apply IsS80.set_1 | apply IsS80.set_2 | refine IsS80.far ?_ NB0_257.out _ | refine IsS80.far ?_ NB0_268.out _) | exact HI0.out)); (case side2 => repeat (first | (with_reducible first | exact HB.out | apply below_alloc | apply pw_below_drewN | apply below_drew1 | refine below_set ?_ (IsS80.ge HI0.out) | refine below_set ?_ GE257.out | refine below_set ?_ GE268.out) | exact HB.out)); rintro e w143 ⟨rfl, hi, hb, hk⟩; refine ⟨_, rfl, ?_⟩; replace HO_269000 := Aside0.mk (Kd.R_mono (Kd.R_keep (IsS80.apart (show IsS80 w0 _ g s0_0 x1001_1 x1002_1 from by repeat (first | (with_reducible first | exact HI0.out | apply IsS80.alloc | apply IsS80.drewN | apply IsS80.drew | apply IsS80.set_1 | apply IsS80.set_2 | refine IsS80.far ?_ NB0_257.out _ | refine IsS80.far ?_ NB0_268.out _) | exact HI0.out)) (rr HO_269000.out) (by decide)) hk (fun _ h => h.2)) (fun _ h => h.1)); replace BK257 := Aside0.mk (KeepBut.blk hk (g' := gb257) (o := .cells #[.slice none 0 0, .int .i64 0, .int .i64 0, .int .i64 0] 36 (0, 0)) (bk BK257) NB257_0.out (by simp)); replace BK268 := Aside0.mk (KeepBut.blk hk (g' := gb268) (o := .cells #[u269000, .int .i64 x269001_1, .int .i64 x269002_1, .int .i64 x269003_1] 36 (0, 0)) (bk BK268) NB268_0.out (by simp)); replace HK := Aside0.mk (KeepBut.trans (by repeat (first | (with_reducible first | exact HK.out | apply KeepBut.set_ | apply keep_drewN | apply keep_drew | apply keep_alloc | refine keep_far ?_ GW257.out _ | refine keep_far ?_ GW268.out _) | exact HK.out)) hk (.inl rfl)); replace HB := Aside0.mk (hb); replace HI0 := Aside0.mk (hi); (try clear hb); (try clear hb2); (try clear hk); (try clear hi); have hnb144 := NB268_257.out; have hnc144 := NB257_268.out; have hnb145 := NB268_0.out; have hnc145 := NB0_268.out; obtain ⟨hcz146_0, hcz146_1, hcz146_2, hcz146_3⟩ := cz4 BK268; obtain ⟨hfz146_0, hfz146_1, hfz146_2, hfz146_3⟩ := fz4 BK268; obtain ⟨Ao147, co147, eo147⟩ := Kd.R_slice HO_269000.out; subst eo147; have hnb148 := NB257_0.out; have hnc148 := NB0_257.out; obtain ⟨hcz149_0, hcz149_1, hcz149_2, hcz149_3⟩ := cz4 BK257; obtain ⟨hfz149_0, hfz149_1, hfz149_2, hfz149_3⟩ := fz4 BK257))
       refine bodyPost_ret (results_cell_row rfl _ _ gb257 36 #[.slice Ao147 x269000_1.length co147, .int .i64 x269001_1, .int .i64 x269002_1, .int .i64 x269003_1] (0, 0) _ rfl (by (with_reducible repeat (first | refine blk_drewN ?_ _ | refine blk_drew ?_ | refine blk_alloc ?_ _)); refine blk_put (cs := #[.slice Ao147 x269000_1.length co147, .int .i64 x269001_1, .int .i64 x269002_1, .int .i64 0]) ?_ 3 _ rfl; (with_reducible repeat (first | refine blk_drewN ?_ _ | refine blk_drew ?_ | refine blk_alloc ?_ _)); refine blk_put (cs := #[.slice Ao147 x269000_1.length co147, .int .i64 x269001_1, .int .i64 0, .int .i64 0]) ?_ 2 _ rfl; (with_reducible repeat (first | refine blk_drewN ?_ _ | refine blk_drew ?_ | refine blk_alloc ?_ _)); refine blk_put (cs := #[.slice Ao147 x269000_1.length co147, .int .i64 0, .int .i64 0, .int .i64 0]) ?_ 1 _ rfl; (with_reducible repeat (first | refine blk_drewN ?_ _ | refine blk_drew ?_ | refine blk_alloc ?_ _)); refine blk_put (cs := #[.slice none 0 0, .int .i64 0, .int .i64 0, .int .i64 0]) ?_ 0 _ rfl; (with_reducible repeat (first | refine blk_drewN ?_ _ | refine blk_drew ?_ | refine blk_alloc ?_ _)); exact BK257.out) Tryd.underlying36 rfl (by kernel_rfl)) rfl ?_
       exact ⟨_, by first | rfl | (simp [errW_none, errW_some] <;> rfl) | (simp [*, errW_none, errW_some] <;> rfl), by (with_reducible repeat (first | apply Kd.R_alloc | apply Kd.R_drewN | apply Kd.R_drew)); exact Kd.R_mono (Kd.R_far (p := ⟨gb257, 3, none⟩) (Kd.R_far (p := ⟨gb257, 2, none⟩) (Kd.R_far (p := ⟨gb257, 1, none⟩) (Kd.R_far (p := ⟨gb257, 0, none⟩) (Kd.R_types HO_269000.out BK257.out (by decide)) (fun _ hk => hk.2) (.slice Ao147 x269000_1.length co147)) (fun _ hk => hk.2) (.int .i64 x269001_1)) (fun _ hk => hk.2) (.int .i64 x269002_1)) (fun _ hk => hk.2) (.int .i64 x269003_1)) (fun _ hk => trivial), by repeat (first | (with_reducible first | exact HI0.out | apply IsS80.alloc | apply IsS80.drewN | apply IsS80.drew | apply IsS80.set_1 | apply IsS80.set_2 | refine IsS80.far ?_ NB0_257.out _ | refine IsS80.far ?_ NB0_268.out _) | exact HI0.out), by repeat (first | (with_reducible first | exact HB.out | apply below_alloc | apply pw_below_drewN | apply below_drew1 | refine below_set ?_ (IsS80.ge HI0.out) | refine below_set ?_ GE257.out | refine below_set ?_ GE268.out) | exact HB.out), by repeat (first | (with_reducible first | exact HK.out | apply KeepBut.set_ | apply keep_drewN | apply keep_drew | apply keep_alloc | refine keep_far ?_ GW257.out _ | refine keep_far ?_ GW268.out _) | exact HK.out)⟩

/-! ### spec_DrawPutRecord: function 33 -/
def spec_DrawPutRecord.f (k : Nat) (l0 : List Int) : Option ((List (S26)) × Int × Int × Int × ByteArray) := (spec_l1Cur_ring.f k l0 0 0).bind fun bt315 => ((spec_l1Cur_pick.f l0 bt315.2.2.2.2.1 bt315.2.2.2.2.2 14).bind fun bt323 => ((spec_l1Cur_text.f k l0 bt323.2.1 bt323.2.2 bt323.1).bind fun bt326 => (some (bt315.1, bt315.2.1, bt315.2.2.1, bt315.2.2.2.1, bt326.1))))
theorem spec_DrawPutRecord.mono : ∀ a0 k, LeO (spec_DrawPutRecord.f k a0) (spec_DrawPutRecord.f (k + 1) a0) := by
 intro a0 k
 unfold spec_DrawPutRecord.f
 repeat' first
   | (with_reducible exact spec_l1Cur_ring.mono _ _ _ _)
   | (with_reducible exact spec_l1Cur_text.mono _ _ _ _ _)
   | (with_reducible exact LeO.refl _)
   | (with_reducible exact LeO.none _)
   | (with_reducible refine LeO.ite ?_ ?_)
   | (with_reducible refine LeO.bind ?_ (fun _ => ?_))
   | exact spec_l1Cur_ring.mono _ _ _ _
   | exact spec_l1Cur_text.mono _ _ _ _ _
   | exact LeO.none _
   | refine LeO.ite ?_ ?_
   | refine LeO.bind ?_ (fun _ => ?_)
set_option maxHeartbeats 8000000 in
set_option maxRecDepth 100000 in
theorem spec_DrawPutRecord.calls (k : Nat) (A0 : Option Addr) (c0 : Nat) (l0 : List Int) (r1 : List (S26)) (r2 : Int) (r3 : Int) (r4 : Int) (r5 : ByteArray) (w : World) (hr0 : Kd.C (Kd.int .u8) w A0 l0.length l0) (hc0 : l0.length ≤ c0) (h : spec_DrawPutRecord.f k l0 = some (r1, r2, r3, r4, r5)) :
  Calls Tryd.prog 33 #[.slice A0 l0.length c0] w fun e w' => ∃ v0_ : Value, e = .returned (.tuple #[.agg #[v0_, .int .i64 r2, .int .i64 r3, .int .i64 r4], .string r5]) ∧ Kd.R k26 26 w' w.heap.size (fun _ => True) v0_ r1 ∧ Below w.heap.size w w' := by
 have hu36 := Tryd.underlying36
 have hu80 := Tryd.underlying80
 have HR0 := Aside0.mk hr0
 have HC0 := Aside0.mk hc0
 clear hr0 hc0
 have HB := Aside0.mk (Below.refl w.heap.size w)
 have H : ((spec_l1Cur_ring.f k l0 0 0).bind fun bt315 => ((spec_l1Cur_pick.f l0 bt315.2.2.2.2.1 bt315.2.2.2.2.2 14).bind fun bt323 => ((spec_l1Cur_text.f k l0 bt323.2.1 bt323.2.2 bt323.1).bind fun bt326 => (some (bt315.1, bt315.2.1, bt315.2.2.1, bt315.2.2.2.1, bt326.1))))) = some (r1, r2, r3, r4, r5) := h
 clear h
 replace H := Option.bind_eq_some_iff.mp H
 obtain ⟨⟨t315, t318, t319, t320, t321, t322⟩, A20, H⟩ := H
 replace H : ((spec_l1Cur_pick.f l0 t321 t322 14).bind fun bt323 => ((spec_l1Cur_text.f k l0 bt323.2.1 bt323.2.2 bt323.1).bind fun bt326 => (some (t315, t318, t319, t320, bt326.1)))) = some (r1, r2, r3, r4, r5) := H
 have A2 := Aside0.mk A20
 clear A20
 replace H := Option.bind_eq_some_iff.mp H
 obtain ⟨⟨t323, t324, t325⟩, A30, H⟩ := H
 replace H : ((spec_l1Cur_text.f k l0 t324 t325 t323).bind fun bt326 => (some (t315, t318, t319, t320, bt326.1))) = some (r1, r2, r3, r4, r5) := H
 have A3 := Aside0.mk A30
 clear A30
 replace H := Option.bind_eq_some_iff.mp H
 obtain ⟨⟨t326, t327, t328⟩, A40, H⟩ := H
 replace H : (some (t315, t318, t319, t320, t326)) = some (r1, r2, r3, r4, r5) := H
 have A4 := Aside0.mk A40
 clear A40
 simp only [Option.some.injEq, Prod.mk.injEq] at H
 obtain ⟨rfl, rfl, rfl, rfl, rfl⟩ := H
 go_enter Tryd.func33, Tryd.ntmps33
 go_wp2_with (first | ((with_reducible refine gate_dst (N := 2) rfl ?_); refine box_event ?hg (N := 2) ?hd (cs := #[.slice none 0 0, .int .i64 0, .int .i64 0, .int .i64 0]) (t := 36) ?hr ?_; (case hd => rfl); (case hg => rfl); (case hr => first | (go_simp; done) | (go_simp; rfl)); intro gb313 hg w5 hbox hb; have BK313 := Aside0.mk (hbox); have GW313 := Aside0.mk ((by rw [hg]; exact (below_size (bs HB)) : w.heap.size ≤ gb313)); have GE313 := Aside0.mk ((by rw [hg]; exact (below_size (bs HB)) : w.heap.size ≤ gb313)); replace HB := Aside0.mk (below_step (bs HB) hb); clear hb hbox hg) | ((with_reducible refine gate_dst (N := 7) rfl ?_); refine box_event ?hg (N := 7) ?hd (cs := #[.slice A0 l0.length c0, .int .i64 0, .int .u64 0]) (t := 80) ?hr ?_; (case hd => rfl); (case hg => rfl); (case hr => first | (go_simp; done) | (go_simp; rfl)); intro gb314 hg w6 hbox hb; have BK314 := Aside0.mk (hbox); have GW314 := Aside0.mk ((by rw [hg]; exact (below_size (bs1 HB GE313)) : w.heap.size ≤ gb314)); have GE314 := Aside0.mk ((by rw [hg]; exact (below_size (bs1 HB GE313)) : w.heap.size ≤ gb314)); replace HB := Aside0.mk (below_step (bs1 HB GE313) hb); have NB313_314 := Aside0.mk ((bn BK313 hg : gb313 ≠ gb314)); have NB314_313 := Aside0.mk ((bm BK313 hg : gb314 ≠ gb313)); replace BK313 := nb BK313 hb; clear hb hbox hg; have HI314 := Aside0.mk (show IsS80 w w6 gb314 l0 0 0 from ⟨_, _, (bk BK314), GE314.out, HR0.out⟩)) | ((with_reducible refine gate_callee (f := 64) rfl ?_); refine gL (some 9) rfl rfl Tryd.func64 (by kernel_rfl) rfl #[.pointer (some ⟨gb314, 0, none⟩)] rfl ?_; (with_reducible refine (spec_l1Cur_ring.calls k gb314 l0 0 0 t315 t318 t319 t320 t321 t322 w _ ?side1 ?side2 A2.out).mono ?_); (case side1 => repeat (first | (with_reducible first | exact HI314.out | apply IsS80.alloc | apply IsS80.drewN | apply IsS80.drew | apply IsS80.set_1 | apply IsS80.set_2 | refine IsS80.far ?_ NB314_313.out _) | exact HI314.out)); (case side2 => repeat (first | (with_reducible first | exact HB.out | apply below_alloc | apply pw_below_drewN | apply below_drew1 | refine below_set ?_ (IsS80.ge HI314.out) | refine below_set ?_ GE313.out) | exact HB.out)); rintro e w7 ⟨v316, rfl, ho0, hi, hb, hk⟩; refine ⟨_, rfl, ?_⟩; replace BK313 := Aside0.mk (KeepBut.blk hk (g' := gb313) (o := .cells #[.slice none 0 0, .int .i64 0, .int .i64 0, .int .i64 0] 36 (0, 0)) (bk BK313) NB313_314.out (by simp)); have HO317 := Aside0.mk (Kd.R_lower ho0 (below_size (by repeat (first | (with_reducible first | exact HB.out | apply below_alloc | apply pw_below_drewN | apply below_drew1 | refine below_set ?_ (IsS80.ge HI314.out) | refine below_set ?_ GE313.out) | exact HB.out)))); replace HB := Aside0.mk (hb); replace HI314 := Aside0.mk (hi); (try clear hb); (try clear hb2); (try clear hk); (try clear hi); (try clear ho0)) | ((with_reducible refine gate_callee (f := 66) rfl ?_); refine gL (some 12) rfl rfl Tryd.func66 (by kernel_rfl) rfl #[.pointer (some ⟨gb314, 0, none⟩), .int .i64 14] rfl ?_; (with_reducible refine (spec_l1Cur_pick.calls gb314 l0 t321 t322 14 t323 t324 t325 w _ ?side1 ?side2 A3.out).mono ?_); (case side1 => repeat (first | (with_reducible first | exact HI314.out | apply IsS80.alloc | apply IsS80.drewN | apply IsS80.drew | apply IsS80.set_1 | apply IsS80.set_2 | refine IsS80.far ?_ NB314_313.out _) | exact HI314.out)); (case side2 => repeat (first | (with_reducible first | exact HB.out | apply below_alloc | apply pw_below_drewN | apply below_drew1 | refine below_set ?_ (IsS80.ge HI314.out) | refine below_set ?_ GE313.out) | exact HB.out)); rintro e w8 ⟨rfl, hi, hb, hk⟩; refine ⟨_, rfl, ?_⟩; replace BK313 := Aside0.mk (KeepBut.blk hk (g' := gb313) (o := .cells #[.slice none 0 0, .int .i64 0, .int .i64 0, .int .i64 0] 36 (0, 0)) (bk BK313) NB313_314.out (by simp)); replace HO317 := Aside0.mk (Kd.R_mono (Kd.R_keep (IsS80.apart (show IsS80 w _ gb314 l0 t321 t322 from by repeat (first | (with_reducible first | exact HI314.out | apply IsS80.alloc | apply IsS80.drewN | apply IsS80.drew | apply IsS80.set_1 | apply IsS80.set_2 | refine IsS80.far ?_ NB314_313.out _) | exact HI314.out)) (rr HO317.out) (by decide)) hk (fun _ h => h.2)) (fun _ h => h.1)); replace HB := Aside0.mk (hb); replace HI314 := Aside0.mk (hi); (try clear hb); (try clear hb2); (try clear hk); (try clear hi)) | ((with_reducible refine gate_callee (f := 65) rfl ?_); refine gL (some 13) rfl rfl Tryd.func65 (by kernel_rfl) rfl #[.pointer (some ⟨gb314, 0, none⟩), .int .i64 t323] rfl ?_; (with_reducible refine (spec_l1Cur_text.calls k gb314 l0 t324 t325 t323 t326 t327 t328 w _ ?side1 ?side2 A4.out).mono ?_); (case side1 => repeat (first | (with_reducible first | exact HI314.out | apply IsS80.alloc | apply IsS80.drewN | apply IsS80.drew | apply IsS80.set_1 | apply IsS80.set_2 | refine IsS80.far ?_ NB314_313.out _) | exact HI314.out)); (case side2 => repeat (first | (with_reducible first | exact HB.out | apply below_alloc | apply pw_below_drewN | apply below_drew1 | refine below_set ?_ (IsS80.ge HI314.out) | refine below_set ?_ GE313.out) | exact HB.out)); rintro e w9 ⟨rfl, hi, hb, hk⟩; refine ⟨_, rfl, ?_⟩; replace BK313 := Aside0.mk (KeepBut.blk hk (g' := gb313) (o := .cells #[.slice none 0 0, .int .i64 0, .int .i64 0, .int .i64 0] 36 (0, 0)) (bk BK313) NB313_314.out (by simp)); replace HO317 := Aside0.mk (Kd.R_mono (Kd.R_keep (IsS80.apart (show IsS80 w _ gb314 l0 t324 t325 from by repeat (first | (with_reducible first | exact HI314.out | apply IsS80.alloc | apply IsS80.drewN | apply IsS80.drew | apply IsS80.set_1 | apply IsS80.set_2 | refine IsS80.far ?_ NB314_313.out _) | exact HI314.out)) (rr HO317.out) (by decide)) hk (fun _ h => h.2)) (fun _ h => h.1)); replace HB := Aside0.mk (hb); replace HI314 := Aside0.mk (hi); (try clear hb); (try clear hb2); (try clear hk); (try clear hi); obtain ⟨Ao10, co10, eo10⟩ := Kd.R_slice HO317.out; subst eo10; have hnb11 := NB313_314.out; have hnc11 := NB314_313.out; obtain ⟨hcz12_0, hcz12_1, hcz12_2, hcz12_3⟩ := cz4 BK313; obtain ⟨hfz12_0, hfz12_1, hfz12_2, hfz12_3⟩ := fz4 BK313))
 refine bodyPost_ret (results_ct rfl _ _ gb313 36 #[.slice Ao10 t315.length co10, .int .i64 t318, .int .i64 t319, .int .i64 t320] (0, 0) _ rfl (by (with_reducible repeat (first | refine blk_drewN ?_ _ | refine blk_drew ?_ | refine blk_alloc ?_ _)); refine blk_put (cs := #[.slice Ao10 t315.length co10, .int .i64 t318, .int .i64 t319, .int .i64 0]) ?_ 3 _ rfl; (with_reducible repeat (first | refine blk_drewN ?_ _ | refine blk_drew ?_ | refine blk_alloc ?_ _)); refine blk_put (cs := #[.slice Ao10 t315.length co10, .int .i64 t318, .int .i64 0, .int .i64 0]) ?_ 2 _ rfl; (with_reducible repeat (first | refine blk_drewN ?_ _ | refine blk_drew ?_ | refine blk_alloc ?_ _)); refine blk_put (cs := #[.slice Ao10 t315.length co10, .int .i64 0, .int .i64 0, .int .i64 0]) ?_ 1 _ rfl; (with_reducible repeat (first | refine blk_drewN ?_ _ | refine blk_drew ?_ | refine blk_alloc ?_ _)); refine blk_put (cs := #[.slice none 0 0, .int .i64 0, .int .i64 0, .int .i64 0]) ?_ 0 _ rfl; (with_reducible repeat (first | refine blk_drewN ?_ _ | refine blk_drew ?_ | refine blk_alloc ?_ _)); exact BK313.out) Tryd.underlying36 rfl (by kernel_rfl)) rfl ?_
 exact ⟨_, by first | rfl | (simp [errW_none, errW_some] <;> rfl) | (simp [*, errW_none, errW_some] <;> rfl), by (with_reducible repeat (first | apply Kd.R_alloc | apply Kd.R_drewN | apply Kd.R_drew)); exact Kd.R_mono (Kd.R_far (p := ⟨gb313, 3, none⟩) (Kd.R_far (p := ⟨gb313, 2, none⟩) (Kd.R_far (p := ⟨gb313, 1, none⟩) (Kd.R_far (p := ⟨gb313, 0, none⟩) (Kd.R_types HO317.out BK313.out (by decide)) (fun _ hk => hk.2) (.slice Ao10 t315.length co10)) (fun _ hk => hk.2) (.int .i64 t318)) (fun _ hk => hk.2) (.int .i64 t319)) (fun _ hk => hk.2) (.int .i64 t320)) (fun _ hk => trivial), by repeat (first | (with_reducible first | exact HB.out | apply below_alloc | apply pw_below_drewN | apply below_drew1 | refine below_set ?_ (IsS80.ge HI314.out) | refine below_set ?_ GE313.out) | exact HB.out)⟩

/-! ### impl_Slot: function 75 -/
-- slices.Clone: a copy in a row of the call's own; of nil: nil.
def impl_Slot.f (l0 : List (S26)) : Option (List (S26)) := if l0.length * 40 ≤ 140737488355328 then some l0 else none
set_option maxRecDepth 100000 in
theorem impl_Slot.calls (A0 : Option Addr) (c0 : Nat) (l0 : List (S26)) (r : List (S26)) (w : World) (hr0 : Kd.C k26 w A0 l0.length l0) (hc0 : l0.length ≤ c0) (h : impl_Slot.f l0 = some r) :
    Calls Tryd.prog 75 #[.slice A0 l0.length c0] w fun e w' => ∃ v0_ : Value, e = .returned (v0_) ∧ Kd.R k26 26 w' w.heap.size (fun _ => True) v0_ r ∧ Below w.heap.size w w' := by
  have hus := Tryd.underlying34
  have huu : ∀ w, Sem.run Tryd.prog (underlying 34) w = .ok (TypeDesc.slice 26) w := run_underlying hus
  have hee : ∀ (w : World) (a : Option Addr) (n c n' c' : Nat), (binOp .eql 34 (.slice a n c) (.slice none n' c')).run Tryd.prog w = .ok (.bool a.isNone) w := fun w a n c n' c' => Lib.run_eql_slice_nil w _ _ a n c n' c' hus
  unfold impl_Slot.f at h
  by_cases hl : l0.length * 40 ≤ 140737488355328
  · rw [if_pos hl] at h
    obtain rfl := Option.some.inj h
    have hR := Aside0.mk hr0
    have hL := Aside0.mk hl
    clear hr0 h hl
    rcases A0 with _ | ad
    · have h0 : l0 = [] := by
        rcases Nat.eq_zero_or_pos l0.length with h0 | h0
        · exact List.eq_nil_of_length_eq_zero h0
        · obtain ⟨ad, h, _⟩ := hR.out.2.2 h0
          cases h
      subst h0
      go_enter Tryd.func75, Tryd.ntmps75
      go_wp2
      go_ret
      exact ⟨_, rfl, Kd.R_nil _ _ _ _ _, Below.refl _ _⟩
    · go_enter Tryd.func75, Tryd.ntmps75
      go_wp2_with (first
        | ((with_reducible refine gate_dst (N := 5) rfl ?_); refine Kd.R_lit k26 _ 26 ?hg (N := 5) ?hd (xs := ([] : List (S26))) (inner := []) (ok := fun _ => True) (okp := fun _ => True) ?hr ?hp (fun _ hk => hk) trivial (Below.refl _ _) (Nat.le_refl _) (by simp) ?_; (case hd => rfl); (case hg => rfl); (case hr => first | (go_simp; done) | (go_simp; rfl)); (case hp => exact (Reps.none _ _)); intro v391 w4 ho5 hb hg_ hnew_; clear hg_ hnew_; have n0_ := Aside0.mk (Kd.R_lower ho5 (Nat.le_refl _)); have n1_ := Aside0.mk hb; clear ho5 hb)
        | ((with_reducible refine gate_builtin (b := .append) (xs := #[.tmp 5, .tmp 6]) rfl ?_); at_builtin; refine Kd.R_append_rows k26 (w0 := w) w.heap.size rfl (.tmp 5) (.tmp 6) 34 26 (.agg #[(.int .i64 0), (.int .i64 0), (.string ⟨#[]⟩), (.int .i64 0)]) 40 rfl hus info26 rfl (by decide) (by omega) v391 ([] : List (S26)) l0 _ _ _ (fun _ => True) (fun _ => False) rfl rfl ?aO ?aR (fun _ _ h => h) (fun _ h => h.elim) ?aF ?aB ?aS ?aL ?_; (case aR => exact Kd.C_below hR.out n1_.out); (case aB => exact n1_.out); (case aF => exact (fun _ _ => trivial)); (case aO => exact n0_.out); (case aS => exact n1_.out.size); (case aL => have := hL.out; simp only [List.length_nil, Nat.zero_add]; omega); intro v394 w6 ho hb hg hat; rw [List.nil_append] at ho; have m0_ := Aside0.mk ho; have m1_ := Aside0.mk hb; clear n0_ n1_ ho hb hg hat))
      go_ret
      exact ⟨_, rfl, m0_.out, m1_.out⟩
  · rw [if_neg hl] at h
    cases h

end Go.Proofs.YthlifcbkpafofaaDoor.G
