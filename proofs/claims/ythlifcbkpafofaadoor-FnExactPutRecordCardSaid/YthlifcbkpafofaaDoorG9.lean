-- Printed by a program of this session (drive.py, by way of the kit's print). Not trusted: Lean checks it.
import Derived.Test.YthlifcbkpafofaaDoorG0
import Derived.Test.YthlifcbkpafofaaDoorG2
import Derived.Test.YthlifcbkpafofaaDoorG3
import Derived.Test.YthlifcbkpafofaaDoorG4
import Derived.Test.YthlifcbkpafofaaDoorG6
namespace Go.Proofs.YthlifcbkpafofaaDoor.G
open Go.RowKit Go.Proofs.YthlifcbkpafofaaDoorW.PrintWords Go.Proofs.YthlifcbkpafofaaDoorW.PrintLast Go.Proofs.YthlifcbkpafofaaDoorW.PrintMore
attribute [local go_sem] max2_int min2_int max_two min_two max_three min_three max_four min_four   -- for this text's walks alone
set_option linter.unusedVariables false
set_option linter.unusedSimpArgs false

/-! ### impl_PutRecord: function 34 -/
def impl_PutRecord.j0 : Nat → ByteArray → Int → Bool → List (S26) → Int → Int → Int → Option ((List (S26)) × Int × Int × Int × Bool)
 | 0, _, _, _, _, _, _, _ => none
 | k + 1, x1, x6, x33, x388000, x388001, x388002, x388003 => if x33 = true then (some (([] : List (S26)), 0, 0, 0, false)) else ((impl_ownRing.f x388000 x388001 x388002 x388003).bind fun bt390 => ((impl_SlotSum.f k x388002 x388003 x1 0).bind fun t398 => (if x6 = 0 then (none) else (if 0 ≤ (Int.tmod x388001 x6) then (if (Int.tmod x388001 x6) < (bt390.1.length : Int) then (some ((bt390.1.set ((Int.tmod x388001 x6) : Int).toNat (⟨x388002, x388003, x1, t398⟩ : S26)), wrap64 (bt390.2.1 + 1), wrap64 ((wrap64 (Int.tdiv (wrap64 (bt390.2.1 + 1)) x6)) + 1), bt390.2.2.2, true)) else (none)) else (none)))))
def impl_PutRecord.f (k : Nat) (l0_0 : List (S26)) (a0_1 : Int) (a0_2 : Int) (a0_3 : Int) (a1 : ByteArray) : Option ((List (S26)) × Int × Int × Int × Bool) := (impl_GoodRing.f k l0_0 a0_1 a0_2 a0_3).bind fun t389 => (if t389 = true then (if (a1.size : Int) > 12 then (impl_PutRecord.j0 k a1 (l0_0.length : Int) true l0_0 a0_1 a0_2 a0_3) else (if (wrap64 (a0_1 - a0_3)) = (l0_0.length : Int) then (impl_PutRecord.j0 k a1 (l0_0.length : Int) true l0_0 a0_1 a0_2 a0_3) else (impl_PutRecord.j0 k a1 (l0_0.length : Int) (a0_1 == 10000000) l0_0 a0_1 a0_2 a0_3))) else (impl_PutRecord.j0 k a1 (l0_0.length : Int) true l0_0 a0_1 a0_2 a0_3))
theorem impl_PutRecord.mono_l : ∀ k, (∀ y0 y1 y2 y3 y4 y5 y6, LeO (impl_PutRecord.j0 k y0 y1 y2 y3 y4 y5 y6) (impl_PutRecord.j0 (k + 1) y0 y1 y2 y3 y4 y5 y6))
 | 0 => fun _ _ _ _ _ _ _ r h => by simp [impl_PutRecord.j0] at h
 | k + 1 => by
  have ih0 := impl_PutRecord.mono_l k
  ·
   intro y0 y1 y2 y3 y4 y5 y6
   unfold impl_PutRecord.j0
   repeat' first
   | (with_reducible exact ih0 _ _ _ _ _ _ _)
   | (with_reducible exact impl_GoodRing.mono _ _ _ _ _)
   | (with_reducible exact impl_SlotSum.mono _ _ _ _ _)
   | (with_reducible exact LeO.refl _)
   | (with_reducible exact LeO.none _)
   | (with_reducible refine LeO.ite ?_ ?_)
   | (with_reducible refine LeO.bind ?_ (fun _ => ?_))
   | exact ih0 _ _ _ _ _ _ _
   | exact impl_GoodRing.mono _ _ _ _ _
   | exact impl_SlotSum.mono _ _ _ _ _
   | exact LeO.none _
   | refine LeO.ite ?_ ?_
   | refine LeO.bind ?_ (fun _ => ?_)
theorem impl_PutRecord.mono : ∀ a0 a1 a2 a3 a4 k, LeO (impl_PutRecord.f k a0 a1 a2 a3 a4) (impl_PutRecord.f (k + 1) a0 a1 a2 a3 a4) := by
 intro a0 a1 a2 a3 a4 k
 have ih0 := impl_PutRecord.mono_l k
 unfold impl_PutRecord.f
 repeat' first
   | (with_reducible exact ih0 _ _ _ _ _ _ _)
   | (with_reducible exact impl_GoodRing.mono _ _ _ _ _)
   | (with_reducible exact impl_SlotSum.mono _ _ _ _ _)
   | (with_reducible exact LeO.refl _)
   | (with_reducible exact LeO.none _)
   | (with_reducible refine LeO.ite ?_ ?_)
   | (with_reducible refine LeO.bind ?_ (fun _ => ?_))
   | exact ih0 _ _ _ _ _ _ _
   | exact impl_GoodRing.mono _ _ _ _ _
   | exact impl_SlotSum.mono _ _ _ _ _
   | exact LeO.none _
   | refine LeO.ite ?_ ?_
   | refine LeO.bind ?_ (fun _ => ?_)
def impl_PutRecord.T7 : Bool × List (List Nat × List Nat) := (true, [([], []), ([0], [0]), ([], []), ([2], [2]), ([], []), ([3, 4], [3, 4]), ([], []), ([1, 5, 0, 1, 2, 3, 4, 5, 6], [1, 5]), ([7, 6, 0, 1, 2, 3, 4, 5, 6], [6, 7])])
def impl_PutRecord.B7 : List Nat := [0, 1, 0, 4, 0, 28, 0, 127, 255]
theorem impl_PutRecord.tab7 : rtab .any (opsOf Tryd.f34 7) = impl_PutRecord.T7 := by kernel_rfl
theorem impl_PutRecord.bits7 : waitsOk impl_PutRecord.T7.2 impl_PutRecord.B7 = true := by kernel_rfl
set_option maxHeartbeats 8000000 in
set_option maxRecDepth 100000 in
theorem impl_PutRecord.calls (k : Nat) (A0_0 : Option Addr) (c0_0 : Nat) (l0_0 : List (S26)) (a0_1 : Int) (a0_2 : Int) (a0_3 : Int) (a1 : ByteArray) (r1 : List (S26)) (r2 : Int) (r3 : Int) (r4 : Int) (r5 : Bool) (w : World) (hTab_ : Aside0 (Ito.TabW w)) (hr0_0 : Kd.C k26 w A0_0 l0_0.length l0_0) (hc0_0 : l0_0.length ≤ c0_0) (h : impl_PutRecord.f k l0_0 a0_1 a0_2 a0_3 a1 = some (r1, r2, r3, r4, r5)) :
  Calls Tryd.prog 34 #[.agg #[.slice A0_0 l0_0.length c0_0, .int .i64 a0_1, .int .i64 a0_2, .int .i64 a0_3], .string a1] w fun e w' => ∃ v0_ : Value, e = .returned (.tuple #[.agg #[v0_, .int .i64 r2, .int .i64 r3, .int .i64 r4], .bool r5]) ∧ Kd.R k26 26 w' w.heap.size (fun _ => True) v0_ r1 ∧ Below w.heap.size w w' := by
 have hu36 := Tryd.underlying36
 have hu26 := Tryd.underlying26
 have HR0_0 := Aside0.mk hr0_0
 have HC0_0 := Aside0.mk hc0_0
 clear hr0_0 hc0_0
 have HB := Aside0.mk (Below.refl w.heap.size w)
 have H : ((impl_GoodRing.f k l0_0 a0_1 a0_2 a0_3).bind fun t389 => (if t389 = true then (if (a1.size : Int) > 12 then (impl_PutRecord.j0 k a1 (l0_0.length : Int) true l0_0 a0_1 a0_2 a0_3) else (if (wrap64 (a0_1 - a0_3)) = (l0_0.length : Int) then (impl_PutRecord.j0 k a1 (l0_0.length : Int) true l0_0 a0_1 a0_2 a0_3) else (impl_PutRecord.j0 k a1 (l0_0.length : Int) (a0_1 == 10000000) l0_0 a0_1 a0_2 a0_3))) else (impl_PutRecord.j0 k a1 (l0_0.length : Int) true l0_0 a0_1 a0_2 a0_3))) = some (r1, r2, r3, r4, r5) := h
 clear h
 have HC3 := Aside0.mk H
 clear H
 go_enter Tryd.func34, Tryd.ntmps34
 go_upto_region 2 with (first | ((with_reducible refine gate_dst (N := 2) rfl ?_); (try (refine gate_guard (by rfl) ?_; dsimp only)); refine box_event ?hg (N := 2) ?hd (cs := #[.slice A0_0 l0_0.length c0_0, .int .i64 a0_1, .int .i64 a0_2, .int .i64 a0_3]) (t := 36) ?hr ?_; (case hd => rfl); (case hg => rfl); (case hr => first | (go_simp; done) | (go_simp; rfl)); intro gb387 hg w4 hbox hb; have BK387 := Aside0.mk (hbox); have GW387 := Aside0.mk ((by rw [hg]; exact (below_size (bs HB)) : w.heap.size ≤ gb387)); have GE387 := Aside0.mk ((by rw [hg]; exact (below_size (bs HB)) : w.heap.size ≤ gb387)); replace HB := Aside0.mk (below_step (bs HB) hb); clear hb hbox hg) | ((with_reducible refine gate_dst (N := 4) rfl ?_); (try (refine gate_guard (by rfl) ?_; dsimp only)); refine box_event ?hg (N := 4) ?hd (cs := #[.slice none 0 0, .int .i64 0, .int .i64 0, .int .i64 0]) (t := 36) ?hr ?_; (case hd => rfl); (case hg => rfl); (case hr => first | (go_simp; done) | (go_simp; rfl)); intro gb388 hg w5 hbox hb; have BK388 := Aside0.mk (hbox); have GW388 := Aside0.mk ((by rw [hg]; exact (below_size (bs1 HB GE387)) : w.heap.size ≤ gb388)); have GE388 := Aside0.mk ((by rw [hg]; exact (below_size (bs1 HB GE387)) : w.heap.size ≤ gb388)); replace HB := Aside0.mk (below_step (bs1 HB GE387) hb); have NB387_388 := Aside0.mk ((bn BK387 hg : gb387 ≠ gb388)); have NB388_387 := Aside0.mk ((bm BK387 hg : gb388 ≠ gb387)); replace BK387 := nb BK387 hb; clear hb hbox hg; have hnb6 := NB387_388.out; have hnc6 := NB388_387.out; obtain ⟨hcz7_0, hcz7_1, hcz7_2, hcz7_3⟩ := cz4 BK387; obtain ⟨hfz7_0, hfz7_1, hfz7_2, hfz7_3⟩ := fz4 BK387))
 (try simp only [Act.put, List.setIfInBounds_toArray, List.set_cons_zero, List.set_cons_succ])
 go_cut [33] (fun v33 wc => ∃ (kq : Nat) (x33_2 : Bool), v33 = .bool x33_2 ∧ Aside0 (impl_PutRecord.j0 kq a1 (l0_0.length : Int) x33_2 l0_0 a0_1 a0_2 a0_3 = some (r1, r2, r3, r4, r5)) ∧ Aside0 (kq ≤ k) ∧ Aside0 (wc.heap[gb387]? = some (.cells #[(.slice A0_0 l0_0.length c0_0), .int .i64 a0_1, .int .i64 a0_2, .int .i64 a0_3] 36 (0, 0))) ∧ Aside0 (wc.heap[gb388]? = some (.cells #[(.slice none 0 0), .int .i64 0, .int .i64 0, .int .i64 0] 36 (0, 0))) ∧ Aside0 (Below w.heap.size w wc))
 case first =>
  have H := HC3.out
  clear HC3
  replace H := Option.bind_eq_some_iff.mp H
  obtain ⟨t389, A80, H⟩ := H
  replace H : (if t389 = true then (if (a1.size : Int) > 12 then (impl_PutRecord.j0 k a1 (l0_0.length : Int) true l0_0 a0_1 a0_2 a0_3) else (if (wrap64 (a0_1 - a0_3)) = (l0_0.length : Int) then (impl_PutRecord.j0 k a1 (l0_0.length : Int) true l0_0 a0_1 a0_2 a0_3) else (impl_PutRecord.j0 k a1 (l0_0.length : Int) (a0_1 == 10000000) l0_0 a0_1 a0_2 a0_3))) else (impl_PutRecord.j0 k a1 (l0_0.length : Int) true l0_0 a0_1 a0_2 a0_3)) = some (r1, r2, r3, r4, r5) := H
  have A8 := Aside0.mk A80
  clear A80
  by_cases c9 : t389 = true
  ·
   subst c9
   rw [if_pos rfl] at H
   by_cases c10 : (a1.size : Int) > 12
   ·
    rw [if_pos c10] at H
    have c10b0 : decide (12 < (a1.size : Int)) = true := decide_eq_true c10
    have c10b1 : decide (12 < a1.size) = true := decide_eq_true (by omega)
    clear c10
    (first | rw [c10b0] | (simp only [i64_w, i32_w]; rw [c10b0]) | (simp only [c10b2, Bool.not_false, Bool.not_true]) | skip)
    have H' := Aside0.mk H
    clear H
    have hnb11 := NB387_388.out
    have hnc11 := NB388_387.out
    obtain ⟨hcz12_0, hcz12_1, hcz12_2, hcz12_3⟩ := cz4 BK387
    obtain ⟨hfz12_0, hfz12_1, hfz12_2, hfz12_3⟩ := fz4 BK387
    go_wp2_with (first | ((with_reducible refine gate_callee (f := 20) rfl ?_); refine gL (some 13) rfl rfl Tryd.func20 (by kernel_rfl) rfl #[.agg #[.slice A0_0 l0_0.length c0_0, .int .i64 a0_1, .int .i64 a0_2, .int .i64 a0_3]] rfl ?_; (with_reducible refine (impl_GoodRing.calls k _ _ l0_0 a0_1 a0_2 a0_3 true _ ?sideT ?side1 ?side2 A8.out).mono ?_); (case sideT => refine ⟨Ito.tabB hTab_.out ?_⟩; first | exact bs HB | exact st_below | (repeat (first | (with_reducible first | exact HB.out | apply below_alloc | apply pw_below_drewN | apply below_drew1 | refine below_set ?_ (Aside0.out (by assumption))) | exact HB.out))); (case side1 => exact cb HR0_0 HB); (case side2 => exact HC0_0.out); rintro e w13 ⟨rfl, hb⟩; refine ⟨_, rfl, ?_⟩; replace BK387 := nb BK387 hb; replace BK388 := nb BK388 hb; replace HB := Aside0.mk (below_step (bs2 HB GE387 GE388) hb); (try clear hb); (try clear hb2); (try clear hk); (try clear hi)))
    go_meet
    case rel => exact ⟨_, (true), (by first | rfl | (simp; done) | (simp [*]; done)), H', ⟨by first | omega | exact Nat.le_refl _⟩, ⟨bk BK387⟩, ⟨bk BK388⟩, ⟨bs2 HB GE387 GE388⟩⟩
   ·
    rw [if_neg c10] at H
    have c10b0 : decide (12 < (a1.size : Int)) = false := decide_eq_false c10
    have c10b1 : decide (12 < a1.size) = false := decide_eq_false (by omega)
    clear c10
    (first | rw [c10b0] | (simp only [i64_w, i32_w]; rw [c10b0]) | (simp only [c10b2, Bool.not_false, Bool.not_true]) | skip)
    by_cases c14 : (wrap64 (a0_1 - a0_3)) = (l0_0.length : Int)
    ·
     rw [if_pos c14] at H
     have c14b0 : ((wrap64 (a0_1 - a0_3)) == (l0_0.length : Int)) = true := beq_iff_eq.mpr c14
     have c14b1 : ((wrap64 (a0_1 - a0_3)) != (l0_0.length : Int)) = false := bne_eq_false_iff_eq.mpr c14
     clear c14
     have H' := Aside0.mk H
     clear H
     have hnb15 := NB387_388.out
     have hnc15 := NB388_387.out
     obtain ⟨hcz16_0, hcz16_1, hcz16_2, hcz16_3⟩ := cz4 BK387
     obtain ⟨hfz16_0, hfz16_1, hfz16_2, hfz16_3⟩ := fz4 BK387
     go_wp2_with (first | ((with_reducible refine gate_callee (f := 20) rfl ?_); refine gL (some 13) rfl rfl Tryd.func20 (by kernel_rfl) rfl #[.agg #[.slice A0_0 l0_0.length c0_0, .int .i64 a0_1, .int .i64 a0_2, .int .i64 a0_3]] rfl ?_; (with_reducible refine (impl_GoodRing.calls k _ _ l0_0 a0_1 a0_2 a0_3 true _ ?sideT ?side1 ?side2 A8.out).mono ?_); (case sideT => refine ⟨Ito.tabB hTab_.out ?_⟩; first | exact bs HB | exact st_below | (repeat (first | (with_reducible first | exact HB.out | apply below_alloc | apply pw_below_drewN | apply below_drew1 | refine below_set ?_ (Aside0.out (by assumption))) | exact HB.out))); (case side1 => exact cb HR0_0 HB); (case side2 => exact HC0_0.out); rintro e w17 ⟨rfl, hb⟩; refine ⟨_, rfl, ?_⟩; replace BK387 := nb BK387 hb; replace BK388 := nb BK388 hb; replace HB := Aside0.mk (below_step (bs2 HB GE387 GE388) hb); (try clear hb); (try clear hb2); (try clear hk); (try clear hi); obtain ⟨hcz18_0, hcz18_1, hcz18_2, hcz18_3⟩ := cz4 BK387; obtain ⟨hfz18_0, hfz18_1, hfz18_2, hfz18_3⟩ := fz4 BK387))
     go_meet
     case rel => exact ⟨_, (true), (by first | rfl | (simp; done) | (simp [*]; done)), H', ⟨by first | omega | exact Nat.le_refl _⟩, ⟨bk BK387⟩, ⟨bk BK388⟩, ⟨bs2 HB GE387 GE388⟩⟩
    ·
     rw [if_neg c14] at H
     have c14b0 : ((wrap64 (a0_1 - a0_3)) == (l0_0.length : Int)) = false := beq_eq_false_iff_ne.mpr c14
     have c14b1 : ((wrap64 (a0_1 - a0_3)) != (l0_0.length : Int)) = true := bne_iff_ne.mpr c14
     have H' := Aside0.mk H
     clear H
     have hnb19 := NB387_388.out
     have hnc19 := NB388_387.out
     obtain ⟨hcz20_0, hcz20_1, hcz20_2, hcz20_3⟩ := cz4 BK387
     obtain ⟨hfz20_0, hfz20_1, hfz20_2, hfz20_3⟩ := fz4 BK387
     go_wp2_with (first | ((with_reducible refine gate_callee (f := 20) rfl ?_); refine gL (some 13) rfl rfl Tryd.func20 (by kernel_rfl) rfl #[.agg #[.slice A0_0 l0_0.length c0_0, .int .i64 a0_1, .int .i64 a0_2, .int .i64 a0_3]] rfl ?_; (with_reducible refine (impl_GoodRing.calls k _ _ l0_0 a0_1 a0_2 a0_3 true _ ?sideT ?side1 ?side2 A8.out).mono ?_); (case sideT => refine ⟨Ito.tabB hTab_.out ?_⟩; first | exact bs HB | exact st_below | (repeat (first | (with_reducible first | exact HB.out | apply below_alloc | apply pw_below_drewN | apply below_drew1 | refine below_set ?_ (Aside0.out (by assumption))) | exact HB.out))); (case side1 => exact cb HR0_0 HB); (case side2 => exact HC0_0.out); rintro e w21 ⟨rfl, hb⟩; refine ⟨_, rfl, ?_⟩; replace BK387 := nb BK387 hb; replace BK388 := nb BK388 hb; replace HB := Aside0.mk (below_step (bs2 HB GE387 GE388) hb); (try clear hb); (try clear hb2); (try clear hk); (try clear hi); obtain ⟨hcz22_0, hcz22_1, hcz22_2, hcz22_3⟩ := cz4 BK387; obtain ⟨hfz22_0, hfz22_1, hfz22_2, hfz22_3⟩ := fz4 BK387))
     go_meet
     case rel => exact ⟨_, ((a0_1 == 10000000)), (by first | rfl | (simp; done) | (simp [*]; done)), H', ⟨by first | omega | exact Nat.le_refl _⟩, ⟨bk BK387⟩, ⟨bk BK388⟩, ⟨bs2 HB GE387 GE388⟩⟩
  ·
   replace c9 := Bool.eq_false_iff.mpr c9
   subst c9
   rw [if_neg (show ¬ (false = true) by decide)] at H
   have H' := Aside0.mk H
   clear H
   have hnb23 := NB387_388.out
   have hnc23 := NB388_387.out
   obtain ⟨hcz24_0, hcz24_1, hcz24_2, hcz24_3⟩ := cz4 BK387
   obtain ⟨hfz24_0, hfz24_1, hfz24_2, hfz24_3⟩ := fz4 BK387
   go_wp2_with (first | ((with_reducible refine gate_callee (f := 20) rfl ?_); refine gL (some 13) rfl rfl Tryd.func20 (by kernel_rfl) rfl #[.agg #[.slice A0_0 l0_0.length c0_0, .int .i64 a0_1, .int .i64 a0_2, .int .i64 a0_3]] rfl ?_; (with_reducible refine (impl_GoodRing.calls k _ _ l0_0 a0_1 a0_2 a0_3 false _ ?sideT ?side1 ?side2 A8.out).mono ?_); (case sideT => refine ⟨Ito.tabB hTab_.out ?_⟩; first | exact bs HB | exact st_below | (repeat (first | (with_reducible first | exact HB.out | apply below_alloc | apply pw_below_drewN | apply below_drew1 | refine below_set ?_ (Aside0.out (by assumption))) | exact HB.out))); (case side1 => exact cb HR0_0 HB); (case side2 => exact HC0_0.out); rintro e w25 ⟨rfl, hb⟩; refine ⟨_, rfl, ?_⟩; replace BK387 := nb BK387 hb; replace BK388 := nb BK388 hb; replace HB := Aside0.mk (below_step (bs2 HB GE387 GE388) hb); (try clear hb); (try clear hb2); (try clear hk); (try clear hi)))
   go_meet
   case rel => exact ⟨_, (true), (by first | rfl | (simp; done) | (simp [*]; done)), H', ⟨by first | omega | exact Nat.le_refl _⟩, ⟨bk BK387⟩, ⟨bk BK388⟩, ⟨bs2 HB GE387 GE388⟩⟩
 case rest =>
  clear HC3
  try clear c1
  try clear c2
  try clear p2
  try clear c3
  try clear c6
  try clear p6
  try clear c9
  try clear c10
  try clear c10b0
  try clear c10b1
  try clear c11
  try clear c14
  try clear c14b0
  try clear c14b1
  try clear c15
  try clear c19
  try clear c20
  try clear c23
  try clear hcz12_0 hcz12_1 hcz12_2 hcz12_3
  try clear hcz16_0 hcz16_1 hcz16_2 hcz16_3
  try clear hcz18_0 hcz18_1 hcz18_2 hcz18_3
  try clear hcz20_0 hcz20_1 hcz20_2 hcz20_3
  try clear hcz22_0 hcz22_1 hcz22_2 hcz22_3
  try clear hcz24_0 hcz24_1 hcz24_2 hcz24_3
  try clear hcz7_0 hcz7_1 hcz7_2 hcz7_3
  try clear hfz12_0 hfz12_1 hfz12_2 hfz12_3
  try clear hfz16_0 hfz16_1 hfz16_2 hfz16_3
  try clear hfz18_0 hfz18_1 hfz18_2 hfz18_3
  try clear hfz20_0 hfz20_1 hfz20_2 hfz20_3
  try clear hfz22_0 hfz22_1 hfz22_2 hfz22_3
  try clear hfz24_0 hfz24_1 hfz24_2 hfz24_3
  try clear hfz7_0 hfz7_1 hfz7_2 hfz7_3
  obtain ⟨kq, x33_2, rfl, HA, HJ2, BK387, BK388, HB⟩ := hcut
  cases kq with
  | zero => exact absurd HA.out (by simp [impl_PutRecord.j0])
  | succ kj2 =>
   have H := HA.out
   clear HA
   simp only [impl_PutRecord.j0] at H
   by_cases c26 : x33_2 = true
   ·
    subst c26
    rw [if_pos rfl] at H
    simp only [Option.some.injEq, Prod.mk.injEq] at H
    obtain ⟨rfl, rfl, rfl, rfl, rfl⟩ := H
    have hnb27 := NB388_387.out
    have hnc27 := NB387_388.out
    obtain ⟨hcz28_0, hcz28_1, hcz28_2, hcz28_3⟩ := cz4 BK388
    obtain ⟨hfz28_0, hfz28_1, hfz28_2, hfz28_3⟩ := fz4 BK388
    go_wp2
    refine bodyPost_ret (results_ct rfl _ _ gb388 36 #[.slice none 0 0, .int .i64 0, .int .i64 0, .int .i64 0] (0, 0) _ rfl (by (with_reducible repeat (first | refine blk_drewN ?_ _ | refine blk_drew ?_ | refine blk_alloc ?_ _)); refine blk_put (cs := #[.slice none 0 0, .int .i64 0, .int .i64 0, .int .i64 0]) ?_ 3 _ rfl; (with_reducible repeat (first | refine blk_drewN ?_ _ | refine blk_drew ?_ | refine blk_alloc ?_ _)); refine blk_put (cs := #[.slice none 0 0, .int .i64 0, .int .i64 0, .int .i64 0]) ?_ 2 _ rfl; (with_reducible repeat (first | refine blk_drewN ?_ _ | refine blk_drew ?_ | refine blk_alloc ?_ _)); refine blk_put (cs := #[.slice none 0 0, .int .i64 0, .int .i64 0, .int .i64 0]) ?_ 1 _ rfl; (with_reducible repeat (first | refine blk_drewN ?_ _ | refine blk_drew ?_ | refine blk_alloc ?_ _)); refine blk_put (cs := #[.slice none 0 0, .int .i64 0, .int .i64 0, .int .i64 0]) ?_ 0 _ rfl; (with_reducible repeat (first | refine blk_drewN ?_ _ | refine blk_drew ?_ | refine blk_alloc ?_ _)); exact BK388.out) Tryd.underlying36 rfl (by kernel_rfl)) rfl ?_
    exact ⟨_, by first | rfl | (simp [errW_none, errW_some] <;> rfl) | (simp [*, errW_none, errW_some] <;> rfl), by first | exact Kd.R_nil _ _ _ _ _ | exact Kd.N_nil _ _ _ _ _ | exact Kd.V_nil _ _ _ _ _ | exact Kd.Q_nil _ _ _ _ _ | exact Kd.S_nil _ _ _ _ _, bs2 HB GE387 GE388⟩
   ·
    replace c26 := Bool.eq_false_iff.mpr c26
    subst c26
    rw [if_neg (show ¬ (false = true) by decide)] at H
    replace H := Option.bind_eq_some_iff.mp H
    obtain ⟨⟨t390, t393, t394, t395⟩, A290, H⟩ := H
    replace H : ((impl_SlotSum.f kj2 a0_2 a0_3 a1 0).bind fun t398 => (if (l0_0.length : Int) = 0 then (none) else (if 0 ≤ (Int.tmod a0_1 (l0_0.length : Int)) then (if (Int.tmod a0_1 (l0_0.length : Int)) < (t390.length : Int) then (some ((t390.set ((Int.tmod a0_1 (l0_0.length : Int)) : Int).toNat (⟨a0_2, a0_3, a1, t398⟩ : S26)), wrap64 (t393 + 1), wrap64 ((wrap64 (Int.tdiv (wrap64 (t393 + 1)) (l0_0.length : Int))) + 1), t395, true)) else (none)) else (none)))) = some (r1, r2, r3, r4, r5) := H
    have A29 := Aside0.mk A290
    clear A290
    replace H := Option.bind_eq_some_iff.mp H
    obtain ⟨t398, A300, H⟩ := H
    replace H : (if (l0_0.length : Int) = 0 then (none) else (if 0 ≤ (Int.tmod a0_1 (l0_0.length : Int)) then (if (Int.tmod a0_1 (l0_0.length : Int)) < (t390.length : Int) then (some ((t390.set ((Int.tmod a0_1 (l0_0.length : Int)) : Int).toNat (⟨a0_2, a0_3, a1, t398⟩ : S26)), wrap64 (t393 + 1), wrap64 ((wrap64 (Int.tdiv (wrap64 (t393 + 1)) (l0_0.length : Int))) + 1), t395, true)) else (none)) else (none))) = some (r1, r2, r3, r4, r5) := H
    have A30 := Aside0.mk A300
    clear A300
    by_cases c31 : (l0_0.length : Int) = 0
    ·
     rw [if_pos c31] at H
     exact absurd H (by simp)
    ·
     rw [if_neg c31] at H
     have c31b0 : ((l0_0.length : Int) == 0) = false := beq_eq_false_iff_ne.mpr c31
     have c31b1 : ((l0_0.length : Int) != 0) = true := bne_iff_ne.mpr c31
     have c31b2 : ¬ (l0_0 = []) := fun h_ => c31 (by rw [h_]; rfl)
     obtain ⟨ji32, hji32⟩ : ∃ j_ : Int, (Int.tmod a0_1 (l0_0.length : Int)) = j_ := ⟨_, rfl⟩
     replace H : (if 0 ≤ (ji32) then (if (ji32) < (t390.length : Int) then (some ((t390.set ((ji32) : Int).toNat (⟨a0_2, a0_3, a1, t398⟩ : S26)), wrap64 (t393 + 1), wrap64 ((wrap64 (Int.tdiv (wrap64 (t393 + 1)) (l0_0.length : Int))) + 1), t395, true)) else (none)) else (none)) = some (r1, r2, r3, r4, r5) := by first | (rw [hji32] at H; exact H) | (simp only [hji32] at H ⊢; exact H)
     (try rw [hji32] at A29)
     (try rw [hji32] at A30)
     by_cases c33 : 0 ≤ (ji32)
     ·
      rw [if_pos c33] at H
      have c33b0 : decide (0 ≤ (ji32)) = true := decide_eq_true c33
      clear c33
      by_cases c34 : (ji32) < (t390.length : Int)
      ·
       rw [if_pos c34] at H
       have c34b0 : decide ((ji32) < (t390.length : Int)) = true := decide_eq_true c34
       clear c34
       obtain ⟨y399, hy399⟩ : ∃ y_ : List (S26), y_ = (t390.set ((ji32) : Int).toNat (⟨a0_2, a0_3, a1, t398⟩ : S26)) := ⟨_, rfl⟩
       replace H : (some (y399, wrap64 (t393 + 1), wrap64 ((wrap64 (Int.tdiv (wrap64 (t393 + 1)) (l0_0.length : Int))) + 1), t395, true)) = some (r1, r2, r3, r4, r5) := by first | (rw [hy399]; with_reducible exact H) | (have H2_ := (Option.bind_some _ _).symm.trans H; rw [hy399]; with_reducible exact H2_) | (have H2_ := (Option.bind_some _ _).symm.trans H; with_reducible exact H2_) | with_reducible exact H | (rw [hy399]; exact H) | exact H
       have Ny399 := Aside0.mk hy399
       clear hy399
       simp only [Option.some.injEq, Prod.mk.injEq] at H
       obtain ⟨rfl, rfl, rfl, rfl, rfl⟩ := H
       have hnb36 := NB387_388.out
       have hnc36 := NB388_387.out
       obtain ⟨hcz37_0, hcz37_1, hcz37_2, hcz37_3⟩ := cz4 BK387
       obtain ⟨hfz37_0, hfz37_1, hfz37_2, hfz37_3⟩ := fz4 BK387
       try go_wp2_with (first | ((with_reducible refine gate_callee (f := 67) rfl ?_); refine gL (some 36) rfl rfl Tryd.func67 (by kernel_rfl) rfl #[.agg #[.slice A0_0 l0_0.length c0_0, .int .i64 a0_1, .int .i64 a0_2, .int .i64 a0_3]] rfl ?_; (with_reducible refine (impl_ownRing.calls _ _ l0_0 a0_1 a0_2 a0_3 t390 t393 t394 t395 _ ?side1 ?side2 A29.out).mono ?_); (case side1 => exact cb HR0_0 HB); (case side2 => exact HC0_0.out); rintro e w38 ⟨v391, rfl, ho0, hb⟩; refine ⟨_, rfl, ?_⟩; have HO392 := Aside0.mk (Kd.R_lower ho0 (below_size (bs2 HB GE387 GE388))); replace BK387 := nb BK387 hb; replace BK388 := nb BK388 hb; replace HB := Aside0.mk (below_step (bs2 HB GE387 GE388) hb); (try clear hb); (try clear hb2); (try clear hk); (try clear hi); (try clear ho0)) | ((with_reducible refine gate_dst (N := 7) rfl ?_); (try (refine gate_guard (by rfl) ?_; dsimp only)); refine box_event ?hg (N := 7) ?hd (cs := #[.slice none 0 0, .int .i64 0, .int .i64 0, .int .i64 0]) (t := 36) ?hr ?_; (case hd => rfl); (case hg => rfl); (case hr => first | (go_simp; done) | (go_simp; rfl)); intro gb396 hg w39 hbox hb; replace HO392 := nr HO392 hb; have BK396 := Aside0.mk (hbox); have GW396 := Aside0.mk ((by rw [hg]; exact (below_size (bs2 HB GE387 GE388)) : w.heap.size ≤ gb396)); have GE396 := Aside0.mk ((by rw [hg]; exact (below_size (bs2 HB GE387 GE388)) : w.heap.size ≤ gb396)); replace HB := Aside0.mk (below_step (bs2 HB GE387 GE388) hb); have NB387_396 := Aside0.mk ((bn BK387 hg : gb387 ≠ gb396)); have NB396_387 := Aside0.mk ((bm BK387 hg : gb396 ≠ gb387)); replace BK387 := nb BK387 hb; have NB388_396 := Aside0.mk ((bn BK388 hg : gb388 ≠ gb396)); have NB396_388 := Aside0.mk ((bm BK388 hg : gb396 ≠ gb388)); replace BK388 := nb BK388 hb; clear hb hbox hg; obtain ⟨Ao40, co40, eo40⟩ := Kd.R_slice HO392.out; subst eo40; have hnb41 := NB396_387.out; have hnc41 := NB387_396.out; have hnb42 := NB396_388.out; have hnc42 := NB388_396.out; obtain ⟨hcz43_0, hcz43_1, hcz43_2, hcz43_3⟩ := cz4 BK396; obtain ⟨hfz43_0, hfz43_1, hfz43_2, hfz43_3⟩ := fz4 BK396; obtain ⟨hcz44_0, hcz44_1, hcz44_2, hcz44_3⟩ := cz4 BK387; obtain ⟨hfz44_0, hfz44_1, hfz44_2, hfz44_3⟩ := fz4 BK387) | ((with_reducible refine gate_dst (N := 8) rfl ?_); (try (refine gate_guard (by rfl) ?_; dsimp only)); refine box_event ?hg (N := 8) ?hd (cs := #[.int .i64 0, .int .i64 0, .string (⟨#[]⟩ : ByteArray), .int .i64 0]) (t := 26) ?hr ?_; (case hd => rfl); (case hg => rfl); (case hr => first | (go_simp; done) | (go_simp; rfl)); intro gb397 hg w45 hbox hb; replace HO392 := Aside0.mk (Kd.R_below (Kd.R_elderB (rf HO392 BK396) gb397 (Nat.le_of_eq hg.symm)) hb); have BK397 := Aside0.mk (hbox); have GW397 := Aside0.mk ((by rw [hg]; exact (below_size (bs3 HB GE387 GE388 GE396)) : w.heap.size ≤ gb397)); have GE397 := Aside0.mk ((by rw [hg]; exact (below_size (bs3 HB GE387 GE388 GE396)) : w.heap.size ≤ gb397)); replace HB := Aside0.mk (below_step (bs3 HB GE387 GE388 GE396) hb); have NB387_397 := Aside0.mk ((by rw [hg]; exact Nat.ne_of_lt (blk_lt (g := gb387) (o := .cells #[.slice A0_0 l0_0.length c0_0, .int .i64 a0_1, .int .i64 a0_2, .int .i64 a0_3] 36 (0, 0)) (bf BK387 NB387_396)) : gb387 ≠ gb397)); have NB397_387 := Aside0.mk ((by rw [hg]; exact Nat.ne_of_gt (blk_lt (g := gb387) (o := .cells #[.slice A0_0 l0_0.length c0_0, .int .i64 a0_1, .int .i64 a0_2, .int .i64 a0_3] 36 (0, 0)) (bf BK387 NB387_396)) : gb397 ≠ gb387)); replace BK387 := Aside0.mk (blk_below (bf BK387 NB387_396) hb); have NB388_397 := Aside0.mk ((by rw [hg]; exact Nat.ne_of_lt (blk_lt (g := gb388) (o := .cells #[.slice none 0 0, .int .i64 0, .int .i64 0, .int .i64 0] 36 (0, 0)) (bf BK388 NB388_396)) : gb388 ≠ gb397)); have NB397_388 := Aside0.mk ((by rw [hg]; exact Nat.ne_of_gt (blk_lt (g := gb388) (o := .cells #[.slice none 0 0, .int .i64 0, .int .i64 0, .int .i64 0] 36 (0, 0)) (bf BK388 NB388_396)) : gb397 ≠ gb388)); replace BK388 := Aside0.mk (blk_below (bf BK388 NB388_396) hb); have NB396_397 := Aside0.mk ((bnz BK396 hg : gb396 ≠ gb397)); have NB397_396 := Aside0.mk ((bmz BK396 hg : gb397 ≠ gb396)); replace BK396 := Aside0.mk (blk_below (g := gb396) (o := .cells #[.slice Ao40 t390.length co40, .int .i64 t393, .int .i64 t394, .int .i64 t395] 36 (0, 0)) (by (with_reducible repeat (first | refine blk_drewN ?_ _ | refine blk_drew ?_ | refine blk_alloc ?_ _)); refine blk_put (cs := #[.slice Ao40 t390.length co40, .int .i64 t393, .int .i64 t394, .int .i64 0]) ?_ 3 _ rfl; (with_reducible repeat (first | refine blk_drewN ?_ _ | refine blk_drew ?_ | refine blk_alloc ?_ _)); refine blk_put (cs := #[.slice Ao40 t390.length co40, .int .i64 t393, .int .i64 0, .int .i64 0]) ?_ 2 _ rfl; (with_reducible repeat (first | refine blk_drewN ?_ _ | refine blk_drew ?_ | refine blk_alloc ?_ _)); refine blk_put (cs := #[.slice Ao40 t390.length co40, .int .i64 0, .int .i64 0, .int .i64 0]) ?_ 1 _ rfl; (with_reducible repeat (first | refine blk_drewN ?_ _ | refine blk_drew ?_ | refine blk_alloc ?_ _)); refine blk_put (cs := #[.slice none 0 0, .int .i64 0, .int .i64 0, .int .i64 0]) ?_ 0 _ rfl; (with_reducible repeat (first | refine blk_drewN ?_ _ | refine blk_drew ?_ | refine blk_alloc ?_ _)); exact BK396.out) hb); clear hb hbox hg; have hnb46 := NB397_387.out; have hnc46 := NB387_397.out; have hnb47 := NB397_388.out; have hnc47 := NB388_397.out; have hnb48 := NB397_396.out; have hnc48 := NB396_397.out; obtain ⟨hcz49_0, hcz49_1, hcz49_2, hcz49_3⟩ := cz4 BK397; obtain ⟨hfz49_0, hfz49_1, hfz49_2, hfz49_3⟩ := fz4 BK397) | ((with_reducible refine gate_callee (f := 16) rfl ?_); refine gL (some 44) rfl rfl Tryd.func16 (by kernel_rfl) rfl #[.agg #[.int .i64 a0_2, .int .i64 a0_3, .string a1, .int .i64 0]] rfl ?_; (with_reducible refine (impl_SlotSum.calls kj2 a0_2 a0_3 a1 0 t398 _ ?sideT A30.out).mono ?_); (case sideT => refine ⟨Ito.tabB hTab_.out ?_⟩; first | exact bs HB | exact st_below | (repeat (first | (with_reducible first | exact HB.out | apply below_alloc | apply pw_below_drewN | apply below_drew1 | refine below_set ?_ (Aside0.out (by assumption))) | exact HB.out))); rintro e w50 ⟨rfl, hb⟩; refine ⟨_, rfl, ?_⟩; replace HO392 := Aside0.mk (Kd.R_below (by (with_reducible repeat (first | apply Kd.R_alloc | apply Kd.R_drewN | apply Kd.R_drew)); exact (Kd.R_mono (Kd.R_far (p := ⟨gb397, 3, none⟩) (Kd.R_far (p := ⟨gb397, 2, none⟩) (Kd.R_far (p := ⟨gb397, 1, none⟩) (Kd.R_far (p := ⟨gb397, 0, none⟩) (Kd.R_mono HO392.out (fun k_ hk => (⟨hk, hk.2⟩ : _ ∧ k_ ≠ gb397))) (fun _ hk => hk.2) (.int .i64 a0_2)) (fun _ hk => hk.2) (.int .i64 a0_3)) (fun _ hk => hk.2) (.string a1)) (fun _ hk => hk.2) (.int .i64 0)) (fun _ h_ => h_.1))) hb); replace BK387 := Aside0.mk (blk_below (bf BK387 NB387_397) hb); replace BK388 := Aside0.mk (blk_below (bf BK388 NB388_397) hb); replace BK396 := Aside0.mk (blk_below (bf BK396 NB396_397) hb); replace BK397 := Aside0.mk (blk_below (g := gb397) (o := .cells #[.int .i64 a0_2, .int .i64 a0_3, .string a1, .int .i64 0] 26 (0, 0)) (by (with_reducible repeat (first | refine blk_drewN ?_ _ | refine blk_drew ?_ | refine blk_alloc ?_ _)); refine blk_put (cs := #[.int .i64 a0_2, .int .i64 a0_3, .string a1, .int .i64 0]) ?_ 3 _ rfl; (with_reducible repeat (first | refine blk_drewN ?_ _ | refine blk_drew ?_ | refine blk_alloc ?_ _)); refine blk_put (cs := #[.int .i64 a0_2, .int .i64 a0_3, .string (⟨#[]⟩ : ByteArray), .int .i64 0]) ?_ 2 _ rfl; (with_reducible repeat (first | refine blk_drewN ?_ _ | refine blk_drew ?_ | refine blk_alloc ?_ _)); refine blk_put (cs := #[.int .i64 a0_2, .int .i64 0, .string (⟨#[]⟩ : ByteArray), .int .i64 0]) ?_ 1 _ rfl; (with_reducible repeat (first | refine blk_drewN ?_ _ | refine blk_drew ?_ | refine blk_alloc ?_ _)); refine blk_put (cs := #[.int .i64 0, .int .i64 0, .string (⟨#[]⟩ : ByteArray), .int .i64 0]) ?_ 0 _ rfl; (with_reducible repeat (first | refine blk_drewN ?_ _ | refine blk_drew ?_ | refine blk_alloc ?_ _)); exact BK397.out) hb); replace HB := Aside0.mk (below_step (bs4 HB GE387 GE388 GE396 GE397) hb); (try clear hb); (try clear hb2); (try clear hk); (try clear hi); obtain ⟨hcz51_0, hcz51_1, hcz51_2, hcz51_3⟩ := cz4 BK397; obtain ⟨hfz51_0, hfz51_1, hfz51_2, hfz51_3⟩ := fz4 BK397))
       have n0_ : Aside0 (Kd.R k26 26 (w50.setCell ⟨gb397, 3, none⟩ (.int .i64 t398)) w.heap.size (fun k_ => k_ ≠ gb397) (.slice Ao40 t390.length co40) t390) := ⟨by (with_reducible repeat (first | apply Kd.R_alloc | apply Kd.R_drewN | apply Kd.R_drew)); exact Kd.R_mono (Kd.R_far (p := ⟨gb397, 3, none⟩) (Kd.R_mono HO392.out (fun k_ hk => (⟨hk, hk.2⟩ : _ ∧ k_ ≠ gb397))) (fun _ hk => hk.2) (.int .i64 t398)) (fun _ hk => hk.1.2)⟩
       have n1_ : Aside0 ((w50.setCell ⟨gb397, 3, none⟩ (.int .i64 t398)).heap[gb387]? = some (.cells #[.slice A0_0 l0_0.length c0_0, .int .i64 a0_1, .int .i64 a0_2, .int .i64 a0_3] 36 (0, 0))) := ⟨bf BK387 NB387_397⟩
       have n2_ : Aside0 ((w50.setCell ⟨gb397, 3, none⟩ (.int .i64 t398)).heap[gb388]? = some (.cells #[.slice none 0 0, .int .i64 0, .int .i64 0, .int .i64 0] 36 (0, 0))) := ⟨bf BK388 NB388_397⟩
       have n3_ : Aside0 ((w50.setCell ⟨gb397, 3, none⟩ (.int .i64 t398)).heap[gb396]? = some (.cells #[.slice Ao40 t390.length co40, .int .i64 t393, .int .i64 t394, .int .i64 t395] 36 (0, 0))) := ⟨bf BK396 NB396_397⟩
       have n4_ : Aside0 ((w50.setCell ⟨gb397, 3, none⟩ (.int .i64 t398)).heap[gb397]? = some (.cells #[.int .i64 a0_2, .int .i64 a0_3, .string a1, .int .i64 t398] 26 (0, 0))) := ⟨by (with_reducible repeat (first | refine blk_drewN ?_ _ | refine blk_drew ?_ | refine blk_alloc ?_ _)); refine blk_put (cs := #[.int .i64 a0_2, .int .i64 a0_3, .string a1, .int .i64 0]) ?_ 3 _ rfl; (with_reducible repeat (first | refine blk_drewN ?_ _ | refine blk_drew ?_ | refine blk_alloc ?_ _)); exact BK397.out⟩
       have n5_ : Aside0 (Below w.heap.size w (w50.setCell ⟨gb397, 3, none⟩ (.int .i64 t398))) := ⟨bs4 HB GE387 GE388 GE396 GE397⟩
       (try clear HO392)
       (try clear BK387)
       (try clear BK388)
       (try clear BK396)
       (try clear BK397)
       (try clear HB)
       generalize (w50.setCell ⟨gb397, 3, none⟩ (.int .i64 t398)) = w52 at n0_ n1_ n2_ n3_ n4_ n5_ ⊢
       have HO392 := n0_
       have BK387 := n1_
       have BK388 := n2_
       have BK396 := n3_
       have BK397 := n4_
       have HB := n5_
       clear n0_ n1_ n2_ n3_ n4_ n5_
       have n0_ := Aside0.mk (Kd.R_drew HO392.out)
       have n1_ := Aside0.mk (blk_drew BK387.out)
       have n2_ := Aside0.mk (blk_drew BK388.out)
       have n3_ := Aside0.mk (blk_drew BK396.out)
       have n4_ := Aside0.mk (blk_drew BK397.out)
       have n5_ := Aside0.mk (below_drew1 HB.out)
       clear HO392
       clear BK387
       clear BK388
       clear BK396
       clear BK397
       clear HB
       have HO392 := n0_
       have BK387 := n1_
       have BK388 := n2_
       have BK396 := n3_
       have BK397 := n4_
       have HB := n5_
       clear n0_ n1_ n2_ n3_ n4_ n5_
       have p35 : 0 ≤ ((ji32) : Int) := of_decide_eq_true (by first | (with_reducible assumption) | assumption)
       have q35 : ((ji32) : Int) < ((t390.length : Int) : Int) := of_decide_eq_true (by first | (with_reducible assumption) | assumption)
       obtain ⟨go35, co35, eo35, gb35, gl35, cl35, HG35⟩ := Kd.R_form HO392.out (by omega)
       (first | cases eo35 | (injection eo35 with ea_ en_ ec_; (first | subst ea_ | (injection ea_ with ea_; subst ea_)); subst ec_; clear en_))
       have GB35 := Aside0.mk gb35
       have GG35 := Aside0.mk HG35
       clear gb35 gl35 HG35
       obtain ⟨ce35, hcl35, hM35, hcc35, hfr35⟩ := Kd.R_elem HO392.out z26 ((ji32) : Int) p35 q35
       obtain rfl := k26_openM hM35
       have hx35_0 : World.cell? _ ⟨go35, ((ji32) : Int).toNat * 4, none⟩ = some (.int .i64 ((rd_T26 t390 (ji32)).f0)) := hcc35 0 _ rfl
       have hx35_1 : World.cell? _ ⟨go35, ((ji32) : Int).toNat * 4 + 1, none⟩ = some (.int .i64 ((rd_T26 t390 (ji32)).f1)) := hcc35 1 _ rfl
       have hx35_2 : World.cell? _ ⟨go35, ((ji32) : Int).toNat * 4 + 2, none⟩ = some (.string ((rd_T26 t390 (ji32)).f2)) := hcc35 2 _ rfl
       have hx35_3 : World.cell? _ ⟨go35, ((ji32) : Int).toNat * 4 + 3, none⟩ = some (.int .i64 ((rd_T26 t390 (ji32)).f3)) := hcc35 3 _ rfl
       have hf35_0 : World.frozen? _ ⟨go35, ((ji32) : Int).toNat * 4, none⟩ = false := hfr35 0
       have hf35_1 : World.frozen? _ ⟨go35, ((ji32) : Int).toNat * 4 + 1, none⟩ = false := hfr35 1
       have hf35_2 : World.frozen? _ ⟨go35, ((ji32) : Int).toNat * 4 + 2, none⟩ = false := hfr35 2
       have hf35_3 : World.frozen? _ ⟨go35, ((ji32) : Int).toNat * 4 + 3, none⟩ = false := hfr35 3
       clear hcl35 hcc35 hfr35 hM35
       replace p35 := eq_true p35
       replace q35 := eq_true q35
       obtain ⟨ce54, hcl54, hM54, hcc54, hfr54⟩ := Kd.R_elem HO392.out z26 ((ji32) : Int) (of_decide_eq_true (by first | (with_reducible assumption) | assumption)) (by have h_ : ((ji32) : Int) < ((t390.length : Int) : Int) := of_decide_eq_true (by first | (with_reducible assumption) | assumption); first | exact h_ | (have e_ := (Kd.R_reads' HO392.out).1; omega) | simpa using h_)
       obtain rfl := k26_openM hM54
       have HP54 := (Kd.R_seg HO392.out ((ji32) : Int) (of_decide_eq_true (by first | (with_reducible assumption) | assumption)) (by have h_ : ((ji32) : Int) < ((t390.length : Int) : Int) := of_decide_eq_true (by first | (with_reducible assumption) | assumption); first | exact h_ | (have e_ := (Kd.R_reads' HO392.out).1; omega) | simpa using h_) (seg := [.int .i64 a0_2, .int .i64 a0_3, .string a1, .int .i64 t398]) (j := 0) hcl54 hcc54 (show 4 ≤ 4 from by decide) (x' := (⟨a0_2, a0_3, a1, t398⟩ : S26)) (k26_mkM _ _ _ (⟨a0_2, a0_3, a1, t398⟩ : S26) ) (fun _ hk => hk)).1
       rw [← Ny399.out] at HP54
       have HQ54 := Aside0.mk HP54
       clear hcl54 hcc54 hfr54 hM54 HP54
       refine start_ (n := 9) (S := fun w' => w'.cell? ⟨gb396, 0, none⟩ = some (.slice (some ⟨go35, 0, none⟩) t390.length co40) ∧ w'.cell? ⟨gb396, 1, none⟩ = some (.int .i64 t393) ∧ w'.cell? ⟨gb396, 2, none⟩ = some (.int .i64 t394) ∧ w'.cell? ⟨gb396, 3, none⟩ = some (.int .i64 t395) ∧ w'.cell? ⟨gb387, 0, none⟩ = some (.slice A0_0 l0_0.length c0_0) ∧ w'.cell? ⟨gb387, 1, none⟩ = some (.int .i64 a0_1) ∧ w'.cell? ⟨gb387, 2, none⟩ = some (.int .i64 a0_2) ∧ w'.cell? ⟨gb387, 3, none⟩ = some (.int .i64 a0_3) ∧ w'.cell? ⟨gb397, 0, none⟩ = some (.int .i64 a0_2) ∧ w'.cell? ⟨gb397, 1, none⟩ = some (.int .i64 a0_3) ∧ w'.cell? ⟨gb397, 2, none⟩ = some (.string a1) ∧ w'.cell? ⟨gb397, 3, none⟩ = some (.int .i64 t398)) (ds := [8]) #[false, false, false, false, false, false, false, false, false] (by kernel_rfl) rfl rfl ⟨(blk_cell BK396.out 0).trans rfl, (blk_cell BK396.out 1).trans rfl, (blk_cell BK396.out 2).trans rfl, (blk_cell BK396.out 3).trans rfl, (blk_cell BK387.out 0).trans rfl, (blk_cell BK387.out 1).trans rfl, (blk_cell BK387.out 2).trans rfl, (blk_cell BK387.out 3).trans rfl, (blk_cell BK397.out 0).trans rfl, (blk_cell BK397.out 1).trans rfl, (blk_cell BK397.out 2).trans rfl, (blk_cell BK397.out 3).trans rfl⟩ (fun hHeld => ?_); refine with_tabW impl_PutRecord.tab7 impl_PutRecord.bits7 (fun HT_ HW_ => ?_)
       generalize w52.drew = w53 at HO392 BK387 BK388 BK396 BK397 HB GG35 HQ54 hf35_0 hf35_1 hf35_2 hf35_3 hx35_0 hx35_1 hx35_2 hx35_3 hHeld ⊢
       refine pureS 0 46 HT_.out ?_
       refine pureS 2 48 HT_.out ?_
       refine pureS 4 50 HT_.out ?_
       refine takeS 1 47 HT_.out HW_.out hHeld (hr := by rintro w' ⟨s0, s1, s2, s3, s4, s5, s6, s7, s8, s9, s10, s11⟩; go_simp; with_reducible rfl) (h := ?_)
       refine takeS 3 49 HT_.out HW_.out hHeld (hr := by rintro w' ⟨s0, s1, s2, s3, s4, s5, s6, s7, s8, s9, s10, s11⟩; go_simp; with_reducible rfl) (h := ?_)
       refine pureS 5 51 HT_.out ?_
       refine takeS 6 52 HT_.out HW_.out hHeld (hr := by rintro w' ⟨s0, s1, s2, s3, s4, s5, s6, s7, s8, s9, s10, s11⟩; go_simp; with_reducible rfl) (h := ?_)
       refine pureS 7 53 HT_.out ?_
       refine last_ (i := 8) (N := none) #[true, true, true, true, true, true, true, true, true] rfl rfl (one_of HT_.out (by kernel_rfl)) (by decide) (fun K hK => ?_)
       refine skip_ (w1 := ?_) (by rfl) rfl ?_ ?_
       rotate_left
       ·
        go_simp
        rfl
       refine hK.out _ _ ?_
       clear hK K
       refine done_ (done_of HT_.out (by kernel_rfl)) ?_
       have n0_ : Aside0 (Kd.R k26 26 ((((w53.setCell ⟨go35, ((ji32) : Int).toNat * 4, none⟩ (.int .i64 a0_2)).setCell ⟨go35, ((ji32) : Int).toNat * 4 + 1, none⟩ (.int .i64 a0_3)).setCell ⟨go35, ((ji32) : Int).toNat * 4 + 2, none⟩ (.string a1)).setCell ⟨go35, ((ji32) : Int).toNat * 4 + 3, none⟩ (.int .i64 t398)) w.heap.size (fun k_ => k_ ≠ gb397) (.slice (some ⟨go35, 0, none⟩) t390.length co40) y399) := ⟨(by first | exact rr HQ54.out | exact HQ54.out)⟩
       have n1_ : Aside0 (((((w53.setCell ⟨go35, ((ji32) : Int).toNat * 4, none⟩ (.int .i64 a0_2)).setCell ⟨go35, ((ji32) : Int).toNat * 4 + 1, none⟩ (.int .i64 a0_3)).setCell ⟨go35, ((ji32) : Int).toNat * 4 + 2, none⟩ (.string a1)).setCell ⟨go35, ((ji32) : Int).toNat * 4 + 3, none⟩ (.int .i64 t398)).heap[gb387]? = some (.cells #[.slice A0_0 l0_0.length c0_0, .int .i64 a0_1, .int .i64 a0_2, .int .i64 a0_3] 36 (0, 0))) := ⟨by (with_reducible repeat (first | refine blk_drewN ?_ _ | refine blk_drew ?_ | refine blk_alloc ?_ _)); refine blk_far ?_ (by have h_ := Kd.R_ne HO392.out BK387.out (by decide); intro e_; exact h_ (by rw [e_]; rfl)) _; (with_reducible repeat (first | refine blk_drewN ?_ _ | refine blk_drew ?_ | refine blk_alloc ?_ _)); refine blk_far ?_ (by have h_ := Kd.R_ne HO392.out BK387.out (by decide); intro e_; exact h_ (by rw [e_]; rfl)) _; (with_reducible repeat (first | refine blk_drewN ?_ _ | refine blk_drew ?_ | refine blk_alloc ?_ _)); refine blk_far ?_ (by have h_ := Kd.R_ne HO392.out BK387.out (by decide); intro e_; exact h_ (by rw [e_]; rfl)) _; (with_reducible repeat (first | refine blk_drewN ?_ _ | refine blk_drew ?_ | refine blk_alloc ?_ _)); refine blk_far ?_ (by have h_ := Kd.R_ne HO392.out BK387.out (by decide); intro e_; exact h_ (by rw [e_]; rfl)) _; (with_reducible repeat (first | refine blk_drewN ?_ _ | refine blk_drew ?_ | refine blk_alloc ?_ _)); exact BK387.out⟩
       have n2_ : Aside0 (((((w53.setCell ⟨go35, ((ji32) : Int).toNat * 4, none⟩ (.int .i64 a0_2)).setCell ⟨go35, ((ji32) : Int).toNat * 4 + 1, none⟩ (.int .i64 a0_3)).setCell ⟨go35, ((ji32) : Int).toNat * 4 + 2, none⟩ (.string a1)).setCell ⟨go35, ((ji32) : Int).toNat * 4 + 3, none⟩ (.int .i64 t398)).heap[gb388]? = some (.cells #[.slice none 0 0, .int .i64 0, .int .i64 0, .int .i64 0] 36 (0, 0))) := ⟨by (with_reducible repeat (first | refine blk_drewN ?_ _ | refine blk_drew ?_ | refine blk_alloc ?_ _)); refine blk_far ?_ (by have h_ := Kd.R_ne HO392.out BK388.out (by decide); intro e_; exact h_ (by rw [e_]; rfl)) _; (with_reducible repeat (first | refine blk_drewN ?_ _ | refine blk_drew ?_ | refine blk_alloc ?_ _)); refine blk_far ?_ (by have h_ := Kd.R_ne HO392.out BK388.out (by decide); intro e_; exact h_ (by rw [e_]; rfl)) _; (with_reducible repeat (first | refine blk_drewN ?_ _ | refine blk_drew ?_ | refine blk_alloc ?_ _)); refine blk_far ?_ (by have h_ := Kd.R_ne HO392.out BK388.out (by decide); intro e_; exact h_ (by rw [e_]; rfl)) _; (with_reducible repeat (first | refine blk_drewN ?_ _ | refine blk_drew ?_ | refine blk_alloc ?_ _)); refine blk_far ?_ (by have h_ := Kd.R_ne HO392.out BK388.out (by decide); intro e_; exact h_ (by rw [e_]; rfl)) _; (with_reducible repeat (first | refine blk_drewN ?_ _ | refine blk_drew ?_ | refine blk_alloc ?_ _)); exact BK388.out⟩
       have n3_ : Aside0 (((((w53.setCell ⟨go35, ((ji32) : Int).toNat * 4, none⟩ (.int .i64 a0_2)).setCell ⟨go35, ((ji32) : Int).toNat * 4 + 1, none⟩ (.int .i64 a0_3)).setCell ⟨go35, ((ji32) : Int).toNat * 4 + 2, none⟩ (.string a1)).setCell ⟨go35, ((ji32) : Int).toNat * 4 + 3, none⟩ (.int .i64 t398)).heap[gb396]? = some (.cells #[.slice (some ⟨go35, 0, none⟩) t390.length co40, .int .i64 t393, .int .i64 t394, .int .i64 t395] 36 (0, 0))) := ⟨by (with_reducible repeat (first | refine blk_drewN ?_ _ | refine blk_drew ?_ | refine blk_alloc ?_ _)); refine blk_far ?_ (by have h_ := Kd.R_ne HO392.out BK396.out (by decide); intro e_; exact h_ (by rw [e_]; rfl)) _; (with_reducible repeat (first | refine blk_drewN ?_ _ | refine blk_drew ?_ | refine blk_alloc ?_ _)); refine blk_far ?_ (by have h_ := Kd.R_ne HO392.out BK396.out (by decide); intro e_; exact h_ (by rw [e_]; rfl)) _; (with_reducible repeat (first | refine blk_drewN ?_ _ | refine blk_drew ?_ | refine blk_alloc ?_ _)); refine blk_far ?_ (by have h_ := Kd.R_ne HO392.out BK396.out (by decide); intro e_; exact h_ (by rw [e_]; rfl)) _; (with_reducible repeat (first | refine blk_drewN ?_ _ | refine blk_drew ?_ | refine blk_alloc ?_ _)); refine blk_far ?_ (by have h_ := Kd.R_ne HO392.out BK396.out (by decide); intro e_; exact h_ (by rw [e_]; rfl)) _; (with_reducible repeat (first | refine blk_drewN ?_ _ | refine blk_drew ?_ | refine blk_alloc ?_ _)); exact BK396.out⟩
       have n4_ : Aside0 (((((w53.setCell ⟨go35, ((ji32) : Int).toNat * 4, none⟩ (.int .i64 a0_2)).setCell ⟨go35, ((ji32) : Int).toNat * 4 + 1, none⟩ (.int .i64 a0_3)).setCell ⟨go35, ((ji32) : Int).toNat * 4 + 2, none⟩ (.string a1)).setCell ⟨go35, ((ji32) : Int).toNat * 4 + 3, none⟩ (.int .i64 t398)).heap[gb397]? = some (.cells #[.int .i64 a0_2, .int .i64 a0_3, .string a1, .int .i64 t398] 26 (0, 0))) := ⟨by (with_reducible repeat (first | refine blk_drewN ?_ _ | refine blk_drew ?_ | refine blk_alloc ?_ _)); refine blk_far ?_ (by have h_ := Kd.R_away HO392.out (fun _ hk => hk); intro e_; exact h_ (by rw [e_]; rfl)) _; (with_reducible repeat (first | refine blk_drewN ?_ _ | refine blk_drew ?_ | refine blk_alloc ?_ _)); refine blk_far ?_ (by have h_ := Kd.R_away HO392.out (fun _ hk => hk); intro e_; exact h_ (by rw [e_]; rfl)) _; (with_reducible repeat (first | refine blk_drewN ?_ _ | refine blk_drew ?_ | refine blk_alloc ?_ _)); refine blk_far ?_ (by have h_ := Kd.R_away HO392.out (fun _ hk => hk); intro e_; exact h_ (by rw [e_]; rfl)) _; (with_reducible repeat (first | refine blk_drewN ?_ _ | refine blk_drew ?_ | refine blk_alloc ?_ _)); refine blk_far ?_ (by have h_ := Kd.R_away HO392.out (fun _ hk => hk); intro e_; exact h_ (by rw [e_]; rfl)) _; (with_reducible repeat (first | refine blk_drewN ?_ _ | refine blk_drew ?_ | refine blk_alloc ?_ _)); exact BK397.out⟩
       have n5_ : Aside0 (Below w.heap.size w ((((w53.setCell ⟨go35, ((ji32) : Int).toNat * 4, none⟩ (.int .i64 a0_2)).setCell ⟨go35, ((ji32) : Int).toNat * 4 + 1, none⟩ (.int .i64 a0_3)).setCell ⟨go35, ((ji32) : Int).toNat * 4 + 2, none⟩ (.string a1)).setCell ⟨go35, ((ji32) : Int).toNat * 4 + 3, none⟩ (.int .i64 t398))) := ⟨by repeat (first | (with_reducible first | exact HB.out | apply below_alloc | apply pw_below_drewN | apply below_drew1 | refine below_set ?_ GB35.out | refine below_set ?_ GB35.out | refine below_set ?_ GB35.out | refine below_set ?_ GB35.out | refine below_set ?_ GE387.out | refine below_set ?_ GE388.out | refine below_set ?_ GE396.out | refine below_set ?_ GE397.out) | exact HB.out)⟩
       (try clear HO392)
       (try clear BK387)
       (try clear BK388)
       (try clear BK396)
       (try clear BK397)
       (try clear HB)
       generalize ((((w53.setCell ⟨go35, ((ji32) : Int).toNat * 4, none⟩ (.int .i64 a0_2)).setCell ⟨go35, ((ji32) : Int).toNat * 4 + 1, none⟩ (.int .i64 a0_3)).setCell ⟨go35, ((ji32) : Int).toNat * 4 + 2, none⟩ (.string a1)).setCell ⟨go35, ((ji32) : Int).toNat * 4 + 3, none⟩ (.int .i64 t398)) = w55 at n0_ n1_ n2_ n3_ n4_ n5_ ⊢
       have HO392 := n0_
       have BK387 := n1_
       have BK388 := n2_
       have BK396 := n3_
       have BK397 := n4_
       have HB := n5_
       clear n0_ n1_ n2_ n3_ n4_ n5_
       obtain ⟨hcz56_0, hcz56_1, hcz56_2, hcz56_3⟩ := cz4 BK396
       obtain ⟨hfz56_0, hfz56_1, hfz56_2, hfz56_3⟩ := fz4 BK396
       obtain ⟨hcz57_0, hcz57_1, hcz57_2, hcz57_3⟩ := cz4 BK388
       obtain ⟨hfz57_0, hfz57_1, hfz57_2, hfz57_3⟩ := fz4 BK388
       try go_wp2
       refine bodyPost_ret (results_ct rfl _ _ gb388 36 #[.slice (some ⟨go35, 0, none⟩) t390.length co40, .int .i64 (wrap64 (t393 + 1)), .int .i64 (wrap64 ((wrap64 (Int.tdiv (wrap64 (t393 + 1)) (l0_0.length : Int))) + 1)), .int .i64 t395] (0, 0) _ rfl (by (with_reducible repeat (first | refine blk_drewN ?_ _ | refine blk_drew ?_ | refine blk_alloc ?_ _)); refine blk_put (cs := #[.slice (some ⟨go35, 0, none⟩) t390.length co40, .int .i64 (wrap64 (t393 + 1)), .int .i64 (wrap64 ((wrap64 (Int.tdiv (wrap64 (t393 + 1)) (l0_0.length : Int))) + 1)), .int .i64 0]) ?_ 3 _ rfl; (with_reducible repeat (first | refine blk_drewN ?_ _ | refine blk_drew ?_ | refine blk_alloc ?_ _)); refine blk_put (cs := #[.slice (some ⟨go35, 0, none⟩) t390.length co40, .int .i64 (wrap64 (t393 + 1)), .int .i64 0, .int .i64 0]) ?_ 2 _ rfl; (with_reducible repeat (first | refine blk_drewN ?_ _ | refine blk_drew ?_ | refine blk_alloc ?_ _)); refine blk_put (cs := #[.slice (some ⟨go35, 0, none⟩) t390.length co40, .int .i64 0, .int .i64 0, .int .i64 0]) ?_ 1 _ rfl; (with_reducible repeat (first | refine blk_drewN ?_ _ | refine blk_drew ?_ | refine blk_alloc ?_ _)); refine blk_put (cs := #[.slice none 0 0, .int .i64 0, .int .i64 0, .int .i64 0]) ?_ 0 _ rfl; (with_reducible repeat (first | refine blk_drewN ?_ _ | refine blk_drew ?_ | refine blk_alloc ?_ _)); refine blk_far ?_ NB388_396.out _; (with_reducible repeat (first | refine blk_drewN ?_ _ | refine blk_drew ?_ | refine blk_alloc ?_ _)); refine blk_far ?_ NB388_396.out _; (with_reducible repeat (first | refine blk_drewN ?_ _ | refine blk_drew ?_ | refine blk_alloc ?_ _)); exact BK388.out) Tryd.underlying36 rfl (by kernel_rfl)) rfl ?_
       exact ⟨_, by first | rfl | (simp [errW_none, errW_some] <;> rfl) | (simp only [← hji32]; first | rfl | (simp [errW_none, errW_some] <;> rfl)) | (simp [*, errW_none, errW_some] <;> rfl), by (with_reducible repeat (first | apply Kd.R_alloc | apply Kd.R_drewN | apply Kd.R_drew)); exact Kd.R_mono (Kd.R_far (p := ⟨gb388, 3, none⟩) (Kd.R_far (p := ⟨gb388, 2, none⟩) (Kd.R_far (p := ⟨gb388, 1, none⟩) (Kd.R_far (p := ⟨gb388, 0, none⟩) (Kd.R_far (p := ⟨gb396, 2, none⟩) (Kd.R_far (p := ⟨gb396, 1, none⟩) (Kd.R_types (Kd.R_types HO392.out BK396.out (by decide)) BK388.out (by decide)) (fun _ hk => hk.1.2) (.int .i64 (wrap64 (t393 + 1)))) (fun _ hk => hk.1.2) (.int .i64 (wrap64 ((wrap64 (Int.tdiv (wrap64 (t393 + 1)) (l0_0.length : Int))) + 1)))) (fun _ hk => hk.2) (.slice (some ⟨go35, 0, none⟩) t390.length co40)) (fun _ hk => hk.2) (.int .i64 (wrap64 (t393 + 1)))) (fun _ hk => hk.2) (.int .i64 (wrap64 ((wrap64 (Int.tdiv (wrap64 (t393 + 1)) (l0_0.length : Int))) + 1)))) (fun _ hk => hk.2) (.int .i64 t395)) (fun _ hk => trivial), bs4 HB GE387 GE388 GE396 GE397⟩
      ·
       rw [if_neg c34] at H
       exact absurd H (by simp)
     ·
      rw [if_neg c33] at H
      exact absurd H (by simp)

/-! ### spec_PutRecord: function 35 -/
def spec_PutRecord.j0 : Nat → ByteArray → Int → Bool → List (S26) → Int → Int → Int → Option ((List (S26)) × Int × Int × Int × Bool)
 | 0, _, _, _, _, _, _, _ => none
 | k + 1, x1, x6, x32, x401000, x401001, x401002, x401003 => if x32 = true then (some (([] : List (S26)), 0, 0, 0, false)) else ((spec_l10Own.f x401000 x401001 x401002 x401003).bind fun bt403 => ((spec_SlotSum.f k bt403.2.2.1 bt403.2.2.2 x1 0).bind fun t410 => (if x6 = 0 then (none) else (if 0 ≤ (Int.tmod bt403.2.1 x6) then (if (Int.tmod bt403.2.1 x6) < (bt403.1.length : Int) then (some ((bt403.1.set ((Int.tmod bt403.2.1 x6) : Int).toNat (⟨bt403.2.2.1, bt403.2.2.2, x1, t410⟩ : S26)), wrap64 (bt403.2.1 + 1), wrap64 ((wrap64 (Int.tdiv (wrap64 (bt403.2.1 + 1)) x6)) + 1), bt403.2.2.2, true)) else (none)) else (none)))))
def spec_PutRecord.f (k : Nat) (l0_0 : List (S26)) (a0_1 : Int) (a0_2 : Int) (a0_3 : Int) (a1 : ByteArray) : Option ((List (S26)) × Int × Int × Int × Bool) := (spec_GoodRing.f k l0_0 a0_1 a0_2 a0_3).bind fun t402 => (if t402 = true then (if (a1.size : Int) > 12 then (spec_PutRecord.j0 k a1 (l0_0.length : Int) true l0_0 a0_1 a0_2 a0_3) else (if (wrap64 (a0_1 - a0_3)) = (l0_0.length : Int) then (spec_PutRecord.j0 k a1 (l0_0.length : Int) true l0_0 a0_1 a0_2 a0_3) else (spec_PutRecord.j0 k a1 (l0_0.length : Int) (a0_1 == 10000000) l0_0 a0_1 a0_2 a0_3))) else (spec_PutRecord.j0 k a1 (l0_0.length : Int) true l0_0 a0_1 a0_2 a0_3))
theorem spec_PutRecord.mono_l : ∀ k, (∀ y0 y1 y2 y3 y4 y5 y6, LeO (spec_PutRecord.j0 k y0 y1 y2 y3 y4 y5 y6) (spec_PutRecord.j0 (k + 1) y0 y1 y2 y3 y4 y5 y6))
 | 0 => fun _ _ _ _ _ _ _ r h => by simp [spec_PutRecord.j0] at h
 | k + 1 => by
  have ih0 := spec_PutRecord.mono_l k
  ·
   intro y0 y1 y2 y3 y4 y5 y6
   unfold spec_PutRecord.j0
   repeat' first
   | (with_reducible exact ih0 _ _ _ _ _ _ _)
   | (with_reducible exact spec_GoodRing.mono _ _ _ _ _)
   | (with_reducible exact spec_SlotSum.mono _ _ _ _ _)
   | (with_reducible exact LeO.refl _)
   | (with_reducible exact LeO.none _)
   | (with_reducible refine LeO.ite ?_ ?_)
   | (with_reducible refine LeO.bind ?_ (fun _ => ?_))
   | exact ih0 _ _ _ _ _ _ _
   | exact spec_GoodRing.mono _ _ _ _ _
   | exact spec_SlotSum.mono _ _ _ _ _
   | exact LeO.none _
   | refine LeO.ite ?_ ?_
   | refine LeO.bind ?_ (fun _ => ?_)
theorem spec_PutRecord.mono : ∀ a0 a1 a2 a3 a4 k, LeO (spec_PutRecord.f k a0 a1 a2 a3 a4) (spec_PutRecord.f (k + 1) a0 a1 a2 a3 a4) := by
 intro a0 a1 a2 a3 a4 k
 have ih0 := spec_PutRecord.mono_l k
 unfold spec_PutRecord.f
 repeat' first
   | (with_reducible exact ih0 _ _ _ _ _ _ _)
   | (with_reducible exact spec_GoodRing.mono _ _ _ _ _)
   | (with_reducible exact spec_SlotSum.mono _ _ _ _ _)
   | (with_reducible exact LeO.refl _)
   | (with_reducible exact LeO.none _)
   | (with_reducible refine LeO.ite ?_ ?_)
   | (with_reducible refine LeO.bind ?_ (fun _ => ?_))
   | exact ih0 _ _ _ _ _ _ _
   | exact spec_GoodRing.mono _ _ _ _ _
   | exact spec_SlotSum.mono _ _ _ _ _
   | exact LeO.none _
   | refine LeO.ite ?_ ?_
   | refine LeO.bind ?_ (fun _ => ?_)
def spec_PutRecord.T7 : Bool × List (List Nat × List Nat) := (true, [([], []), ([0], [0]), ([], []), ([2], [2]), ([], []), ([3, 4], [3, 4]), ([], []), ([1, 5, 0, 1, 2, 3, 4, 5, 6], [1, 5]), ([7, 6, 0, 1, 2, 3, 4, 5, 6], [6, 7])])
def spec_PutRecord.B7 : List Nat := [0, 1, 0, 4, 0, 28, 0, 127, 255]
theorem spec_PutRecord.tab7 : rtab .any (opsOf Tryd.f35 7) = spec_PutRecord.T7 := by kernel_rfl
theorem spec_PutRecord.bits7 : waitsOk spec_PutRecord.T7.2 spec_PutRecord.B7 = true := by kernel_rfl
set_option maxHeartbeats 8000000 in
set_option maxRecDepth 100000 in
theorem spec_PutRecord.calls (k : Nat) (A0_0 : Option Addr) (c0_0 : Nat) (l0_0 : List (S26)) (a0_1 : Int) (a0_2 : Int) (a0_3 : Int) (a1 : ByteArray) (r1 : List (S26)) (r2 : Int) (r3 : Int) (r4 : Int) (r5 : Bool) (w : World) (hr0_0 : Kd.C k26 w A0_0 l0_0.length l0_0) (hc0_0 : l0_0.length ≤ c0_0) (h : spec_PutRecord.f k l0_0 a0_1 a0_2 a0_3 a1 = some (r1, r2, r3, r4, r5)) :
  Calls Tryd.prog 35 #[.agg #[.slice A0_0 l0_0.length c0_0, .int .i64 a0_1, .int .i64 a0_2, .int .i64 a0_3], .string a1] w fun e w' => ∃ v0_ : Value, e = .returned (.tuple #[.agg #[v0_, .int .i64 r2, .int .i64 r3, .int .i64 r4], .bool r5]) ∧ Kd.R k26 26 w' w.heap.size (fun _ => True) v0_ r1 ∧ Below w.heap.size w w' := by
 have hu36 := Tryd.underlying36
 have hu26 := Tryd.underlying26
 have HR0_0 := Aside0.mk hr0_0
 have HC0_0 := Aside0.mk hc0_0
 clear hr0_0 hc0_0
 have HB := Aside0.mk (Below.refl w.heap.size w)
 have H : ((spec_GoodRing.f k l0_0 a0_1 a0_2 a0_3).bind fun t402 => (if t402 = true then (if (a1.size : Int) > 12 then (spec_PutRecord.j0 k a1 (l0_0.length : Int) true l0_0 a0_1 a0_2 a0_3) else (if (wrap64 (a0_1 - a0_3)) = (l0_0.length : Int) then (spec_PutRecord.j0 k a1 (l0_0.length : Int) true l0_0 a0_1 a0_2 a0_3) else (spec_PutRecord.j0 k a1 (l0_0.length : Int) (a0_1 == 10000000) l0_0 a0_1 a0_2 a0_3))) else (spec_PutRecord.j0 k a1 (l0_0.length : Int) true l0_0 a0_1 a0_2 a0_3))) = some (r1, r2, r3, r4, r5) := h
 clear h
 have HC3 := Aside0.mk H
 clear H
 go_enter Tryd.func35, Tryd.ntmps35
 go_upto_region 2 with (first | ((with_reducible refine gate_dst (N := 2) rfl ?_); (try (refine gate_guard (by rfl) ?_; dsimp only)); refine box_event ?hg (N := 2) ?hd (cs := #[.slice A0_0 l0_0.length c0_0, .int .i64 a0_1, .int .i64 a0_2, .int .i64 a0_3]) (t := 36) ?hr ?_; (case hd => rfl); (case hg => rfl); (case hr => first | (go_simp; done) | (go_simp; rfl)); intro gb400 hg w4 hbox hb; have BK400 := Aside0.mk (hbox); have GW400 := Aside0.mk ((by rw [hg]; exact (below_size (bs HB)) : w.heap.size ≤ gb400)); have GE400 := Aside0.mk ((by rw [hg]; exact (below_size (bs HB)) : w.heap.size ≤ gb400)); replace HB := Aside0.mk (below_step (bs HB) hb); clear hb hbox hg) | ((with_reducible refine gate_dst (N := 4) rfl ?_); (try (refine gate_guard (by rfl) ?_; dsimp only)); refine box_event ?hg (N := 4) ?hd (cs := #[.slice none 0 0, .int .i64 0, .int .i64 0, .int .i64 0]) (t := 36) ?hr ?_; (case hd => rfl); (case hg => rfl); (case hr => first | (go_simp; done) | (go_simp; rfl)); intro gb401 hg w5 hbox hb; have BK401 := Aside0.mk (hbox); have GW401 := Aside0.mk ((by rw [hg]; exact (below_size (bs1 HB GE400)) : w.heap.size ≤ gb401)); have GE401 := Aside0.mk ((by rw [hg]; exact (below_size (bs1 HB GE400)) : w.heap.size ≤ gb401)); replace HB := Aside0.mk (below_step (bs1 HB GE400) hb); have NB400_401 := Aside0.mk ((bn BK400 hg : gb400 ≠ gb401)); have NB401_400 := Aside0.mk ((bm BK400 hg : gb401 ≠ gb400)); replace BK400 := nb BK400 hb; clear hb hbox hg; have hnb6 := NB400_401.out; have hnc6 := NB401_400.out; obtain ⟨hcz7_0, hcz7_1, hcz7_2, hcz7_3⟩ := cz4 BK400; obtain ⟨hfz7_0, hfz7_1, hfz7_2, hfz7_3⟩ := fz4 BK400))
 (try simp only [Act.put, List.setIfInBounds_toArray, List.set_cons_zero, List.set_cons_succ])
 go_cut [32] (fun v32 wc => ∃ (kq : Nat) (x32_2 : Bool), v32 = .bool x32_2 ∧ Aside0 (spec_PutRecord.j0 kq a1 (l0_0.length : Int) x32_2 l0_0 a0_1 a0_2 a0_3 = some (r1, r2, r3, r4, r5)) ∧ Aside0 (kq ≤ k) ∧ Aside0 (wc.heap[gb400]? = some (.cells #[(.slice A0_0 l0_0.length c0_0), .int .i64 a0_1, .int .i64 a0_2, .int .i64 a0_3] 36 (0, 0))) ∧ Aside0 (wc.heap[gb401]? = some (.cells #[(.slice none 0 0), .int .i64 0, .int .i64 0, .int .i64 0] 36 (0, 0))) ∧ Aside0 (Below w.heap.size w wc))
 case first =>
  have H := HC3.out
  clear HC3
  replace H := Option.bind_eq_some_iff.mp H
  obtain ⟨t402, A80, H⟩ := H
  replace H : (if t402 = true then (if (a1.size : Int) > 12 then (spec_PutRecord.j0 k a1 (l0_0.length : Int) true l0_0 a0_1 a0_2 a0_3) else (if (wrap64 (a0_1 - a0_3)) = (l0_0.length : Int) then (spec_PutRecord.j0 k a1 (l0_0.length : Int) true l0_0 a0_1 a0_2 a0_3) else (spec_PutRecord.j0 k a1 (l0_0.length : Int) (a0_1 == 10000000) l0_0 a0_1 a0_2 a0_3))) else (spec_PutRecord.j0 k a1 (l0_0.length : Int) true l0_0 a0_1 a0_2 a0_3)) = some (r1, r2, r3, r4, r5) := H
  have A8 := Aside0.mk A80
  clear A80
  by_cases c9 : t402 = true
  ·
   subst c9
   rw [if_pos rfl] at H
   by_cases c10 : (a1.size : Int) > 12
   ·
    rw [if_pos c10] at H
    have c10b0 : decide (12 < (a1.size : Int)) = true := decide_eq_true c10
    have c10b1 : decide (12 < a1.size) = true := decide_eq_true (by omega)
    clear c10
    (first | rw [c10b0] | (simp only [i64_w, i32_w]; rw [c10b0]) | (simp only [c10b2, Bool.not_false, Bool.not_true]) | skip)
    have H' := Aside0.mk H
    clear H
    have hnb11 := NB400_401.out
    have hnc11 := NB401_400.out
    obtain ⟨hcz12_0, hcz12_1, hcz12_2, hcz12_3⟩ := cz4 BK400
    obtain ⟨hfz12_0, hfz12_1, hfz12_2, hfz12_3⟩ := fz4 BK400
    go_wp2_with (first | ((with_reducible refine gate_callee (f := 18) rfl ?_); refine gL (some 12) rfl rfl Tryd.func18 (by kernel_rfl) rfl #[.agg #[.slice A0_0 l0_0.length c0_0, .int .i64 a0_1, .int .i64 a0_2, .int .i64 a0_3]] rfl ?_; (with_reducible refine (spec_GoodRing.calls k _ _ l0_0 a0_1 a0_2 a0_3 true _ ?side1 ?side2 A8.out).mono ?_); (case side1 => exact cb HR0_0 HB); (case side2 => exact HC0_0.out); rintro e w13 ⟨rfl, hb⟩; refine ⟨_, rfl, ?_⟩; replace BK400 := nb BK400 hb; replace BK401 := nb BK401 hb; replace HB := Aside0.mk (below_step (bs2 HB GE400 GE401) hb); (try clear hb); (try clear hb2); (try clear hk); (try clear hi)))
    go_meet
    case rel => exact ⟨_, (true), (by first | rfl | (simp; done) | (simp [*]; done)), H', ⟨by first | omega | exact Nat.le_refl _⟩, ⟨bk BK400⟩, ⟨bk BK401⟩, ⟨bs2 HB GE400 GE401⟩⟩
   ·
    rw [if_neg c10] at H
    have c10b0 : decide (12 < (a1.size : Int)) = false := decide_eq_false c10
    have c10b1 : decide (12 < a1.size) = false := decide_eq_false (by omega)
    clear c10
    (first | rw [c10b0] | (simp only [i64_w, i32_w]; rw [c10b0]) | (simp only [c10b2, Bool.not_false, Bool.not_true]) | skip)
    by_cases c14 : (wrap64 (a0_1 - a0_3)) = (l0_0.length : Int)
    ·
     rw [if_pos c14] at H
     have c14b0 : ((wrap64 (a0_1 - a0_3)) == (l0_0.length : Int)) = true := beq_iff_eq.mpr c14
     have c14b1 : ((wrap64 (a0_1 - a0_3)) != (l0_0.length : Int)) = false := bne_eq_false_iff_eq.mpr c14
     clear c14
     have H' := Aside0.mk H
     clear H
     have hnb15 := NB400_401.out
     have hnc15 := NB401_400.out
     obtain ⟨hcz16_0, hcz16_1, hcz16_2, hcz16_3⟩ := cz4 BK400
     obtain ⟨hfz16_0, hfz16_1, hfz16_2, hfz16_3⟩ := fz4 BK400
     go_wp2_with (first | ((with_reducible refine gate_callee (f := 18) rfl ?_); refine gL (some 12) rfl rfl Tryd.func18 (by kernel_rfl) rfl #[.agg #[.slice A0_0 l0_0.length c0_0, .int .i64 a0_1, .int .i64 a0_2, .int .i64 a0_3]] rfl ?_; (with_reducible refine (spec_GoodRing.calls k _ _ l0_0 a0_1 a0_2 a0_3 true _ ?side1 ?side2 A8.out).mono ?_); (case side1 => exact cb HR0_0 HB); (case side2 => exact HC0_0.out); rintro e w17 ⟨rfl, hb⟩; refine ⟨_, rfl, ?_⟩; replace BK400 := nb BK400 hb; replace BK401 := nb BK401 hb; replace HB := Aside0.mk (below_step (bs2 HB GE400 GE401) hb); (try clear hb); (try clear hb2); (try clear hk); (try clear hi); obtain ⟨hcz18_0, hcz18_1, hcz18_2, hcz18_3⟩ := cz4 BK400; obtain ⟨hfz18_0, hfz18_1, hfz18_2, hfz18_3⟩ := fz4 BK400))
     go_meet
     case rel => exact ⟨_, (true), (by first | rfl | (simp; done) | (simp [*]; done)), H', ⟨by first | omega | exact Nat.le_refl _⟩, ⟨bk BK400⟩, ⟨bk BK401⟩, ⟨bs2 HB GE400 GE401⟩⟩
    ·
     rw [if_neg c14] at H
     have c14b0 : ((wrap64 (a0_1 - a0_3)) == (l0_0.length : Int)) = false := beq_eq_false_iff_ne.mpr c14
     have c14b1 : ((wrap64 (a0_1 - a0_3)) != (l0_0.length : Int)) = true := bne_iff_ne.mpr c14
     have H' := Aside0.mk H
     clear H
     have hnb19 := NB400_401.out
     have hnc19 := NB401_400.out
     obtain ⟨hcz20_0, hcz20_1, hcz20_2, hcz20_3⟩ := cz4 BK400
     obtain ⟨hfz20_0, hfz20_1, hfz20_2, hfz20_3⟩ := fz4 BK400
     go_wp2_with (first | ((with_reducible refine gate_callee (f := 18) rfl ?_); refine gL (some 12) rfl rfl Tryd.func18 (by kernel_rfl) rfl #[.agg #[.slice A0_0 l0_0.length c0_0, .int .i64 a0_1, .int .i64 a0_2, .int .i64 a0_3]] rfl ?_; (with_reducible refine (spec_GoodRing.calls k _ _ l0_0 a0_1 a0_2 a0_3 true _ ?side1 ?side2 A8.out).mono ?_); (case side1 => exact cb HR0_0 HB); (case side2 => exact HC0_0.out); rintro e w21 ⟨rfl, hb⟩; refine ⟨_, rfl, ?_⟩; replace BK400 := nb BK400 hb; replace BK401 := nb BK401 hb; replace HB := Aside0.mk (below_step (bs2 HB GE400 GE401) hb); (try clear hb); (try clear hb2); (try clear hk); (try clear hi); obtain ⟨hcz22_0, hcz22_1, hcz22_2, hcz22_3⟩ := cz4 BK400; obtain ⟨hfz22_0, hfz22_1, hfz22_2, hfz22_3⟩ := fz4 BK400))
     go_meet
     case rel => exact ⟨_, ((a0_1 == 10000000)), (by first | rfl | (simp; done) | (simp [*]; done)), H', ⟨by first | omega | exact Nat.le_refl _⟩, ⟨bk BK400⟩, ⟨bk BK401⟩, ⟨bs2 HB GE400 GE401⟩⟩
  ·
   replace c9 := Bool.eq_false_iff.mpr c9
   subst c9
   rw [if_neg (show ¬ (false = true) by decide)] at H
   have H' := Aside0.mk H
   clear H
   have hnb23 := NB400_401.out
   have hnc23 := NB401_400.out
   obtain ⟨hcz24_0, hcz24_1, hcz24_2, hcz24_3⟩ := cz4 BK400
   obtain ⟨hfz24_0, hfz24_1, hfz24_2, hfz24_3⟩ := fz4 BK400
   go_wp2_with (first | ((with_reducible refine gate_callee (f := 18) rfl ?_); refine gL (some 12) rfl rfl Tryd.func18 (by kernel_rfl) rfl #[.agg #[.slice A0_0 l0_0.length c0_0, .int .i64 a0_1, .int .i64 a0_2, .int .i64 a0_3]] rfl ?_; (with_reducible refine (spec_GoodRing.calls k _ _ l0_0 a0_1 a0_2 a0_3 false _ ?side1 ?side2 A8.out).mono ?_); (case side1 => exact cb HR0_0 HB); (case side2 => exact HC0_0.out); rintro e w25 ⟨rfl, hb⟩; refine ⟨_, rfl, ?_⟩; replace BK400 := nb BK400 hb; replace BK401 := nb BK401 hb; replace HB := Aside0.mk (below_step (bs2 HB GE400 GE401) hb); (try clear hb); (try clear hb2); (try clear hk); (try clear hi)))
   go_meet
   case rel => exact ⟨_, (true), (by first | rfl | (simp; done) | (simp [*]; done)), H', ⟨by first | omega | exact Nat.le_refl _⟩, ⟨bk BK400⟩, ⟨bk BK401⟩, ⟨bs2 HB GE400 GE401⟩⟩
 case rest =>
  clear HC3
  try clear c1
  try clear c2
  try clear p2
  try clear c3
  try clear c6
  try clear p6
  try clear c9
  try clear c10
  try clear c10b0
  try clear c10b1
  try clear c11
  try clear c14
  try clear c14b0
  try clear c14b1
  try clear c15
  try clear c18
  try clear c19
  try clear c23
  try clear hcz12_0 hcz12_1 hcz12_2 hcz12_3
  try clear hcz16_0 hcz16_1 hcz16_2 hcz16_3
  try clear hcz18_0 hcz18_1 hcz18_2 hcz18_3
  try clear hcz20_0 hcz20_1 hcz20_2 hcz20_3
  try clear hcz22_0 hcz22_1 hcz22_2 hcz22_3
  try clear hcz24_0 hcz24_1 hcz24_2 hcz24_3
  try clear hcz7_0 hcz7_1 hcz7_2 hcz7_3
  try clear hfz12_0 hfz12_1 hfz12_2 hfz12_3
  try clear hfz16_0 hfz16_1 hfz16_2 hfz16_3
  try clear hfz18_0 hfz18_1 hfz18_2 hfz18_3
  try clear hfz20_0 hfz20_1 hfz20_2 hfz20_3
  try clear hfz22_0 hfz22_1 hfz22_2 hfz22_3
  try clear hfz24_0 hfz24_1 hfz24_2 hfz24_3
  try clear hfz7_0 hfz7_1 hfz7_2 hfz7_3
  obtain ⟨kq, x32_2, rfl, HA, HJ2, BK400, BK401, HB⟩ := hcut
  cases kq with
  | zero => exact absurd HA.out (by simp [spec_PutRecord.j0])
  | succ kj2 =>
   have H := HA.out
   clear HA
   simp only [spec_PutRecord.j0] at H
   by_cases c26 : x32_2 = true
   ·
    subst c26
    rw [if_pos rfl] at H
    simp only [Option.some.injEq, Prod.mk.injEq] at H
    obtain ⟨rfl, rfl, rfl, rfl, rfl⟩ := H
    have hnb27 := NB401_400.out
    have hnc27 := NB400_401.out
    obtain ⟨hcz28_0, hcz28_1, hcz28_2, hcz28_3⟩ := cz4 BK401
    obtain ⟨hfz28_0, hfz28_1, hfz28_2, hfz28_3⟩ := fz4 BK401
    go_wp2
    refine bodyPost_ret (results_ct rfl _ _ gb401 36 #[.slice none 0 0, .int .i64 0, .int .i64 0, .int .i64 0] (0, 0) _ rfl (by (with_reducible repeat (first | refine blk_drewN ?_ _ | refine blk_drew ?_ | refine blk_alloc ?_ _)); refine blk_put (cs := #[.slice none 0 0, .int .i64 0, .int .i64 0, .int .i64 0]) ?_ 3 _ rfl; (with_reducible repeat (first | refine blk_drewN ?_ _ | refine blk_drew ?_ | refine blk_alloc ?_ _)); refine blk_put (cs := #[.slice none 0 0, .int .i64 0, .int .i64 0, .int .i64 0]) ?_ 2 _ rfl; (with_reducible repeat (first | refine blk_drewN ?_ _ | refine blk_drew ?_ | refine blk_alloc ?_ _)); refine blk_put (cs := #[.slice none 0 0, .int .i64 0, .int .i64 0, .int .i64 0]) ?_ 1 _ rfl; (with_reducible repeat (first | refine blk_drewN ?_ _ | refine blk_drew ?_ | refine blk_alloc ?_ _)); refine blk_put (cs := #[.slice none 0 0, .int .i64 0, .int .i64 0, .int .i64 0]) ?_ 0 _ rfl; (with_reducible repeat (first | refine blk_drewN ?_ _ | refine blk_drew ?_ | refine blk_alloc ?_ _)); exact BK401.out) Tryd.underlying36 rfl (by kernel_rfl)) rfl ?_
    exact ⟨_, by first | rfl | (simp [errW_none, errW_some] <;> rfl) | (simp [*, errW_none, errW_some] <;> rfl), by first | exact Kd.R_nil _ _ _ _ _ | exact Kd.N_nil _ _ _ _ _ | exact Kd.V_nil _ _ _ _ _ | exact Kd.Q_nil _ _ _ _ _ | exact Kd.S_nil _ _ _ _ _, bs2 HB GE400 GE401⟩
   ·
    replace c26 := Bool.eq_false_iff.mpr c26
    subst c26
    rw [if_neg (show ¬ (false = true) by decide)] at H
    replace H := Option.bind_eq_some_iff.mp H
    obtain ⟨⟨t403, t406, t407, t408⟩, A290, H⟩ := H
    replace H : ((spec_SlotSum.f kj2 t407 t408 a1 0).bind fun t410 => (if (l0_0.length : Int) = 0 then (none) else (if 0 ≤ (Int.tmod t406 (l0_0.length : Int)) then (if (Int.tmod t406 (l0_0.length : Int)) < (t403.length : Int) then (some ((t403.set ((Int.tmod t406 (l0_0.length : Int)) : Int).toNat (⟨t407, t408, a1, t410⟩ : S26)), wrap64 (t406 + 1), wrap64 ((wrap64 (Int.tdiv (wrap64 (t406 + 1)) (l0_0.length : Int))) + 1), t408, true)) else (none)) else (none)))) = some (r1, r2, r3, r4, r5) := H
    have A29 := Aside0.mk A290
    clear A290
    replace H := Option.bind_eq_some_iff.mp H
    obtain ⟨t410, A300, H⟩ := H
    replace H : (if (l0_0.length : Int) = 0 then (none) else (if 0 ≤ (Int.tmod t406 (l0_0.length : Int)) then (if (Int.tmod t406 (l0_0.length : Int)) < (t403.length : Int) then (some ((t403.set ((Int.tmod t406 (l0_0.length : Int)) : Int).toNat (⟨t407, t408, a1, t410⟩ : S26)), wrap64 (t406 + 1), wrap64 ((wrap64 (Int.tdiv (wrap64 (t406 + 1)) (l0_0.length : Int))) + 1), t408, true)) else (none)) else (none))) = some (r1, r2, r3, r4, r5) := H
    have A30 := Aside0.mk A300
    clear A300
    by_cases c31 : (l0_0.length : Int) = 0
    ·
     rw [if_pos c31] at H
     exact absurd H (by simp)
    ·
     rw [if_neg c31] at H
     have c31b0 : ((l0_0.length : Int) == 0) = false := beq_eq_false_iff_ne.mpr c31
     have c31b1 : ((l0_0.length : Int) != 0) = true := bne_iff_ne.mpr c31
     have c31b2 : ¬ (l0_0 = []) := fun h_ => c31 (by rw [h_]; rfl)
     obtain ⟨ji32, hji32⟩ : ∃ j_ : Int, (Int.tmod t406 (l0_0.length : Int)) = j_ := ⟨_, rfl⟩
     replace H : (if 0 ≤ (ji32) then (if (ji32) < (t403.length : Int) then (some ((t403.set ((ji32) : Int).toNat (⟨t407, t408, a1, t410⟩ : S26)), wrap64 (t406 + 1), wrap64 ((wrap64 (Int.tdiv (wrap64 (t406 + 1)) (l0_0.length : Int))) + 1), t408, true)) else (none)) else (none)) = some (r1, r2, r3, r4, r5) := by first | (rw [hji32] at H; exact H) | (simp only [hji32] at H ⊢; exact H)
     (try rw [hji32] at A29)
     (try rw [hji32] at A30)
     by_cases c33 : 0 ≤ (ji32)
     ·
      rw [if_pos c33] at H
      have c33b0 : decide (0 ≤ (ji32)) = true := decide_eq_true c33
      clear c33
      by_cases c34 : (ji32) < (t403.length : Int)
      ·
       rw [if_pos c34] at H
       have c34b0 : decide ((ji32) < (t403.length : Int)) = true := decide_eq_true c34
       clear c34
       obtain ⟨y411, hy411⟩ : ∃ y_ : List (S26), y_ = (t403.set ((ji32) : Int).toNat (⟨t407, t408, a1, t410⟩ : S26)) := ⟨_, rfl⟩
       replace H : (some (y411, wrap64 (t406 + 1), wrap64 ((wrap64 (Int.tdiv (wrap64 (t406 + 1)) (l0_0.length : Int))) + 1), t408, true)) = some (r1, r2, r3, r4, r5) := by first | (rw [hy411]; with_reducible exact H) | (have H2_ := (Option.bind_some _ _).symm.trans H; rw [hy411]; with_reducible exact H2_) | (have H2_ := (Option.bind_some _ _).symm.trans H; with_reducible exact H2_) | with_reducible exact H | (rw [hy411]; exact H) | exact H
       have Ny411 := Aside0.mk hy411
       clear hy411
       simp only [Option.some.injEq, Prod.mk.injEq] at H
       obtain ⟨rfl, rfl, rfl, rfl, rfl⟩ := H
       have hnb36 := NB400_401.out
       have hnc36 := NB401_400.out
       obtain ⟨hcz37_0, hcz37_1, hcz37_2, hcz37_3⟩ := cz4 BK400
       obtain ⟨hfz37_0, hfz37_1, hfz37_2, hfz37_3⟩ := fz4 BK400
       try go_wp2_with (first | ((with_reducible refine gate_callee (f := 68) rfl ?_); refine gL (some 35) rfl rfl Tryd.func68 (by kernel_rfl) rfl #[.agg #[.slice A0_0 l0_0.length c0_0, .int .i64 a0_1, .int .i64 a0_2, .int .i64 a0_3]] rfl ?_; (with_reducible refine (spec_l10Own.calls _ _ l0_0 a0_1 a0_2 a0_3 t403 t406 t407 t408 _ ?side1 ?side2 A29.out).mono ?_); (case side1 => exact cb HR0_0 HB); (case side2 => exact HC0_0.out); rintro e w38 ⟨v404, rfl, ho0, hb⟩; refine ⟨_, rfl, ?_⟩; have HO405 := Aside0.mk (Kd.R_lower ho0 (below_size (bs2 HB GE400 GE401))); replace BK400 := nb BK400 hb; replace BK401 := nb BK401 hb; replace HB := Aside0.mk (below_step (bs2 HB GE400 GE401) hb); (try clear hb); (try clear hb2); (try clear hk); (try clear hi); (try clear ho0); obtain ⟨Ao39, co39, eo39⟩ := Kd.R_slice HO405.out; subst eo39; obtain ⟨hcz40_0, hcz40_1, hcz40_2, hcz40_3⟩ := cz4 BK400; obtain ⟨hfz40_0, hfz40_1, hfz40_2, hfz40_3⟩ := fz4 BK400) | ((with_reducible refine gate_dst (N := 7) rfl ?_); (try (refine gate_guard (by rfl) ?_; dsimp only)); refine box_event ?hg (N := 7) ?hd (cs := #[.int .i64 0, .int .i64 0, .string (⟨#[]⟩ : ByteArray), .int .i64 0]) (t := 26) ?hr ?_; (case hd => rfl); (case hg => rfl); (case hr => first | (go_simp; done) | (go_simp; rfl)); intro gb409 hg w41 hbox hb; replace HO405 := Aside0.mk (Kd.R_below (Kd.R_elderB (rf HO405 BK400) gb409 (Nat.le_of_eq hg.symm)) hb); have BK409 := Aside0.mk (hbox); have GW409 := Aside0.mk ((by rw [hg]; exact (below_size (bs2 HB GE400 GE401)) : w.heap.size ≤ gb409)); have GE409 := Aside0.mk ((by rw [hg]; exact (below_size (bs2 HB GE400 GE401)) : w.heap.size ≤ gb409)); replace HB := Aside0.mk (below_step (bs2 HB GE400 GE401) hb); have NB400_409 := Aside0.mk ((bnz BK400 hg : gb400 ≠ gb409)); have NB409_400 := Aside0.mk ((bmz BK400 hg : gb409 ≠ gb400)); replace BK400 := Aside0.mk (blk_below (g := gb400) (o := .cells #[.slice Ao39 t403.length co39, .int .i64 t406, .int .i64 t407, .int .i64 t408] 36 (0, 0)) (by (with_reducible repeat (first | refine blk_drewN ?_ _ | refine blk_drew ?_ | refine blk_alloc ?_ _)); refine blk_put (cs := #[.slice Ao39 t403.length co39, .int .i64 t406, .int .i64 t407, .int .i64 a0_3]) ?_ 3 _ rfl; (with_reducible repeat (first | refine blk_drewN ?_ _ | refine blk_drew ?_ | refine blk_alloc ?_ _)); refine blk_put (cs := #[.slice Ao39 t403.length co39, .int .i64 t406, .int .i64 a0_2, .int .i64 a0_3]) ?_ 2 _ rfl; (with_reducible repeat (first | refine blk_drewN ?_ _ | refine blk_drew ?_ | refine blk_alloc ?_ _)); refine blk_put (cs := #[.slice Ao39 t403.length co39, .int .i64 a0_1, .int .i64 a0_2, .int .i64 a0_3]) ?_ 1 _ rfl; (with_reducible repeat (first | refine blk_drewN ?_ _ | refine blk_drew ?_ | refine blk_alloc ?_ _)); refine blk_put (cs := #[.slice A0_0 l0_0.length c0_0, .int .i64 a0_1, .int .i64 a0_2, .int .i64 a0_3]) ?_ 0 _ rfl; (with_reducible repeat (first | refine blk_drewN ?_ _ | refine blk_drew ?_ | refine blk_alloc ?_ _)); exact BK400.out) hb); have NB401_409 := Aside0.mk ((by rw [hg]; exact Nat.ne_of_lt (blk_lt (g := gb401) (o := .cells #[.slice none 0 0, .int .i64 0, .int .i64 0, .int .i64 0] 36 (0, 0)) (bf BK401 NB401_400)) : gb401 ≠ gb409)); have NB409_401 := Aside0.mk ((by rw [hg]; exact Nat.ne_of_gt (blk_lt (g := gb401) (o := .cells #[.slice none 0 0, .int .i64 0, .int .i64 0, .int .i64 0] 36 (0, 0)) (bf BK401 NB401_400)) : gb409 ≠ gb401)); replace BK401 := Aside0.mk (blk_below (bf BK401 NB401_400) hb); clear hb hbox hg; have hnb42 := NB409_400.out; have hnc42 := NB400_409.out; have hnb43 := NB409_401.out; have hnc43 := NB401_409.out; obtain ⟨hcz44_0, hcz44_1, hcz44_2, hcz44_3⟩ := cz4 BK409; obtain ⟨hfz44_0, hfz44_1, hfz44_2, hfz44_3⟩ := fz4 BK409) | ((with_reducible refine gate_callee (f := 14) rfl ?_); refine gL (some 43) rfl rfl Tryd.func14 (by kernel_rfl) rfl #[.agg #[.int .i64 t407, .int .i64 t408, .string a1, .int .i64 0]] rfl ?_; (with_reducible refine (spec_SlotSum.calls kj2 t407 t408 a1 0 t410 _ A30.out).mono ?_); rintro e w45 ⟨rfl, hb⟩; refine ⟨_, rfl, ?_⟩; replace HO405 := Aside0.mk (Kd.R_below (by (with_reducible repeat (first | apply Kd.R_alloc | apply Kd.R_drewN | apply Kd.R_drew)); exact (Kd.R_mono (Kd.R_far (p := ⟨gb409, 3, none⟩) (Kd.R_far (p := ⟨gb409, 2, none⟩) (Kd.R_far (p := ⟨gb409, 1, none⟩) (Kd.R_far (p := ⟨gb409, 0, none⟩) (Kd.R_mono HO405.out (fun k_ hk => (⟨hk, hk.2⟩ : _ ∧ k_ ≠ gb409))) (fun _ hk => hk.2) (.int .i64 t407)) (fun _ hk => hk.2) (.int .i64 t408)) (fun _ hk => hk.2) (.string a1)) (fun _ hk => hk.2) (.int .i64 0)) (fun _ h_ => h_.1))) hb); replace BK400 := Aside0.mk (blk_below (bf BK400 NB400_409) hb); replace BK401 := Aside0.mk (blk_below (bf BK401 NB401_409) hb); replace BK409 := Aside0.mk (blk_below (g := gb409) (o := .cells #[.int .i64 t407, .int .i64 t408, .string a1, .int .i64 0] 26 (0, 0)) (by (with_reducible repeat (first | refine blk_drewN ?_ _ | refine blk_drew ?_ | refine blk_alloc ?_ _)); refine blk_put (cs := #[.int .i64 t407, .int .i64 t408, .string a1, .int .i64 0]) ?_ 3 _ rfl; (with_reducible repeat (first | refine blk_drewN ?_ _ | refine blk_drew ?_ | refine blk_alloc ?_ _)); refine blk_put (cs := #[.int .i64 t407, .int .i64 t408, .string (⟨#[]⟩ : ByteArray), .int .i64 0]) ?_ 2 _ rfl; (with_reducible repeat (first | refine blk_drewN ?_ _ | refine blk_drew ?_ | refine blk_alloc ?_ _)); refine blk_put (cs := #[.int .i64 t407, .int .i64 0, .string (⟨#[]⟩ : ByteArray), .int .i64 0]) ?_ 1 _ rfl; (with_reducible repeat (first | refine blk_drewN ?_ _ | refine blk_drew ?_ | refine blk_alloc ?_ _)); refine blk_put (cs := #[.int .i64 0, .int .i64 0, .string (⟨#[]⟩ : ByteArray), .int .i64 0]) ?_ 0 _ rfl; (with_reducible repeat (first | refine blk_drewN ?_ _ | refine blk_drew ?_ | refine blk_alloc ?_ _)); exact BK409.out) hb); replace HB := Aside0.mk (below_step (bs3 HB GE400 GE401 GE409) hb); (try clear hb); (try clear hb2); (try clear hk); (try clear hi); obtain ⟨hcz46_0, hcz46_1, hcz46_2, hcz46_3⟩ := cz4 BK409; obtain ⟨hfz46_0, hfz46_1, hfz46_2, hfz46_3⟩ := fz4 BK409))
       have n0_ : Aside0 (Kd.R k26 26 (w45.setCell ⟨gb409, 3, none⟩ (.int .i64 t410)) w.heap.size (fun k_ => k_ ≠ gb409) (.slice Ao39 t403.length co39) t403) := ⟨by (with_reducible repeat (first | apply Kd.R_alloc | apply Kd.R_drewN | apply Kd.R_drew)); exact Kd.R_mono (Kd.R_far (p := ⟨gb409, 3, none⟩) (Kd.R_mono HO405.out (fun k_ hk => (⟨hk, hk.2⟩ : _ ∧ k_ ≠ gb409))) (fun _ hk => hk.2) (.int .i64 t410)) (fun _ hk => hk.1.2)⟩
       have n1_ : Aside0 ((w45.setCell ⟨gb409, 3, none⟩ (.int .i64 t410)).heap[gb400]? = some (.cells #[.slice Ao39 t403.length co39, .int .i64 t406, .int .i64 t407, .int .i64 t408] 36 (0, 0))) := ⟨bf BK400 NB400_409⟩
       have n2_ : Aside0 ((w45.setCell ⟨gb409, 3, none⟩ (.int .i64 t410)).heap[gb401]? = some (.cells #[.slice none 0 0, .int .i64 0, .int .i64 0, .int .i64 0] 36 (0, 0))) := ⟨bf BK401 NB401_409⟩
       have n3_ : Aside0 ((w45.setCell ⟨gb409, 3, none⟩ (.int .i64 t410)).heap[gb409]? = some (.cells #[.int .i64 t407, .int .i64 t408, .string a1, .int .i64 t410] 26 (0, 0))) := ⟨by (with_reducible repeat (first | refine blk_drewN ?_ _ | refine blk_drew ?_ | refine blk_alloc ?_ _)); refine blk_put (cs := #[.int .i64 t407, .int .i64 t408, .string a1, .int .i64 0]) ?_ 3 _ rfl; (with_reducible repeat (first | refine blk_drewN ?_ _ | refine blk_drew ?_ | refine blk_alloc ?_ _)); exact BK409.out⟩
       have n4_ : Aside0 (Below w.heap.size w (w45.setCell ⟨gb409, 3, none⟩ (.int .i64 t410))) := ⟨bs3 HB GE400 GE401 GE409⟩
       (try clear HO405)
       (try clear BK400)
       (try clear BK401)
       (try clear BK409)
       (try clear HB)
       generalize (w45.setCell ⟨gb409, 3, none⟩ (.int .i64 t410)) = w47 at n0_ n1_ n2_ n3_ n4_ ⊢
       have HO405 := n0_
       have BK400 := n1_
       have BK401 := n2_
       have BK409 := n3_
       have HB := n4_
       clear n0_ n1_ n2_ n3_ n4_
       have n0_ := Aside0.mk (Kd.R_drew HO405.out)
       have n1_ := Aside0.mk (blk_drew BK400.out)
       have n2_ := Aside0.mk (blk_drew BK401.out)
       have n3_ := Aside0.mk (blk_drew BK409.out)
       have n4_ := Aside0.mk (below_drew1 HB.out)
       clear HO405
       clear BK400
       clear BK401
       clear BK409
       clear HB
       have HO405 := n0_
       have BK400 := n1_
       have BK401 := n2_
       have BK409 := n3_
       have HB := n4_
       clear n0_ n1_ n2_ n3_ n4_
       have p35 : 0 ≤ ((ji32) : Int) := of_decide_eq_true (by first | (with_reducible assumption) | assumption)
       have q35 : ((ji32) : Int) < ((t403.length : Int) : Int) := of_decide_eq_true (by first | (with_reducible assumption) | assumption)
       obtain ⟨go35, co35, eo35, gb35, gl35, cl35, HG35⟩ := Kd.R_form HO405.out (by omega)
       (first | cases eo35 | (injection eo35 with ea_ en_ ec_; (first | subst ea_ | (injection ea_ with ea_; subst ea_)); subst ec_; clear en_))
       have GB35 := Aside0.mk gb35
       have GG35 := Aside0.mk HG35
       clear gb35 gl35 HG35
       obtain ⟨ce35, hcl35, hM35, hcc35, hfr35⟩ := Kd.R_elem HO405.out z26 ((ji32) : Int) p35 q35
       obtain rfl := k26_openM hM35
       have hx35_0 : World.cell? _ ⟨go35, ((ji32) : Int).toNat * 4, none⟩ = some (.int .i64 ((rd_T26 t403 (ji32)).f0)) := hcc35 0 _ rfl
       have hx35_1 : World.cell? _ ⟨go35, ((ji32) : Int).toNat * 4 + 1, none⟩ = some (.int .i64 ((rd_T26 t403 (ji32)).f1)) := hcc35 1 _ rfl
       have hx35_2 : World.cell? _ ⟨go35, ((ji32) : Int).toNat * 4 + 2, none⟩ = some (.string ((rd_T26 t403 (ji32)).f2)) := hcc35 2 _ rfl
       have hx35_3 : World.cell? _ ⟨go35, ((ji32) : Int).toNat * 4 + 3, none⟩ = some (.int .i64 ((rd_T26 t403 (ji32)).f3)) := hcc35 3 _ rfl
       have hf35_0 : World.frozen? _ ⟨go35, ((ji32) : Int).toNat * 4, none⟩ = false := hfr35 0
       have hf35_1 : World.frozen? _ ⟨go35, ((ji32) : Int).toNat * 4 + 1, none⟩ = false := hfr35 1
       have hf35_2 : World.frozen? _ ⟨go35, ((ji32) : Int).toNat * 4 + 2, none⟩ = false := hfr35 2
       have hf35_3 : World.frozen? _ ⟨go35, ((ji32) : Int).toNat * 4 + 3, none⟩ = false := hfr35 3
       clear hcl35 hcc35 hfr35 hM35
       replace p35 := eq_true p35
       replace q35 := eq_true q35
       obtain ⟨ce49, hcl49, hM49, hcc49, hfr49⟩ := Kd.R_elem HO405.out z26 ((ji32) : Int) (of_decide_eq_true (by first | (with_reducible assumption) | assumption)) (by have h_ : ((ji32) : Int) < ((t403.length : Int) : Int) := of_decide_eq_true (by first | (with_reducible assumption) | assumption); first | exact h_ | (have e_ := (Kd.R_reads' HO405.out).1; omega) | simpa using h_)
       obtain rfl := k26_openM hM49
       have HP49 := (Kd.R_seg HO405.out ((ji32) : Int) (of_decide_eq_true (by first | (with_reducible assumption) | assumption)) (by have h_ : ((ji32) : Int) < ((t403.length : Int) : Int) := of_decide_eq_true (by first | (with_reducible assumption) | assumption); first | exact h_ | (have e_ := (Kd.R_reads' HO405.out).1; omega) | simpa using h_) (seg := [.int .i64 t407, .int .i64 t408, .string a1, .int .i64 t410]) (j := 0) hcl49 hcc49 (show 4 ≤ 4 from by decide) (x' := (⟨t407, t408, a1, t410⟩ : S26)) (k26_mkM _ _ _ (⟨t407, t408, a1, t410⟩ : S26) ) (fun _ hk => hk)).1
       rw [← Ny411.out] at HP49
       have HQ49 := Aside0.mk HP49
       clear hcl49 hcc49 hfr49 hM49 HP49
       refine start_ (n := 9) (S := fun w' => w'.cell? ⟨gb400, 0, none⟩ = some (.slice (some ⟨go35, 0, none⟩) t403.length co39) ∧ w'.cell? ⟨gb400, 1, none⟩ = some (.int .i64 t406) ∧ w'.cell? ⟨gb400, 2, none⟩ = some (.int .i64 t407) ∧ w'.cell? ⟨gb400, 3, none⟩ = some (.int .i64 t408) ∧ w'.cell? ⟨gb409, 0, none⟩ = some (.int .i64 t407) ∧ w'.cell? ⟨gb409, 1, none⟩ = some (.int .i64 t408) ∧ w'.cell? ⟨gb409, 2, none⟩ = some (.string a1) ∧ w'.cell? ⟨gb409, 3, none⟩ = some (.int .i64 t410)) (ds := [8]) #[false, false, false, false, false, false, false, false, false] (by kernel_rfl) rfl rfl ⟨(blk_cell BK400.out 0).trans rfl, (blk_cell BK400.out 1).trans rfl, (blk_cell BK400.out 2).trans rfl, (blk_cell BK400.out 3).trans rfl, (blk_cell BK409.out 0).trans rfl, (blk_cell BK409.out 1).trans rfl, (blk_cell BK409.out 2).trans rfl, (blk_cell BK409.out 3).trans rfl⟩ (fun hHeld => ?_); refine with_tabW spec_PutRecord.tab7 spec_PutRecord.bits7 (fun HT_ HW_ => ?_)
       generalize w47.drew = w48 at HO405 BK400 BK401 BK409 HB GG35 HQ49 hf35_0 hf35_1 hf35_2 hf35_3 hx35_0 hx35_1 hx35_2 hx35_3 hHeld ⊢
       refine pureS 0 45 HT_.out ?_
       refine pureS 2 47 HT_.out ?_
       refine pureS 4 49 HT_.out ?_
       refine takeS 1 46 HT_.out HW_.out hHeld (hr := by rintro w' ⟨s0, s1, s2, s3, s4, s5, s6, s7⟩; go_simp; with_reducible rfl) (h := ?_)
       refine takeS 3 48 HT_.out HW_.out hHeld (hr := by rintro w' ⟨s0, s1, s2, s3, s4, s5, s6, s7⟩; go_simp; with_reducible rfl) (h := ?_)
       refine pureS 5 50 HT_.out ?_
       refine takeS 6 51 HT_.out HW_.out hHeld (hr := by rintro w' ⟨s0, s1, s2, s3, s4, s5, s6, s7⟩; go_simp; with_reducible rfl) (h := ?_)
       refine pureS 7 52 HT_.out ?_
       refine last_ (i := 8) (N := none) #[true, true, true, true, true, true, true, true, true] rfl rfl (one_of HT_.out (by kernel_rfl)) (by decide) (fun K hK => ?_)
       refine skip_ (w1 := ?_) (by rfl) rfl ?_ ?_
       rotate_left
       ·
        go_simp
        rfl
       refine hK.out _ _ ?_
       clear hK K
       refine done_ (done_of HT_.out (by kernel_rfl)) ?_
       have n0_ : Aside0 (Kd.R k26 26 ((((w48.setCell ⟨go35, ((ji32) : Int).toNat * 4, none⟩ (.int .i64 t407)).setCell ⟨go35, ((ji32) : Int).toNat * 4 + 1, none⟩ (.int .i64 t408)).setCell ⟨go35, ((ji32) : Int).toNat * 4 + 2, none⟩ (.string a1)).setCell ⟨go35, ((ji32) : Int).toNat * 4 + 3, none⟩ (.int .i64 t410)) w.heap.size (fun k_ => k_ ≠ gb409) (.slice (some ⟨go35, 0, none⟩) t403.length co39) y411) := ⟨(by first | exact rr HQ49.out | exact HQ49.out)⟩
       have n1_ : Aside0 (((((w48.setCell ⟨go35, ((ji32) : Int).toNat * 4, none⟩ (.int .i64 t407)).setCell ⟨go35, ((ji32) : Int).toNat * 4 + 1, none⟩ (.int .i64 t408)).setCell ⟨go35, ((ji32) : Int).toNat * 4 + 2, none⟩ (.string a1)).setCell ⟨go35, ((ji32) : Int).toNat * 4 + 3, none⟩ (.int .i64 t410)).heap[gb400]? = some (.cells #[.slice (some ⟨go35, 0, none⟩) t403.length co39, .int .i64 t406, .int .i64 t407, .int .i64 t408] 36 (0, 0))) := ⟨by (with_reducible repeat (first | refine blk_drewN ?_ _ | refine blk_drew ?_ | refine blk_alloc ?_ _)); refine blk_far ?_ (by have h_ := Kd.R_ne HO405.out BK400.out (by decide); intro e_; exact h_ (by rw [e_]; rfl)) _; (with_reducible repeat (first | refine blk_drewN ?_ _ | refine blk_drew ?_ | refine blk_alloc ?_ _)); refine blk_far ?_ (by have h_ := Kd.R_ne HO405.out BK400.out (by decide); intro e_; exact h_ (by rw [e_]; rfl)) _; (with_reducible repeat (first | refine blk_drewN ?_ _ | refine blk_drew ?_ | refine blk_alloc ?_ _)); refine blk_far ?_ (by have h_ := Kd.R_ne HO405.out BK400.out (by decide); intro e_; exact h_ (by rw [e_]; rfl)) _; (with_reducible repeat (first | refine blk_drewN ?_ _ | refine blk_drew ?_ | refine blk_alloc ?_ _)); refine blk_far ?_ (by have h_ := Kd.R_ne HO405.out BK400.out (by decide); intro e_; exact h_ (by rw [e_]; rfl)) _; (with_reducible repeat (first | refine blk_drewN ?_ _ | refine blk_drew ?_ | refine blk_alloc ?_ _)); exact BK400.out⟩
       have n2_ : Aside0 (((((w48.setCell ⟨go35, ((ji32) : Int).toNat * 4, none⟩ (.int .i64 t407)).setCell ⟨go35, ((ji32) : Int).toNat * 4 + 1, none⟩ (.int .i64 t408)).setCell ⟨go35, ((ji32) : Int).toNat * 4 + 2, none⟩ (.string a1)).setCell ⟨go35, ((ji32) : Int).toNat * 4 + 3, none⟩ (.int .i64 t410)).heap[gb401]? = some (.cells #[.slice none 0 0, .int .i64 0, .int .i64 0, .int .i64 0] 36 (0, 0))) := ⟨by (with_reducible repeat (first | refine blk_drewN ?_ _ | refine blk_drew ?_ | refine blk_alloc ?_ _)); refine blk_far ?_ (by have h_ := Kd.R_ne HO405.out BK401.out (by decide); intro e_; exact h_ (by rw [e_]; rfl)) _; (with_reducible repeat (first | refine blk_drewN ?_ _ | refine blk_drew ?_ | refine blk_alloc ?_ _)); refine blk_far ?_ (by have h_ := Kd.R_ne HO405.out BK401.out (by decide); intro e_; exact h_ (by rw [e_]; rfl)) _; (with_reducible repeat (first | refine blk_drewN ?_ _ | refine blk_drew ?_ | refine blk_alloc ?_ _)); refine blk_far ?_ (by have h_ := Kd.R_ne HO405.out BK401.out (by decide); intro e_; exact h_ (by rw [e_]; rfl)) _; (with_reducible repeat (first | refine blk_drewN ?_ _ | refine blk_drew ?_ | refine blk_alloc ?_ _)); refine blk_far ?_ (by have h_ := Kd.R_ne HO405.out BK401.out (by decide); intro e_; exact h_ (by rw [e_]; rfl)) _; (with_reducible repeat (first | refine blk_drewN ?_ _ | refine blk_drew ?_ | refine blk_alloc ?_ _)); exact BK401.out⟩
       have n3_ : Aside0 (((((w48.setCell ⟨go35, ((ji32) : Int).toNat * 4, none⟩ (.int .i64 t407)).setCell ⟨go35, ((ji32) : Int).toNat * 4 + 1, none⟩ (.int .i64 t408)).setCell ⟨go35, ((ji32) : Int).toNat * 4 + 2, none⟩ (.string a1)).setCell ⟨go35, ((ji32) : Int).toNat * 4 + 3, none⟩ (.int .i64 t410)).heap[gb409]? = some (.cells #[.int .i64 t407, .int .i64 t408, .string a1, .int .i64 t410] 26 (0, 0))) := ⟨by (with_reducible repeat (first | refine blk_drewN ?_ _ | refine blk_drew ?_ | refine blk_alloc ?_ _)); refine blk_far ?_ (by have h_ := Kd.R_away HO405.out (fun _ hk => hk); intro e_; exact h_ (by rw [e_]; rfl)) _; (with_reducible repeat (first | refine blk_drewN ?_ _ | refine blk_drew ?_ | refine blk_alloc ?_ _)); refine blk_far ?_ (by have h_ := Kd.R_away HO405.out (fun _ hk => hk); intro e_; exact h_ (by rw [e_]; rfl)) _; (with_reducible repeat (first | refine blk_drewN ?_ _ | refine blk_drew ?_ | refine blk_alloc ?_ _)); refine blk_far ?_ (by have h_ := Kd.R_away HO405.out (fun _ hk => hk); intro e_; exact h_ (by rw [e_]; rfl)) _; (with_reducible repeat (first | refine blk_drewN ?_ _ | refine blk_drew ?_ | refine blk_alloc ?_ _)); refine blk_far ?_ (by have h_ := Kd.R_away HO405.out (fun _ hk => hk); intro e_; exact h_ (by rw [e_]; rfl)) _; (with_reducible repeat (first | refine blk_drewN ?_ _ | refine blk_drew ?_ | refine blk_alloc ?_ _)); exact BK409.out⟩
       have n4_ : Aside0 (Below w.heap.size w ((((w48.setCell ⟨go35, ((ji32) : Int).toNat * 4, none⟩ (.int .i64 t407)).setCell ⟨go35, ((ji32) : Int).toNat * 4 + 1, none⟩ (.int .i64 t408)).setCell ⟨go35, ((ji32) : Int).toNat * 4 + 2, none⟩ (.string a1)).setCell ⟨go35, ((ji32) : Int).toNat * 4 + 3, none⟩ (.int .i64 t410))) := ⟨by repeat (first | (with_reducible first | exact HB.out | apply below_alloc | apply pw_below_drewN | apply below_drew1 | refine below_set ?_ GB35.out | refine below_set ?_ GB35.out | refine below_set ?_ GB35.out | refine below_set ?_ GB35.out | refine below_set ?_ GE400.out | refine below_set ?_ GE401.out | refine below_set ?_ GE409.out) | exact HB.out)⟩
       (try clear HO405)
       (try clear BK400)
       (try clear BK401)
       (try clear BK409)
       (try clear HB)
       generalize ((((w48.setCell ⟨go35, ((ji32) : Int).toNat * 4, none⟩ (.int .i64 t407)).setCell ⟨go35, ((ji32) : Int).toNat * 4 + 1, none⟩ (.int .i64 t408)).setCell ⟨go35, ((ji32) : Int).toNat * 4 + 2, none⟩ (.string a1)).setCell ⟨go35, ((ji32) : Int).toNat * 4 + 3, none⟩ (.int .i64 t410)) = w50 at n0_ n1_ n2_ n3_ n4_ ⊢
       have HO405 := n0_
       have BK400 := n1_
       have BK401 := n2_
       have BK409 := n3_
       have HB := n4_
       clear n0_ n1_ n2_ n3_ n4_
       obtain ⟨hcz51_0, hcz51_1, hcz51_2, hcz51_3⟩ := cz4 BK400
       obtain ⟨hfz51_0, hfz51_1, hfz51_2, hfz51_3⟩ := fz4 BK400
       obtain ⟨hcz52_0, hcz52_1, hcz52_2, hcz52_3⟩ := cz4 BK401
       obtain ⟨hfz52_0, hfz52_1, hfz52_2, hfz52_3⟩ := fz4 BK401
       try go_wp2
       refine bodyPost_ret (results_ct rfl _ _ gb401 36 #[.slice (some ⟨go35, 0, none⟩) t403.length co39, .int .i64 (wrap64 (t406 + 1)), .int .i64 (wrap64 ((wrap64 (Int.tdiv (wrap64 (t406 + 1)) (l0_0.length : Int))) + 1)), .int .i64 t408] (0, 0) _ rfl (by (with_reducible repeat (first | refine blk_drewN ?_ _ | refine blk_drew ?_ | refine blk_alloc ?_ _)); refine blk_put (cs := #[.slice (some ⟨go35, 0, none⟩) t403.length co39, .int .i64 (wrap64 (t406 + 1)), .int .i64 (wrap64 ((wrap64 (Int.tdiv (wrap64 (t406 + 1)) (l0_0.length : Int))) + 1)), .int .i64 0]) ?_ 3 _ rfl; (with_reducible repeat (first | refine blk_drewN ?_ _ | refine blk_drew ?_ | refine blk_alloc ?_ _)); refine blk_put (cs := #[.slice (some ⟨go35, 0, none⟩) t403.length co39, .int .i64 (wrap64 (t406 + 1)), .int .i64 0, .int .i64 0]) ?_ 2 _ rfl; (with_reducible repeat (first | refine blk_drewN ?_ _ | refine blk_drew ?_ | refine blk_alloc ?_ _)); refine blk_put (cs := #[.slice (some ⟨go35, 0, none⟩) t403.length co39, .int .i64 0, .int .i64 0, .int .i64 0]) ?_ 1 _ rfl; (with_reducible repeat (first | refine blk_drewN ?_ _ | refine blk_drew ?_ | refine blk_alloc ?_ _)); refine blk_put (cs := #[.slice none 0 0, .int .i64 0, .int .i64 0, .int .i64 0]) ?_ 0 _ rfl; (with_reducible repeat (first | refine blk_drewN ?_ _ | refine blk_drew ?_ | refine blk_alloc ?_ _)); refine blk_far ?_ NB401_400.out _; (with_reducible repeat (first | refine blk_drewN ?_ _ | refine blk_drew ?_ | refine blk_alloc ?_ _)); refine blk_far ?_ NB401_400.out _; (with_reducible repeat (first | refine blk_drewN ?_ _ | refine blk_drew ?_ | refine blk_alloc ?_ _)); exact BK401.out) Tryd.underlying36 rfl (by kernel_rfl)) rfl ?_
       exact ⟨_, by first | rfl | (simp [errW_none, errW_some] <;> rfl) | (simp only [← hji32]; first | rfl | (simp [errW_none, errW_some] <;> rfl)) | (simp [*, errW_none, errW_some] <;> rfl), by (with_reducible repeat (first | apply Kd.R_alloc | apply Kd.R_drewN | apply Kd.R_drew)); exact Kd.R_mono (Kd.R_far (p := ⟨gb401, 3, none⟩) (Kd.R_far (p := ⟨gb401, 2, none⟩) (Kd.R_far (p := ⟨gb401, 1, none⟩) (Kd.R_far (p := ⟨gb401, 0, none⟩) (Kd.R_far (p := ⟨gb400, 2, none⟩) (Kd.R_far (p := ⟨gb400, 1, none⟩) (Kd.R_types (Kd.R_types HO405.out BK400.out (by decide)) BK401.out (by decide)) (fun _ hk => hk.1.2) (.int .i64 (wrap64 (t406 + 1)))) (fun _ hk => hk.1.2) (.int .i64 (wrap64 ((wrap64 (Int.tdiv (wrap64 (t406 + 1)) (l0_0.length : Int))) + 1)))) (fun _ hk => hk.2) (.slice (some ⟨go35, 0, none⟩) t403.length co39)) (fun _ hk => hk.2) (.int .i64 (wrap64 (t406 + 1)))) (fun _ hk => hk.2) (.int .i64 (wrap64 ((wrap64 (Int.tdiv (wrap64 (t406 + 1)) (l0_0.length : Int))) + 1)))) (fun _ hk => hk.2) (.int .i64 t408)) (fun _ hk => trivial), bs3 HB GE400 GE401 GE409⟩
      ·
       rw [if_neg c34] at H
       exact absurd H (by simp)
     ·
      rw [if_neg c33] at H
      exact absurd H (by simp)

/-! ### laws_FnExactPutRecord: function 10 -/
mutual
def laws_FnExactPutRecord.j0 : Nat → ByteArray → Bool → Bool → Bool → List (S23) → Int → Int → Int → List (S26) → Int → Int → Int → List (S26) → Int → Int → Int → List (S26) → Int → Int → Int → Option (Bool)
 | 0, _, _, _, _, _, _, _, _, _, _, _, _, _, _, _, _, _, _, _, _ => none
 | k + 1, x1, x7, x10, x47, x413000, x413001, x413002, x413003, x428000, x428001, x428002, x428003, x435000, x435001, x435002, x435003, x443000, x443001, x443002, x443003 => if x47 = true then (some false) else ((laws_toRing.f k x413000 x413001 x413002 x413003).bind fun bt444 => ((laws_eqRing.f k x435000 x435001 x435002 x435003 bt444.1 bt444.2.1 bt444.2.2.1 bt444.2.2.2).bind fun t450 => (if t450 = true then ((laws_markRing.f k x435000 x435001 x435002 x435003 1).bind fun bt451 => (if bt451.1 < 0 then (laws_FnExactPutRecord.j1 k x1 x7 true x413000 x413001 x413002 x413003 x428000 x428001 x428002 x428003 x443000 x443001 x443002 x443003) else ((laws_eqRing.f k x443000 x443001 x443002 x443003 x428000 x428001 x428002 x428003).bind fun t453 => (if t453 = true then (laws_FnExactPutRecord.j1 k x1 x7 (x10 != x7) x413000 x413001 x413002 x413003 x428000 x428001 x428002 x428003 x443000 x443001 x443002 x443003) else (laws_FnExactPutRecord.j1 k x1 x7 true x413000 x413001 x413002 x413003 x428000 x428001 x428002 x428003 x443000 x443001 x443002 x443003))))) else (some false))))
def laws_FnExactPutRecord.j1 : Nat → ByteArray → Bool → Bool → List (S23) → Int → Int → Int → List (S26) → Int → Int → Int → List (S26) → Int → Int → Int → Option (Bool)
 | 0, _, _, _, _, _, _, _, _, _, _, _, _, _, _, _ => none
 | k + 1, x1, x7, x68, x413000, x413001, x413002, x413003, x428000, x428001, x428002, x428003, x443000, x443001, x443002, x443003 => if x68 = true then (some false) else ((laws_markRing.f k x443000 x443001 x443002 x443003 1).bind fun bt454 => ((laws_heldRing.f k bt454.2 x443001 x443002 x443003 1).bind fun t456 => (if t456 < 0 then (some false) else (if t456 = bt454.1 then ((laws_toRing.f k x413000 x413001 x413002 x413003).bind fun bt457 => ((impl_PutRecord.f k bt457.1 bt457.2.1 bt457.2.2.1 bt457.2.2.2 x1).bind fun bt463 => ((laws_eqRing.f k bt463.1 bt463.2.1 bt463.2.2.1 bt463.2.2.2.1 x428000 x428001 x428002 x428003).bind fun t471 => (if t471 = true then (laws_FnExactPutRecord.j2 k bt454.1 (bt463.2.2.2.2 != x7) bt454.2 x443001 x443002 x443003) else (laws_FnExactPutRecord.j2 k bt454.1 true bt454.2 x443001 x443002 x443003))))) else (some false)))))
def laws_FnExactPutRecord.j2 : Nat → Int → Bool → List (S26) → Int → Int → Int → Option (Bool)
 | 0, _, _, _, _, _, _ => none
 | k + 1, x12, x95, x443000, x443001, x443002, x443003 => if x95 = true then (some false) else ((laws_heldRing.f k x443000 x443001 x443002 x443003 1).bind fun t472 => (if t472 < 0 then (some false) else (if t472 = x12 then (some true) else (some false))))
end
def laws_FnExactPutRecord.f (k : Nat) (l0_0 : List (S23)) (a0_1 : Int) (a0_2 : Int) (a0_3 : Int) (a1 : ByteArray) : Option (Bool) := if (a1.size : Int) > 1048576 then (some true) else ((laws_szRing.f k l0_0 a0_1 a0_2 a0_3 1048576).bind fun t413 => (if t413 < 0 then (some true) else ((laws_toRing.f k l0_0 a0_1 a0_2 a0_3).bind fun bt414 => ((spec_PutRecord.f k bt414.1 bt414.2.1 bt414.2.2.1 bt414.2.2.2 a1).bind fun bt420 => ((laws_toRing.f k l0_0 a0_1 a0_2 a0_3).bind fun bt428 => ((impl_PutRecord.f k bt428.1 bt428.2.1 bt428.2.2.1 bt428.2.2.2 a1).bind fun bt435 => ((laws_eqRing.f k bt435.1 bt435.2.1 bt435.2.2.1 bt435.2.2.2.1 bt420.1 bt420.2.1 bt420.2.2.1 bt420.2.2.2.1).bind fun t443 => (if t443 = true then (laws_FnExactPutRecord.j0 k a1 bt420.2.2.2.2 bt435.2.2.2.2 (bt435.2.2.2.2 != bt420.2.2.2.2) l0_0 a0_1 a0_2 a0_3 bt420.1 bt420.2.1 bt420.2.2.1 bt420.2.2.2.1 bt428.1 bt428.2.1 bt428.2.2.1 bt428.2.2.2 bt435.1 bt435.2.1 bt435.2.2.1 bt435.2.2.2.1) else (laws_FnExactPutRecord.j0 k a1 bt420.2.2.2.2 bt435.2.2.2.2 true l0_0 a0_1 a0_2 a0_3 bt420.1 bt420.2.1 bt420.2.2.1 bt420.2.2.2.1 bt428.1 bt428.2.1 bt428.2.2.1 bt428.2.2.2 bt435.1 bt435.2.1 bt435.2.2.1 bt435.2.2.2.1)))))))))
theorem laws_FnExactPutRecord.mono_l : ∀ k, (∀ y0 y1 y2 y3 y4 y5 y6 y7 y8 y9 y10 y11 y12 y13 y14 y15 y16 y17 y18 y19, LeO (laws_FnExactPutRecord.j0 k y0 y1 y2 y3 y4 y5 y6 y7 y8 y9 y10 y11 y12 y13 y14 y15 y16 y17 y18 y19) (laws_FnExactPutRecord.j0 (k + 1) y0 y1 y2 y3 y4 y5 y6 y7 y8 y9 y10 y11 y12 y13 y14 y15 y16 y17 y18 y19)) ∧ (∀ y0 y1 y2 y3 y4 y5 y6 y7 y8 y9 y10 y11 y12 y13 y14, LeO (laws_FnExactPutRecord.j1 k y0 y1 y2 y3 y4 y5 y6 y7 y8 y9 y10 y11 y12 y13 y14) (laws_FnExactPutRecord.j1 (k + 1) y0 y1 y2 y3 y4 y5 y6 y7 y8 y9 y10 y11 y12 y13 y14)) ∧ (∀ y0 y1 y2 y3 y4 y5, LeO (laws_FnExactPutRecord.j2 k y0 y1 y2 y3 y4 y5) (laws_FnExactPutRecord.j2 (k + 1) y0 y1 y2 y3 y4 y5))
 | 0 => ⟨fun _ _ _ _ _ _ _ _ _ _ _ _ _ _ _ _ _ _ _ _ r h => by simp [laws_FnExactPutRecord.j0] at h, fun _ _ _ _ _ _ _ _ _ _ _ _ _ _ _ r h => by simp [laws_FnExactPutRecord.j1] at h, fun _ _ _ _ _ _ r h => by simp [laws_FnExactPutRecord.j2] at h⟩
 | k + 1 => by
  obtain ⟨ih0, ih1, ih2⟩ := laws_FnExactPutRecord.mono_l k
  refine ⟨?_, ?_, ?_⟩
  ·
   intro y0 y1 y2 y3 y4 y5 y6 y7 y8 y9 y10 y11 y12 y13 y14 y15 y16 y17 y18 y19
   unfold laws_FnExactPutRecord.j0
   repeat' first
   | (with_reducible exact ih0 _ _ _ _ _ _ _ _ _ _ _ _ _ _ _ _ _ _ _ _)
   | (with_reducible exact ih1 _ _ _ _ _ _ _ _ _ _ _ _ _ _ _)
   | (with_reducible exact ih2 _ _ _ _ _ _)
   | (with_reducible exact impl_PutRecord.mono _ _ _ _ _ _)
   | (with_reducible exact laws_eqRing.mono _ _ _ _ _ _ _ _ _)
   | (with_reducible exact laws_heldRing.mono _ _ _ _ _ _)
   | (with_reducible exact laws_markRing.mono _ _ _ _ _ _)
   | (with_reducible exact laws_szRing.mono _ _ _ _ _ _)
   | (with_reducible exact laws_toRing.mono _ _ _ _ _)
   | (with_reducible exact spec_PutRecord.mono _ _ _ _ _ _)
   | (with_reducible exact LeO.refl _)
   | (with_reducible exact LeO.none _)
   | (with_reducible refine LeO.ite ?_ ?_)
   | (with_reducible refine LeO.bind ?_ (fun _ => ?_))
   | exact ih0 _ _ _ _ _ _ _ _ _ _ _ _ _ _ _ _ _ _ _ _
   | exact ih1 _ _ _ _ _ _ _ _ _ _ _ _ _ _ _
   | exact ih2 _ _ _ _ _ _
   | exact impl_PutRecord.mono _ _ _ _ _ _
   | exact laws_eqRing.mono _ _ _ _ _ _ _ _ _
   | exact laws_heldRing.mono _ _ _ _ _ _
   | exact laws_markRing.mono _ _ _ _ _ _
   | exact laws_szRing.mono _ _ _ _ _ _
   | exact laws_toRing.mono _ _ _ _ _
   | exact spec_PutRecord.mono _ _ _ _ _ _
   | exact LeO.none _
   | refine LeO.ite ?_ ?_
   | refine LeO.bind ?_ (fun _ => ?_)
  ·
   intro y0 y1 y2 y3 y4 y5 y6 y7 y8 y9 y10 y11 y12 y13 y14
   unfold laws_FnExactPutRecord.j1
   repeat' first
   | (with_reducible exact ih0 _ _ _ _ _ _ _ _ _ _ _ _ _ _ _ _ _ _ _ _)
   | (with_reducible exact ih1 _ _ _ _ _ _ _ _ _ _ _ _ _ _ _)
   | (with_reducible exact ih2 _ _ _ _ _ _)
   | (with_reducible exact impl_PutRecord.mono _ _ _ _ _ _)
   | (with_reducible exact laws_eqRing.mono _ _ _ _ _ _ _ _ _)
   | (with_reducible exact laws_heldRing.mono _ _ _ _ _ _)
   | (with_reducible exact laws_markRing.mono _ _ _ _ _ _)
   | (with_reducible exact laws_szRing.mono _ _ _ _ _ _)
   | (with_reducible exact laws_toRing.mono _ _ _ _ _)
   | (with_reducible exact spec_PutRecord.mono _ _ _ _ _ _)
   | (with_reducible exact LeO.refl _)
   | (with_reducible exact LeO.none _)
   | (with_reducible refine LeO.ite ?_ ?_)
   | (with_reducible refine LeO.bind ?_ (fun _ => ?_))
   | exact ih0 _ _ _ _ _ _ _ _ _ _ _ _ _ _ _ _ _ _ _ _
   | exact ih1 _ _ _ _ _ _ _ _ _ _ _ _ _ _ _
   | exact ih2 _ _ _ _ _ _
   | exact impl_PutRecord.mono _ _ _ _ _ _
   | exact laws_eqRing.mono _ _ _ _ _ _ _ _ _
   | exact laws_heldRing.mono _ _ _ _ _ _
   | exact laws_markRing.mono _ _ _ _ _ _
   | exact laws_szRing.mono _ _ _ _ _ _
   | exact laws_toRing.mono _ _ _ _ _
   | exact spec_PutRecord.mono _ _ _ _ _ _
   | exact LeO.none _
   | refine LeO.ite ?_ ?_
   | refine LeO.bind ?_ (fun _ => ?_)
  ·
   intro y0 y1 y2 y3 y4 y5
   unfold laws_FnExactPutRecord.j2
   repeat' first
   | (with_reducible exact ih0 _ _ _ _ _ _ _ _ _ _ _ _ _ _ _ _ _ _ _ _)
   | (with_reducible exact ih1 _ _ _ _ _ _ _ _ _ _ _ _ _ _ _)
   | (with_reducible exact ih2 _ _ _ _ _ _)
   | (with_reducible exact impl_PutRecord.mono _ _ _ _ _ _)
   | (with_reducible exact laws_eqRing.mono _ _ _ _ _ _ _ _ _)
   | (with_reducible exact laws_heldRing.mono _ _ _ _ _ _)
   | (with_reducible exact laws_markRing.mono _ _ _ _ _ _)
   | (with_reducible exact laws_szRing.mono _ _ _ _ _ _)
   | (with_reducible exact laws_toRing.mono _ _ _ _ _)
   | (with_reducible exact spec_PutRecord.mono _ _ _ _ _ _)
   | (with_reducible exact LeO.refl _)
   | (with_reducible exact LeO.none _)
   | (with_reducible refine LeO.ite ?_ ?_)
   | (with_reducible refine LeO.bind ?_ (fun _ => ?_))
   | exact ih0 _ _ _ _ _ _ _ _ _ _ _ _ _ _ _ _ _ _ _ _
   | exact ih1 _ _ _ _ _ _ _ _ _ _ _ _ _ _ _
   | exact ih2 _ _ _ _ _ _
   | exact impl_PutRecord.mono _ _ _ _ _ _
   | exact laws_eqRing.mono _ _ _ _ _ _ _ _ _
   | exact laws_heldRing.mono _ _ _ _ _ _
   | exact laws_markRing.mono _ _ _ _ _ _
   | exact laws_szRing.mono _ _ _ _ _ _
   | exact laws_toRing.mono _ _ _ _ _
   | exact spec_PutRecord.mono _ _ _ _ _ _
   | exact LeO.none _
   | refine LeO.ite ?_ ?_
   | refine LeO.bind ?_ (fun _ => ?_)
theorem laws_FnExactPutRecord.mono : ∀ a0 a1 a2 a3 a4 k, LeO (laws_FnExactPutRecord.f k a0 a1 a2 a3 a4) (laws_FnExactPutRecord.f (k + 1) a0 a1 a2 a3 a4) := by
 intro a0 a1 a2 a3 a4 k
 obtain ⟨ih0, ih1, ih2⟩ := laws_FnExactPutRecord.mono_l k
 unfold laws_FnExactPutRecord.f
 repeat' first
   | (with_reducible exact ih0 _ _ _ _ _ _ _ _ _ _ _ _ _ _ _ _ _ _ _ _)
   | (with_reducible exact ih1 _ _ _ _ _ _ _ _ _ _ _ _ _ _ _)
   | (with_reducible exact ih2 _ _ _ _ _ _)
   | (with_reducible exact impl_PutRecord.mono _ _ _ _ _ _)
   | (with_reducible exact laws_eqRing.mono _ _ _ _ _ _ _ _ _)
   | (with_reducible exact laws_heldRing.mono _ _ _ _ _ _)
   | (with_reducible exact laws_markRing.mono _ _ _ _ _ _)
   | (with_reducible exact laws_szRing.mono _ _ _ _ _ _)
   | (with_reducible exact laws_toRing.mono _ _ _ _ _)
   | (with_reducible exact spec_PutRecord.mono _ _ _ _ _ _)
   | (with_reducible exact LeO.refl _)
   | (with_reducible exact LeO.none _)
   | (with_reducible refine LeO.ite ?_ ?_)
   | (with_reducible refine LeO.bind ?_ (fun _ => ?_))
   | exact ih0 _ _ _ _ _ _ _ _ _ _ _ _ _ _ _ _ _ _ _ _
   | exact ih1 _ _ _ _ _ _ _ _ _ _ _ _ _ _ _
   | exact ih2 _ _ _ _ _ _
   | exact impl_PutRecord.mono _ _ _ _ _ _
   | exact laws_eqRing.mono _ _ _ _ _ _ _ _ _
   | exact laws_heldRing.mono _ _ _ _ _ _
   | exact laws_markRing.mono _ _ _ _ _ _
   | exact laws_szRing.mono _ _ _ _ _ _
   | exact laws_toRing.mono _ _ _ _ _
   | exact spec_PutRecord.mono _ _ _ _ _ _
   | exact LeO.none _
   | refine LeO.ite ?_ ?_
   | refine LeO.bind ?_ (fun _ => ?_)
set_option maxHeartbeats 8000000 in
set_option maxRecDepth 100000 in
theorem laws_FnExactPutRecord.calls (k : Nat) (A0_0 : Option Addr) (c0_0 : Nat) (l0_0 : List (S23)) (a0_1 : Int) (a0_2 : Int) (a0_3 : Int) (a1 : ByteArray) (r : Bool) (w : World) (hTab_ : Aside0 (Ito.TabW w)) (hr0_0 : Kd.C k23 w A0_0 l0_0.length l0_0) (hc0_0 : l0_0.length ≤ c0_0) (h : laws_FnExactPutRecord.f k l0_0 a0_1 a0_2 a0_3 a1 = some r) :
  Calls Tryd.prog 10 #[.agg #[.slice A0_0 l0_0.length c0_0, .int .i64 a0_1, .int .i64 a0_2, .int .i64 a0_3], .string a1] w fun e w' => e = .returned (.bool r) ∧ Below w.heap.size w w' := by
 have hu31 := Tryd.underlying31
 have hu36 := Tryd.underlying36
 have HR0_0 := Aside0.mk hr0_0
 have HC0_0 := Aside0.mk hc0_0
 clear hr0_0 hc0_0
 have HB := Aside0.mk (Below.refl w.heap.size w)
 have H : (if (a1.size : Int) > 1048576 then (some true) else ((laws_szRing.f k l0_0 a0_1 a0_2 a0_3 1048576).bind fun t413 => (if t413 < 0 then (some true) else ((laws_toRing.f k l0_0 a0_1 a0_2 a0_3).bind fun bt414 => ((spec_PutRecord.f k bt414.1 bt414.2.1 bt414.2.2.1 bt414.2.2.2 a1).bind fun bt420 => ((laws_toRing.f k l0_0 a0_1 a0_2 a0_3).bind fun bt428 => ((impl_PutRecord.f k bt428.1 bt428.2.1 bt428.2.2.1 bt428.2.2.2 a1).bind fun bt435 => ((laws_eqRing.f k bt435.1 bt435.2.1 bt435.2.2.1 bt435.2.2.2.1 bt420.1 bt420.2.1 bt420.2.2.1 bt420.2.2.2.1).bind fun t443 => (if t443 = true then (laws_FnExactPutRecord.j0 k a1 bt420.2.2.2.2 bt435.2.2.2.2 (bt435.2.2.2.2 != bt420.2.2.2.2) l0_0 a0_1 a0_2 a0_3 bt420.1 bt420.2.1 bt420.2.2.1 bt420.2.2.2.1 bt428.1 bt428.2.1 bt428.2.2.1 bt428.2.2.2 bt435.1 bt435.2.1 bt435.2.2.1 bt435.2.2.2.1) else (laws_FnExactPutRecord.j0 k a1 bt420.2.2.2.2 bt435.2.2.2.2 true l0_0 a0_1 a0_2 a0_3 bt420.1 bt420.2.1 bt420.2.2.1 bt420.2.2.2.1 bt428.1 bt428.2.1 bt428.2.2.1 bt428.2.2.2 bt435.1 bt435.2.1 bt435.2.2.1 bt435.2.2.2.1)))))))))) = some r := h
 clear h
 by_cases c3 : (a1.size : Int) > 1048576
 ·
  rw [if_pos c3] at H
  have c3b0 : decide (1048576 < (a1.size : Int)) = true := decide_eq_true c3
  have c3b1 : decide (1048576 < a1.size) = true := decide_eq_true (by omega)
  clear c3
  obtain rfl := Option.some.inj H
  go_enter Tryd.func10, Tryd.ntmps10
  go_wp2_with (first | ((with_reducible refine gate_dst (N := 2) rfl ?_); refine box_event ?hg (N := 2) ?hd (cs := #[.slice A0_0 l0_0.length c0_0, .int .i64 a0_1, .int .i64 a0_2, .int .i64 a0_3]) (t := 31) ?hr ?_; (case hd => rfl); (case hg => rfl); (case hr => first | (go_simp; done) | (go_simp; rfl)); intro gb412 hg w4 hbox hb; have BK412 := Aside0.mk (hbox); have GW412 := Aside0.mk ((by rw [hg]; exact (below_size (bs HB)) : w.heap.size ≤ gb412)); have GE412 := Aside0.mk ((by rw [hg]; exact (below_size (bs HB)) : w.heap.size ≤ gb412)); replace HB := Aside0.mk (below_step (bs HB) hb); clear hb hbox hg))
  go_ret
  exact ⟨by first | rfl | (simp [errW_none, errW_some] <;> rfl) | (simp [*, errW_none, errW_some] <;> rfl), bs1 HB GE412⟩
 ·
  rw [if_neg c3] at H
  have c3b0 : decide (1048576 < (a1.size : Int)) = false := decide_eq_false c3
  have c3b1 : decide (1048576 < a1.size) = false := decide_eq_false (by omega)
  clear c3
  replace H := Option.bind_eq_some_iff.mp H
  obtain ⟨t413, A50, H⟩ := H
  replace H : (if t413 < 0 then (some true) else ((laws_toRing.f k l0_0 a0_1 a0_2 a0_3).bind fun bt414 => ((spec_PutRecord.f k bt414.1 bt414.2.1 bt414.2.2.1 bt414.2.2.2 a1).bind fun bt420 => ((laws_toRing.f k l0_0 a0_1 a0_2 a0_3).bind fun bt428 => ((impl_PutRecord.f k bt428.1 bt428.2.1 bt428.2.2.1 bt428.2.2.2 a1).bind fun bt435 => ((laws_eqRing.f k bt435.1 bt435.2.1 bt435.2.2.1 bt435.2.2.2.1 bt420.1 bt420.2.1 bt420.2.2.1 bt420.2.2.2.1).bind fun t443 => (if t443 = true then (laws_FnExactPutRecord.j0 k a1 bt420.2.2.2.2 bt435.2.2.2.2 (bt435.2.2.2.2 != bt420.2.2.2.2) l0_0 a0_1 a0_2 a0_3 bt420.1 bt420.2.1 bt420.2.2.1 bt420.2.2.2.1 bt428.1 bt428.2.1 bt428.2.2.1 bt428.2.2.2 bt435.1 bt435.2.1 bt435.2.2.1 bt435.2.2.2.1) else (laws_FnExactPutRecord.j0 k a1 bt420.2.2.2.2 bt435.2.2.2.2 true l0_0 a0_1 a0_2 a0_3 bt420.1 bt420.2.1 bt420.2.2.1 bt420.2.2.2.1 bt428.1 bt428.2.1 bt428.2.2.1 bt428.2.2.2 bt435.1 bt435.2.1 bt435.2.2.1 bt435.2.2.2.1)))))))) = some r := H
  have A5 := Aside0.mk A50
  clear A50
  by_cases c6 : t413 < 0
  ·
   rw [if_pos c6] at H
   have c6b0 : decide (t413 < 0) = true := decide_eq_true c6
   clear c6
   obtain rfl := Option.some.inj H
   go_enter Tryd.func10, Tryd.ntmps10
   go_wp2_with (first | ((with_reducible refine gate_dst (N := 2) rfl ?_); refine box_event ?hg (N := 2) ?hd (cs := #[.slice A0_0 l0_0.length c0_0, .int .i64 a0_1, .int .i64 a0_2, .int .i64 a0_3]) (t := 31) ?hr ?_; (case hd => rfl); (case hg => rfl); (case hr => first | (go_simp; done) | (go_simp; rfl)); intro gb412 hg w7 hbox hb; have BK412 := Aside0.mk (hbox); have GW412 := Aside0.mk ((by rw [hg]; exact (below_size (bs HB)) : w.heap.size ≤ gb412)); have GE412 := Aside0.mk ((by rw [hg]; exact (below_size (bs HB)) : w.heap.size ≤ gb412)); replace HB := Aside0.mk (below_step (bs HB) hb); clear hb hbox hg; obtain ⟨hcz8_0, hcz8_1, hcz8_2, hcz8_3⟩ := cz4 BK412; obtain ⟨hfz8_0, hfz8_1, hfz8_2, hfz8_3⟩ := fz4 BK412) | ((with_reducible refine gate_callee (f := 17) rfl ?_); refine gL (some 21) rfl rfl Tryd.func17 (by kernel_rfl) rfl #[.agg #[.slice A0_0 l0_0.length c0_0, .int .i64 a0_1, .int .i64 a0_2, .int .i64 a0_3], .int .i64 1048576] rfl ?_; (with_reducible refine (laws_szRing.calls k _ _ l0_0 a0_1 a0_2 a0_3 1048576 t413 _ ?side1 ?side2 A5.out).mono ?_); (case side1 => exact cb HR0_0 HB); (case side2 => exact HC0_0.out); rintro e w9 ⟨rfl, hb⟩; refine ⟨_, rfl, ?_⟩; replace BK412 := nb BK412 hb; replace HB := Aside0.mk (below_step (bs1 HB GE412) hb); (try clear hb); (try clear hb2); (try clear hk); (try clear hi)))
   go_ret
   exact ⟨by first | rfl | (simp [errW_none, errW_some] <;> rfl) | (simp [*, errW_none, errW_some] <;> rfl), bs1 HB GE412⟩
  ·
   rw [if_neg c6] at H
   have c6b0 : decide (t413 < 0) = false := decide_eq_false c6
   clear c6
   replace H := Option.bind_eq_some_iff.mp H
   obtain ⟨⟨t414, t417, t418, t419⟩, A100, H⟩ := H
   replace H : ((spec_PutRecord.f k t414 t417 t418 t419 a1).bind fun bt420 => ((laws_toRing.f k l0_0 a0_1 a0_2 a0_3).bind fun bt428 => ((impl_PutRecord.f k bt428.1 bt428.2.1 bt428.2.2.1 bt428.2.2.2 a1).bind fun bt435 => ((laws_eqRing.f k bt435.1 bt435.2.1 bt435.2.2.1 bt435.2.2.2.1 bt420.1 bt420.2.1 bt420.2.2.1 bt420.2.2.2.1).bind fun t443 => (if t443 = true then (laws_FnExactPutRecord.j0 k a1 bt420.2.2.2.2 bt435.2.2.2.2 (bt435.2.2.2.2 != bt420.2.2.2.2) l0_0 a0_1 a0_2 a0_3 bt420.1 bt420.2.1 bt420.2.2.1 bt420.2.2.2.1 bt428.1 bt428.2.1 bt428.2.2.1 bt428.2.2.2 bt435.1 bt435.2.1 bt435.2.2.1 bt435.2.2.2.1) else (laws_FnExactPutRecord.j0 k a1 bt420.2.2.2.2 bt435.2.2.2.2 true l0_0 a0_1 a0_2 a0_3 bt420.1 bt420.2.1 bt420.2.2.1 bt420.2.2.2.1 bt428.1 bt428.2.1 bt428.2.2.1 bt428.2.2.2 bt435.1 bt435.2.1 bt435.2.2.1 bt435.2.2.2.1)))))) = some r := H
   have A10 := Aside0.mk A100
   clear A100
   replace H := Option.bind_eq_some_iff.mp H
   obtain ⟨⟨t420, t423, t424, t425, t426⟩, A110, H⟩ := H
   replace H : ((laws_toRing.f k l0_0 a0_1 a0_2 a0_3).bind fun bt428 => ((impl_PutRecord.f k bt428.1 bt428.2.1 bt428.2.2.1 bt428.2.2.2 a1).bind fun bt435 => ((laws_eqRing.f k bt435.1 bt435.2.1 bt435.2.2.1 bt435.2.2.2.1 t420 t423 t424 t425).bind fun t443 => (if t443 = true then (laws_FnExactPutRecord.j0 k a1 t426 bt435.2.2.2.2 (bt435.2.2.2.2 != t426) l0_0 a0_1 a0_2 a0_3 t420 t423 t424 t425 bt428.1 bt428.2.1 bt428.2.2.1 bt428.2.2.2 bt435.1 bt435.2.1 bt435.2.2.1 bt435.2.2.2.1) else (laws_FnExactPutRecord.j0 k a1 t426 bt435.2.2.2.2 true l0_0 a0_1 a0_2 a0_3 t420 t423 t424 t425 bt428.1 bt428.2.1 bt428.2.2.1 bt428.2.2.2 bt435.1 bt435.2.1 bt435.2.2.1 bt435.2.2.2.1))))) = some r := H
   have A11 := Aside0.mk A110
   clear A110
   replace H := Option.bind_eq_some_iff.mp H
   obtain ⟨⟨t428, t431, t432, t433⟩, A120, H⟩ := H
   replace H : ((impl_PutRecord.f k t428 t431 t432 t433 a1).bind fun bt435 => ((laws_eqRing.f k bt435.1 bt435.2.1 bt435.2.2.1 bt435.2.2.2.1 t420 t423 t424 t425).bind fun t443 => (if t443 = true then (laws_FnExactPutRecord.j0 k a1 t426 bt435.2.2.2.2 (bt435.2.2.2.2 != t426) l0_0 a0_1 a0_2 a0_3 t420 t423 t424 t425 t428 t431 t432 t433 bt435.1 bt435.2.1 bt435.2.2.1 bt435.2.2.2.1) else (laws_FnExactPutRecord.j0 k a1 t426 bt435.2.2.2.2 true l0_0 a0_1 a0_2 a0_3 t420 t423 t424 t425 t428 t431 t432 t433 bt435.1 bt435.2.1 bt435.2.2.1 bt435.2.2.2.1)))) = some r := H
   have A12 := Aside0.mk A120
   clear A120
   replace H := Option.bind_eq_some_iff.mp H
   obtain ⟨⟨t435, t438, t439, t440, t441⟩, A130, H⟩ := H
   replace H : ((laws_eqRing.f k t435 t438 t439 t440 t420 t423 t424 t425).bind fun t443 => (if t443 = true then (laws_FnExactPutRecord.j0 k a1 t426 t441 (t441 != t426) l0_0 a0_1 a0_2 a0_3 t420 t423 t424 t425 t428 t431 t432 t433 t435 t438 t439 t440) else (laws_FnExactPutRecord.j0 k a1 t426 t441 true l0_0 a0_1 a0_2 a0_3 t420 t423 t424 t425 t428 t431 t432 t433 t435 t438 t439 t440))) = some r := H
   have A13 := Aside0.mk A130
   clear A130
   have HC14 := Aside0.mk H
   clear H
   go_enter Tryd.func10, Tryd.ntmps10
   go_upto_region 10 with (first | ((with_reducible refine gate_dst (N := 2) rfl ?_); refine box_event ?hg (N := 2) ?hd (cs := #[.slice A0_0 l0_0.length c0_0, .int .i64 a0_1, .int .i64 a0_2, .int .i64 a0_3]) (t := 31) ?hr ?_; (case hd => rfl); (case hg => rfl); (case hr => first | (go_simp; done) | (go_simp; rfl)); intro gb412 hg w15 hbox hb; have BK412 := Aside0.mk (hbox); have GW412 := Aside0.mk ((by rw [hg]; exact (below_size (bs HB)) : w.heap.size ≤ gb412)); have GE412 := Aside0.mk ((by rw [hg]; exact (below_size (bs HB)) : w.heap.size ≤ gb412)); replace HB := Aside0.mk (below_step (bs HB) hb); clear hb hbox hg; obtain ⟨hcz16_0, hcz16_1, hcz16_2, hcz16_3⟩ := cz4 BK412; obtain ⟨hfz16_0, hfz16_1, hfz16_2, hfz16_3⟩ := fz4 BK412) | ((with_reducible refine gate_callee (f := 17) rfl ?_); refine gL (some 21) rfl rfl Tryd.func17 (by kernel_rfl) rfl #[.agg #[.slice A0_0 l0_0.length c0_0, .int .i64 a0_1, .int .i64 a0_2, .int .i64 a0_3], .int .i64 1048576] rfl ?_; (with_reducible refine (laws_szRing.calls k _ _ l0_0 a0_1 a0_2 a0_3 1048576 t413 _ ?side1 ?side2 A5.out).mono ?_); (case side1 => exact cb HR0_0 HB); (case side2 => exact HC0_0.out); rintro e w17 ⟨rfl, hb⟩; refine ⟨_, rfl, ?_⟩; replace BK412 := nb BK412 hb; replace HB := Aside0.mk (below_step (bs1 HB GE412) hb); (try clear hb); (try clear hb2); (try clear hk); (try clear hi); obtain ⟨hcz18_0, hcz18_1, hcz18_2, hcz18_3⟩ := cz4 BK412; obtain ⟨hfz18_0, hfz18_1, hfz18_2, hfz18_3⟩ := fz4 BK412) | ((with_reducible refine gate_callee (f := 19) rfl ?_); refine gL (some 26) rfl rfl Tryd.func19 (by kernel_rfl) rfl #[.agg #[.slice A0_0 l0_0.length c0_0, .int .i64 a0_1, .int .i64 a0_2, .int .i64 a0_3]] rfl ?_; (with_reducible refine (laws_toRing.calls k _ _ l0_0 a0_1 a0_2 a0_3 t414 t417 t418 t419 _ ?side1 ?side2 A10.out).mono ?_); (case side1 => exact cb HR0_0 HB); (case side2 => exact HC0_0.out); rintro e w19 ⟨v415, rfl, ho0, hb⟩; refine ⟨_, rfl, ?_⟩; have HO416 := Aside0.mk (Kd.R_lower ho0 (below_size (bs1 HB GE412))); replace BK412 := nb BK412 hb; replace HB := Aside0.mk (below_step (bs1 HB GE412) hb); (try clear hb); (try clear hb2); (try clear hk); (try clear hi); (try clear ho0); obtain ⟨Ao20, co20, eo20⟩ := Kd.R_slice HO416.out; subst eo20) | ((with_reducible refine gate_callee (f := 35) rfl ?_); refine gL (some 28) rfl rfl Tryd.func35 (by kernel_rfl) rfl #[.agg #[.slice Ao20 t414.length co20, .int .i64 t417, .int .i64 t418, .int .i64 t419], .string a1] rfl ?_; (with_reducible refine (spec_PutRecord.calls k _ _ t414 t417 t418 t419 a1 t420 t423 t424 t425 t426 _ ?side1 ?side2 A11.out).mono ?_); (case side1 => exact rc0 HO416); (case side2 => exact (Kd.R_reads' HO416.out).2.1); rintro e w21 ⟨v421, rfl, ho0, hb⟩; refine ⟨_, rfl, ?_⟩; have HO422 := Aside0.mk (Kd.R_lower (Kd.R_new' ho0 (Kd.R_lt (rr HO416.out))) (below_size (bs1 HB GE412))); replace HO416 := Aside0.mk (Kd.R_elder' (rr HO416.out) (Kd.R_base ho0) hb); replace BK412 := nb BK412 hb; replace HB := Aside0.mk (below_step (bs1 HB GE412) hb); (try clear hb); (try clear hb2); (try clear hk); (try clear hi); (try clear ho0)) | ((with_reducible refine gate_dst (N := 6) rfl ?_); refine box_event ?hg (N := 6) ?hd (cs := #[.slice none 0 0, .int .i64 0, .int .i64 0, .int .i64 0]) (t := 36) ?hr ?_; (case hd => rfl); (case hg => rfl); (case hr => first | (go_simp; done) | (go_simp; rfl)); intro gb427 hg w22 hbox hb; replace HO416 := nr HO416 hb; replace HO422 := nr HO422 hb; have BK427 := Aside0.mk (hbox); have GW427 := Aside0.mk ((by rw [hg]; exact (below_size (bs1 HB GE412)) : w.heap.size ≤ gb427)); have GE427 := Aside0.mk ((by rw [hg]; exact (below_size (bs1 HB GE412)) : w.heap.size ≤ gb427)); replace HB := Aside0.mk (below_step (bs1 HB GE412) hb); have NB412_427 := Aside0.mk ((bn BK412 hg : gb412 ≠ gb427)); have NB427_412 := Aside0.mk ((bm BK412 hg : gb427 ≠ gb412)); replace BK412 := nb BK412 hb; clear hb hbox hg; obtain ⟨Ao23, co23, eo23⟩ := Kd.R_slice HO422.out; subst eo23; have hnb24 := NB427_412.out; have hnc24 := NB412_427.out; obtain ⟨hcz25_0, hcz25_1, hcz25_2, hcz25_3⟩ := cz4 BK427; obtain ⟨hfz25_0, hfz25_1, hfz25_2, hfz25_3⟩ := fz4 BK427; obtain ⟨hcz26_0, hcz26_1, hcz26_2, hcz26_3⟩ := cz4 BK412; obtain ⟨hfz26_0, hfz26_1, hfz26_2, hfz26_3⟩ := fz4 BK412) | ((with_reducible refine gate_callee (f := 19) rfl ?_); refine gL (some 32) rfl rfl Tryd.func19 (by kernel_rfl) rfl #[.agg #[.slice A0_0 l0_0.length c0_0, .int .i64 a0_1, .int .i64 a0_2, .int .i64 a0_3]] rfl ?_; (with_reducible refine (laws_toRing.calls k _ _ l0_0 a0_1 a0_2 a0_3 t428 t431 t432 t433 _ ?side1 ?side2 A12.out).mono ?_); (case side1 => exact Kd.C_below HR0_0.out (bs2 HB GE412 GE427)); (case side2 => exact HC0_0.out); rintro e w27 ⟨v429, rfl, ho0, hb⟩; refine ⟨_, rfl, ?_⟩; have HO430 := Aside0.mk (Kd.R_lower (Kd.R_new' (Kd.R_new' ho0 (Kd.R_lt (rf HO416 BK427))) (Kd.R_lt (rf HO422 BK427))) (below_size (bs2 HB GE412 GE427))); replace HO416 := Aside0.mk (Kd.R_elder' (rf HO416 BK427) (Kd.R_base ho0) hb); replace HO422 := Aside0.mk (Kd.R_elder' (rf HO422 BK427) (Kd.R_base ho0) hb); replace BK412 := Aside0.mk (blk_below (bf BK412 NB412_427) hb); replace BK427 := Aside0.mk (blk_below (g := gb427) (o := .cells #[.slice Ao23 t420.length co23, .int .i64 t423, .int .i64 t424, .int .i64 t425] 36 (0, 0)) (by (with_reducible repeat (first | refine blk_drewN ?_ _ | refine blk_drew ?_ | refine blk_alloc ?_ _)); refine blk_put (cs := #[.slice Ao23 t420.length co23, .int .i64 t423, .int .i64 t424, .int .i64 0]) ?_ 3 _ rfl; (with_reducible repeat (first | refine blk_drewN ?_ _ | refine blk_drew ?_ | refine blk_alloc ?_ _)); refine blk_put (cs := #[.slice Ao23 t420.length co23, .int .i64 t423, .int .i64 0, .int .i64 0]) ?_ 2 _ rfl; (with_reducible repeat (first | refine blk_drewN ?_ _ | refine blk_drew ?_ | refine blk_alloc ?_ _)); refine blk_put (cs := #[.slice Ao23 t420.length co23, .int .i64 0, .int .i64 0, .int .i64 0]) ?_ 1 _ rfl; (with_reducible repeat (first | refine blk_drewN ?_ _ | refine blk_drew ?_ | refine blk_alloc ?_ _)); refine blk_put (cs := #[.slice none 0 0, .int .i64 0, .int .i64 0, .int .i64 0]) ?_ 0 _ rfl; (with_reducible repeat (first | refine blk_drewN ?_ _ | refine blk_drew ?_ | refine blk_alloc ?_ _)); exact BK427.out) hb); replace HB := Aside0.mk (below_step (bs2 HB GE412 GE427) hb); (try clear hb); (try clear hb2); (try clear hk); (try clear hi); (try clear ho0)) | ((with_reducible refine gate_dst (N := 8) rfl ?_); refine box_event ?hg (N := 8) ?hd (cs := #[.slice none 0 0, .int .i64 0, .int .i64 0, .int .i64 0]) (t := 36) ?hr ?_; (case hd => rfl); (case hg => rfl); (case hr => first | (go_simp; done) | (go_simp; rfl)); intro gb434 hg w28 hbox hb; replace HO416 := nr HO416 hb; replace HO422 := nr HO422 hb; replace HO430 := nr HO430 hb; have BK434 := Aside0.mk (hbox); have GW434 := Aside0.mk ((by rw [hg]; exact (below_size (bs2 HB GE412 GE427)) : w.heap.size ≤ gb434)); have GE434 := Aside0.mk ((by rw [hg]; exact (below_size (bs2 HB GE412 GE427)) : w.heap.size ≤ gb434)); replace HB := Aside0.mk (below_step (bs2 HB GE412 GE427) hb); have NB412_434 := Aside0.mk ((bn BK412 hg : gb412 ≠ gb434)); have NB434_412 := Aside0.mk ((bm BK412 hg : gb434 ≠ gb412)); replace BK412 := nb BK412 hb; have NB427_434 := Aside0.mk ((bn BK427 hg : gb427 ≠ gb434)); have NB434_427 := Aside0.mk ((bm BK427 hg : gb434 ≠ gb427)); replace BK427 := nb BK427 hb; clear hb hbox hg; obtain ⟨Ao29, co29, eo29⟩ := Kd.R_slice HO430.out; subst eo29; have hnb30 := NB434_412.out; have hnc30 := NB412_434.out; have hnb31 := NB434_427.out; have hnc31 := NB427_434.out; obtain ⟨hcz32_0, hcz32_1, hcz32_2, hcz32_3⟩ := cz4 BK434; obtain ⟨hfz32_0, hfz32_1, hfz32_2, hfz32_3⟩ := fz4 BK434) | ((with_reducible refine gate_callee (f := 34) rfl ?_); refine gL (some 36) rfl rfl Tryd.func34 (by kernel_rfl) rfl #[.agg #[.slice Ao29 t428.length co29, .int .i64 t431, .int .i64 t432, .int .i64 t433], .string a1] rfl ?_; (with_reducible refine (impl_PutRecord.calls k _ _ t428 t431 t432 t433 a1 t435 t438 t439 t440 t441 _ ?sideT ?side1 ?side2 A13.out).mono ?_); (case sideT => refine ⟨Ito.tabB hTab_.out ?_⟩; first | exact bs HB | exact st_below | (repeat (first | (with_reducible first | exact HB.out | apply below_alloc | apply pw_below_drewN | apply below_drew1 | refine below_set ?_ (Aside0.out (by assumption))) | exact HB.out))); (case side1 => exact rc HO430 BK434); (case side2 => exact (Kd.R_reads' HO430.out).2.1); rintro e w33 ⟨v436, rfl, ho0, hb⟩; refine ⟨_, rfl, ?_⟩; have HO437 := Aside0.mk (Kd.R_lower (Kd.R_new' (Kd.R_new' (Kd.R_new' ho0 (Kd.R_lt (rf HO416 BK434))) (Kd.R_lt (rf HO422 BK434))) (Kd.R_lt (rf HO430 BK434))) (below_size (bs3 HB GE412 GE427 GE434))); replace HO416 := Aside0.mk (Kd.R_elder' (rf HO416 BK434) (Kd.R_base ho0) hb); replace HO422 := Aside0.mk (Kd.R_elder' (rf HO422 BK434) (Kd.R_base ho0) hb); replace HO430 := Aside0.mk (Kd.R_elder' (rf HO430 BK434) (Kd.R_base ho0) hb); replace BK412 := Aside0.mk (blk_below (bf BK412 NB412_434) hb); replace BK427 := Aside0.mk (blk_below (bf BK427 NB427_434) hb); replace BK434 := Aside0.mk (blk_below (g := gb434) (o := .cells #[.slice Ao29 t428.length co29, .int .i64 t431, .int .i64 t432, .int .i64 t433] 36 (0, 0)) (by (with_reducible repeat (first | refine blk_drewN ?_ _ | refine blk_drew ?_ | refine blk_alloc ?_ _)); refine blk_put (cs := #[.slice Ao29 t428.length co29, .int .i64 t431, .int .i64 t432, .int .i64 0]) ?_ 3 _ rfl; (with_reducible repeat (first | refine blk_drewN ?_ _ | refine blk_drew ?_ | refine blk_alloc ?_ _)); refine blk_put (cs := #[.slice Ao29 t428.length co29, .int .i64 t431, .int .i64 0, .int .i64 0]) ?_ 2 _ rfl; (with_reducible repeat (first | refine blk_drewN ?_ _ | refine blk_drew ?_ | refine blk_alloc ?_ _)); refine blk_put (cs := #[.slice Ao29 t428.length co29, .int .i64 0, .int .i64 0, .int .i64 0]) ?_ 1 _ rfl; (with_reducible repeat (first | refine blk_drewN ?_ _ | refine blk_drew ?_ | refine blk_alloc ?_ _)); refine blk_put (cs := #[.slice none 0 0, .int .i64 0, .int .i64 0, .int .i64 0]) ?_ 0 _ rfl; (with_reducible repeat (first | refine blk_drewN ?_ _ | refine blk_drew ?_ | refine blk_alloc ?_ _)); exact BK434.out) hb); replace HB := Aside0.mk (below_step (bs3 HB GE412 GE427 GE434) hb); (try clear hb); (try clear hb2); (try clear hk); (try clear hi); (try clear ho0)) | ((with_reducible refine gate_dst (N := 9) rfl ?_); refine box_event ?hg (N := 9) ?hd (cs := #[.slice none 0 0, .int .i64 0, .int .i64 0, .int .i64 0]) (t := 36) ?hr ?_; (case hd => rfl); (case hg => rfl); (case hr => first | (go_simp; done) | (go_simp; rfl)); intro gb442 hg w34 hbox hb; replace HO416 := nr HO416 hb; replace HO422 := nr HO422 hb; replace HO430 := nr HO430 hb; replace HO437 := nr HO437 hb; have BK442 := Aside0.mk (hbox); have GW442 := Aside0.mk ((by rw [hg]; exact (below_size (bs3 HB GE412 GE427 GE434)) : w.heap.size ≤ gb442)); have GE442 := Aside0.mk ((by rw [hg]; exact (below_size (bs3 HB GE412 GE427 GE434)) : w.heap.size ≤ gb442)); replace HB := Aside0.mk (below_step (bs3 HB GE412 GE427 GE434) hb); have NB412_442 := Aside0.mk ((bn BK412 hg : gb412 ≠ gb442)); have NB442_412 := Aside0.mk ((bm BK412 hg : gb442 ≠ gb412)); replace BK412 := nb BK412 hb; have NB427_442 := Aside0.mk ((bn BK427 hg : gb427 ≠ gb442)); have NB442_427 := Aside0.mk ((bm BK427 hg : gb442 ≠ gb427)); replace BK427 := nb BK427 hb; have NB434_442 := Aside0.mk ((bn BK434 hg : gb434 ≠ gb442)); have NB442_434 := Aside0.mk ((bm BK434 hg : gb442 ≠ gb434)); replace BK434 := nb BK434 hb; clear hb hbox hg; obtain ⟨Ao35, co35, eo35⟩ := Kd.R_slice HO437.out; subst eo35; have hnb36 := NB442_412.out; have hnc36 := NB412_442.out; have hnb37 := NB442_427.out; have hnc37 := NB427_442.out; have hnb38 := NB442_434.out; have hnc38 := NB434_442.out; obtain ⟨hcz39_0, hcz39_1, hcz39_2, hcz39_3⟩ := cz4 BK442; obtain ⟨hfz39_0, hfz39_1, hfz39_2, hfz39_3⟩ := fz4 BK442))
   (try simp only [Act.put, List.setIfInBounds_toArray, List.set_cons_zero, List.set_cons_succ])
   go_cut [47] (fun v47 wc => ∃ (kq : Nat) (x47_13 : Bool), v47 = .bool x47_13 ∧ Aside0 (laws_FnExactPutRecord.j0 kq a1 t426 t441 x47_13 l0_0 a0_1 a0_2 a0_3 t420 t423 t424 t425 t428 t431 t432 t433 t435 t438 t439 t440 = some r) ∧ Aside0 (kq ≤ k) ∧ Aside0 (Kd.R k26 26 wc w.heap.size (fun k_ => some k_ ≠ ((.slice Ao29 t428.length co29) : Value).ownBlock ∧ some k_ ≠ ((.slice Ao35 t435.length co35) : Value).ownBlock) (.slice Ao23 t420.length co23) t420) ∧ Aside0 (Kd.R k26 26 wc w.heap.size (fun k_ => some k_ ≠ ((.slice Ao23 t420.length co23) : Value).ownBlock ∧ some k_ ≠ ((.slice Ao35 t435.length co35) : Value).ownBlock) (.slice Ao29 t428.length co29) t428) ∧ Aside0 (Kd.R k26 26 wc w.heap.size (fun k_ => some k_ ≠ ((.slice Ao23 t420.length co23) : Value).ownBlock ∧ some k_ ≠ ((.slice Ao29 t428.length co29) : Value).ownBlock) (.slice Ao35 t435.length co35) t435) ∧ Aside0 (wc.heap[gb412]? = some (.cells #[(.slice A0_0 l0_0.length c0_0), .int .i64 a0_1, .int .i64 a0_2, .int .i64 a0_3] 31 (0, 0))) ∧ Aside0 (wc.heap[gb427]? = some (.cells #[(.slice Ao23 t420.length co23), .int .i64 t423, .int .i64 t424, .int .i64 t425] 36 (0, 0))) ∧ Aside0 (wc.heap[gb434]? = some (.cells #[(.slice Ao29 t428.length co29), .int .i64 t431, .int .i64 t432, .int .i64 t433] 36 (0, 0))) ∧ Aside0 (wc.heap[gb442]? = some (.cells #[(.slice Ao35 t435.length co35), .int .i64 t438, .int .i64 t439, .int .i64 t440] 36 (0, 0))) ∧ Aside0 (Below w.heap.size w wc))
   case first =>
    have H := HC14.out
    clear HC14
    replace H := Option.bind_eq_some_iff.mp H
    obtain ⟨t443, A400, H⟩ := H
    replace H : (if t443 = true then (laws_FnExactPutRecord.j0 k a1 t426 t441 (t441 != t426) l0_0 a0_1 a0_2 a0_3 t420 t423 t424 t425 t428 t431 t432 t433 t435 t438 t439 t440) else (laws_FnExactPutRecord.j0 k a1 t426 t441 true l0_0 a0_1 a0_2 a0_3 t420 t423 t424 t425 t428 t431 t432 t433 t435 t438 t439 t440)) = some r := H
    have A40 := Aside0.mk A400
    clear A400
    by_cases c41 : t443 = true
    ·
     subst c41
     rw [if_pos rfl] at H
     have H' := Aside0.mk H
     clear H
     have hnb42 := NB442_412.out
     have hnc42 := NB412_442.out
     have hnb43 := NB442_427.out
     have hnc43 := NB427_442.out
     have hnb44 := NB442_434.out
     have hnc44 := NB434_442.out
     obtain ⟨hcz45_0, hcz45_1, hcz45_2, hcz45_3⟩ := cz4 BK442
     obtain ⟨hfz45_0, hfz45_1, hfz45_2, hfz45_3⟩ := fz4 BK442
     have hnb46 := NB427_412.out
     have hnc46 := NB412_427.out
     have hnb47 := NB427_434.out
     have hnc47 := NB434_427.out
     obtain ⟨hcz48_0, hcz48_1, hcz48_2, hcz48_3⟩ := cz4 BK427
     obtain ⟨hfz48_0, hfz48_1, hfz48_2, hfz48_3⟩ := fz4 BK427
     go_wp2_with (first | ((with_reducible refine gate_callee (f := 21) rfl ?_); refine gL (some 41) rfl rfl Tryd.func21 (by kernel_rfl) rfl #[.agg #[.slice Ao35 t435.length co35, .int .i64 t438, .int .i64 t439, .int .i64 t440], .agg #[.slice Ao23 t420.length co23, .int .i64 t423, .int .i64 t424, .int .i64 t425]] rfl ?_; (with_reducible refine (laws_eqRing.calls k _ _ t435 t438 t439 t440 _ _ t420 t423 t424 t425 true _ ?side1 ?side2 ?side3 ?side4 A40.out).mono ?_); (case side1 => exact rc HO437 BK442); (case side2 => exact (Kd.R_reads' HO437.out).2.1); (case side3 => exact rc HO422 BK442); (case side4 => exact (Kd.R_reads' HO422.out).2.1); rintro e w49 ⟨rfl, hb⟩; refine ⟨_, rfl, ?_⟩; replace HO416 := nf HO416 BK442 hb; replace HO422 := nf HO422 BK442 hb; replace HO430 := nf HO430 BK442 hb; replace HO437 := nf HO437 BK442 hb; replace BK412 := Aside0.mk (blk_below (bf BK412 NB412_442) hb); replace BK427 := Aside0.mk (blk_below (bf BK427 NB427_442) hb); replace BK434 := Aside0.mk (blk_below (bf BK434 NB434_442) hb); replace BK442 := Aside0.mk (blk_below (g := gb442) (o := .cells #[.slice Ao35 t435.length co35, .int .i64 t438, .int .i64 t439, .int .i64 t440] 36 (0, 0)) (by (with_reducible repeat (first | refine blk_drewN ?_ _ | refine blk_drew ?_ | refine blk_alloc ?_ _)); refine blk_put (cs := #[.slice Ao35 t435.length co35, .int .i64 t438, .int .i64 t439, .int .i64 0]) ?_ 3 _ rfl; (with_reducible repeat (first | refine blk_drewN ?_ _ | refine blk_drew ?_ | refine blk_alloc ?_ _)); refine blk_put (cs := #[.slice Ao35 t435.length co35, .int .i64 t438, .int .i64 0, .int .i64 0]) ?_ 2 _ rfl; (with_reducible repeat (first | refine blk_drewN ?_ _ | refine blk_drew ?_ | refine blk_alloc ?_ _)); refine blk_put (cs := #[.slice Ao35 t435.length co35, .int .i64 0, .int .i64 0, .int .i64 0]) ?_ 1 _ rfl; (with_reducible repeat (first | refine blk_drewN ?_ _ | refine blk_drew ?_ | refine blk_alloc ?_ _)); refine blk_put (cs := #[.slice none 0 0, .int .i64 0, .int .i64 0, .int .i64 0]) ?_ 0 _ rfl; (with_reducible repeat (first | refine blk_drewN ?_ _ | refine blk_drew ?_ | refine blk_alloc ?_ _)); exact BK442.out) hb); replace HB := Aside0.mk (below_step (bs4 HB GE412 GE427 GE434 GE442) hb); (try clear hb); (try clear hb2); (try clear hk); (try clear hi)))
     go_meet
     case rel => exact ⟨_, ((t441 != t426)), (by first | rfl | (simp; done) | (simp [*]; done)), H', ⟨by first | omega | exact Nat.le_refl _⟩, rm HO422 (fun _ hk => ⟨hk.1.2, hk.2⟩), rm HO430 (fun _ hk => ⟨hk.1.2, hk.2⟩), rm HO437 (fun _ hk => ⟨hk.1.2, hk.2⟩), ⟨bk BK412⟩, ⟨bk BK427⟩, ⟨bk BK434⟩, ⟨bk BK442⟩, ⟨bs4 HB GE412 GE427 GE434 GE442⟩⟩
    ·
     replace c41 := Bool.eq_false_iff.mpr c41
     subst c41
     rw [if_neg (show ¬ (false = true) by decide)] at H
     have H' := Aside0.mk H
     clear H
     have hnb50 := NB442_412.out
     have hnc50 := NB412_442.out
     have hnb51 := NB442_427.out
     have hnc51 := NB427_442.out
     have hnb52 := NB442_434.out
     have hnc52 := NB434_442.out
     obtain ⟨hcz53_0, hcz53_1, hcz53_2, hcz53_3⟩ := cz4 BK442
     obtain ⟨hfz53_0, hfz53_1, hfz53_2, hfz53_3⟩ := fz4 BK442
     have hnb54 := NB427_412.out
     have hnc54 := NB412_427.out
     have hnb55 := NB427_434.out
     have hnc55 := NB434_427.out
     obtain ⟨hcz56_0, hcz56_1, hcz56_2, hcz56_3⟩ := cz4 BK427
     obtain ⟨hfz56_0, hfz56_1, hfz56_2, hfz56_3⟩ := fz4 BK427
     go_wp2_with (first | ((with_reducible refine gate_callee (f := 21) rfl ?_); refine gL (some 41) rfl rfl Tryd.func21 (by kernel_rfl) rfl #[.agg #[.slice Ao35 t435.length co35, .int .i64 t438, .int .i64 t439, .int .i64 t440], .agg #[.slice Ao23 t420.length co23, .int .i64 t423, .int .i64 t424, .int .i64 t425]] rfl ?_; (with_reducible refine (laws_eqRing.calls k _ _ t435 t438 t439 t440 _ _ t420 t423 t424 t425 false _ ?side1 ?side2 ?side3 ?side4 A40.out).mono ?_); (case side1 => exact rc HO437 BK442); (case side2 => exact (Kd.R_reads' HO437.out).2.1); (case side3 => exact rc HO422 BK442); (case side4 => exact (Kd.R_reads' HO422.out).2.1); rintro e w57 ⟨rfl, hb⟩; refine ⟨_, rfl, ?_⟩; replace HO416 := nf HO416 BK442 hb; replace HO422 := nf HO422 BK442 hb; replace HO430 := nf HO430 BK442 hb; replace HO437 := nf HO437 BK442 hb; replace BK412 := Aside0.mk (blk_below (bf BK412 NB412_442) hb); replace BK427 := Aside0.mk (blk_below (bf BK427 NB427_442) hb); replace BK434 := Aside0.mk (blk_below (bf BK434 NB434_442) hb); replace BK442 := Aside0.mk (blk_below (g := gb442) (o := .cells #[.slice Ao35 t435.length co35, .int .i64 t438, .int .i64 t439, .int .i64 t440] 36 (0, 0)) (by (with_reducible repeat (first | refine blk_drewN ?_ _ | refine blk_drew ?_ | refine blk_alloc ?_ _)); refine blk_put (cs := #[.slice Ao35 t435.length co35, .int .i64 t438, .int .i64 t439, .int .i64 0]) ?_ 3 _ rfl; (with_reducible repeat (first | refine blk_drewN ?_ _ | refine blk_drew ?_ | refine blk_alloc ?_ _)); refine blk_put (cs := #[.slice Ao35 t435.length co35, .int .i64 t438, .int .i64 0, .int .i64 0]) ?_ 2 _ rfl; (with_reducible repeat (first | refine blk_drewN ?_ _ | refine blk_drew ?_ | refine blk_alloc ?_ _)); refine blk_put (cs := #[.slice Ao35 t435.length co35, .int .i64 0, .int .i64 0, .int .i64 0]) ?_ 1 _ rfl; (with_reducible repeat (first | refine blk_drewN ?_ _ | refine blk_drew ?_ | refine blk_alloc ?_ _)); refine blk_put (cs := #[.slice none 0 0, .int .i64 0, .int .i64 0, .int .i64 0]) ?_ 0 _ rfl; (with_reducible repeat (first | refine blk_drewN ?_ _ | refine blk_drew ?_ | refine blk_alloc ?_ _)); exact BK442.out) hb); replace HB := Aside0.mk (below_step (bs4 HB GE412 GE427 GE434 GE442) hb); (try clear hb); (try clear hb2); (try clear hk); (try clear hi)))
     go_meet
     case rel => exact ⟨_, (true), (by first | rfl | (simp; done) | (simp [*]; done)), H', ⟨by first | omega | exact Nat.le_refl _⟩, rm HO422 (fun _ hk => ⟨hk.1.2, hk.2⟩), rm HO430 (fun _ hk => ⟨hk.1.2, hk.2⟩), rm HO437 (fun _ hk => ⟨hk.1.2, hk.2⟩), ⟨bk BK412⟩, ⟨bk BK427⟩, ⟨bk BK434⟩, ⟨bk BK442⟩, ⟨bs4 HB GE412 GE427 GE434 GE442⟩⟩
   case rest =>
    clear HC14
    try clear c1
    try clear c2
    try clear p2
    try clear c3
    try clear c3b0
    try clear c3b1
    try clear c4
    try clear c5
    try clear c6
    try clear c6b0
    try clear c10
    try clear c17
    try clear c19
    try clear c21
    try clear c24
    try clear c30
    try clear c31
    try clear c34
    try clear c35
    try clear c36
    try clear c37
    try clear c38
    try clear c41
    try clear c42
    try clear c43
    try clear c44
    try clear c46
    try clear c47
    try clear c50
    try clear c51
    try clear c52
    try clear c54
    try clear c55
    try clear hcz16_0 hcz16_1 hcz16_2 hcz16_3
    try clear hcz18_0 hcz18_1 hcz18_2 hcz18_3
    try clear hcz25_0 hcz25_1 hcz25_2 hcz25_3
    try clear hcz26_0 hcz26_1 hcz26_2 hcz26_3
    try clear hcz32_0 hcz32_1 hcz32_2 hcz32_3
    try clear hcz39_0 hcz39_1 hcz39_2 hcz39_3
    try clear hcz45_0 hcz45_1 hcz45_2 hcz45_3
    try clear hcz48_0 hcz48_1 hcz48_2 hcz48_3
    try clear hcz53_0 hcz53_1 hcz53_2 hcz53_3
    try clear hcz56_0 hcz56_1 hcz56_2 hcz56_3
    try clear hcz8_0 hcz8_1 hcz8_2 hcz8_3
    try clear hfz16_0 hfz16_1 hfz16_2 hfz16_3
    try clear hfz18_0 hfz18_1 hfz18_2 hfz18_3
    try clear hfz25_0 hfz25_1 hfz25_2 hfz25_3
    try clear hfz26_0 hfz26_1 hfz26_2 hfz26_3
    try clear hfz32_0 hfz32_1 hfz32_2 hfz32_3
    try clear hfz39_0 hfz39_1 hfz39_2 hfz39_3
    try clear hfz45_0 hfz45_1 hfz45_2 hfz45_3
    try clear hfz48_0 hfz48_1 hfz48_2 hfz48_3
    try clear hfz53_0 hfz53_1 hfz53_2 hfz53_3
    try clear hfz56_0 hfz56_1 hfz56_2 hfz56_3
    try clear hfz8_0 hfz8_1 hfz8_2 hfz8_3
    obtain ⟨kq, x47_13, rfl, HA, HJ13, HO_428000, HO_435000, HO_443000, BK412, BK427, BK434, BK442, HB⟩ := hcut
    cases kq with
    | zero => exact absurd HA.out (by simp [laws_FnExactPutRecord.j0])
    | succ kj13 =>
     have H := HA.out
     clear HA
     simp only [laws_FnExactPutRecord.j0] at H
     by_cases c58 : x47_13 = true
     ·
      subst c58
      rw [if_pos rfl] at H
      obtain rfl := Option.some.inj H
      go_wp2
      go_ret
      exact ⟨by first | rfl | (simp [errW_none, errW_some] <;> rfl) | (simp [*, errW_none, errW_some] <;> rfl), bs4 HB GE412 GE427 GE434 GE442⟩
     ·
      replace c58 := Bool.eq_false_iff.mpr c58
      subst c58
      rw [if_neg (show ¬ (false = true) by decide)] at H
      replace H := Option.bind_eq_some_iff.mp H
      obtain ⟨⟨t444, t447, t448, t449⟩, A590, H⟩ := H
      replace H : ((laws_eqRing.f kj13 t428 t431 t432 t433 t444 t447 t448 t449).bind fun t450 => (if t450 = true then ((laws_markRing.f kj13 t428 t431 t432 t433 1).bind fun bt451 => (if bt451.1 < 0 then (laws_FnExactPutRecord.j1 kj13 a1 t426 true l0_0 a0_1 a0_2 a0_3 t420 t423 t424 t425 t435 t438 t439 t440) else ((laws_eqRing.f kj13 t435 t438 t439 t440 t420 t423 t424 t425).bind fun t453 => (if t453 = true then (laws_FnExactPutRecord.j1 kj13 a1 t426 (t441 != t426) l0_0 a0_1 a0_2 a0_3 t420 t423 t424 t425 t435 t438 t439 t440) else (laws_FnExactPutRecord.j1 kj13 a1 t426 true l0_0 a0_1 a0_2 a0_3 t420 t423 t424 t425 t435 t438 t439 t440))))) else (some false))) = some r := H
      have A59 := Aside0.mk A590
      clear A590
      replace H := Option.bind_eq_some_iff.mp H
      obtain ⟨t450, A600, H⟩ := H
      replace H : (if t450 = true then ((laws_markRing.f kj13 t428 t431 t432 t433 1).bind fun bt451 => (if bt451.1 < 0 then (laws_FnExactPutRecord.j1 kj13 a1 t426 true l0_0 a0_1 a0_2 a0_3 t420 t423 t424 t425 t435 t438 t439 t440) else ((laws_eqRing.f kj13 t435 t438 t439 t440 t420 t423 t424 t425).bind fun t453 => (if t453 = true then (laws_FnExactPutRecord.j1 kj13 a1 t426 (t441 != t426) l0_0 a0_1 a0_2 a0_3 t420 t423 t424 t425 t435 t438 t439 t440) else (laws_FnExactPutRecord.j1 kj13 a1 t426 true l0_0 a0_1 a0_2 a0_3 t420 t423 t424 t425 t435 t438 t439 t440))))) else (some false)) = some r := H
      have A60 := Aside0.mk A600
      clear A600
      by_cases c61 : t450 = true
      ·
       subst c61
       rw [if_pos rfl] at H
       replace H := Option.bind_eq_some_iff.mp H
       obtain ⟨⟨t451, t452⟩, A620, H⟩ := H
       replace H : (if t451 < 0 then (laws_FnExactPutRecord.j1 kj13 a1 t426 true l0_0 a0_1 a0_2 a0_3 t420 t423 t424 t425 t435 t438 t439 t440) else ((laws_eqRing.f kj13 t435 t438 t439 t440 t420 t423 t424 t425).bind fun t453 => (if t453 = true then (laws_FnExactPutRecord.j1 kj13 a1 t426 (t441 != t426) l0_0 a0_1 a0_2 a0_3 t420 t423 t424 t425 t435 t438 t439 t440) else (laws_FnExactPutRecord.j1 kj13 a1 t426 true l0_0 a0_1 a0_2 a0_3 t420 t423 t424 t425 t435 t438 t439 t440)))) = some r := H
       have A62 := Aside0.mk A620
       clear A620
       have HC63 := Aside0.mk H
       clear H
       try go_wp2
       have n0_ := Aside0.mk (Kd.R_drew HO_428000.out)
       have n1_ := Aside0.mk (Kd.R_drew HO_435000.out)
       have n2_ := Aside0.mk (Kd.R_drew HO_443000.out)
       have n3_ := Aside0.mk (blk_drew BK412.out)
       have n4_ := Aside0.mk (blk_drew BK427.out)
       have n5_ := Aside0.mk (blk_drew BK434.out)
       have n6_ := Aside0.mk (blk_drew BK442.out)
       have n7_ := Aside0.mk (below_drew1 HB.out)
       clear HO_428000
       clear HO_435000
       clear HO_443000
       clear BK412
       clear BK427
       clear BK434
       clear BK442
       clear HB
       have HO_428000 := n0_
       have HO_435000 := n1_
       have HO_443000 := n2_
       have BK412 := n3_
       have BK427 := n4_
       have BK434 := n5_
       have BK442 := n6_
       have HB := n7_
       clear n0_ n1_ n2_ n3_ n4_ n5_ n6_ n7_
       refine start_ (n := 5) (S := fun w' => w'.cell? ⟨gb434, 0, none⟩ = some (.slice Ao29 t428.length co29) ∧ w'.cell? ⟨gb434, 1, none⟩ = some (.int .i64 t431) ∧ w'.cell? ⟨gb434, 2, none⟩ = some (.int .i64 t432) ∧ w'.cell? ⟨gb434, 3, none⟩ = some (.int .i64 t433) ∧ w'.cell? ⟨gb412, 0, none⟩ = some (.slice A0_0 l0_0.length c0_0) ∧ w'.cell? ⟨gb412, 1, none⟩ = some (.int .i64 a0_1) ∧ w'.cell? ⟨gb412, 2, none⟩ = some (.int .i64 a0_2) ∧ w'.cell? ⟨gb412, 3, none⟩ = some (.int .i64 a0_3)) (ds := []) #[false, false, false, false, false] (by kernel_rfl) rfl rfl ⟨(blk_cell BK434.out 0).trans rfl, (blk_cell BK434.out 1).trans rfl, (blk_cell BK434.out 2).trans rfl, (blk_cell BK434.out 3).trans rfl, (blk_cell BK412.out 0).trans rfl, (blk_cell BK412.out 1).trans rfl, (blk_cell BK412.out 2).trans rfl, (blk_cell BK412.out 3).trans rfl⟩ (fun hHeld => ?_)
       generalize wc.drew = w64 at HO_428000 HO_435000 HO_443000 BK412 BK427 BK434 BK442 HB hHeld ⊢
       refine take_ (i := 0) (N := some 48) (v := ?_) (a' := ?_) #[true, false, false, false, false] rfl rfl (by kernel_rfl) (fun _ _ _ h => h) (Or.inl ⟨by rfl, ?_⟩) hHeld ?_ ?_
       rotate_left
       ·
        rintro w' ⟨s0, s1, s2, s3, s4, s5, s6, s7⟩
        go_simp
        with_reducible rfl
       rotate_left
       ·
        simp only [Act.put, List.setIfInBounds_toArray, List.set_cons_zero, List.set_cons_succ, i64_w, i32_w]
        rfl
       refine take_ (i := 1) (N := some 49) (v := ?_) (a' := ?_) #[true, true, false, false, false] rfl rfl (by kernel_rfl) (fun _ _ _ h => h) (Or.inl ⟨by rfl, ?_⟩) hHeld ?_ ?_
       rotate_left
       ·
        rintro w' ⟨s0, s1, s2, s3, s4, s5, s6, s7⟩
        go_simp
        with_reducible rfl
       rotate_left
       ·
        simp only [Act.put, List.setIfInBounds_toArray, List.set_cons_zero, List.set_cons_succ, i64_w, i32_w]
        rfl
       refine one_ (i := 2) (N := some 50) #[true, true, true, false, false] rfl rfl (by kernel_rfl) (by decide) (fun K hK => ?_)
       refine goes_ Tryd.func19 (by kernel_rfl) rfl #[.agg #[.slice A0_0 l0_0.length c0_0, .int .i64 a0_1, .int .i64 a0_2, .int .i64 a0_3]] (by rfl) rfl rfl (by (try simp only [List.map_toArray, List.map_cons, List.map_nil]); first | done | rfl | (simp only [List.length_drop, List.length_take]; rfl)) ?_
       with_reducible refine (laws_toRing.calls kj13 _ _ l0_0 a0_1 a0_2 a0_3 t444 t447 t448 t449 _ ?side1 ?side2 A59.out).mono ?_
       (case side1 => exact cb HR0_0 HB)
       (case side2 => exact HC0_0.out)
       rintro e w65 ⟨v445, rfl, ho0, hb⟩
       refine ⟨_, rfl, ?_⟩
       have n0_ := Aside0.mk (Kd.R_elder' (rr HO_428000.out) (Kd.R_base ho0) hb)
       have n1_ := Aside0.mk (Kd.R_elder' (rr HO_435000.out) (Kd.R_base ho0) hb)
       have n2_ := Aside0.mk (Kd.R_elder' (rr HO_443000.out) (Kd.R_base ho0) hb)
       have n3_ := Aside0.mk (Kd.R_lower (Kd.R_new' (Kd.R_new' (Kd.R_new' ho0 (Kd.R_lt (rr HO_428000.out))) (Kd.R_lt (rr HO_435000.out))) (Kd.R_lt (rr HO_443000.out))) (below_size (bs4 HB GE412 GE427 GE434 GE442)))
       have n4_ := Aside0.mk (bb BK412 hb)
       have n5_ := Aside0.mk (bb BK427 hb)
       have n6_ := Aside0.mk (bb BK434 hb)
       have n7_ := Aside0.mk (bb BK442 hb)
       have n8_ := Aside0.mk (below_step (bs4 HB GE412 GE427 GE434 GE442) hb)
       clear HO_428000
       clear HO_435000
       clear HO_443000
       clear BK412
       clear BK427
       clear BK434
       clear BK442
       clear HB
       have HO_428000 := n0_
       have HO_435000 := n1_
       have HO_443000 := n2_
       have HO446 := n3_
       have BK412 := n4_
       have BK427 := n5_
       have BK434 := n6_
       have BK442 := n7_
       have HB := n8_
       clear n0_ n1_ n2_ n3_ n4_ n5_ n6_ n7_ n8_
       (try clear hb)
       (try clear hb2)
       (try clear hk)
       (try clear hi)
       (try clear ho0)
       obtain ⟨Ao66, co66, eo66⟩ := Kd.R_slice HO446.out
       (first | subst eo66 | (injection eo66 with f1_ f2_ f3_; have f4_ := f1_.symm; have f5_ := f3_.symm; clear f1_ f2_ f3_; subst f4_; subst f5_))
       refine hK.out _ _ ⟨(blk_cell BK434.out 0).trans rfl, (blk_cell BK434.out 1).trans rfl, (blk_cell BK434.out 2).trans rfl, (blk_cell BK434.out 3).trans rfl, (blk_cell BK412.out 0).trans rfl, (blk_cell BK412.out 1).trans rfl, (blk_cell BK412.out 2).trans rfl, (blk_cell BK412.out 3).trans rfl⟩ (fun hHeld => ?_)
       clear hK K
       refine norm_ (a' := ?_) ?_ ?_
       rotate_left
       ·
        show Act.put _ (some 50) _ = _
        simp only [Act.put, List.setIfInBounds_toArray, List.set_cons_zero, List.set_cons_succ, i64_w, i32_w]
        rfl
       refine one_ (i := 3) (N := some 51) #[true, true, true, true, false] rfl rfl (by kernel_rfl) (by decide) (fun K hK => ?_)
       refine goes_ Tryd.func21 (by kernel_rfl) rfl #[.agg #[.slice Ao29 t428.length co29, .int .i64 t431, .int .i64 t432, .int .i64 t433], .agg #[.slice Ao66 t444.length co66, .int .i64 t447, .int .i64 t448, .int .i64 t449]] (by rfl) rfl rfl (by (try simp only [List.map_toArray, List.map_cons, List.map_nil]); first | done | rfl | (simp only [List.length_drop, List.length_take]; rfl)) ?_
       with_reducible refine (laws_eqRing.calls kj13 _ _ t428 t431 t432 t433 _ _ t444 t447 t448 t449 true _ ?side1 ?side2 ?side3 ?side4 A60.out).mono ?_
       (case side1 => exact rc0 HO_435000)
       (case side2 => exact (Kd.R_reads' HO_435000.out).2.1)
       (case side3 => exact rc0 HO446)
       (case side4 => exact (Kd.R_reads' HO446.out).2.1)
       rintro e w67 ⟨rfl, hb⟩
       refine ⟨_, rfl, ?_⟩
       have n0_ := Aside0.mk (Kd.R_below (rr HO_428000.out) hb)
       have n1_ := Aside0.mk (Kd.R_below (rr HO_435000.out) hb)
       have n2_ := Aside0.mk (Kd.R_below (rr HO_443000.out) hb)
       have n3_ := Aside0.mk (Kd.R_below (rr HO446.out) hb)
       have n4_ := Aside0.mk (bb BK412 hb)
       have n5_ := Aside0.mk (bb BK427 hb)
       have n6_ := Aside0.mk (bb BK434 hb)
       have n7_ := Aside0.mk (bb BK442 hb)
       have n8_ := Aside0.mk (below_step (bs4 HB GE412 GE427 GE434 GE442) hb)
       clear HO_428000
       clear HO_435000
       clear HO_443000
       clear HO446
       clear BK412
       clear BK427
       clear BK434
       clear BK442
       clear HB
       have HO_428000 := n0_
       have HO_435000 := n1_
       have HO_443000 := n2_
       have HO446 := n3_
       have BK412 := n4_
       have BK427 := n5_
       have BK434 := n6_
       have BK442 := n7_
       have HB := n8_
       clear n0_ n1_ n2_ n3_ n4_ n5_ n6_ n7_ n8_
       (try clear hb)
       (try clear hb2)
       (try clear hk)
       (try clear hi)
       refine hK.out _ _ ⟨(blk_cell BK434.out 0).trans rfl, (blk_cell BK434.out 1).trans rfl, (blk_cell BK434.out 2).trans rfl, (blk_cell BK434.out 3).trans rfl, (blk_cell BK412.out 0).trans rfl, (blk_cell BK412.out 1).trans rfl, (blk_cell BK412.out 2).trans rfl, (blk_cell BK412.out 3).trans rfl⟩ (fun hHeld => ?_)
       clear hK K
       refine norm_ (a' := ?_) ?_ ?_
       rotate_left
       ·
        show Act.put _ (some 51) _ = _
        simp only [Act.put, List.setIfInBounds_toArray, List.set_cons_zero, List.set_cons_succ, i64_w, i32_w]
        rfl
       refine pure_ (i := 4) (N := some 52) (v := ?_) (a' := ?_) #[true, true, true, true, true] rfl rfl (by kernel_rfl) (fun _ _ _ h => h) (Or.inl ⟨by rfl, ?_⟩) ?_ ?_
       rotate_left
       ·
        intro w'
        go_simp
        with_reducible rfl
       rotate_left
       ·
        simp only [Act.put, List.setIfInBounds_toArray, List.set_cons_zero, List.set_cons_succ, i64_w, i32_w]
        rfl
       refine done_ (by kernel_rfl) ?_
       have hnb68 := NB434_412.out
       have hnc68 := NB412_434.out
       have hnb69 := NB434_427.out
       have hnc69 := NB427_434.out
       have hnb70 := NB434_442.out
       have hnc70 := NB442_434.out
       obtain ⟨hcz71_0, hcz71_1, hcz71_2, hcz71_3⟩ := cz4 BK434
       obtain ⟨hfz71_0, hfz71_1, hfz71_2, hfz71_3⟩ := fz4 BK434
       go_upto_region 16 with (first | ((with_reducible refine gate_callee (f := 24) rfl ?_); refine gL (some 55) rfl rfl Tryd.func24 (by kernel_rfl) rfl #[.agg #[.slice Ao29 t428.length co29, .int .i64 t431, .int .i64 t432, .int .i64 t433], .int .i64 1] rfl ?_; (with_reducible refine (laws_markRing.calls kj13 (fun k_ => some k_ = (.slice Ao29 t428.length co29 : Value).ownBlock) (.slice Ao29 t428.length co29) t428 t431 t432 t433 1 t451 t452 w _ ?side1 ?side2 A62.out).mono ?_); (case side1 => repeat (first | (with_reducible first | exact HB.out | apply below_alloc | apply pw_below_drewN | apply below_drew1 | refine below_set ?_ GE412.out | refine below_set ?_ GE427.out | refine below_set ?_ GE434.out | refine below_set ?_ GE442.out) | exact HB.out)); (case side2 => exact Kd.R_tight rfl HO_435000.out); rintro e w72 ⟨rfl, hy0, hb, hkp⟩; refine ⟨_, rfl, ?_⟩; replace HO_428000 := Aside0.mk (Kd.R_mono (ok' := fun k_ => some k_ ≠ (.slice Ao29 t428.length co29 : Value).ownBlock ∧ some k_ ≠ (.slice Ao35 t435.length co35 : Value).ownBlock ∧ some k_ ≠ (.slice Ao66 t444.length co66 : Value).ownBlock) (Kd.R_keptB (HO_428000.out) hkp (fun k_ hk_ hs_ => (hk_.1.1) hs_)) (fun k_ hk_ => ⟨hk_.1.1.1, hk_.1.1.2, hk_.1.2⟩)); replace HO_443000 := Aside0.mk (Kd.R_mono (ok' := fun k_ => some k_ ≠ (.slice Ao23 t420.length co23 : Value).ownBlock ∧ some k_ ≠ (.slice Ao29 t428.length co29 : Value).ownBlock ∧ some k_ ≠ (.slice Ao66 t444.length co66 : Value).ownBlock) (Kd.R_keptB (HO_443000.out) hkp (fun k_ hk_ hs_ => (hk_.1.2) hs_)) (fun k_ hk_ => ⟨hk_.1.1.1, hk_.1.1.2, hk_.1.2⟩)); replace BK412 := Aside0.mk (blk_kept (bk BK412) hkp (fun hs_ => (fun e_ => (Kd.R_ne HO_435000.out BK412.out (by decide)) e_) hs_)); replace BK427 := Aside0.mk (blk_kept (bk BK427) hkp (fun hs_ => (fun e_ => (Kd.R_ne HO_435000.out BK427.out (by decide)) e_) hs_)); replace BK434 := Aside0.mk (blk_kept (bk BK434) hkp (fun hs_ => (fun e_ => (Kd.R_ne HO_435000.out BK434.out (by decide)) e_) hs_)); replace BK442 := Aside0.mk (blk_kept (bk BK442) hkp (fun hs_ => (fun e_ => (Kd.R_ne HO_435000.out BK442.out (by decide)) e_) hs_)); replace HO_435000 := Aside0.mk (Kd.R_reok rfl hy0 (fun k_ e_ => HO_435000.out.1 k_ e_)); replace HO446 := Aside0.mk (Kd.R_mono (ok' := fun k_ => some k_ ≠ (.slice Ao23 t420.length co23 : Value).ownBlock ∧ some k_ ≠ (.slice Ao29 t428.length co29 : Value).ownBlock ∧ some k_ ≠ (.slice Ao35 t435.length co35 : Value).ownBlock) (Kd.R_keptB (HO446.out) hkp (fun k_ hk_ hs_ => (hk_.1.2) hs_)) (fun k_ hk_ => ⟨hk_.1.1.1.2, hk_.1.1.2, hk_.1.2⟩)); replace HB := Aside0.mk (hb); (try clear hb); (try clear hkp); (try clear hy0)))
       (try simp only [Act.put, List.setIfInBounds_toArray, List.set_cons_zero, List.set_cons_succ])
       go_cut [68] (fun v68 wc => ∃ (kq : Nat) (x68_62 : Bool), v68 = .bool x68_62 ∧ Aside0 (laws_FnExactPutRecord.j1 kq a1 t426 x68_62 l0_0 a0_1 a0_2 a0_3 t420 t423 t424 t425 t435 t438 t439 t440 = some r) ∧ Aside0 (kq ≤ kj13) ∧ Aside0 (Kd.R k26 26 wc w.heap.size (fun k_ => some k_ ≠ ((.slice Ao29 t428.length co29) : Value).ownBlock ∧ some k_ ≠ ((.slice Ao35 t435.length co35) : Value).ownBlock) (.slice Ao23 t420.length co23) t420) ∧ Aside0 (Kd.R k26 26 wc w.heap.size (fun k_ => some k_ ≠ ((.slice Ao23 t420.length co23) : Value).ownBlock ∧ some k_ ≠ ((.slice Ao35 t435.length co35) : Value).ownBlock) (.slice Ao29 t428.length co29) t452) ∧ Aside0 (Kd.R k26 26 wc w.heap.size (fun k_ => some k_ ≠ ((.slice Ao23 t420.length co23) : Value).ownBlock ∧ some k_ ≠ ((.slice Ao29 t428.length co29) : Value).ownBlock) (.slice Ao35 t435.length co35) t435) ∧ Aside0 (wc.heap[gb412]? = some (.cells #[(.slice A0_0 l0_0.length c0_0), .int .i64 a0_1, .int .i64 a0_2, .int .i64 a0_3] 31 (0, 0))) ∧ Aside0 (wc.heap[gb427]? = some (.cells #[(.slice Ao23 t420.length co23), .int .i64 t423, .int .i64 t424, .int .i64 t425] 36 (0, 0))) ∧ Aside0 (wc.heap[gb434]? = some (.cells #[(.slice Ao29 t428.length co29), .int .i64 t431, .int .i64 t432, .int .i64 t433] 36 (0, 0))) ∧ Aside0 (wc.heap[gb442]? = some (.cells #[(.slice Ao35 t435.length co35), .int .i64 t438, .int .i64 t439, .int .i64 t440] 36 (0, 0))) ∧ Aside0 (Below w.heap.size w wc))
       case first =>
        have H := HC63.out
        clear HC63
        by_cases c73 : t451 < 0
        ·
         rw [if_pos c73] at H
         have c73b0 : decide (t451 < 0) = true := decide_eq_true c73
         clear c73
         (first | rw [c73b0] | (simp only [i64_w, i32_w]; rw [c73b0]) | (simp only [c73b2, Bool.not_false, Bool.not_true]) | skip)
         have H' := Aside0.mk H
         clear H
         go_wp2
         go_meet
         case rel => exact ⟨_, (true), (by first | rfl | (simp; done) | (simp [*]; done)), H', ⟨by have := HJ13.out; first | omega | exact Nat.le_refl _⟩, rm HO_428000 (fun _ hk => ⟨hk.1, hk.2.1⟩), rm HO_435000 (fun _ hk => ⟨hk.1.1, hk.1.2⟩), rm HO_443000 (fun _ hk => ⟨hk.1, hk.2.1⟩), ⟨bk BK412⟩, ⟨bk BK427⟩, ⟨bk BK434⟩, ⟨bk BK442⟩, ⟨bs4 HB GE412 GE427 GE434 GE442⟩⟩
        ·
         rw [if_neg c73] at H
         have c73b0 : decide (t451 < 0) = false := decide_eq_false c73
         clear c73
         (first | rw [c73b0] | (simp only [i64_w, i32_w]; rw [c73b0]) | (simp only [c73b2, Bool.not_false, Bool.not_true]) | skip)
         replace H := Option.bind_eq_some_iff.mp H
         obtain ⟨t453, A740, H⟩ := H
         replace H : (if t453 = true then (laws_FnExactPutRecord.j1 kj13 a1 t426 (t441 != t426) l0_0 a0_1 a0_2 a0_3 t420 t423 t424 t425 t435 t438 t439 t440) else (laws_FnExactPutRecord.j1 kj13 a1 t426 true l0_0 a0_1 a0_2 a0_3 t420 t423 t424 t425 t435 t438 t439 t440)) = some r := H
         have A74 := Aside0.mk A740
         clear A740
         by_cases c75 : t453 = true
         ·
          subst c75
          rw [if_pos rfl] at H
          have H' := Aside0.mk H
          clear H
          have hnb76 := NB442_412.out
          have hnc76 := NB412_442.out
          have hnb77 := NB442_427.out
          have hnc77 := NB427_442.out
          have hnb78 := NB442_434.out
          have hnc78 := NB434_442.out
          obtain ⟨hcz79_0, hcz79_1, hcz79_2, hcz79_3⟩ := cz4 BK442
          obtain ⟨hfz79_0, hfz79_1, hfz79_2, hfz79_3⟩ := fz4 BK442
          have hnb80 := NB427_412.out
          have hnc80 := NB412_427.out
          have hnb81 := NB427_434.out
          have hnc81 := NB434_427.out
          obtain ⟨hcz82_0, hcz82_1, hcz82_2, hcz82_3⟩ := cz4 BK427
          obtain ⟨hfz82_0, hfz82_1, hfz82_2, hfz82_3⟩ := fz4 BK427
          go_wp2_with (first | (go_at_call 21; (with_reducible refine (laws_eqRing.calls kj13 _ _ t435 t438 t439 t440 _ _ t420 t423 t424 t425 true _ ?side1 ?side2 ?side3 ?side4 A74.out).mono ?_); (case side1 => exact rc0 HO_443000); (case side2 => exact (Kd.R_reads' HO_443000.out).2.1); (case side3 => exact rc0 HO_428000); (case side4 => exact (Kd.R_reads' HO_428000.out).2.1); rintro e w83 ⟨rfl, hb⟩; replace HO_428000 := nr HO_428000 hb; replace HO_435000 := nr HO_435000 hb; replace HO_443000 := nr HO_443000 hb; replace HO446 := nr HO446 hb; replace BK412 := nb BK412 hb; replace BK427 := nb BK427 hb; replace BK434 := nb BK434 hb; replace BK442 := nb BK442 hb; replace HB := Aside0.mk (below_step (bs4 HB GE412 GE427 GE434 GE442) hb); (try clear hb); (try clear hb2); (try clear hk); (try clear hi)))
          go_meet
          case rel => exact ⟨_, ((t441 != t426)), (by first | rfl | (simp; done) | (simp [*]; done)), H', ⟨by have := HJ13.out; first | omega | exact Nat.le_refl _⟩, rm HO_428000 (fun _ hk => ⟨hk.1, hk.2.1⟩), rm HO_435000 (fun _ hk => ⟨hk.1.1, hk.1.2⟩), rm HO_443000 (fun _ hk => ⟨hk.1, hk.2.1⟩), ⟨bk BK412⟩, ⟨bk BK427⟩, ⟨bk BK434⟩, ⟨bk BK442⟩, ⟨bs4 HB GE412 GE427 GE434 GE442⟩⟩
         ·
          replace c75 := Bool.eq_false_iff.mpr c75
          subst c75
          rw [if_neg (show ¬ (false = true) by decide)] at H
          have H' := Aside0.mk H
          clear H
          have hnb84 := NB442_412.out
          have hnc84 := NB412_442.out
          have hnb85 := NB442_427.out
          have hnc85 := NB427_442.out
          have hnb86 := NB442_434.out
          have hnc86 := NB434_442.out
          obtain ⟨hcz87_0, hcz87_1, hcz87_2, hcz87_3⟩ := cz4 BK442
          obtain ⟨hfz87_0, hfz87_1, hfz87_2, hfz87_3⟩ := fz4 BK442
          have hnb88 := NB427_412.out
          have hnc88 := NB412_427.out
          have hnb89 := NB427_434.out
          have hnc89 := NB434_427.out
          obtain ⟨hcz90_0, hcz90_1, hcz90_2, hcz90_3⟩ := cz4 BK427
          obtain ⟨hfz90_0, hfz90_1, hfz90_2, hfz90_3⟩ := fz4 BK427
          go_wp2_with (first | (go_at_call 21; (with_reducible refine (laws_eqRing.calls kj13 _ _ t435 t438 t439 t440 _ _ t420 t423 t424 t425 false _ ?side1 ?side2 ?side3 ?side4 A74.out).mono ?_); (case side1 => exact rc0 HO_443000); (case side2 => exact (Kd.R_reads' HO_443000.out).2.1); (case side3 => exact rc0 HO_428000); (case side4 => exact (Kd.R_reads' HO_428000.out).2.1); rintro e w91 ⟨rfl, hb⟩; replace HO_428000 := nr HO_428000 hb; replace HO_435000 := nr HO_435000 hb; replace HO_443000 := nr HO_443000 hb; replace HO446 := nr HO446 hb; replace BK412 := nb BK412 hb; replace BK427 := nb BK427 hb; replace BK434 := nb BK434 hb; replace BK442 := nb BK442 hb; replace HB := Aside0.mk (below_step (bs4 HB GE412 GE427 GE434 GE442) hb); (try clear hb); (try clear hb2); (try clear hk); (try clear hi)))
          go_meet
          case rel => exact ⟨_, (true), (by first | rfl | (simp; done) | (simp [*]; done)), H', ⟨by have := HJ13.out; first | omega | exact Nat.le_refl _⟩, rm HO_428000 (fun _ hk => ⟨hk.1, hk.2.1⟩), rm HO_435000 (fun _ hk => ⟨hk.1.1, hk.1.2⟩), rm HO_443000 (fun _ hk => ⟨hk.1, hk.2.1⟩), ⟨bk BK412⟩, ⟨bk BK427⟩, ⟨bk BK434⟩, ⟨bk BK442⟩, ⟨bs4 HB GE412 GE427 GE434 GE442⟩⟩
       case rest =>
        clear HC63
        try clear c1
        try clear c2
        try clear p2
        try clear c3
        try clear c3b0
        try clear c3b1
        try clear c4
        try clear c5
        try clear c6
        try clear c6b0
        try clear c7
        try clear c8
        try clear c10
        try clear c17
        try clear c19
        try clear c21
        try clear c24
        try clear c30
        try clear c31
        try clear c34
        try clear c35
        try clear c36
        try clear c37
        try clear c38
        try clear c41
        try clear c42
        try clear c43
        try clear c44
        try clear c46
        try clear c47
        try clear c50
        try clear c51
        try clear c52
        try clear c54
        try clear c55
        try clear c58
        try clear c61
        try clear c68
        try clear c69
        try clear c70
        try clear c73
        try clear c73b0
        try clear c75
        try clear c76
        try clear c77
        try clear c78
        try clear c80
        try clear c81
        try clear c84
        try clear c85
        try clear c86
        try clear c88
        try clear c89
        try clear hcz16_0 hcz16_1 hcz16_2 hcz16_3
        try clear hcz18_0 hcz18_1 hcz18_2 hcz18_3
        try clear hcz25_0 hcz25_1 hcz25_2 hcz25_3
        try clear hcz26_0 hcz26_1 hcz26_2 hcz26_3
        try clear hcz32_0 hcz32_1 hcz32_2 hcz32_3
        try clear hcz39_0 hcz39_1 hcz39_2 hcz39_3
        try clear hcz45_0 hcz45_1 hcz45_2 hcz45_3
        try clear hcz48_0 hcz48_1 hcz48_2 hcz48_3
        try clear hcz53_0 hcz53_1 hcz53_2 hcz53_3
        try clear hcz56_0 hcz56_1 hcz56_2 hcz56_3
        try clear hcz71_0 hcz71_1 hcz71_2 hcz71_3
        try clear hcz79_0 hcz79_1 hcz79_2 hcz79_3
        try clear hcz82_0 hcz82_1 hcz82_2 hcz82_3
        try clear hcz87_0 hcz87_1 hcz87_2 hcz87_3
        try clear hcz8_0 hcz8_1 hcz8_2 hcz8_3
        try clear hcz90_0 hcz90_1 hcz90_2 hcz90_3
        try clear hfz16_0 hfz16_1 hfz16_2 hfz16_3
        try clear hfz18_0 hfz18_1 hfz18_2 hfz18_3
        try clear hfz25_0 hfz25_1 hfz25_2 hfz25_3
        try clear hfz26_0 hfz26_1 hfz26_2 hfz26_3
        try clear hfz32_0 hfz32_1 hfz32_2 hfz32_3
        try clear hfz39_0 hfz39_1 hfz39_2 hfz39_3
        try clear hfz45_0 hfz45_1 hfz45_2 hfz45_3
        try clear hfz48_0 hfz48_1 hfz48_2 hfz48_3
        try clear hfz53_0 hfz53_1 hfz53_2 hfz53_3
        try clear hfz56_0 hfz56_1 hfz56_2 hfz56_3
        try clear hfz71_0 hfz71_1 hfz71_2 hfz71_3
        try clear hfz79_0 hfz79_1 hfz79_2 hfz79_3
        try clear hfz82_0 hfz82_1 hfz82_2 hfz82_3
        try clear hfz87_0 hfz87_1 hfz87_2 hfz87_3
        try clear hfz8_0 hfz8_1 hfz8_2 hfz8_3
        try clear hfz90_0 hfz90_1 hfz90_2 hfz90_3
        try clear p2
        obtain ⟨kq, x68_62, rfl, HA, HJ62, HO_428000, HO_435000, HO_443000, BK412, BK427, BK434, BK442, HB⟩ := hcut
        have hl435000_62 := (Kd.R_reads' HO_435000.out).1
        rw [hl435000_62] at HO_435000
        (try simp only [hl435000_62])
        (try simp only [hl435000_62] at BK412)
        (try simp only [hl435000_62] at BK427)
        (try simp only [hl435000_62] at BK434)
        (try simp only [hl435000_62] at BK442)
        (try simp only [hl435000_62] at HO_428000)
        (try simp only [hl435000_62] at HO_443000)
        cases kq with
        | zero => exact absurd HA.out (by simp [laws_FnExactPutRecord.j1])
        | succ kj62 =>
         have H := HA.out
         clear HA
         simp only [laws_FnExactPutRecord.j1] at H
         by_cases c92 : x68_62 = true
         ·
          subst c92
          rw [if_pos rfl] at H
          obtain rfl := Option.some.inj H
          go_wp2
          go_ret
          exact ⟨by first | rfl | (simp [errW_none, errW_some] <;> rfl) | (simp [*, errW_none, errW_some] <;> rfl), bs4 HB GE412 GE427 GE434 GE442⟩
         ·
          replace c92 := Bool.eq_false_iff.mpr c92
          subst c92
          rw [if_neg (show ¬ (false = true) by decide)] at H
          replace H := Option.bind_eq_some_iff.mp H
          obtain ⟨⟨t454, t455⟩, A930, H⟩ := H
          replace H : ((laws_heldRing.f kj62 t455 t438 t439 t440 1).bind fun t456 => (if t456 < 0 then (some false) else (if t456 = t454 then ((laws_toRing.f kj62 l0_0 a0_1 a0_2 a0_3).bind fun bt457 => ((impl_PutRecord.f kj62 bt457.1 bt457.2.1 bt457.2.2.1 bt457.2.2.2 a1).bind fun bt463 => ((laws_eqRing.f kj62 bt463.1 bt463.2.1 bt463.2.2.1 bt463.2.2.2.1 t420 t423 t424 t425).bind fun t471 => (if t471 = true then (laws_FnExactPutRecord.j2 kj62 t454 (bt463.2.2.2.2 != t426) t455 t438 t439 t440) else (laws_FnExactPutRecord.j2 kj62 t454 true t455 t438 t439 t440))))) else (some false)))) = some r := H
          have A93 := Aside0.mk A930
          clear A930
          replace H := Option.bind_eq_some_iff.mp H
          obtain ⟨t456, A940, H⟩ := H
          replace H : (if t456 < 0 then (some false) else (if t456 = t454 then ((laws_toRing.f kj62 l0_0 a0_1 a0_2 a0_3).bind fun bt457 => ((impl_PutRecord.f kj62 bt457.1 bt457.2.1 bt457.2.2.1 bt457.2.2.2 a1).bind fun bt463 => ((laws_eqRing.f kj62 bt463.1 bt463.2.1 bt463.2.2.1 bt463.2.2.2.1 t420 t423 t424 t425).bind fun t471 => (if t471 = true then (laws_FnExactPutRecord.j2 kj62 t454 (bt463.2.2.2.2 != t426) t455 t438 t439 t440) else (laws_FnExactPutRecord.j2 kj62 t454 true t455 t438 t439 t440))))) else (some false))) = some r := H
          have A94 := Aside0.mk A940
          clear A940
          by_cases c95 : t456 < 0
          ·
           rw [if_pos c95] at H
           have c95b0 : decide (t456 < 0) = true := decide_eq_true c95
           clear c95
           obtain rfl := Option.some.inj H
           have hnb96 := NB442_412.out
           have hnc96 := NB412_442.out
           have hnb97 := NB442_427.out
           have hnc97 := NB427_442.out
           have hnb98 := NB442_434.out
           have hnc98 := NB434_442.out
           obtain ⟨hcz99_0, hcz99_1, hcz99_2, hcz99_3⟩ := cz4 BK442
           obtain ⟨hfz99_0, hfz99_1, hfz99_2, hfz99_3⟩ := fz4 BK442
           go_wp2_with (first | ((with_reducible refine gate_callee (f := 24) rfl ?_); refine gL (some 71) rfl rfl Tryd.func24 (by kernel_rfl) rfl #[.agg #[.slice Ao35 t435.length co35, .int .i64 t438, .int .i64 t439, .int .i64 t440], .int .i64 1] rfl ?_; (with_reducible refine (laws_markRing.calls kj62 (fun k_ => some k_ = (.slice Ao35 t435.length co35 : Value).ownBlock) (.slice Ao35 t435.length co35) t435 t438 t439 t440 1 t454 t455 w _ ?side1 ?side2 A93.out).mono ?_); (case side1 => repeat (first | (with_reducible first | exact HB.out | apply below_alloc | apply pw_below_drewN | apply below_drew1 | refine below_set ?_ GE412.out | refine below_set ?_ GE427.out | refine below_set ?_ GE434.out | refine below_set ?_ GE442.out) | exact HB.out)); (case side2 => exact Kd.R_tight rfl HO_443000.out); rintro e w100 ⟨rfl, hy0, hb, hkp⟩; refine ⟨_, rfl, ?_⟩; replace HO_428000 := Aside0.mk (Kd.R_mono (ok' := fun k_ => some k_ ≠ (.slice Ao29 t452.length co29 : Value).ownBlock ∧ some k_ ≠ (.slice Ao35 t435.length co35 : Value).ownBlock) (Kd.R_keptB (HO_428000.out) hkp (fun k_ hk_ hs_ => (hk_.2) hs_)) (fun k_ hk_ => ⟨hk_.1.1, hk_.1.2⟩)); replace HO_435000 := Aside0.mk (Kd.R_mono (ok' := fun k_ => some k_ ≠ (.slice Ao23 t420.length co23 : Value).ownBlock ∧ some k_ ≠ (.slice Ao35 t435.length co35 : Value).ownBlock) (Kd.R_keptB (HO_435000.out) hkp (fun k_ hk_ hs_ => (hk_.2) hs_)) (fun k_ hk_ => ⟨hk_.1.1, hk_.1.2⟩)); replace BK412 := Aside0.mk (blk_kept (bk BK412) hkp (fun hs_ => (fun e_ => (Kd.R_ne HO_443000.out BK412.out (by decide)) e_) hs_)); replace BK427 := Aside0.mk (blk_kept (bk BK427) hkp (fun hs_ => (fun e_ => (Kd.R_ne HO_443000.out BK427.out (by decide)) e_) hs_)); replace BK434 := Aside0.mk (blk_kept (bk BK434) hkp (fun hs_ => (fun e_ => (Kd.R_ne HO_443000.out BK434.out (by decide)) e_) hs_)); replace BK442 := Aside0.mk (blk_kept (bk BK442) hkp (fun hs_ => (fun e_ => (Kd.R_ne HO_443000.out BK442.out (by decide)) e_) hs_)); replace HO_443000 := Aside0.mk (Kd.R_reok rfl hy0 (fun k_ e_ => HO_443000.out.1 k_ e_)); replace HB := Aside0.mk (hb); (try clear hb); (try clear hkp); (try clear hy0); obtain ⟨hcz101_0, hcz101_1, hcz101_2, hcz101_3⟩ := cz4 BK442; obtain ⟨hfz101_0, hfz101_1, hfz101_2, hfz101_3⟩ := fz4 BK442) | ((with_reducible refine gate_callee (f := 25) rfl ?_); refine goesL_ (some 74) rfl rfl Tryd.func25 (by kernel_rfl) rfl #[.agg #[.slice Ao35 t455.length co35, .int .i64 t438, .int .i64 t439, .int .i64 t440], .int .i64 1] rfl (by (try simp only [List.map_toArray, List.map_cons, List.map_nil]); first | done | (rw [show t455.length = t435.length from (Kd.R_reads' HO_443000.out).1.symm] <;> rfl) | rfl | (simp only [List.length_drop, List.length_take]; rfl)) ?_; (with_reducible refine (laws_heldRing.calls kj62 _ _ t455 t438 t439 t440 1 t456 _ ?side1 ?side2 A94.out).mono ?_); (case side1 => exact rc0 HO_443000); (case side2 => rw [show t455.length = t435.length from (Kd.R_reads' HO_443000.out).1.symm]; exact (Kd.R_reads' HO_443000.out).2.1); rintro e w102 ⟨rfl, hb⟩; refine ⟨_, rfl, ?_⟩; replace HO_428000 := nr HO_428000 hb; replace HO_435000 := nr HO_435000 hb; replace HO_443000 := nr HO_443000 hb; replace BK412 := nb BK412 hb; replace BK427 := nb BK427 hb; replace BK434 := nb BK434 hb; replace BK442 := nb BK442 hb; replace HB := Aside0.mk (below_step (bs4 HB GE412 GE427 GE434 GE442) hb); (try clear hb); (try clear hb2); (try clear hk); (try clear hi)))
           go_ret
           exact ⟨by first | rfl | (simp [errW_none, errW_some] <;> rfl) | (simp [*, errW_none, errW_some] <;> rfl), bs4 HB GE412 GE427 GE434 GE442⟩
          ·
           rw [if_neg c95] at H
           have c95b0 : decide (t456 < 0) = false := decide_eq_false c95
           clear c95
           by_cases c103 : t456 = t454
           ·
            rw [if_pos c103] at H
            have c103b0 : (t456 == t454) = true := beq_iff_eq.mpr c103
            have c103b1 : (t456 != t454) = false := bne_eq_false_iff_eq.mpr c103
            clear c103
            replace H := Option.bind_eq_some_iff.mp H
            obtain ⟨⟨t457, t460, t461, t462⟩, A1040, H⟩ := H
            replace H : ((impl_PutRecord.f kj62 t457 t460 t461 t462 a1).bind fun bt463 => ((laws_eqRing.f kj62 bt463.1 bt463.2.1 bt463.2.2.1 bt463.2.2.2.1 t420 t423 t424 t425).bind fun t471 => (if t471 = true then (laws_FnExactPutRecord.j2 kj62 t454 (bt463.2.2.2.2 != t426) t455 t438 t439 t440) else (laws_FnExactPutRecord.j2 kj62 t454 true t455 t438 t439 t440)))) = some r := H
            have A104 := Aside0.mk A1040
            clear A1040
            replace H := Option.bind_eq_some_iff.mp H
            obtain ⟨⟨t463, t466, t467, t468, t469⟩, A1050, H⟩ := H
            replace H : ((laws_eqRing.f kj62 t463 t466 t467 t468 t420 t423 t424 t425).bind fun t471 => (if t471 = true then (laws_FnExactPutRecord.j2 kj62 t454 (t469 != t426) t455 t438 t439 t440) else (laws_FnExactPutRecord.j2 kj62 t454 true t455 t438 t439 t440))) = some r := H
            have A105 := Aside0.mk A1050
            clear A1050
            have HC106 := Aside0.mk H
            clear H
            have hnb107 := NB442_412.out
            have hnc107 := NB412_442.out
            have hnb108 := NB442_427.out
            have hnc108 := NB427_442.out
            have hnb109 := NB442_434.out
            have hnc109 := NB434_442.out
            obtain ⟨hcz110_0, hcz110_1, hcz110_2, hcz110_3⟩ := cz4 BK442
            obtain ⟨hfz110_0, hfz110_1, hfz110_2, hfz110_3⟩ := fz4 BK442
            go_upto_region 27 with (first | ((with_reducible refine gate_callee (f := 24) rfl ?_); refine gL (some 71) rfl rfl Tryd.func24 (by kernel_rfl) rfl #[.agg #[.slice Ao35 t435.length co35, .int .i64 t438, .int .i64 t439, .int .i64 t440], .int .i64 1] rfl ?_; (with_reducible refine (laws_markRing.calls kj62 (fun k_ => some k_ = (.slice Ao35 t435.length co35 : Value).ownBlock) (.slice Ao35 t435.length co35) t435 t438 t439 t440 1 t454 t455 w _ ?side1 ?side2 A93.out).mono ?_); (case side1 => repeat (first | (with_reducible first | exact HB.out | apply below_alloc | apply pw_below_drewN | apply below_drew1 | refine below_set ?_ GE412.out | refine below_set ?_ GE427.out | refine below_set ?_ GE434.out | refine below_set ?_ GE442.out) | exact HB.out)); (case side2 => exact Kd.R_tight rfl HO_443000.out); rintro e w111 ⟨rfl, hy0, hb, hkp⟩; refine ⟨_, rfl, ?_⟩; replace HO_428000 := Aside0.mk (Kd.R_mono (ok' := fun k_ => some k_ ≠ (.slice Ao29 t452.length co29 : Value).ownBlock ∧ some k_ ≠ (.slice Ao35 t435.length co35 : Value).ownBlock) (Kd.R_keptB (HO_428000.out) hkp (fun k_ hk_ hs_ => (hk_.2) hs_)) (fun k_ hk_ => ⟨hk_.1.1, hk_.1.2⟩)); replace HO_435000 := Aside0.mk (Kd.R_mono (ok' := fun k_ => some k_ ≠ (.slice Ao23 t420.length co23 : Value).ownBlock ∧ some k_ ≠ (.slice Ao35 t435.length co35 : Value).ownBlock) (Kd.R_keptB (HO_435000.out) hkp (fun k_ hk_ hs_ => (hk_.2) hs_)) (fun k_ hk_ => ⟨hk_.1.1, hk_.1.2⟩)); replace BK412 := Aside0.mk (blk_kept (bk BK412) hkp (fun hs_ => (fun e_ => (Kd.R_ne HO_443000.out BK412.out (by decide)) e_) hs_)); replace BK427 := Aside0.mk (blk_kept (bk BK427) hkp (fun hs_ => (fun e_ => (Kd.R_ne HO_443000.out BK427.out (by decide)) e_) hs_)); replace BK434 := Aside0.mk (blk_kept (bk BK434) hkp (fun hs_ => (fun e_ => (Kd.R_ne HO_443000.out BK434.out (by decide)) e_) hs_)); replace BK442 := Aside0.mk (blk_kept (bk BK442) hkp (fun hs_ => (fun e_ => (Kd.R_ne HO_443000.out BK442.out (by decide)) e_) hs_)); replace HO_443000 := Aside0.mk (Kd.R_reok rfl hy0 (fun k_ e_ => HO_443000.out.1 k_ e_)); replace HB := Aside0.mk (hb); (try clear hb); (try clear hkp); (try clear hy0); obtain ⟨hcz112_0, hcz112_1, hcz112_2, hcz112_3⟩ := cz4 BK442; obtain ⟨hfz112_0, hfz112_1, hfz112_2, hfz112_3⟩ := fz4 BK442) | ((with_reducible refine gate_callee (f := 25) rfl ?_); refine goesL_ (some 74) rfl rfl Tryd.func25 (by kernel_rfl) rfl #[.agg #[.slice Ao35 t455.length co35, .int .i64 t438, .int .i64 t439, .int .i64 t440], .int .i64 1] rfl (by (try simp only [List.map_toArray, List.map_cons, List.map_nil]); first | done | (rw [show t455.length = t435.length from (Kd.R_reads' HO_443000.out).1.symm] <;> rfl) | rfl | (simp only [List.length_drop, List.length_take]; rfl)) ?_; (with_reducible refine (laws_heldRing.calls kj62 _ _ t455 t438 t439 t440 1 t456 _ ?side1 ?side2 A94.out).mono ?_); (case side1 => exact rc0 HO_443000); (case side2 => rw [show t455.length = t435.length from (Kd.R_reads' HO_443000.out).1.symm]; exact (Kd.R_reads' HO_443000.out).2.1); rintro e w113 ⟨rfl, hb⟩; refine ⟨_, rfl, ?_⟩; replace HO_428000 := nr HO_428000 hb; replace HO_435000 := nr HO_435000 hb; replace HO_443000 := nr HO_443000 hb; replace BK412 := nb BK412 hb; replace BK427 := nb BK427 hb; replace BK434 := nb BK434 hb; replace BK442 := nb BK442 hb; replace HB := Aside0.mk (below_step (bs4 HB GE412 GE427 GE434 GE442) hb); (try clear hb); (try clear hb2); (try clear hk); (try clear hi); have hnb114 := NB412_427.out; have hnc114 := NB427_412.out; have hnb115 := NB412_434.out; have hnc115 := NB434_412.out; obtain ⟨hcz116_0, hcz116_1, hcz116_2, hcz116_3⟩ := cz4 BK412; obtain ⟨hfz116_0, hfz116_1, hfz116_2, hfz116_3⟩ := fz4 BK412) | ((with_reducible refine gate_callee (f := 19) rfl ?_); refine gL (some 82) rfl rfl Tryd.func19 (by kernel_rfl) rfl #[.agg #[.slice A0_0 l0_0.length c0_0, .int .i64 a0_1, .int .i64 a0_2, .int .i64 a0_3]] rfl ?_; (with_reducible refine (laws_toRing.calls kj62 _ _ l0_0 a0_1 a0_2 a0_3 t457 t460 t461 t462 _ ?side1 ?side2 A104.out).mono ?_); (case side1 => exact cb HR0_0 HB); (case side2 => exact HC0_0.out); rintro e w117 ⟨v458, rfl, ho0, hb⟩; refine ⟨_, rfl, ?_⟩; have HO459 := Aside0.mk (Kd.R_lower (Kd.R_new' (Kd.R_new' (Kd.R_new' ho0 (Kd.R_lt (rr HO_428000.out))) (Kd.R_lt (rr HO_435000.out))) (Kd.R_lt (rr HO_443000.out))) (below_size (bs4 HB GE412 GE427 GE434 GE442))); replace HO_428000 := Aside0.mk (Kd.R_elder' (rr HO_428000.out) (Kd.R_base ho0) hb); replace HO_435000 := Aside0.mk (Kd.R_elder' (rr HO_435000.out) (Kd.R_base ho0) hb); replace HO_443000 := Aside0.mk (Kd.R_elder' (rr HO_443000.out) (Kd.R_base ho0) hb); replace BK412 := nb BK412 hb; replace BK427 := nb BK427 hb; replace BK434 := nb BK434 hb; replace BK442 := nb BK442 hb; replace HB := Aside0.mk (below_step (bs4 HB GE412 GE427 GE434 GE442) hb); (try clear hb); (try clear hb2); (try clear hk); (try clear hi); (try clear ho0); obtain ⟨Ao118, co118, eo118⟩ := Kd.R_slice HO459.out; subst eo118) | ((with_reducible refine gate_callee (f := 34) rfl ?_); refine gL (some 84) rfl rfl Tryd.func34 (by kernel_rfl) rfl #[.agg #[.slice Ao118 t457.length co118, .int .i64 t460, .int .i64 t461, .int .i64 t462], .string a1] rfl ?_; (with_reducible refine (impl_PutRecord.calls kj62 _ _ t457 t460 t461 t462 a1 t463 t466 t467 t468 t469 _ ?sideT ?side1 ?side2 A105.out).mono ?_); (case sideT => refine ⟨Ito.tabB hTab_.out ?_⟩; first | exact bs HB | exact st_below | (repeat (first | (with_reducible first | exact HB.out | apply below_alloc | apply pw_below_drewN | apply below_drew1 | refine below_set ?_ (Aside0.out (by assumption))) | exact HB.out))); (case side1 => exact rc0 HO459); (case side2 => exact (Kd.R_reads' HO459.out).2.1); rintro e w119 ⟨v464, rfl, ho0, hb⟩; refine ⟨_, rfl, ?_⟩; have HO465 := Aside0.mk (Kd.R_lower (Kd.R_new' (Kd.R_new' (Kd.R_new' (Kd.R_new' ho0 (Kd.R_lt (rr HO_428000.out))) (Kd.R_lt (rr HO_435000.out))) (Kd.R_lt (rr HO_443000.out))) (Kd.R_lt (rr HO459.out))) (below_size (bs4 HB GE412 GE427 GE434 GE442))); replace HO_428000 := Aside0.mk (Kd.R_elder' (rr HO_428000.out) (Kd.R_base ho0) hb); replace HO_435000 := Aside0.mk (Kd.R_elder' (rr HO_435000.out) (Kd.R_base ho0) hb); replace HO_443000 := Aside0.mk (Kd.R_elder' (rr HO_443000.out) (Kd.R_base ho0) hb); replace HO459 := Aside0.mk (Kd.R_elder' (rr HO459.out) (Kd.R_base ho0) hb); replace BK412 := nb BK412 hb; replace BK427 := nb BK427 hb; replace BK434 := nb BK434 hb; replace BK442 := nb BK442 hb; replace HB := Aside0.mk (below_step (bs4 HB GE412 GE427 GE434 GE442) hb); (try clear hb); (try clear hb2); (try clear hk); (try clear hi); (try clear ho0)) | ((with_reducible refine gate_dst (N := 14) rfl ?_); refine box_event ?hg (N := 14) ?hd (cs := #[.slice none 0 0, .int .i64 0, .int .i64 0, .int .i64 0]) (t := 36) ?hr ?_; (case hd => rfl); (case hg => rfl); (case hr => first | (go_simp; done) | (go_simp; rfl)); intro gb470 hg w120 hbox hb; replace HO_428000 := nr HO_428000 hb; replace HO_435000 := nr HO_435000 hb; replace HO_443000 := nr HO_443000 hb; replace HO459 := nr HO459 hb; replace HO465 := nr HO465 hb; have BK470 := Aside0.mk (hbox); have GW470 := Aside0.mk ((by rw [hg]; exact (below_size (bs4 HB GE412 GE427 GE434 GE442)) : w.heap.size ≤ gb470)); have GE470 := Aside0.mk ((by rw [hg]; exact (below_size (bs4 HB GE412 GE427 GE434 GE442)) : w.heap.size ≤ gb470)); replace HB := Aside0.mk (below_step (bs4 HB GE412 GE427 GE434 GE442) hb); have NB412_470 := Aside0.mk ((bn BK412 hg : gb412 ≠ gb470)); have NB470_412 := Aside0.mk ((bm BK412 hg : gb470 ≠ gb412)); replace BK412 := nb BK412 hb; have NB427_470 := Aside0.mk ((bn BK427 hg : gb427 ≠ gb470)); have NB470_427 := Aside0.mk ((bm BK427 hg : gb470 ≠ gb427)); replace BK427 := nb BK427 hb; have NB434_470 := Aside0.mk ((bn BK434 hg : gb434 ≠ gb470)); have NB470_434 := Aside0.mk ((bm BK434 hg : gb470 ≠ gb434)); replace BK434 := nb BK434 hb; have NB442_470 := Aside0.mk ((bn BK442 hg : gb442 ≠ gb470)); have NB470_442 := Aside0.mk ((bm BK442 hg : gb470 ≠ gb442)); replace BK442 := nb BK442 hb; clear hb hbox hg; obtain ⟨Ao121, co121, eo121⟩ := Kd.R_slice HO465.out; subst eo121; have hnb122 := NB470_412.out; have hnc122 := NB412_470.out; have hnb123 := NB470_427.out; have hnc123 := NB427_470.out; have hnb124 := NB470_434.out; have hnc124 := NB434_470.out; have hnb125 := NB470_442.out; have hnc125 := NB442_470.out; obtain ⟨hcz126_0, hcz126_1, hcz126_2, hcz126_3⟩ := cz4 BK470; obtain ⟨hfz126_0, hfz126_1, hfz126_2, hfz126_3⟩ := fz4 BK470))
            (try simp only [Act.put, List.setIfInBounds_toArray, List.set_cons_zero, List.set_cons_succ])
            go_cut [95] (fun v95 wc => ∃ (kq : Nat) (x95_105 : Bool), v95 = .bool x95_105 ∧ Aside0 (laws_FnExactPutRecord.j2 kq t454 x95_105 t455 t438 t439 t440 = some r) ∧ Aside0 (kq ≤ kj62) ∧ Aside0 (Kd.R k26 26 wc w.heap.size (fun k_ => some k_ ≠ ((.slice Ao29 t452.length co29) : Value).ownBlock ∧ some k_ ≠ ((.slice Ao35 t435.length co35) : Value).ownBlock ∧ some k_ ≠ ((.slice Ao121 t463.length co121) : Value).ownBlock) (.slice Ao23 t420.length co23) t420) ∧ Aside0 (Kd.R k26 26 wc w.heap.size (fun k_ => some k_ ≠ ((.slice Ao23 t420.length co23) : Value).ownBlock ∧ some k_ ≠ ((.slice Ao35 t435.length co35) : Value).ownBlock ∧ some k_ ≠ ((.slice Ao121 t463.length co121) : Value).ownBlock) (.slice Ao29 t452.length co29) t452) ∧ Aside0 (Kd.R k26 26 wc w.heap.size (fun k_ => some k_ ≠ ((.slice Ao23 t420.length co23) : Value).ownBlock ∧ some k_ ≠ ((.slice Ao29 t452.length co29) : Value).ownBlock ∧ some k_ ≠ ((.slice Ao121 t463.length co121) : Value).ownBlock) (.slice Ao35 t435.length co35) t455) ∧ Aside0 (Kd.R k26 26 wc w.heap.size (fun k_ => some k_ ≠ ((.slice Ao23 t420.length co23) : Value).ownBlock ∧ some k_ ≠ ((.slice Ao29 t452.length co29) : Value).ownBlock ∧ some k_ ≠ ((.slice Ao35 t435.length co35) : Value).ownBlock) (.slice Ao121 t463.length co121) t463) ∧ Aside0 (wc.heap[gb412]? = some (.cells #[(.slice A0_0 l0_0.length c0_0), .int .i64 a0_1, .int .i64 a0_2, .int .i64 a0_3] 31 (0, 0))) ∧ Aside0 (wc.heap[gb427]? = some (.cells #[(.slice Ao23 t420.length co23), .int .i64 t423, .int .i64 t424, .int .i64 t425] 36 (0, 0))) ∧ Aside0 (wc.heap[gb434]? = some (.cells #[(.slice Ao29 t452.length co29), .int .i64 t431, .int .i64 t432, .int .i64 t433] 36 (0, 0))) ∧ Aside0 (wc.heap[gb442]? = some (.cells #[(.slice Ao35 t435.length co35), .int .i64 t438, .int .i64 t439, .int .i64 t440] 36 (0, 0))) ∧ Aside0 (wc.heap[gb470]? = some (.cells #[(.slice Ao121 t463.length co121), .int .i64 t466, .int .i64 t467, .int .i64 t468] 36 (0, 0))) ∧ Aside0 (Below w.heap.size w wc))
            case first =>
             have H := HC106.out
             clear HC106
             replace H := Option.bind_eq_some_iff.mp H
             obtain ⟨t471, A1270, H⟩ := H
             replace H : (if t471 = true then (laws_FnExactPutRecord.j2 kj62 t454 (t469 != t426) t455 t438 t439 t440) else (laws_FnExactPutRecord.j2 kj62 t454 true t455 t438 t439 t440)) = some r := H
             have A127 := Aside0.mk A1270
             clear A1270
             by_cases c128 : t471 = true
             ·
              subst c128
              rw [if_pos rfl] at H
              have H' := Aside0.mk H
              clear H
              have hnb129 := NB470_412.out
              have hnc129 := NB412_470.out
              have hnb130 := NB470_427.out
              have hnc130 := NB427_470.out
              have hnb131 := NB470_434.out
              have hnc131 := NB434_470.out
              have hnb132 := NB470_442.out
              have hnc132 := NB442_470.out
              obtain ⟨hcz133_0, hcz133_1, hcz133_2, hcz133_3⟩ := cz4 BK470
              obtain ⟨hfz133_0, hfz133_1, hfz133_2, hfz133_3⟩ := fz4 BK470
              have hnb134 := NB427_412.out
              have hnc134 := NB412_427.out
              have hnb135 := NB427_434.out
              have hnc135 := NB434_427.out
              have hnb136 := NB427_442.out
              have hnc136 := NB442_427.out
              obtain ⟨hcz137_0, hcz137_1, hcz137_2, hcz137_3⟩ := cz4 BK427
              obtain ⟨hfz137_0, hfz137_1, hfz137_2, hfz137_3⟩ := fz4 BK427
              go_wp2_with (first | ((with_reducible refine gate_callee (f := 21) rfl ?_); refine gL (some 89) rfl rfl Tryd.func21 (by kernel_rfl) rfl #[.agg #[.slice Ao121 t463.length co121, .int .i64 t466, .int .i64 t467, .int .i64 t468], .agg #[.slice Ao23 t420.length co23, .int .i64 t423, .int .i64 t424, .int .i64 t425]] rfl ?_; (with_reducible refine (laws_eqRing.calls kj62 _ _ t463 t466 t467 t468 _ _ t420 t423 t424 t425 true _ ?side1 ?side2 ?side3 ?side4 A127.out).mono ?_); (case side1 => exact rc HO465 BK470); (case side2 => exact (Kd.R_reads' HO465.out).2.1); (case side3 => exact rc HO_428000 BK470); (case side4 => exact (Kd.R_reads' HO_428000.out).2.1); rintro e w138 ⟨rfl, hb⟩; refine ⟨_, rfl, ?_⟩; replace HO_428000 := nf HO_428000 BK470 hb; replace HO_435000 := nf HO_435000 BK470 hb; replace HO_443000 := nf HO_443000 BK470 hb; replace HO459 := nf HO459 BK470 hb; replace HO465 := nf HO465 BK470 hb; replace BK412 := Aside0.mk (blk_below (bf BK412 NB412_470) hb); replace BK427 := Aside0.mk (blk_below (bf BK427 NB427_470) hb); replace BK434 := Aside0.mk (blk_below (bf BK434 NB434_470) hb); replace BK442 := Aside0.mk (blk_below (bf BK442 NB442_470) hb); replace BK470 := Aside0.mk (blk_below (g := gb470) (o := .cells #[.slice Ao121 t463.length co121, .int .i64 t466, .int .i64 t467, .int .i64 t468] 36 (0, 0)) (by (with_reducible repeat (first | refine blk_drewN ?_ _ | refine blk_drew ?_ | refine blk_alloc ?_ _)); refine blk_put (cs := #[.slice Ao121 t463.length co121, .int .i64 t466, .int .i64 t467, .int .i64 0]) ?_ 3 _ rfl; (with_reducible repeat (first | refine blk_drewN ?_ _ | refine blk_drew ?_ | refine blk_alloc ?_ _)); refine blk_put (cs := #[.slice Ao121 t463.length co121, .int .i64 t466, .int .i64 0, .int .i64 0]) ?_ 2 _ rfl; (with_reducible repeat (first | refine blk_drewN ?_ _ | refine blk_drew ?_ | refine blk_alloc ?_ _)); refine blk_put (cs := #[.slice Ao121 t463.length co121, .int .i64 0, .int .i64 0, .int .i64 0]) ?_ 1 _ rfl; (with_reducible repeat (first | refine blk_drewN ?_ _ | refine blk_drew ?_ | refine blk_alloc ?_ _)); refine blk_put (cs := #[.slice none 0 0, .int .i64 0, .int .i64 0, .int .i64 0]) ?_ 0 _ rfl; (with_reducible repeat (first | refine blk_drewN ?_ _ | refine blk_drew ?_ | refine blk_alloc ?_ _)); exact BK470.out) hb); replace HB := Aside0.mk (below_step (bs5 HB GE412 GE427 GE434 GE442 GE470) hb); (try clear hb); (try clear hb2); (try clear hk); (try clear hi)))
              go_meet
              case rel => exact ⟨_, ((t469 != t426)), (by first | rfl | (simp; done) | (simp [*]; done)), H', ⟨by have := HJ13.out; have := HJ62.out; first | omega | exact Nat.le_refl _⟩, ⟨by (try simp only [hl435000_62]); (with_reducible repeat (first | apply Kd.R_alloc | apply Kd.R_drewN | apply Kd.R_drew)); exact Kd.R_mono HO_428000.out (fun _ hk => ⟨hk.1.1.1, ⟨hk.1.1.2, hk.2⟩⟩)⟩, ⟨by (try simp only [hl435000_62]); (with_reducible repeat (first | apply Kd.R_alloc | apply Kd.R_drewN | apply Kd.R_drew)); exact Kd.R_mono HO_435000.out (fun _ hk => ⟨hk.1.1.1, ⟨hk.1.1.2, hk.2⟩⟩)⟩, ⟨by (try simp only [hl435000_62]); (with_reducible repeat (first | apply Kd.R_alloc | apply Kd.R_drewN | apply Kd.R_drew)); exact Kd.R_mono HO_443000.out (fun _ hk => ⟨hk.1.1.1, ⟨hk.1.1.2, hk.2⟩⟩)⟩, ⟨by (try simp only [hl435000_62]); (with_reducible repeat (first | apply Kd.R_alloc | apply Kd.R_drewN | apply Kd.R_drew)); exact Kd.R_mono HO465.out (fun _ hk => ⟨hk.1.1.1.2, ⟨hk.1.1.2, hk.1.2⟩⟩)⟩, ⟨by (try simp only [hl435000_62]); (with_reducible repeat (first | refine blk_drewN ?_ _ | refine blk_drew ?_ | refine blk_alloc ?_ _)); exact BK412.out⟩, ⟨by (try simp only [hl435000_62]); (with_reducible repeat (first | refine blk_drewN ?_ _ | refine blk_drew ?_ | refine blk_alloc ?_ _)); exact BK427.out⟩, ⟨by (try simp only [hl435000_62]); (with_reducible repeat (first | refine blk_drewN ?_ _ | refine blk_drew ?_ | refine blk_alloc ?_ _)); exact BK434.out⟩, ⟨by (try simp only [hl435000_62]); (with_reducible repeat (first | refine blk_drewN ?_ _ | refine blk_drew ?_ | refine blk_alloc ?_ _)); exact BK442.out⟩, ⟨by (try simp only [hl435000_62]); (with_reducible repeat (first | refine blk_drewN ?_ _ | refine blk_drew ?_ | refine blk_alloc ?_ _)); exact BK470.out⟩, ⟨bs5 HB GE412 GE427 GE434 GE442 GE470⟩⟩
             ·
              replace c128 := Bool.eq_false_iff.mpr c128
              subst c128
              rw [if_neg (show ¬ (false = true) by decide)] at H
              have H' := Aside0.mk H
              clear H
              have hnb139 := NB470_412.out
              have hnc139 := NB412_470.out
              have hnb140 := NB470_427.out
              have hnc140 := NB427_470.out
              have hnb141 := NB470_434.out
              have hnc141 := NB434_470.out
              have hnb142 := NB470_442.out
              have hnc142 := NB442_470.out
              obtain ⟨hcz143_0, hcz143_1, hcz143_2, hcz143_3⟩ := cz4 BK470
              obtain ⟨hfz143_0, hfz143_1, hfz143_2, hfz143_3⟩ := fz4 BK470
              have hnb144 := NB427_412.out
              have hnc144 := NB412_427.out
              have hnb145 := NB427_434.out
              have hnc145 := NB434_427.out
              have hnb146 := NB427_442.out
              have hnc146 := NB442_427.out
              obtain ⟨hcz147_0, hcz147_1, hcz147_2, hcz147_3⟩ := cz4 BK427
              obtain ⟨hfz147_0, hfz147_1, hfz147_2, hfz147_3⟩ := fz4 BK427
              go_wp2_with (first | ((with_reducible refine gate_callee (f := 21) rfl ?_); refine gL (some 89) rfl rfl Tryd.func21 (by kernel_rfl) rfl #[.agg #[.slice Ao121 t463.length co121, .int .i64 t466, .int .i64 t467, .int .i64 t468], .agg #[.slice Ao23 t420.length co23, .int .i64 t423, .int .i64 t424, .int .i64 t425]] rfl ?_; (with_reducible refine (laws_eqRing.calls kj62 _ _ t463 t466 t467 t468 _ _ t420 t423 t424 t425 false _ ?side1 ?side2 ?side3 ?side4 A127.out).mono ?_); (case side1 => exact rc HO465 BK470); (case side2 => exact (Kd.R_reads' HO465.out).2.1); (case side3 => exact rc HO_428000 BK470); (case side4 => exact (Kd.R_reads' HO_428000.out).2.1); rintro e w148 ⟨rfl, hb⟩; refine ⟨_, rfl, ?_⟩; replace HO_428000 := nf HO_428000 BK470 hb; replace HO_435000 := nf HO_435000 BK470 hb; replace HO_443000 := nf HO_443000 BK470 hb; replace HO459 := nf HO459 BK470 hb; replace HO465 := nf HO465 BK470 hb; replace BK412 := Aside0.mk (blk_below (bf BK412 NB412_470) hb); replace BK427 := Aside0.mk (blk_below (bf BK427 NB427_470) hb); replace BK434 := Aside0.mk (blk_below (bf BK434 NB434_470) hb); replace BK442 := Aside0.mk (blk_below (bf BK442 NB442_470) hb); replace BK470 := Aside0.mk (blk_below (g := gb470) (o := .cells #[.slice Ao121 t463.length co121, .int .i64 t466, .int .i64 t467, .int .i64 t468] 36 (0, 0)) (by (with_reducible repeat (first | refine blk_drewN ?_ _ | refine blk_drew ?_ | refine blk_alloc ?_ _)); refine blk_put (cs := #[.slice Ao121 t463.length co121, .int .i64 t466, .int .i64 t467, .int .i64 0]) ?_ 3 _ rfl; (with_reducible repeat (first | refine blk_drewN ?_ _ | refine blk_drew ?_ | refine blk_alloc ?_ _)); refine blk_put (cs := #[.slice Ao121 t463.length co121, .int .i64 t466, .int .i64 0, .int .i64 0]) ?_ 2 _ rfl; (with_reducible repeat (first | refine blk_drewN ?_ _ | refine blk_drew ?_ | refine blk_alloc ?_ _)); refine blk_put (cs := #[.slice Ao121 t463.length co121, .int .i64 0, .int .i64 0, .int .i64 0]) ?_ 1 _ rfl; (with_reducible repeat (first | refine blk_drewN ?_ _ | refine blk_drew ?_ | refine blk_alloc ?_ _)); refine blk_put (cs := #[.slice none 0 0, .int .i64 0, .int .i64 0, .int .i64 0]) ?_ 0 _ rfl; (with_reducible repeat (first | refine blk_drewN ?_ _ | refine blk_drew ?_ | refine blk_alloc ?_ _)); exact BK470.out) hb); replace HB := Aside0.mk (below_step (bs5 HB GE412 GE427 GE434 GE442 GE470) hb); (try clear hb); (try clear hb2); (try clear hk); (try clear hi)))
              go_meet
              case rel => exact ⟨_, (true), (by first | rfl | (simp; done) | (simp [*]; done)), H', ⟨by have := HJ13.out; have := HJ62.out; first | omega | exact Nat.le_refl _⟩, ⟨by (try simp only [hl435000_62]); (with_reducible repeat (first | apply Kd.R_alloc | apply Kd.R_drewN | apply Kd.R_drew)); exact Kd.R_mono HO_428000.out (fun _ hk => ⟨hk.1.1.1, ⟨hk.1.1.2, hk.2⟩⟩)⟩, ⟨by (try simp only [hl435000_62]); (with_reducible repeat (first | apply Kd.R_alloc | apply Kd.R_drewN | apply Kd.R_drew)); exact Kd.R_mono HO_435000.out (fun _ hk => ⟨hk.1.1.1, ⟨hk.1.1.2, hk.2⟩⟩)⟩, ⟨by (try simp only [hl435000_62]); (with_reducible repeat (first | apply Kd.R_alloc | apply Kd.R_drewN | apply Kd.R_drew)); exact Kd.R_mono HO_443000.out (fun _ hk => ⟨hk.1.1.1, ⟨hk.1.1.2, hk.2⟩⟩)⟩, ⟨by (try simp only [hl435000_62]); (with_reducible repeat (first | apply Kd.R_alloc | apply Kd.R_drewN | apply Kd.R_drew)); exact Kd.R_mono HO465.out (fun _ hk => ⟨hk.1.1.1.2, ⟨hk.1.1.2, hk.1.2⟩⟩)⟩, ⟨by (try simp only [hl435000_62]); (with_reducible repeat (first | refine blk_drewN ?_ _ | refine blk_drew ?_ | refine blk_alloc ?_ _)); exact BK412.out⟩, ⟨by (try simp only [hl435000_62]); (with_reducible repeat (first | refine blk_drewN ?_ _ | refine blk_drew ?_ | refine blk_alloc ?_ _)); exact BK427.out⟩, ⟨by (try simp only [hl435000_62]); (with_reducible repeat (first | refine blk_drewN ?_ _ | refine blk_drew ?_ | refine blk_alloc ?_ _)); exact BK434.out⟩, ⟨by (try simp only [hl435000_62]); (with_reducible repeat (first | refine blk_drewN ?_ _ | refine blk_drew ?_ | refine blk_alloc ?_ _)); exact BK442.out⟩, ⟨by (try simp only [hl435000_62]); (with_reducible repeat (first | refine blk_drewN ?_ _ | refine blk_drew ?_ | refine blk_alloc ?_ _)); exact BK470.out⟩, ⟨bs5 HB GE412 GE427 GE434 GE442 GE470⟩⟩
            case rest =>
             clear HC106
             try clear c1
             try clear c2
             try clear p2
             try clear c3
             try clear c3b0
             try clear c3b1
             try clear c4
             try clear c5
             try clear c6
             try clear c6b0
             try clear c7
             try clear c8
             try clear c9
             try clear c10
             try clear c11
             try clear c12
             try clear c13
             try clear c14
             try clear c17
             try clear c19
             try clear c21
             try clear c24
             try clear c25
             try clear c30
             try clear c31
             try clear c34
             try clear c35
             try clear c36
             try clear c37
             try clear c38
             try clear c41
             try clear c42
             try clear c43
             try clear c44
             try clear c46
             try clear c47
             try clear c50
             try clear c51
             try clear c52
             try clear c54
             try clear c55
             try clear c58
             try clear c61
             try clear c68
             try clear c69
             try clear c70
             try clear c73
             try clear c73b0
             try clear c75
             try clear c76
             try clear c77
             try clear c78
             try clear c80
             try clear c81
             try clear c84
             try clear c85
             try clear c86
             try clear c88
             try clear c89
             try clear c92
             try clear c95
             try clear c95b0
             try clear c96
             try clear c97
             try clear c98
             try clear c103
             try clear c103b0
             try clear c103b1
             try clear c107
             try clear c108
             try clear c109
             try clear c114
             try clear c115
             try clear c122
             try clear c123
             try clear c124
             try clear c125
             try clear c128
             try clear c129
             try clear c130
             try clear c131
             try clear c132
             try clear c134
             try clear c135
             try clear c136
             try clear c139
             try clear c140
             try clear c141
             try clear c142
             try clear c144
             try clear c145
             try clear c146
             try clear hcz101_0 hcz101_1 hcz101_2 hcz101_3
             try clear hcz110_0 hcz110_1 hcz110_2 hcz110_3
             try clear hcz112_0 hcz112_1 hcz112_2 hcz112_3
             try clear hcz116_0 hcz116_1 hcz116_2 hcz116_3
             try clear hcz126_0 hcz126_1 hcz126_2 hcz126_3
             try clear hcz133_0 hcz133_1 hcz133_2 hcz133_3
             try clear hcz137_0 hcz137_1 hcz137_2 hcz137_3
             try clear hcz143_0 hcz143_1 hcz143_2 hcz143_3
             try clear hcz147_0 hcz147_1 hcz147_2 hcz147_3
             try clear hcz16_0 hcz16_1 hcz16_2 hcz16_3
             try clear hcz18_0 hcz18_1 hcz18_2 hcz18_3
             try clear hcz25_0 hcz25_1 hcz25_2 hcz25_3
             try clear hcz26_0 hcz26_1 hcz26_2 hcz26_3
             try clear hcz32_0 hcz32_1 hcz32_2 hcz32_3
             try clear hcz39_0 hcz39_1 hcz39_2 hcz39_3
             try clear hcz45_0 hcz45_1 hcz45_2 hcz45_3
             try clear hcz48_0 hcz48_1 hcz48_2 hcz48_3
             try clear hcz53_0 hcz53_1 hcz53_2 hcz53_3
             try clear hcz56_0 hcz56_1 hcz56_2 hcz56_3
             try clear hcz71_0 hcz71_1 hcz71_2 hcz71_3
             try clear hcz79_0 hcz79_1 hcz79_2 hcz79_3
             try clear hcz82_0 hcz82_1 hcz82_2 hcz82_3
             try clear hcz87_0 hcz87_1 hcz87_2 hcz87_3
             try clear hcz8_0 hcz8_1 hcz8_2 hcz8_3
             try clear hcz90_0 hcz90_1 hcz90_2 hcz90_3
             try clear hcz99_0 hcz99_1 hcz99_2 hcz99_3
             try clear hfz101_0 hfz101_1 hfz101_2 hfz101_3
             try clear hfz110_0 hfz110_1 hfz110_2 hfz110_3
             try clear hfz112_0 hfz112_1 hfz112_2 hfz112_3
             try clear hfz116_0 hfz116_1 hfz116_2 hfz116_3
             try clear hfz126_0 hfz126_1 hfz126_2 hfz126_3
             try clear hfz133_0 hfz133_1 hfz133_2 hfz133_3
             try clear hfz137_0 hfz137_1 hfz137_2 hfz137_3
             try clear hfz143_0 hfz143_1 hfz143_2 hfz143_3
             try clear hfz147_0 hfz147_1 hfz147_2 hfz147_3
             try clear hfz16_0 hfz16_1 hfz16_2 hfz16_3
             try clear hfz18_0 hfz18_1 hfz18_2 hfz18_3
             try clear hfz25_0 hfz25_1 hfz25_2 hfz25_3
             try clear hfz26_0 hfz26_1 hfz26_2 hfz26_3
             try clear hfz32_0 hfz32_1 hfz32_2 hfz32_3
             try clear hfz39_0 hfz39_1 hfz39_2 hfz39_3
             try clear hfz45_0 hfz45_1 hfz45_2 hfz45_3
             try clear hfz48_0 hfz48_1 hfz48_2 hfz48_3
             try clear hfz53_0 hfz53_1 hfz53_2 hfz53_3
             try clear hfz56_0 hfz56_1 hfz56_2 hfz56_3
             try clear hfz71_0 hfz71_1 hfz71_2 hfz71_3
             try clear hfz79_0 hfz79_1 hfz79_2 hfz79_3
             try clear hfz82_0 hfz82_1 hfz82_2 hfz82_3
             try clear hfz87_0 hfz87_1 hfz87_2 hfz87_3
             try clear hfz8_0 hfz8_1 hfz8_2 hfz8_3
             try clear hfz90_0 hfz90_1 hfz90_2 hfz90_3
             try clear hfz99_0 hfz99_1 hfz99_2 hfz99_3
             try clear p2
             obtain ⟨kq, x95_105, rfl, HA, HJ105, HO_428000, HO_435000, HO_443000, HO_471000, BK412, BK427, BK434, BK442, BK470, HB⟩ := hcut
             have hl443000_105 := (Kd.R_reads' HO_443000.out).1
             rw [hl443000_105] at HO_443000
             (try simp only [hl443000_105])
             (try simp only [hl443000_105] at BK412)
             (try simp only [hl443000_105] at BK427)
             (try simp only [hl443000_105] at BK434)
             (try simp only [hl443000_105] at BK442)
             (try simp only [hl443000_105] at BK470)
             (try simp only [hl443000_105] at HO_428000)
             (try simp only [hl443000_105] at HO_435000)
             (try simp only [hl443000_105] at HO_471000)
             cases kq with
             | zero => exact absurd HA.out (by simp [laws_FnExactPutRecord.j2])
             | succ kj105 =>
              have H := HA.out
              clear HA
              simp only [laws_FnExactPutRecord.j2] at H
              by_cases c149 : x95_105 = true
              ·
               subst c149
               rw [if_pos rfl] at H
               obtain rfl := Option.some.inj H
               go_wp2
               go_ret
               exact ⟨by first | rfl | (simp [errW_none, errW_some] <;> rfl) | (simp [*, errW_none, errW_some] <;> rfl), bs5 HB GE412 GE427 GE434 GE442 GE470⟩
              ·
               replace c149 := Bool.eq_false_iff.mpr c149
               subst c149
               rw [if_neg (show ¬ (false = true) by decide)] at H
               replace H := Option.bind_eq_some_iff.mp H
               obtain ⟨t472, A1500, H⟩ := H
               replace H : (if t472 < 0 then (some false) else (if t472 = t454 then (some true) else (some false))) = some r := H
               have A150 := Aside0.mk A1500
               clear A1500
               by_cases c151 : t472 < 0
               ·
                rw [if_pos c151] at H
                have c151b0 : decide (t472 < 0) = true := decide_eq_true c151
                clear c151
                obtain rfl := Option.some.inj H
                have hnb152 := NB442_412.out
                have hnc152 := NB412_442.out
                have hnb153 := NB442_427.out
                have hnc153 := NB427_442.out
                have hnb154 := NB442_434.out
                have hnc154 := NB434_442.out
                have hnb155 := NB442_470.out
                have hnc155 := NB470_442.out
                obtain ⟨hcz156_0, hcz156_1, hcz156_2, hcz156_3⟩ := cz4 BK442
                obtain ⟨hfz156_0, hfz156_1, hfz156_2, hfz156_3⟩ := fz4 BK442
                go_wp2_with (first | ((with_reducible refine gate_callee (f := 25) rfl ?_); refine gL (some 98) rfl rfl Tryd.func25 (by kernel_rfl) rfl #[.agg #[.slice Ao35 t455.length co35, .int .i64 t438, .int .i64 t439, .int .i64 t440], .int .i64 1] rfl ?_; (with_reducible refine (laws_heldRing.calls kj105 _ _ t455 t438 t439 t440 1 t472 _ ?side1 ?side2 A150.out).mono ?_); (case side1 => exact rc0 HO_443000); (case side2 => exact (Kd.R_reads' HO_443000.out).2.1); rintro e w157 ⟨rfl, hb⟩; refine ⟨_, rfl, ?_⟩; replace HO_428000 := nr HO_428000 hb; replace HO_435000 := nr HO_435000 hb; replace HO_443000 := nr HO_443000 hb; replace HO_471000 := nr HO_471000 hb; replace BK412 := nb BK412 hb; replace BK427 := nb BK427 hb; replace BK434 := nb BK434 hb; replace BK442 := nb BK442 hb; replace BK470 := nb BK470 hb; replace HB := Aside0.mk (below_step (bs5 HB GE412 GE427 GE434 GE442 GE470) hb); (try clear hb); (try clear hb2); (try clear hk); (try clear hi)))
                go_ret
                exact ⟨by first | rfl | (simp [errW_none, errW_some] <;> rfl) | (simp [*, errW_none, errW_some] <;> rfl), bs5 HB GE412 GE427 GE434 GE442 GE470⟩
               ·
                rw [if_neg c151] at H
                have c151b0 : decide (t472 < 0) = false := decide_eq_false c151
                clear c151
                by_cases c158 : t472 = t454
                ·
                 rw [if_pos c158] at H
                 have c158b0 : (t472 == t454) = true := beq_iff_eq.mpr c158
                 have c158b1 : (t472 != t454) = false := bne_eq_false_iff_eq.mpr c158
                 clear c158
                 obtain rfl := Option.some.inj H
                 have hnb159 := NB442_412.out
                 have hnc159 := NB412_442.out
                 have hnb160 := NB442_427.out
                 have hnc160 := NB427_442.out
                 have hnb161 := NB442_434.out
                 have hnc161 := NB434_442.out
                 have hnb162 := NB442_470.out
                 have hnc162 := NB470_442.out
                 obtain ⟨hcz163_0, hcz163_1, hcz163_2, hcz163_3⟩ := cz4 BK442
                 obtain ⟨hfz163_0, hfz163_1, hfz163_2, hfz163_3⟩ := fz4 BK442
                 go_wp2_with (first | ((with_reducible refine gate_callee (f := 25) rfl ?_); refine gL (some 98) rfl rfl Tryd.func25 (by kernel_rfl) rfl #[.agg #[.slice Ao35 t455.length co35, .int .i64 t438, .int .i64 t439, .int .i64 t440], .int .i64 1] rfl ?_; (with_reducible refine (laws_heldRing.calls kj105 _ _ t455 t438 t439 t440 1 t472 _ ?side1 ?side2 A150.out).mono ?_); (case side1 => exact rc0 HO_443000); (case side2 => exact (Kd.R_reads' HO_443000.out).2.1); rintro e w164 ⟨rfl, hb⟩; refine ⟨_, rfl, ?_⟩; replace HO_428000 := nr HO_428000 hb; replace HO_435000 := nr HO_435000 hb; replace HO_443000 := nr HO_443000 hb; replace HO_471000 := nr HO_471000 hb; replace BK412 := nb BK412 hb; replace BK427 := nb BK427 hb; replace BK434 := nb BK434 hb; replace BK442 := nb BK442 hb; replace BK470 := nb BK470 hb; replace HB := Aside0.mk (below_step (bs5 HB GE412 GE427 GE434 GE442 GE470) hb); (try clear hb); (try clear hb2); (try clear hk); (try clear hi)))
                 go_ret
                 exact ⟨by first | rfl | (simp [errW_none, errW_some] <;> rfl) | (simp [*, errW_none, errW_some] <;> rfl), bs5 HB GE412 GE427 GE434 GE442 GE470⟩
                ·
                 rw [if_neg c158] at H
                 have c158b0 : (t472 == t454) = false := beq_eq_false_iff_ne.mpr c158
                 have c158b1 : (t472 != t454) = true := bne_iff_ne.mpr c158
                 obtain rfl := Option.some.inj H
                 have hnb165 := NB442_412.out
                 have hnc165 := NB412_442.out
                 have hnb166 := NB442_427.out
                 have hnc166 := NB427_442.out
                 have hnb167 := NB442_434.out
                 have hnc167 := NB434_442.out
                 have hnb168 := NB442_470.out
                 have hnc168 := NB470_442.out
                 obtain ⟨hcz169_0, hcz169_1, hcz169_2, hcz169_3⟩ := cz4 BK442
                 obtain ⟨hfz169_0, hfz169_1, hfz169_2, hfz169_3⟩ := fz4 BK442
                 go_wp2_with (first | ((with_reducible refine gate_callee (f := 25) rfl ?_); refine gL (some 98) rfl rfl Tryd.func25 (by kernel_rfl) rfl #[.agg #[.slice Ao35 t455.length co35, .int .i64 t438, .int .i64 t439, .int .i64 t440], .int .i64 1] rfl ?_; (with_reducible refine (laws_heldRing.calls kj105 _ _ t455 t438 t439 t440 1 t472 _ ?side1 ?side2 A150.out).mono ?_); (case side1 => exact rc0 HO_443000); (case side2 => exact (Kd.R_reads' HO_443000.out).2.1); rintro e w170 ⟨rfl, hb⟩; refine ⟨_, rfl, ?_⟩; replace HO_428000 := nr HO_428000 hb; replace HO_435000 := nr HO_435000 hb; replace HO_443000 := nr HO_443000 hb; replace HO_471000 := nr HO_471000 hb; replace BK412 := nb BK412 hb; replace BK427 := nb BK427 hb; replace BK434 := nb BK434 hb; replace BK442 := nb BK442 hb; replace BK470 := nb BK470 hb; replace HB := Aside0.mk (below_step (bs5 HB GE412 GE427 GE434 GE442 GE470) hb); (try clear hb); (try clear hb2); (try clear hk); (try clear hi)))
                 go_ret
                 exact ⟨by first | rfl | (simp [errW_none, errW_some] <;> rfl) | (simp [*, errW_none, errW_some] <;> rfl), bs5 HB GE412 GE427 GE434 GE442 GE470⟩
           ·
            rw [if_neg c103] at H
            have c103b0 : (t456 == t454) = false := beq_eq_false_iff_ne.mpr c103
            have c103b1 : (t456 != t454) = true := bne_iff_ne.mpr c103
            obtain rfl := Option.some.inj H
            have hnb171 := NB442_412.out
            have hnc171 := NB412_442.out
            have hnb172 := NB442_427.out
            have hnc172 := NB427_442.out
            have hnb173 := NB442_434.out
            have hnc173 := NB434_442.out
            obtain ⟨hcz174_0, hcz174_1, hcz174_2, hcz174_3⟩ := cz4 BK442
            obtain ⟨hfz174_0, hfz174_1, hfz174_2, hfz174_3⟩ := fz4 BK442
            go_wp2_with (first | ((with_reducible refine gate_callee (f := 24) rfl ?_); refine gL (some 71) rfl rfl Tryd.func24 (by kernel_rfl) rfl #[.agg #[.slice Ao35 t435.length co35, .int .i64 t438, .int .i64 t439, .int .i64 t440], .int .i64 1] rfl ?_; (with_reducible refine (laws_markRing.calls kj62 (fun k_ => some k_ = (.slice Ao35 t435.length co35 : Value).ownBlock) (.slice Ao35 t435.length co35) t435 t438 t439 t440 1 t454 t455 w _ ?side1 ?side2 A93.out).mono ?_); (case side1 => repeat (first | (with_reducible first | exact HB.out | apply below_alloc | apply pw_below_drewN | apply below_drew1 | refine below_set ?_ GE412.out | refine below_set ?_ GE427.out | refine below_set ?_ GE434.out | refine below_set ?_ GE442.out) | exact HB.out)); (case side2 => exact Kd.R_tight rfl HO_443000.out); rintro e w175 ⟨rfl, hy0, hb, hkp⟩; refine ⟨_, rfl, ?_⟩; replace HO_428000 := Aside0.mk (Kd.R_mono (ok' := fun k_ => some k_ ≠ (.slice Ao29 t452.length co29 : Value).ownBlock ∧ some k_ ≠ (.slice Ao35 t435.length co35 : Value).ownBlock) (Kd.R_keptB (HO_428000.out) hkp (fun k_ hk_ hs_ => (hk_.2) hs_)) (fun k_ hk_ => ⟨hk_.1.1, hk_.1.2⟩)); replace HO_435000 := Aside0.mk (Kd.R_mono (ok' := fun k_ => some k_ ≠ (.slice Ao23 t420.length co23 : Value).ownBlock ∧ some k_ ≠ (.slice Ao35 t435.length co35 : Value).ownBlock) (Kd.R_keptB (HO_435000.out) hkp (fun k_ hk_ hs_ => (hk_.2) hs_)) (fun k_ hk_ => ⟨hk_.1.1, hk_.1.2⟩)); replace BK412 := Aside0.mk (blk_kept (bk BK412) hkp (fun hs_ => (fun e_ => (Kd.R_ne HO_443000.out BK412.out (by decide)) e_) hs_)); replace BK427 := Aside0.mk (blk_kept (bk BK427) hkp (fun hs_ => (fun e_ => (Kd.R_ne HO_443000.out BK427.out (by decide)) e_) hs_)); replace BK434 := Aside0.mk (blk_kept (bk BK434) hkp (fun hs_ => (fun e_ => (Kd.R_ne HO_443000.out BK434.out (by decide)) e_) hs_)); replace BK442 := Aside0.mk (blk_kept (bk BK442) hkp (fun hs_ => (fun e_ => (Kd.R_ne HO_443000.out BK442.out (by decide)) e_) hs_)); replace HO_443000 := Aside0.mk (Kd.R_reok rfl hy0 (fun k_ e_ => HO_443000.out.1 k_ e_)); replace HB := Aside0.mk (hb); (try clear hb); (try clear hkp); (try clear hy0); obtain ⟨hcz176_0, hcz176_1, hcz176_2, hcz176_3⟩ := cz4 BK442; obtain ⟨hfz176_0, hfz176_1, hfz176_2, hfz176_3⟩ := fz4 BK442) | ((with_reducible refine gate_callee (f := 25) rfl ?_); refine goesL_ (some 74) rfl rfl Tryd.func25 (by kernel_rfl) rfl #[.agg #[.slice Ao35 t455.length co35, .int .i64 t438, .int .i64 t439, .int .i64 t440], .int .i64 1] rfl (by (try simp only [List.map_toArray, List.map_cons, List.map_nil]); first | done | (rw [show t455.length = t435.length from (Kd.R_reads' HO_443000.out).1.symm] <;> rfl) | rfl | (simp only [List.length_drop, List.length_take]; rfl)) ?_; (with_reducible refine (laws_heldRing.calls kj62 _ _ t455 t438 t439 t440 1 t456 _ ?side1 ?side2 A94.out).mono ?_); (case side1 => exact rc0 HO_443000); (case side2 => rw [show t455.length = t435.length from (Kd.R_reads' HO_443000.out).1.symm]; exact (Kd.R_reads' HO_443000.out).2.1); rintro e w177 ⟨rfl, hb⟩; refine ⟨_, rfl, ?_⟩; replace HO_428000 := nr HO_428000 hb; replace HO_435000 := nr HO_435000 hb; replace HO_443000 := nr HO_443000 hb; replace BK412 := nb BK412 hb; replace BK427 := nb BK427 hb; replace BK434 := nb BK434 hb; replace BK442 := nb BK442 hb; replace HB := Aside0.mk (below_step (bs4 HB GE412 GE427 GE434 GE442) hb); (try clear hb); (try clear hb2); (try clear hk); (try clear hi)))
            go_ret
            exact ⟨by first | rfl | (simp [errW_none, errW_some] <;> rfl) | (simp [*, errW_none, errW_some] <;> rfl), bs4 HB GE412 GE427 GE434 GE442⟩
      ·
       replace c61 := Bool.eq_false_iff.mpr c61
       subst c61
       rw [if_neg (show ¬ (false = true) by decide)] at H
       obtain rfl := Option.some.inj H
       try go_wp2
       have n0_ := Aside0.mk (Kd.R_drew HO_428000.out)
       have n1_ := Aside0.mk (Kd.R_drew HO_435000.out)
       have n2_ := Aside0.mk (Kd.R_drew HO_443000.out)
       have n3_ := Aside0.mk (blk_drew BK412.out)
       have n4_ := Aside0.mk (blk_drew BK427.out)
       have n5_ := Aside0.mk (blk_drew BK434.out)
       have n6_ := Aside0.mk (blk_drew BK442.out)
       have n7_ := Aside0.mk (below_drew1 HB.out)
       clear HO_428000
       clear HO_435000
       clear HO_443000
       clear BK412
       clear BK427
       clear BK434
       clear BK442
       clear HB
       have HO_428000 := n0_
       have HO_435000 := n1_
       have HO_443000 := n2_
       have BK412 := n3_
       have BK427 := n4_
       have BK434 := n5_
       have BK442 := n6_
       have HB := n7_
       clear n0_ n1_ n2_ n3_ n4_ n5_ n6_ n7_
       refine start_ (n := 5) (S := fun w' => w'.cell? ⟨gb434, 0, none⟩ = some (.slice Ao29 t428.length co29) ∧ w'.cell? ⟨gb434, 1, none⟩ = some (.int .i64 t431) ∧ w'.cell? ⟨gb434, 2, none⟩ = some (.int .i64 t432) ∧ w'.cell? ⟨gb434, 3, none⟩ = some (.int .i64 t433) ∧ w'.cell? ⟨gb412, 0, none⟩ = some (.slice A0_0 l0_0.length c0_0) ∧ w'.cell? ⟨gb412, 1, none⟩ = some (.int .i64 a0_1) ∧ w'.cell? ⟨gb412, 2, none⟩ = some (.int .i64 a0_2) ∧ w'.cell? ⟨gb412, 3, none⟩ = some (.int .i64 a0_3)) (ds := []) #[false, false, false, false, false] (by kernel_rfl) rfl rfl ⟨(blk_cell BK434.out 0).trans rfl, (blk_cell BK434.out 1).trans rfl, (blk_cell BK434.out 2).trans rfl, (blk_cell BK434.out 3).trans rfl, (blk_cell BK412.out 0).trans rfl, (blk_cell BK412.out 1).trans rfl, (blk_cell BK412.out 2).trans rfl, (blk_cell BK412.out 3).trans rfl⟩ (fun hHeld => ?_)
       generalize wc.drew = w178 at HO_428000 HO_435000 HO_443000 BK412 BK427 BK434 BK442 HB hHeld ⊢
       refine take_ (i := 0) (N := some 48) (v := ?_) (a' := ?_) #[true, false, false, false, false] rfl rfl (by kernel_rfl) (fun _ _ _ h => h) (Or.inl ⟨by rfl, ?_⟩) hHeld ?_ ?_
       rotate_left
       ·
        rintro w' ⟨s0, s1, s2, s3, s4, s5, s6, s7⟩
        go_simp
        with_reducible rfl
       rotate_left
       ·
        simp only [Act.put, List.setIfInBounds_toArray, List.set_cons_zero, List.set_cons_succ, i64_w, i32_w]
        rfl
       refine take_ (i := 1) (N := some 49) (v := ?_) (a' := ?_) #[true, true, false, false, false] rfl rfl (by kernel_rfl) (fun _ _ _ h => h) (Or.inl ⟨by rfl, ?_⟩) hHeld ?_ ?_
       rotate_left
       ·
        rintro w' ⟨s0, s1, s2, s3, s4, s5, s6, s7⟩
        go_simp
        with_reducible rfl
       rotate_left
       ·
        simp only [Act.put, List.setIfInBounds_toArray, List.set_cons_zero, List.set_cons_succ, i64_w, i32_w]
        rfl
       refine one_ (i := 2) (N := some 50) #[true, true, true, false, false] rfl rfl (by kernel_rfl) (by decide) (fun K hK => ?_)
       refine goes_ Tryd.func19 (by kernel_rfl) rfl #[.agg #[.slice A0_0 l0_0.length c0_0, .int .i64 a0_1, .int .i64 a0_2, .int .i64 a0_3]] (by rfl) rfl rfl (by (try simp only [List.map_toArray, List.map_cons, List.map_nil]); first | done | rfl | (simp only [List.length_drop, List.length_take]; rfl)) ?_
       with_reducible refine (laws_toRing.calls kj13 _ _ l0_0 a0_1 a0_2 a0_3 t444 t447 t448 t449 _ ?side1 ?side2 A59.out).mono ?_
       (case side1 => exact cb HR0_0 HB)
       (case side2 => exact HC0_0.out)
       rintro e w179 ⟨v445, rfl, ho0, hb⟩
       refine ⟨_, rfl, ?_⟩
       have n0_ := Aside0.mk (Kd.R_elder' (rr HO_428000.out) (Kd.R_base ho0) hb)
       have n1_ := Aside0.mk (Kd.R_elder' (rr HO_435000.out) (Kd.R_base ho0) hb)
       have n2_ := Aside0.mk (Kd.R_elder' (rr HO_443000.out) (Kd.R_base ho0) hb)
       have n3_ := Aside0.mk (Kd.R_lower (Kd.R_new' (Kd.R_new' (Kd.R_new' ho0 (Kd.R_lt (rr HO_428000.out))) (Kd.R_lt (rr HO_435000.out))) (Kd.R_lt (rr HO_443000.out))) (below_size (bs4 HB GE412 GE427 GE434 GE442)))
       have n4_ := Aside0.mk (bb BK412 hb)
       have n5_ := Aside0.mk (bb BK427 hb)
       have n6_ := Aside0.mk (bb BK434 hb)
       have n7_ := Aside0.mk (bb BK442 hb)
       have n8_ := Aside0.mk (below_step (bs4 HB GE412 GE427 GE434 GE442) hb)
       clear HO_428000
       clear HO_435000
       clear HO_443000
       clear BK412
       clear BK427
       clear BK434
       clear BK442
       clear HB
       have HO_428000 := n0_
       have HO_435000 := n1_
       have HO_443000 := n2_
       have HO446 := n3_
       have BK412 := n4_
       have BK427 := n5_
       have BK434 := n6_
       have BK442 := n7_
       have HB := n8_
       clear n0_ n1_ n2_ n3_ n4_ n5_ n6_ n7_ n8_
       (try clear hb)
       (try clear hb2)
       (try clear hk)
       (try clear hi)
       (try clear ho0)
       obtain ⟨Ao180, co180, eo180⟩ := Kd.R_slice HO446.out
       (first | subst eo180 | (injection eo180 with f1_ f2_ f3_; have f4_ := f1_.symm; have f5_ := f3_.symm; clear f1_ f2_ f3_; subst f4_; subst f5_))
       refine hK.out _ _ ⟨(blk_cell BK434.out 0).trans rfl, (blk_cell BK434.out 1).trans rfl, (blk_cell BK434.out 2).trans rfl, (blk_cell BK434.out 3).trans rfl, (blk_cell BK412.out 0).trans rfl, (blk_cell BK412.out 1).trans rfl, (blk_cell BK412.out 2).trans rfl, (blk_cell BK412.out 3).trans rfl⟩ (fun hHeld => ?_)
       clear hK K
       refine norm_ (a' := ?_) ?_ ?_
       rotate_left
       ·
        show Act.put _ (some 50) _ = _
        simp only [Act.put, List.setIfInBounds_toArray, List.set_cons_zero, List.set_cons_succ, i64_w, i32_w]
        rfl
       refine one_ (i := 3) (N := some 51) #[true, true, true, true, false] rfl rfl (by kernel_rfl) (by decide) (fun K hK => ?_)
       refine goes_ Tryd.func21 (by kernel_rfl) rfl #[.agg #[.slice Ao29 t428.length co29, .int .i64 t431, .int .i64 t432, .int .i64 t433], .agg #[.slice Ao180 t444.length co180, .int .i64 t447, .int .i64 t448, .int .i64 t449]] (by rfl) rfl rfl (by (try simp only [List.map_toArray, List.map_cons, List.map_nil]); first | done | rfl | (simp only [List.length_drop, List.length_take]; rfl)) ?_
       with_reducible refine (laws_eqRing.calls kj13 _ _ t428 t431 t432 t433 _ _ t444 t447 t448 t449 false _ ?side1 ?side2 ?side3 ?side4 A60.out).mono ?_
       (case side1 => exact rc0 HO_435000)
       (case side2 => exact (Kd.R_reads' HO_435000.out).2.1)
       (case side3 => exact rc0 HO446)
       (case side4 => exact (Kd.R_reads' HO446.out).2.1)
       rintro e w181 ⟨rfl, hb⟩
       refine ⟨_, rfl, ?_⟩
       have n0_ := Aside0.mk (Kd.R_below (rr HO_428000.out) hb)
       have n1_ := Aside0.mk (Kd.R_below (rr HO_435000.out) hb)
       have n2_ := Aside0.mk (Kd.R_below (rr HO_443000.out) hb)
       have n3_ := Aside0.mk (Kd.R_below (rr HO446.out) hb)
       have n4_ := Aside0.mk (bb BK412 hb)
       have n5_ := Aside0.mk (bb BK427 hb)
       have n6_ := Aside0.mk (bb BK434 hb)
       have n7_ := Aside0.mk (bb BK442 hb)
       have n8_ := Aside0.mk (below_step (bs4 HB GE412 GE427 GE434 GE442) hb)
       clear HO_428000
       clear HO_435000
       clear HO_443000
       clear HO446
       clear BK412
       clear BK427
       clear BK434
       clear BK442
       clear HB
       have HO_428000 := n0_
       have HO_435000 := n1_
       have HO_443000 := n2_
       have HO446 := n3_
       have BK412 := n4_
       have BK427 := n5_
       have BK434 := n6_
       have BK442 := n7_
       have HB := n8_
       clear n0_ n1_ n2_ n3_ n4_ n5_ n6_ n7_ n8_
       (try clear hb)
       (try clear hb2)
       (try clear hk)
       (try clear hi)
       refine hK.out _ _ ⟨(blk_cell BK434.out 0).trans rfl, (blk_cell BK434.out 1).trans rfl, (blk_cell BK434.out 2).trans rfl, (blk_cell BK434.out 3).trans rfl, (blk_cell BK412.out 0).trans rfl, (blk_cell BK412.out 1).trans rfl, (blk_cell BK412.out 2).trans rfl, (blk_cell BK412.out 3).trans rfl⟩ (fun hHeld => ?_)
       clear hK K
       refine norm_ (a' := ?_) ?_ ?_
       rotate_left
       ·
        show Act.put _ (some 51) _ = _
        simp only [Act.put, List.setIfInBounds_toArray, List.set_cons_zero, List.set_cons_succ, i64_w, i32_w]
        rfl
       refine pure_ (i := 4) (N := some 52) (v := ?_) (a' := ?_) #[true, true, true, true, true] rfl rfl (by kernel_rfl) (fun _ _ _ h => h) (Or.inl ⟨by rfl, ?_⟩) ?_ ?_
       rotate_left
       ·
        intro w'
        go_simp
        with_reducible rfl
       rotate_left
       ·
        simp only [Act.put, List.setIfInBounds_toArray, List.set_cons_zero, List.set_cons_succ, i64_w, i32_w]
        rfl
       refine done_ (by kernel_rfl) ?_
       try go_wp2
       go_ret
       exact ⟨by first | rfl | (simp [errW_none, errW_some] <;> rfl) | (simp [*, errW_none, errW_some] <;> rfl), bs4 HB GE412 GE427 GE434 GE442⟩

/-- THE ONE PURE STATEMENT of laws_FnExactPutRecord. -/
def laws_FnExactPutRecord.Pure : Prop := ∀ (l0_0 : List (S23)) (a0_1 : Int) (a0_2 : Int) (a0_3 : Int) (a1 : ByteArray), ok31 (⟨l0_0, a0_1, a0_2, a0_3⟩ : S31) → a1.size ≤ maxLen → ∃ k, laws_FnExactPutRecord.f k l0_0 a0_1 a0_2 a0_3 a1 = some true

end Go.Proofs.YthlifcbkpafofaaDoor.G
