-- Printed by a program of this session (drive.py, by way of the kit's print). Not trusted: Lean checks it.
import Derived.Test.YthlifcbkpafofaaDoorG0
import Derived.Test.YthlifcbkpafofaaDoorG3
import Derived.Test.YthlifcbkpafofaaDoorG4
import Derived.Test.YthlifcbkpafofaaDoorG5
namespace Go.Proofs.YthlifcbkpafofaaDoor.G
open Go.RowKit Go.Proofs.YthlifcbkpafofaaDoorW.PrintWords Go.Proofs.YthlifcbkpafofaaDoorW.PrintLast Go.Proofs.YthlifcbkpafofaaDoorW.PrintMore
attribute [local go_sem] max2_int min2_int max_two min_two max_three min_three max_four min_four   -- for this text's walks alone
set_option linter.unusedVariables false
set_option linter.unusedSimpArgs false

/-! ### impl_OpenRing: function 44 -/
mutual
def impl_OpenRing.l0 : Nat → List (S26) → Int → Int → List (S26) → Int → Int → List (S26) → Int → Int → Int → Option ((List (S26)) × Int × Int × Int × Bool)
 | 0, _, _, _, _, _, _, _, _, _, _ => none
 | k + 1, x0, x4, x7, x23, x24, x25, x283000, x283001, x283002, x283003 => if x25 < x24 then (if 0 ≤ x25 then (if x25 < (x23.length : Int) then ((impl_isIntact.f k ((rd_T26 x23 x25).f0) ((rd_T26 x23 x25).f1) ((rd_T26 x23 x25).f2) ((rd_T26 x23 x25).f3)).bind fun t285 => (if t285 = true then (if ((rd_T26 x23 x25).f0) > 0 then (impl_OpenRing.l0 k x0 x4 (mx x7 (wrap64 ((wrap64 ((wrap64 (((rd_T26 x23 x25).f0) - 1)) * x4)) + x25))) x23 x24 (wrap64 (x25 + 1)) x283000 x283001 x283002 x283003) else (impl_OpenRing.l0 k x0 x4 x7 x23 x24 (wrap64 (x25 + 1)) x283000 x283001 x283002 x283003)) else (impl_OpenRing.l0 k x0 x4 x7 x23 x24 (wrap64 (x25 + 1)) x283000 x283001 x283002 x283003))) else (none)) else (none)) else (if x7 < 0 then (some (x283000, x283001, x283002, x283003, true)) else (impl_OpenRing.l1 k x0 x4 x7 x7 x7 x283000 x283001 x283002 x283003))
def impl_OpenRing.l1 : Nat → List (S26) → Int → Int → Int → Int → List (S26) → Int → Int → Int → Option ((List (S26)) × Int × Int × Int × Bool)
 | 0, _, _, _, _, _, _, _, _, _ => none
 | k + 1, x0, x4, x7, x10, x11, x283000, x283001, x283002, x283003 => if x11 ≥ 0 then (impl_OpenRing.j2 k x0 x4 x7 x10 x11 (decide (x11 > (wrap64 (x7 - x4)))) x283000 x283001 x283002 x283003) else (impl_OpenRing.j2 k x0 x4 x7 x10 x11 false x283000 x283001 x283002 x283003)
def impl_OpenRing.j2 : Nat → List (S26) → Int → Int → Int → Int → Bool → List (S26) → Int → Int → Int → Option ((List (S26)) × Int × Int × Int × Bool)
 | 0, _, _, _, _, _, _, _, _, _, _ => none
 | k + 1, x0, x4, x7, x10, x11, x60, x283000, x283001, x283002, x283003 => if x60 = true then (if x4 = 0 then (none) else (if 0 ≤ (Int.tmod x11 x4) then (if (Int.tmod x11 x4) < (x0.length : Int) then ((impl_isIntact.f k ((rd_T26 x0 (Int.tmod x11 x4)).f0) ((rd_T26 x0 (Int.tmod x11 x4)).f1) ((rd_T26 x0 (Int.tmod x11 x4)).f2) ((rd_T26 x0 (Int.tmod x11 x4)).f3)).bind fun t288 => (if t288 = true then (if ((rd_T26 x0 (Int.tmod x11 x4)).f0) = (wrap64 ((wrap64 (Int.tdiv x11 x4)) + 1)) then (if (Int.tmod x11 x4) < (x283000.length : Int) then (impl_OpenRing.l1 k x0 x4 x7 x11 (wrap64 (x11 - 1)) (x283000.set ((Int.tmod x11 x4) : Int).toNat (⟨(rd_T26 x0 (Int.tmod x11 x4)).f0, (rd_T26 x0 (Int.tmod x11 x4)).f1, (rd_T26 x0 (Int.tmod x11 x4)).f2, (rd_T26 x0 (Int.tmod x11 x4)).f3⟩ : S26)) x283001 x283002 x283003) else (none)) else (if 0 ≤ (Int.tmod x7 x4) then (if (Int.tmod x7 x4) < (x0.length : Int) then ((impl_GoodRing.f k x283000 (wrap64 (x7 + 1)) (wrap64 ((wrap64 (Int.tdiv (wrap64 (x7 + 1)) x4)) + 1)) (mx ((rd_T26 x0 (Int.tmod x7 x4)).f1) x10)).bind fun t291 => (if t291 = true then (some (x283000, wrap64 (x7 + 1), wrap64 ((wrap64 (Int.tdiv (wrap64 (x7 + 1)) x4)) + 1), mx ((rd_T26 x0 (Int.tmod x7 x4)).f1) x10, true)) else (some (([] : List (S26)), 0, 0, 0, false)))) else (none)) else (none))) else (if 0 ≤ (Int.tmod x7 x4) then (if (Int.tmod x7 x4) < (x0.length : Int) then ((impl_GoodRing.f k x283000 (wrap64 (x7 + 1)) (wrap64 ((wrap64 (Int.tdiv (wrap64 (x7 + 1)) x4)) + 1)) (mx ((rd_T26 x0 (Int.tmod x7 x4)).f1) x10)).bind fun t293 => (if t293 = true then (some (x283000, wrap64 (x7 + 1), wrap64 ((wrap64 (Int.tdiv (wrap64 (x7 + 1)) x4)) + 1), mx ((rd_T26 x0 (Int.tmod x7 x4)).f1) x10, true)) else (some (([] : List (S26)), 0, 0, 0, false)))) else (none)) else (none)))) else (none)) else (none))) else (if x4 = 0 then (none) else (if 0 ≤ (Int.tmod x7 x4) then (if (Int.tmod x7 x4) < (x0.length : Int) then ((impl_GoodRing.f k x283000 (wrap64 (x7 + 1)) (wrap64 ((wrap64 (Int.tdiv (wrap64 (x7 + 1)) x4)) + 1)) (mx ((rd_T26 x0 (Int.tmod x7 x4)).f1) x10)).bind fun t295 => (if t295 = true then (some (x283000, wrap64 (x7 + 1), wrap64 ((wrap64 (Int.tdiv (wrap64 (x7 + 1)) x4)) + 1), mx ((rd_T26 x0 (Int.tmod x7 x4)).f1) x10, true)) else (some (([] : List (S26)), 0, 0, 0, false)))) else (none)) else (none)))
end
def impl_OpenRing.f (k : Nat) (l0 : List (S26)) : Option ((List (S26)) × Int × Int × Int × Bool) := (impl_NewRing.f k (l0.length : Int)).bind fun bt275 => (if bt275.2.2.2.2 = true then (impl_OpenRing.l0 k l0 (l0.length : Int) (-1) l0 (l0.length : Int) 0 bt275.1 bt275.2.1 bt275.2.2.1 bt275.2.2.2.1) else (some (([] : List (S26)), 0, 0, 0, false)))
theorem impl_OpenRing.mono_l : ∀ k, (∀ y0 y1 y2 y3 y4 y5 y6 y7 y8 y9, LeO (impl_OpenRing.l0 k y0 y1 y2 y3 y4 y5 y6 y7 y8 y9) (impl_OpenRing.l0 (k + 1) y0 y1 y2 y3 y4 y5 y6 y7 y8 y9)) ∧ (∀ y0 y1 y2 y3 y4 y5 y6 y7 y8, LeO (impl_OpenRing.l1 k y0 y1 y2 y3 y4 y5 y6 y7 y8) (impl_OpenRing.l1 (k + 1) y0 y1 y2 y3 y4 y5 y6 y7 y8)) ∧ (∀ y0 y1 y2 y3 y4 y5 y6 y7 y8 y9, LeO (impl_OpenRing.j2 k y0 y1 y2 y3 y4 y5 y6 y7 y8 y9) (impl_OpenRing.j2 (k + 1) y0 y1 y2 y3 y4 y5 y6 y7 y8 y9))
 | 0 => ⟨fun _ _ _ _ _ _ _ _ _ _ r h => by simp [impl_OpenRing.l0] at h, fun _ _ _ _ _ _ _ _ _ r h => by simp [impl_OpenRing.l1] at h, fun _ _ _ _ _ _ _ _ _ _ r h => by simp [impl_OpenRing.j2] at h⟩
 | k + 1 => by
  obtain ⟨ih0, ih1, ih2⟩ := impl_OpenRing.mono_l k
  refine ⟨?_, ?_, ?_⟩
  ·
   intro y0 y1 y2 y3 y4 y5 y6 y7 y8 y9
   unfold impl_OpenRing.l0
   repeat' first
   | (with_reducible exact ih0 _ _ _ _ _ _ _ _ _ _)
   | (with_reducible exact ih1 _ _ _ _ _ _ _ _ _)
   | (with_reducible exact ih2 _ _ _ _ _ _ _ _ _ _)
   | (with_reducible exact impl_GoodRing.mono _ _ _ _ _)
   | (with_reducible exact impl_NewRing.mono _ _)
   | (with_reducible exact impl_isIntact.mono _ _ _ _ _)
   | (with_reducible exact LeO.refl _)
   | (with_reducible exact LeO.none _)
   | (with_reducible refine LeO.ite ?_ ?_)
   | (with_reducible refine LeO.bind ?_ (fun _ => ?_))
   | exact ih0 _ _ _ _ _ _ _ _ _ _
   | exact ih1 _ _ _ _ _ _ _ _ _
   | exact ih2 _ _ _ _ _ _ _ _ _ _
   | exact impl_GoodRing.mono _ _ _ _ _
   | exact impl_NewRing.mono _ _
   | exact impl_isIntact.mono _ _ _ _ _
   | exact LeO.none _
   | refine LeO.ite ?_ ?_
   | refine LeO.bind ?_ (fun _ => ?_)
  ·
   intro y0 y1 y2 y3 y4 y5 y6 y7 y8
   unfold impl_OpenRing.l1
   repeat' first
   | (with_reducible exact ih0 _ _ _ _ _ _ _ _ _ _)
   | (with_reducible exact ih1 _ _ _ _ _ _ _ _ _)
   | (with_reducible exact ih2 _ _ _ _ _ _ _ _ _ _)
   | (with_reducible exact impl_GoodRing.mono _ _ _ _ _)
   | (with_reducible exact impl_NewRing.mono _ _)
   | (with_reducible exact impl_isIntact.mono _ _ _ _ _)
   | (with_reducible exact LeO.refl _)
   | (with_reducible exact LeO.none _)
   | (with_reducible refine LeO.ite ?_ ?_)
   | (with_reducible refine LeO.bind ?_ (fun _ => ?_))
   | exact ih0 _ _ _ _ _ _ _ _ _ _
   | exact ih1 _ _ _ _ _ _ _ _ _
   | exact ih2 _ _ _ _ _ _ _ _ _ _
   | exact impl_GoodRing.mono _ _ _ _ _
   | exact impl_NewRing.mono _ _
   | exact impl_isIntact.mono _ _ _ _ _
   | exact LeO.none _
   | refine LeO.ite ?_ ?_
   | refine LeO.bind ?_ (fun _ => ?_)
  ·
   intro y0 y1 y2 y3 y4 y5 y6 y7 y8 y9
   unfold impl_OpenRing.j2
   repeat' first
   | (with_reducible exact ih0 _ _ _ _ _ _ _ _ _ _)
   | (with_reducible exact ih1 _ _ _ _ _ _ _ _ _)
   | (with_reducible exact ih2 _ _ _ _ _ _ _ _ _ _)
   | (with_reducible exact impl_GoodRing.mono _ _ _ _ _)
   | (with_reducible exact impl_NewRing.mono _ _)
   | (with_reducible exact impl_isIntact.mono _ _ _ _ _)
   | (with_reducible exact LeO.refl _)
   | (with_reducible exact LeO.none _)
   | (with_reducible refine LeO.ite ?_ ?_)
   | (with_reducible refine LeO.bind ?_ (fun _ => ?_))
   | exact ih0 _ _ _ _ _ _ _ _ _ _
   | exact ih1 _ _ _ _ _ _ _ _ _
   | exact ih2 _ _ _ _ _ _ _ _ _ _
   | exact impl_GoodRing.mono _ _ _ _ _
   | exact impl_NewRing.mono _ _
   | exact impl_isIntact.mono _ _ _ _ _
   | exact LeO.none _
   | refine LeO.ite ?_ ?_
   | refine LeO.bind ?_ (fun _ => ?_)
theorem impl_OpenRing.mono : ∀ a0 k, LeO (impl_OpenRing.f k a0) (impl_OpenRing.f (k + 1) a0) := by
 intro a0 k
 obtain ⟨ih0, ih1, ih2⟩ := impl_OpenRing.mono_l k
 unfold impl_OpenRing.f
 repeat' first
   | (with_reducible exact ih0 _ _ _ _ _ _ _ _ _ _)
   | (with_reducible exact ih1 _ _ _ _ _ _ _ _ _)
   | (with_reducible exact ih2 _ _ _ _ _ _ _ _ _ _)
   | (with_reducible exact impl_GoodRing.mono _ _ _ _ _)
   | (with_reducible exact impl_NewRing.mono _ _)
   | (with_reducible exact impl_isIntact.mono _ _ _ _ _)
   | (with_reducible exact LeO.refl _)
   | (with_reducible exact LeO.none _)
   | (with_reducible refine LeO.ite ?_ ?_)
   | (with_reducible refine LeO.bind ?_ (fun _ => ?_))
   | exact ih0 _ _ _ _ _ _ _ _ _ _
   | exact ih1 _ _ _ _ _ _ _ _ _
   | exact ih2 _ _ _ _ _ _ _ _ _ _
   | exact impl_GoodRing.mono _ _ _ _ _
   | exact impl_NewRing.mono _ _
   | exact impl_isIntact.mono _ _ _ _ _
   | exact LeO.none _
   | refine LeO.ite ?_ ?_
   | refine LeO.bind ?_ (fun _ => ?_)
def impl_OpenRing.T19 : Bool × List (List Nat × List Nat) := (true, [([], []), ([0], [0]), ([1], [1]), ([2, 1], [2]), ([3], [3]), ([4, 3], [3, 4]), ([3], [3]), ([3], [3]), ([6, 7, 3], [3, 6, 7]), ([8, 3], [3, 8]), ([5, 9, 3], [3, 5, 9]), ([3, 10], [3, 10])])
def impl_OpenRing.B19 : List Nat := [0, 1, 3, 7, 15, 31, 15, 15, 207, 463, 1023, 2047]
theorem impl_OpenRing.tab19 : rtab .any (opsOf Tryd.f44 19) = impl_OpenRing.T19 := by kernel_rfl
theorem impl_OpenRing.bits19 : waitsOk impl_OpenRing.T19.2 impl_OpenRing.B19 = true := by kernel_rfl
def impl_OpenRing.T20 : Bool × List (List Nat × List Nat) := (true, [([], []), ([0], [0]), ([], []), ([], []), ([2, 3], [2, 3]), ([], []), ([1, 4, 0, 1, 2, 3, 4, 5], [1, 4]), ([6, 5, 0, 1, 2, 3, 4, 5], [5, 6])])
def impl_OpenRing.B20 : List Nat := [0, 1, 0, 0, 12, 0, 63, 127]
theorem impl_OpenRing.tab20 : rtab .any (opsOf Tryd.f44 20) = impl_OpenRing.T20 := by kernel_rfl
theorem impl_OpenRing.bits20 : waitsOk impl_OpenRing.T20.2 impl_OpenRing.B20 = true := by kernel_rfl
set_option maxHeartbeats 8000000 in
set_option maxRecDepth 100000 in
theorem impl_OpenRing.calls (k : Nat) (A0 : Option Addr) (c0 : Nat) (l0 : List (S26)) (r1 : List (S26)) (r2 : Int) (r3 : Int) (r4 : Int) (r5 : Bool) (w : World) (hTab_ : Aside0 (Ito.TabW w)) (hr0 : Kd.C k26 w A0 l0.length l0) (hc0 : l0.length ≤ c0) (h : impl_OpenRing.f k l0 = some (r1, r2, r3, r4, r5)) :
  Calls Tryd.prog 44 #[.slice A0 l0.length c0] w fun e w' => ∃ v0_ : Value, e = .returned (.tuple #[.agg #[v0_, .int .i64 r2, .int .i64 r3, .int .i64 r4], .bool r5]) ∧ Kd.R k26 26 w' w.heap.size (fun _ => True) v0_ r1 ∧ Below w.heap.size w w' := by
 have hu36 := Tryd.underlying36
 have hu26 := Tryd.underlying26
 have HR0 := Aside0.mk hr0
 have HC0 := Aside0.mk hc0
 clear hr0 hc0
 have HB := Aside0.mk (Below.refl w.heap.size w)
 have H : ((impl_NewRing.f k (l0.length : Int)).bind fun bt275 => (if bt275.2.2.2.2 = true then (impl_OpenRing.l0 k l0 (l0.length : Int) (-1) l0 (l0.length : Int) 0 bt275.1 bt275.2.1 bt275.2.2.1 bt275.2.2.2.1) else (some (([] : List (S26)), 0, 0, 0, false)))) = some (r1, r2, r3, r4, r5) := h
 clear h
 replace H := Option.bind_eq_some_iff.mp H
 obtain ⟨⟨t275, t278, t279, t280, t281⟩, A20, H⟩ := H
 replace H : (if t281 = true then (impl_OpenRing.l0 k l0 (l0.length : Int) (-1) l0 (l0.length : Int) 0 t275 t278 t279 t280) else (some (([] : List (S26)), 0, 0, 0, false))) = some (r1, r2, r3, r4, r5) := H
 have A2 := Aside0.mk A20
 clear A20
 by_cases c3 : t281 = true
 ·
  subst c3
  rw [if_pos rfl] at H
  have H' := Aside0.mk H
  clear H
  go_enter Tryd.func44, Tryd.ntmps44
  go_wp2_with (first | ((with_reducible refine gate_dst (N := 2) rfl ?_); refine box_event ?hg (N := 2) ?hd (cs := #[.slice none 0 0, .int .i64 0, .int .i64 0, .int .i64 0]) (t := 36) ?hr ?_; (case hd => rfl); (case hg => rfl); (case hr => first | (go_simp; done) | (go_simp; rfl)); intro gb274 hg w4 hbox hb; have BK274 := Aside0.mk (hbox); have GW274 := Aside0.mk ((by rw [hg]; exact (below_size (bs HB)) : w.heap.size ≤ gb274)); have GE274 := Aside0.mk ((by rw [hg]; exact (below_size (bs HB)) : w.heap.size ≤ gb274)); replace HB := Aside0.mk (below_step (bs HB) hb); clear hb hbox hg) | ((with_reducible refine gate_callee (f := 23) rfl ?_); refine gL (some 17) rfl rfl Tryd.func23 (by kernel_rfl) rfl #[.int .i64 (l0.length : Int)] rfl ?_; (with_reducible refine (impl_NewRing.calls k (l0.length : Int) t275 t278 t279 t280 true _ ?sideT A2.out).mono ?_); (case sideT => refine ⟨Ito.tabB hTab_.out ?_⟩; first | exact bs HB | exact st_below | (repeat (first | (with_reducible first | exact HB.out | apply below_alloc | apply pw_below_drewN | apply below_drew1 | refine below_set ?_ (Aside0.out (by assumption))) | exact HB.out))); rintro e w5 ⟨v276, rfl, ho0, hb⟩; refine ⟨_, rfl, ?_⟩; have HO277 := Aside0.mk (Kd.R_lower ho0 (below_size (bs1 HB GE274))); replace BK274 := nb BK274 hb; replace HB := Aside0.mk (below_step (bs1 HB GE274) hb); (try clear hb); (try clear hb2); (try clear hk); (try clear hi); (try clear ho0)) | ((with_reducible refine gate_dst (N := 5) rfl ?_); refine box_event ?hg (N := 5) ?hd (cs := #[.slice none 0 0, .int .i64 0, .int .i64 0, .int .i64 0]) (t := 36) ?hr ?_; (case hd => rfl); (case hg => rfl); (case hr => first | (go_simp; done) | (go_simp; rfl)); intro gb282 hg w6 hbox hb; replace HO277 := nr HO277 hb; have BK282 := Aside0.mk (hbox); have GW282 := Aside0.mk ((by rw [hg]; exact (below_size (bs1 HB GE274)) : w.heap.size ≤ gb282)); have GE282 := Aside0.mk ((by rw [hg]; exact (below_size (bs1 HB GE274)) : w.heap.size ≤ gb282)); replace HB := Aside0.mk (below_step (bs1 HB GE274) hb); have NB274_282 := Aside0.mk ((bn BK274 hg : gb274 ≠ gb282)); have NB282_274 := Aside0.mk ((bm BK274 hg : gb282 ≠ gb274)); replace BK274 := nb BK274 hb; clear hb hbox hg; obtain ⟨Ao7, co7, eo7⟩ := Kd.R_slice HO277.out; subst eo7; have hnb8 := NB282_274.out; have hnc8 := NB274_282.out; obtain ⟨hcz9_0, hcz9_1, hcz9_2, hcz9_3⟩ := cz4 BK282; obtain ⟨hfz9_0, hfz9_1, hfz9_2, hfz9_3⟩ := fz4 BK282))
  go_loopg [7, 25] k (fun kq v7 v25 w' => ∃ (x7_1 : Int) (x25_1 : Int), v7 = .int .i64 x7_1 ∧ v25 = .int .i64 x25_1 ∧ Aside0 (impl_OpenRing.l0 kq l0 (l0.length : Int) x7_1 l0 (l0.length : Int) x25_1 t275 t278 t279 t280 = some (r1, r2, r3, r4, r5)) ∧ Aside0 (kq ≤ k) ∧ Aside0 (Kd.R k26 26 w' w.heap.size (fun _ => True) (.slice Ao7 t275.length co7) t275) ∧ Aside0 (w'.heap[gb274]? = some (.cells #[(.slice none 0 0), .int .i64 0, .int .i64 0, .int .i64 0] 36 (0, 0))) ∧ Aside0 (w'.heap[gb282]? = some (.cells #[(.slice Ao7 t275.length co7), .int .i64 t278, .int .i64 t279, .int .i64 t280] 36 (0, 0))) ∧ Aside0 (Below w.heap.size w w'))
  case atStart => exact ⟨((-1)), (0), (by first | rfl | (simp; done) | (simp [*]; done)), (by first | rfl | (simp; done) | (simp [*]; done)), H', ⟨Nat.le_refl _⟩, ⟨by (with_reducible repeat (first | apply Kd.R_alloc | apply Kd.R_drewN | apply Kd.R_drew)); exact Kd.R_mono (Kd.R_far (p := ⟨gb282, 3, none⟩) (Kd.R_far (p := ⟨gb282, 2, none⟩) (Kd.R_far (p := ⟨gb282, 1, none⟩) (Kd.R_far (p := ⟨gb282, 0, none⟩) (Kd.R_types HO277.out BK282.out (by decide)) (fun _ hk => hk.2) (.slice Ao7 t275.length co7)) (fun _ hk => hk.2) (.int .i64 t278)) (fun _ hk => hk.2) (.int .i64 t279)) (fun _ hk => hk.2) (.int .i64 t280)) (fun _ hk => trivial)⟩, ⟨bf BK274 NB274_282⟩, ⟨by (with_reducible repeat (first | refine blk_drewN ?_ _ | refine blk_drew ?_ | refine blk_alloc ?_ _)); refine blk_put (cs := #[.slice Ao7 t275.length co7, .int .i64 t278, .int .i64 t279, .int .i64 0]) ?_ 3 _ rfl; (with_reducible repeat (first | refine blk_drewN ?_ _ | refine blk_drew ?_ | refine blk_alloc ?_ _)); refine blk_put (cs := #[.slice Ao7 t275.length co7, .int .i64 t278, .int .i64 0, .int .i64 0]) ?_ 2 _ rfl; (with_reducible repeat (first | refine blk_drewN ?_ _ | refine blk_drew ?_ | refine blk_alloc ?_ _)); refine blk_put (cs := #[.slice Ao7 t275.length co7, .int .i64 0, .int .i64 0, .int .i64 0]) ?_ 1 _ rfl; (with_reducible repeat (first | refine blk_drewN ?_ _ | refine blk_drew ?_ | refine blk_alloc ?_ _)); refine blk_put (cs := #[.slice none 0 0, .int .i64 0, .int .i64 0, .int .i64 0]) ?_ 0 _ rfl; (with_reducible repeat (first | refine blk_drewN ?_ _ | refine blk_drew ?_ | refine blk_alloc ?_ _)); exact BK282.out⟩, ⟨bs2 HB GE274 GE282⟩⟩
  case round =>
   clear H'
   try clear c2
   try clear p2
   try clear c3
   try clear c4
   try clear c8
   try clear hcz9_0 hcz9_1 hcz9_2 hcz9_3
   try clear hfz9_0 hfz9_1 hfz9_2 hfz9_3
   obtain ⟨x7_1, x25_1, rfl, rfl, HA, HK1, HO_283000, BK274, BK282, HB⟩ := hrel
   cases gk with
   | zero => exact absurd HA.out (by simp [impl_OpenRing.l0])
   | succ k1 =>
    have H := HA.out
    clear HA
    simp only [impl_OpenRing.l0] at H
    by_cases c10 : x25_1 < (l0.length : Int)
    ·
     rw [if_pos c10] at H
     have c10b0 : decide (x25_1 < (l0.length : Int)) = true := decide_eq_true c10
     clear c10
     by_cases c11 : 0 ≤ x25_1
     ·
      rw [if_pos c11] at H
      have c11b0 : decide (0 ≤ x25_1) = true := decide_eq_true c11
      clear c11
      by_cases c12 : x25_1 < (l0.length : Int)
      ·
       rw [if_pos c12] at H
       have c12b0 : decide (x25_1 < (l0.length : Int)) = true := decide_eq_true c12
       clear c12
       replace H := Option.bind_eq_some_iff.mp H
       obtain ⟨t285, A130, H⟩ := H
       replace H : (if t285 = true then (if ((rd_T26 l0 x25_1).f0) > 0 then (impl_OpenRing.l0 k1 l0 (l0.length : Int) (mx x7_1 (wrap64 ((wrap64 ((wrap64 (((rd_T26 l0 x25_1).f0) - 1)) * (l0.length : Int))) + x25_1))) l0 (l0.length : Int) (wrap64 (x25_1 + 1)) t275 t278 t279 t280) else (impl_OpenRing.l0 k1 l0 (l0.length : Int) x7_1 l0 (l0.length : Int) (wrap64 (x25_1 + 1)) t275 t278 t279 t280)) else (impl_OpenRing.l0 k1 l0 (l0.length : Int) x7_1 l0 (l0.length : Int) (wrap64 (x25_1 + 1)) t275 t278 t279 t280)) = some (r1, r2, r3, r4, r5) := H
       have A13 := Aside0.mk A130
       clear A130
       by_cases c14 : t285 = true
       ·
        subst c14
        rw [if_pos rfl] at H
        by_cases c15 : ((rd_T26 l0 x25_1).f0) > 0
        ·
         rw [if_pos c15] at H
         have c15b0 : decide (0 < ((rd_T26 l0 x25_1).f0)) = true := decide_eq_true c15
         clear c15
         obtain ⟨ji16, hji16⟩ : ∃ j_ : Int, (mx x7_1 (wrap64 ((wrap64 ((wrap64 (((rd_T26 l0 x25_1).f0) - 1)) * (l0.length : Int))) + x25_1))) = j_ := ⟨_, rfl⟩
         replace H : (impl_OpenRing.l0 k1 l0 (l0.length : Int) ji16 l0 (l0.length : Int) (wrap64 (x25_1 + 1)) t275 t278 t279 t280) = some (r1, r2, r3, r4, r5) := by first | (rw [hji16] at H; exact H) | (simp only [hji16] at H ⊢; exact H)
         (try rw [hji16] at A13)
         have hji16_ : (if x7_1 < (wrap64 ((wrap64 ((wrap64 (((rd_T26 l0 x25_1).f0) - 1)) * (l0.length : Int))) + x25_1)) then (wrap64 ((wrap64 ((wrap64 (((rd_T26 l0 x25_1).f0) - 1)) * (l0.length : Int))) + x25_1)) else x7_1) = ji16 := hji16
         have H' := Aside0.mk H
         clear H
         have p283 : 0 ≤ (x25_1 : Int) := of_decide_eq_true (by first | (with_reducible assumption) | assumption)
         have q283 : x25_1 < (l0.length : Int) := of_decide_eq_true (by first | (with_reducible assumption) | assumption)
         obtain ⟨ad283, e283, hx283_0, hx283_1, hx283_2, hx283_3⟩ := at_T26 HR0.out x25_1 p283 q283
         cases e283
         replace hx283_0 := (HB.out.cell (World.block_lt_of_cell? w _ hx283_0)).trans hx283_0
         replace hx283_1 := (HB.out.cell (World.block_lt_of_cell? w _ hx283_1)).trans hx283_1
         replace hx283_2 := (HB.out.cell (World.block_lt_of_cell? w _ hx283_2)).trans hx283_2
         replace hx283_3 := (HB.out.cell (World.block_lt_of_cell? w _ hx283_3)).trans hx283_3
         replace p283 := eq_true p283
         replace q283 := eq_true q283
         go_wp2_with (first | ((with_reducible refine gate_dst (N := 9) rfl ?_); refine box_event ?hg (N := 9) ?hd (cs := #[.int .i64 0, .int .i64 0, .string (⟨#[]⟩ : ByteArray), .int .i64 0]) (t := 26) ?hr ?_; (case hd => rfl); (case hg => rfl); (case hr => first | (go_simp; done) | (go_simp; rfl)); intro gb284 hg w17 hbox hb; replace HO_283000 := Aside0.mk (Kd.R_below (Kd.R_elderB (rr HO_283000.out) gb284 (Nat.le_of_eq hg.symm)) hb); have BK284 := Aside0.mk (hbox); have GW284 := Aside0.mk ((by rw [hg]; exact (below_size (bs2 HB GE274 GE282)) : w.heap.size ≤ gb284)); have GE284 := Aside0.mk ((by rw [hg]; exact (below_size (bs2 HB GE274 GE282)) : w.heap.size ≤ gb284)); replace HB := Aside0.mk (below_step (bs2 HB GE274 GE282) hb); have NB274_284 := Aside0.mk ((bn BK274 hg : gb274 ≠ gb284)); have NB284_274 := Aside0.mk ((bm BK274 hg : gb284 ≠ gb274)); replace BK274 := nb BK274 hb; have NB282_284 := Aside0.mk ((bn BK282 hg : gb282 ≠ gb284)); have NB284_282 := Aside0.mk ((bm BK282 hg : gb284 ≠ gb282)); replace BK282 := nb BK282 hb; clear hb hbox hg; have hnb18 := NB284_274.out; have hnc18 := NB274_284.out; have hnb19 := NB284_282.out; have hnc19 := NB282_284.out; obtain ⟨hcz20_0, hcz20_1, hcz20_2, hcz20_3⟩ := cz4 BK284; obtain ⟨hfz20_0, hfz20_1, hfz20_2, hfz20_3⟩ := fz4 BK284) | ((with_reducible refine gate_callee (f := 60) rfl ?_); refine gL (some 31) rfl rfl Tryd.func60 (by kernel_rfl) rfl #[.agg #[.int .i64 ((rd_T26 l0 x25_1).f0), .int .i64 ((rd_T26 l0 x25_1).f1), .string ((rd_T26 l0 x25_1).f2), .int .i64 ((rd_T26 l0 x25_1).f3)]] rfl ?_; (with_reducible refine (impl_isIntact.calls k1 ((rd_T26 l0 x25_1).f0) ((rd_T26 l0 x25_1).f1) ((rd_T26 l0 x25_1).f2) ((rd_T26 l0 x25_1).f3) true _ ?sideT A13.out).mono ?_); (case sideT => refine ⟨Ito.tabB hTab_.out ?_⟩; first | exact bs HB | exact st_below | (repeat (first | (with_reducible first | exact HB.out | apply below_alloc | apply pw_below_drewN | apply below_drew1 | refine below_set ?_ (Aside0.out (by assumption))) | exact HB.out))); rintro e w21 ⟨rfl, hb⟩; refine ⟨_, rfl, ?_⟩; replace HO_283000 := Aside0.mk (Kd.R_below (by (with_reducible repeat (first | apply Kd.R_alloc | apply Kd.R_drewN | apply Kd.R_drew)); exact (Kd.R_mono (Kd.R_far (p := ⟨gb284, 3, none⟩) (Kd.R_far (p := ⟨gb284, 2, none⟩) (Kd.R_far (p := ⟨gb284, 1, none⟩) (Kd.R_far (p := ⟨gb284, 0, none⟩) (Kd.R_mono HO_283000.out (fun k_ hk => (⟨hk, hk.2⟩ : _ ∧ k_ ≠ gb284))) (fun _ hk => hk.2) (.int .i64 ((rd_T26 l0 x25_1).f0))) (fun _ hk => hk.2) (.int .i64 ((rd_T26 l0 x25_1).f1))) (fun _ hk => hk.2) (.string ((rd_T26 l0 x25_1).f2))) (fun _ hk => hk.2) (.int .i64 ((rd_T26 l0 x25_1).f3))) (fun _ h_ => h_.1))) hb); replace BK274 := Aside0.mk (blk_below (bf BK274 NB274_284) hb); replace BK282 := Aside0.mk (blk_below (bf BK282 NB282_284) hb); replace BK284 := Aside0.mk (blk_below (g := gb284) (o := .cells #[.int .i64 ((rd_T26 l0 x25_1).f0), .int .i64 ((rd_T26 l0 x25_1).f1), .string ((rd_T26 l0 x25_1).f2), .int .i64 ((rd_T26 l0 x25_1).f3)] 26 (0, 0)) (by (with_reducible repeat (first | refine blk_drewN ?_ _ | refine blk_drew ?_ | refine blk_alloc ?_ _)); refine blk_put (cs := #[.int .i64 ((rd_T26 l0 x25_1).f0), .int .i64 ((rd_T26 l0 x25_1).f1), .string ((rd_T26 l0 x25_1).f2), .int .i64 0]) ?_ 3 _ rfl; (with_reducible repeat (first | refine blk_drewN ?_ _ | refine blk_drew ?_ | refine blk_alloc ?_ _)); refine blk_put (cs := #[.int .i64 ((rd_T26 l0 x25_1).f0), .int .i64 ((rd_T26 l0 x25_1).f1), .string (⟨#[]⟩ : ByteArray), .int .i64 0]) ?_ 2 _ rfl; (with_reducible repeat (first | refine blk_drewN ?_ _ | refine blk_drew ?_ | refine blk_alloc ?_ _)); refine blk_put (cs := #[.int .i64 ((rd_T26 l0 x25_1).f0), .int .i64 0, .string (⟨#[]⟩ : ByteArray), .int .i64 0]) ?_ 1 _ rfl; (with_reducible repeat (first | refine blk_drewN ?_ _ | refine blk_drew ?_ | refine blk_alloc ?_ _)); refine blk_put (cs := #[.int .i64 0, .int .i64 0, .string (⟨#[]⟩ : ByteArray), .int .i64 0]) ?_ 0 _ rfl; (with_reducible repeat (first | refine blk_drewN ?_ _ | refine blk_drew ?_ | refine blk_alloc ?_ _)); exact BK284.out) hb); replace HB := Aside0.mk (below_step (bs3 HB GE274 GE282 GE284) hb); (try clear hb); (try clear hb2); (try clear hk); (try clear hi); obtain ⟨hcz22_0, hcz22_1, hcz22_2, hcz22_3⟩ := cz4 BK284; obtain ⟨hfz22_0, hfz22_1, hfz22_2, hfz22_3⟩ := fz4 BK284))
         go_roundg k1
         case measure => have := HK1.out; omega
         case rel => exact ⟨(ji16), (wrap64 (x25_1 + 1)), (by first | rfl | (simp; done) | (simp only [← hji16] <;> (first | rfl | simp)) | (simp [*]; done)), (by first | rfl | (simp; done) | (simp [*]; done)), H', ⟨by have := HK1.out; omega⟩, rm HO_283000 (fun _ hk => trivial), ⟨bk BK274⟩, ⟨bk BK282⟩, ⟨bs3 HB GE274 GE282 GE284⟩⟩
        ·
         rw [if_neg c15] at H
         have c15b0 : decide (0 < ((rd_T26 l0 x25_1).f0)) = false := decide_eq_false c15
         clear c15
         have H' := Aside0.mk H
         clear H
         have p283 : 0 ≤ (x25_1 : Int) := of_decide_eq_true (by first | (with_reducible assumption) | assumption)
         have q283 : x25_1 < (l0.length : Int) := of_decide_eq_true (by first | (with_reducible assumption) | assumption)
         obtain ⟨ad283, e283, hx283_0, hx283_1, hx283_2, hx283_3⟩ := at_T26 HR0.out x25_1 p283 q283
         cases e283
         replace hx283_0 := (HB.out.cell (World.block_lt_of_cell? w _ hx283_0)).trans hx283_0
         replace hx283_1 := (HB.out.cell (World.block_lt_of_cell? w _ hx283_1)).trans hx283_1
         replace hx283_2 := (HB.out.cell (World.block_lt_of_cell? w _ hx283_2)).trans hx283_2
         replace hx283_3 := (HB.out.cell (World.block_lt_of_cell? w _ hx283_3)).trans hx283_3
         replace p283 := eq_true p283
         replace q283 := eq_true q283
         go_wp2_with (first | ((with_reducible refine gate_dst (N := 9) rfl ?_); refine box_event ?hg (N := 9) ?hd (cs := #[.int .i64 0, .int .i64 0, .string (⟨#[]⟩ : ByteArray), .int .i64 0]) (t := 26) ?hr ?_; (case hd => rfl); (case hg => rfl); (case hr => first | (go_simp; done) | (go_simp; rfl)); intro gb284 hg w23 hbox hb; replace HO_283000 := Aside0.mk (Kd.R_below (Kd.R_elderB (rr HO_283000.out) gb284 (Nat.le_of_eq hg.symm)) hb); have BK284 := Aside0.mk (hbox); have GW284 := Aside0.mk ((by rw [hg]; exact (below_size (bs2 HB GE274 GE282)) : w.heap.size ≤ gb284)); have GE284 := Aside0.mk ((by rw [hg]; exact (below_size (bs2 HB GE274 GE282)) : w.heap.size ≤ gb284)); replace HB := Aside0.mk (below_step (bs2 HB GE274 GE282) hb); have NB274_284 := Aside0.mk ((bn BK274 hg : gb274 ≠ gb284)); have NB284_274 := Aside0.mk ((bm BK274 hg : gb284 ≠ gb274)); replace BK274 := nb BK274 hb; have NB282_284 := Aside0.mk ((bn BK282 hg : gb282 ≠ gb284)); have NB284_282 := Aside0.mk ((bm BK282 hg : gb284 ≠ gb282)); replace BK282 := nb BK282 hb; clear hb hbox hg; have hnb24 := NB284_274.out; have hnc24 := NB274_284.out; have hnb25 := NB284_282.out; have hnc25 := NB282_284.out; obtain ⟨hcz26_0, hcz26_1, hcz26_2, hcz26_3⟩ := cz4 BK284; obtain ⟨hfz26_0, hfz26_1, hfz26_2, hfz26_3⟩ := fz4 BK284) | ((with_reducible refine gate_callee (f := 60) rfl ?_); refine gL (some 31) rfl rfl Tryd.func60 (by kernel_rfl) rfl #[.agg #[.int .i64 ((rd_T26 l0 x25_1).f0), .int .i64 ((rd_T26 l0 x25_1).f1), .string ((rd_T26 l0 x25_1).f2), .int .i64 ((rd_T26 l0 x25_1).f3)]] rfl ?_; (with_reducible refine (impl_isIntact.calls k1 ((rd_T26 l0 x25_1).f0) ((rd_T26 l0 x25_1).f1) ((rd_T26 l0 x25_1).f2) ((rd_T26 l0 x25_1).f3) true _ ?sideT A13.out).mono ?_); (case sideT => refine ⟨Ito.tabB hTab_.out ?_⟩; first | exact bs HB | exact st_below | (repeat (first | (with_reducible first | exact HB.out | apply below_alloc | apply pw_below_drewN | apply below_drew1 | refine below_set ?_ (Aside0.out (by assumption))) | exact HB.out))); rintro e w27 ⟨rfl, hb⟩; refine ⟨_, rfl, ?_⟩; replace HO_283000 := Aside0.mk (Kd.R_below (by (with_reducible repeat (first | apply Kd.R_alloc | apply Kd.R_drewN | apply Kd.R_drew)); exact (Kd.R_mono (Kd.R_far (p := ⟨gb284, 3, none⟩) (Kd.R_far (p := ⟨gb284, 2, none⟩) (Kd.R_far (p := ⟨gb284, 1, none⟩) (Kd.R_far (p := ⟨gb284, 0, none⟩) (Kd.R_mono HO_283000.out (fun k_ hk => (⟨hk, hk.2⟩ : _ ∧ k_ ≠ gb284))) (fun _ hk => hk.2) (.int .i64 ((rd_T26 l0 x25_1).f0))) (fun _ hk => hk.2) (.int .i64 ((rd_T26 l0 x25_1).f1))) (fun _ hk => hk.2) (.string ((rd_T26 l0 x25_1).f2))) (fun _ hk => hk.2) (.int .i64 ((rd_T26 l0 x25_1).f3))) (fun _ h_ => h_.1))) hb); replace BK274 := Aside0.mk (blk_below (bf BK274 NB274_284) hb); replace BK282 := Aside0.mk (blk_below (bf BK282 NB282_284) hb); replace BK284 := Aside0.mk (blk_below (g := gb284) (o := .cells #[.int .i64 ((rd_T26 l0 x25_1).f0), .int .i64 ((rd_T26 l0 x25_1).f1), .string ((rd_T26 l0 x25_1).f2), .int .i64 ((rd_T26 l0 x25_1).f3)] 26 (0, 0)) (by (with_reducible repeat (first | refine blk_drewN ?_ _ | refine blk_drew ?_ | refine blk_alloc ?_ _)); refine blk_put (cs := #[.int .i64 ((rd_T26 l0 x25_1).f0), .int .i64 ((rd_T26 l0 x25_1).f1), .string ((rd_T26 l0 x25_1).f2), .int .i64 0]) ?_ 3 _ rfl; (with_reducible repeat (first | refine blk_drewN ?_ _ | refine blk_drew ?_ | refine blk_alloc ?_ _)); refine blk_put (cs := #[.int .i64 ((rd_T26 l0 x25_1).f0), .int .i64 ((rd_T26 l0 x25_1).f1), .string (⟨#[]⟩ : ByteArray), .int .i64 0]) ?_ 2 _ rfl; (with_reducible repeat (first | refine blk_drewN ?_ _ | refine blk_drew ?_ | refine blk_alloc ?_ _)); refine blk_put (cs := #[.int .i64 ((rd_T26 l0 x25_1).f0), .int .i64 0, .string (⟨#[]⟩ : ByteArray), .int .i64 0]) ?_ 1 _ rfl; (with_reducible repeat (first | refine blk_drewN ?_ _ | refine blk_drew ?_ | refine blk_alloc ?_ _)); refine blk_put (cs := #[.int .i64 0, .int .i64 0, .string (⟨#[]⟩ : ByteArray), .int .i64 0]) ?_ 0 _ rfl; (with_reducible repeat (first | refine blk_drewN ?_ _ | refine blk_drew ?_ | refine blk_alloc ?_ _)); exact BK284.out) hb); replace HB := Aside0.mk (below_step (bs3 HB GE274 GE282 GE284) hb); (try clear hb); (try clear hb2); (try clear hk); (try clear hi); obtain ⟨hcz28_0, hcz28_1, hcz28_2, hcz28_3⟩ := cz4 BK284; obtain ⟨hfz28_0, hfz28_1, hfz28_2, hfz28_3⟩ := fz4 BK284))
         go_roundg k1
         case measure => have := HK1.out; omega
         case rel => exact ⟨(x7_1), (wrap64 (x25_1 + 1)), (by first | rfl | (simp; done) | (simp [*]; done)), (by first | rfl | (simp; done) | (simp [*]; done)), H', ⟨by have := HK1.out; omega⟩, rm HO_283000 (fun _ hk => trivial), ⟨bk BK274⟩, ⟨bk BK282⟩, ⟨bs3 HB GE274 GE282 GE284⟩⟩
       ·
        replace c14 := Bool.eq_false_iff.mpr c14
        subst c14
        rw [if_neg (show ¬ (false = true) by decide)] at H
        have H' := Aside0.mk H
        clear H
        have p283 : 0 ≤ (x25_1 : Int) := of_decide_eq_true (by first | (with_reducible assumption) | assumption)
        have q283 : x25_1 < (l0.length : Int) := of_decide_eq_true (by first | (with_reducible assumption) | assumption)
        obtain ⟨ad283, e283, hx283_0, hx283_1, hx283_2, hx283_3⟩ := at_T26 HR0.out x25_1 p283 q283
        cases e283
        replace hx283_0 := (HB.out.cell (World.block_lt_of_cell? w _ hx283_0)).trans hx283_0
        replace hx283_1 := (HB.out.cell (World.block_lt_of_cell? w _ hx283_1)).trans hx283_1
        replace hx283_2 := (HB.out.cell (World.block_lt_of_cell? w _ hx283_2)).trans hx283_2
        replace hx283_3 := (HB.out.cell (World.block_lt_of_cell? w _ hx283_3)).trans hx283_3
        replace p283 := eq_true p283
        replace q283 := eq_true q283
        go_wp2_with (first | ((with_reducible refine gate_dst (N := 9) rfl ?_); refine box_event ?hg (N := 9) ?hd (cs := #[.int .i64 0, .int .i64 0, .string (⟨#[]⟩ : ByteArray), .int .i64 0]) (t := 26) ?hr ?_; (case hd => rfl); (case hg => rfl); (case hr => first | (go_simp; done) | (go_simp; rfl)); intro gb284 hg w29 hbox hb; replace HO_283000 := Aside0.mk (Kd.R_below (Kd.R_elderB (rr HO_283000.out) gb284 (Nat.le_of_eq hg.symm)) hb); have BK284 := Aside0.mk (hbox); have GW284 := Aside0.mk ((by rw [hg]; exact (below_size (bs2 HB GE274 GE282)) : w.heap.size ≤ gb284)); have GE284 := Aside0.mk ((by rw [hg]; exact (below_size (bs2 HB GE274 GE282)) : w.heap.size ≤ gb284)); replace HB := Aside0.mk (below_step (bs2 HB GE274 GE282) hb); have NB274_284 := Aside0.mk ((bn BK274 hg : gb274 ≠ gb284)); have NB284_274 := Aside0.mk ((bm BK274 hg : gb284 ≠ gb274)); replace BK274 := nb BK274 hb; have NB282_284 := Aside0.mk ((bn BK282 hg : gb282 ≠ gb284)); have NB284_282 := Aside0.mk ((bm BK282 hg : gb284 ≠ gb282)); replace BK282 := nb BK282 hb; clear hb hbox hg; have hnb30 := NB284_274.out; have hnc30 := NB274_284.out; have hnb31 := NB284_282.out; have hnc31 := NB282_284.out; obtain ⟨hcz32_0, hcz32_1, hcz32_2, hcz32_3⟩ := cz4 BK284; obtain ⟨hfz32_0, hfz32_1, hfz32_2, hfz32_3⟩ := fz4 BK284) | ((with_reducible refine gate_callee (f := 60) rfl ?_); refine gL (some 31) rfl rfl Tryd.func60 (by kernel_rfl) rfl #[.agg #[.int .i64 ((rd_T26 l0 x25_1).f0), .int .i64 ((rd_T26 l0 x25_1).f1), .string ((rd_T26 l0 x25_1).f2), .int .i64 ((rd_T26 l0 x25_1).f3)]] rfl ?_; (with_reducible refine (impl_isIntact.calls k1 ((rd_T26 l0 x25_1).f0) ((rd_T26 l0 x25_1).f1) ((rd_T26 l0 x25_1).f2) ((rd_T26 l0 x25_1).f3) false _ ?sideT A13.out).mono ?_); (case sideT => refine ⟨Ito.tabB hTab_.out ?_⟩; first | exact bs HB | exact st_below | (repeat (first | (with_reducible first | exact HB.out | apply below_alloc | apply pw_below_drewN | apply below_drew1 | refine below_set ?_ (Aside0.out (by assumption))) | exact HB.out))); rintro e w33 ⟨rfl, hb⟩; refine ⟨_, rfl, ?_⟩; replace HO_283000 := Aside0.mk (Kd.R_below (by (with_reducible repeat (first | apply Kd.R_alloc | apply Kd.R_drewN | apply Kd.R_drew)); exact (Kd.R_mono (Kd.R_far (p := ⟨gb284, 3, none⟩) (Kd.R_far (p := ⟨gb284, 2, none⟩) (Kd.R_far (p := ⟨gb284, 1, none⟩) (Kd.R_far (p := ⟨gb284, 0, none⟩) (Kd.R_mono HO_283000.out (fun k_ hk => (⟨hk, hk.2⟩ : _ ∧ k_ ≠ gb284))) (fun _ hk => hk.2) (.int .i64 ((rd_T26 l0 x25_1).f0))) (fun _ hk => hk.2) (.int .i64 ((rd_T26 l0 x25_1).f1))) (fun _ hk => hk.2) (.string ((rd_T26 l0 x25_1).f2))) (fun _ hk => hk.2) (.int .i64 ((rd_T26 l0 x25_1).f3))) (fun _ h_ => h_.1))) hb); replace BK274 := Aside0.mk (blk_below (bf BK274 NB274_284) hb); replace BK282 := Aside0.mk (blk_below (bf BK282 NB282_284) hb); replace BK284 := Aside0.mk (blk_below (g := gb284) (o := .cells #[.int .i64 ((rd_T26 l0 x25_1).f0), .int .i64 ((rd_T26 l0 x25_1).f1), .string ((rd_T26 l0 x25_1).f2), .int .i64 ((rd_T26 l0 x25_1).f3)] 26 (0, 0)) (by (with_reducible repeat (first | refine blk_drewN ?_ _ | refine blk_drew ?_ | refine blk_alloc ?_ _)); refine blk_put (cs := #[.int .i64 ((rd_T26 l0 x25_1).f0), .int .i64 ((rd_T26 l0 x25_1).f1), .string ((rd_T26 l0 x25_1).f2), .int .i64 0]) ?_ 3 _ rfl; (with_reducible repeat (first | refine blk_drewN ?_ _ | refine blk_drew ?_ | refine blk_alloc ?_ _)); refine blk_put (cs := #[.int .i64 ((rd_T26 l0 x25_1).f0), .int .i64 ((rd_T26 l0 x25_1).f1), .string (⟨#[]⟩ : ByteArray), .int .i64 0]) ?_ 2 _ rfl; (with_reducible repeat (first | refine blk_drewN ?_ _ | refine blk_drew ?_ | refine blk_alloc ?_ _)); refine blk_put (cs := #[.int .i64 ((rd_T26 l0 x25_1).f0), .int .i64 0, .string (⟨#[]⟩ : ByteArray), .int .i64 0]) ?_ 1 _ rfl; (with_reducible repeat (first | refine blk_drewN ?_ _ | refine blk_drew ?_ | refine blk_alloc ?_ _)); refine blk_put (cs := #[.int .i64 0, .int .i64 0, .string (⟨#[]⟩ : ByteArray), .int .i64 0]) ?_ 0 _ rfl; (with_reducible repeat (first | refine blk_drewN ?_ _ | refine blk_drew ?_ | refine blk_alloc ?_ _)); exact BK284.out) hb); replace HB := Aside0.mk (below_step (bs3 HB GE274 GE282 GE284) hb); (try clear hb); (try clear hb2); (try clear hk); (try clear hi)))
        go_roundg k1
        case measure => have := HK1.out; omega
        case rel => exact ⟨(x7_1), (wrap64 (x25_1 + 1)), (by first | rfl | (simp; done) | (simp [*]; done)), (by first | rfl | (simp; done) | (simp [*]; done)), H', ⟨by have := HK1.out; omega⟩, rm HO_283000 (fun _ hk => trivial), ⟨bk BK274⟩, ⟨bk BK282⟩, ⟨bs3 HB GE274 GE282 GE284⟩⟩
      ·
       rw [if_neg c12] at H
       exact absurd H (by simp)
     ·
      rw [if_neg c11] at H
      exact absurd H (by simp)
    ·
     rw [if_neg c10] at H
     have c10b0 : decide (x25_1 < (l0.length : Int)) = false := decide_eq_false c10
     clear c10
     by_cases c34 : x7_1 < 0
     ·
      rw [if_pos c34] at H
      have c34b0 : decide (x7_1 < 0) = true := decide_eq_true c34
      clear c34
      simp only [Option.some.injEq, Prod.mk.injEq] at H
      obtain ⟨rfl, rfl, rfl, rfl, rfl⟩ := H
      have hnb35 := NB282_274.out
      have hnc35 := NB274_282.out
      obtain ⟨hcz36_0, hcz36_1, hcz36_2, hcz36_3⟩ := cz4 BK282
      obtain ⟨hfz36_0, hfz36_1, hfz36_2, hfz36_3⟩ := fz4 BK282
      obtain ⟨hcz37_0, hcz37_1, hcz37_2, hcz37_3⟩ := cz4 BK274
      obtain ⟨hfz37_0, hfz37_1, hfz37_2, hfz37_3⟩ := fz4 BK274
      go_wp2
      refine bodyPost_ret (results_ct rfl _ _ gb274 36 #[.slice Ao7 t275.length co7, .int .i64 t278, .int .i64 t279, .int .i64 t280] (0, 0) _ rfl (by (with_reducible repeat (first | refine blk_drewN ?_ _ | refine blk_drew ?_ | refine blk_alloc ?_ _)); refine blk_put (cs := #[.slice Ao7 t275.length co7, .int .i64 t278, .int .i64 t279, .int .i64 0]) ?_ 3 _ rfl; (with_reducible repeat (first | refine blk_drewN ?_ _ | refine blk_drew ?_ | refine blk_alloc ?_ _)); refine blk_put (cs := #[.slice Ao7 t275.length co7, .int .i64 t278, .int .i64 0, .int .i64 0]) ?_ 2 _ rfl; (with_reducible repeat (first | refine blk_drewN ?_ _ | refine blk_drew ?_ | refine blk_alloc ?_ _)); refine blk_put (cs := #[.slice Ao7 t275.length co7, .int .i64 0, .int .i64 0, .int .i64 0]) ?_ 1 _ rfl; (with_reducible repeat (first | refine blk_drewN ?_ _ | refine blk_drew ?_ | refine blk_alloc ?_ _)); refine blk_put (cs := #[.slice none 0 0, .int .i64 0, .int .i64 0, .int .i64 0]) ?_ 0 _ rfl; (with_reducible repeat (first | refine blk_drewN ?_ _ | refine blk_drew ?_ | refine blk_alloc ?_ _)); exact BK274.out) Tryd.underlying36 rfl (by kernel_rfl)) rfl ?_
      exact ⟨_, by first | rfl | (simp [errW_none, errW_some] <;> rfl) | (simp [*, errW_none, errW_some] <;> rfl), by (with_reducible repeat (first | apply Kd.R_alloc | apply Kd.R_drewN | apply Kd.R_drew)); exact Kd.R_mono (Kd.R_far (p := ⟨gb274, 3, none⟩) (Kd.R_far (p := ⟨gb274, 2, none⟩) (Kd.R_far (p := ⟨gb274, 1, none⟩) (Kd.R_far (p := ⟨gb274, 0, none⟩) (Kd.R_types HO_283000.out BK274.out (by decide)) (fun _ hk => hk.2) (.slice Ao7 t275.length co7)) (fun _ hk => hk.2) (.int .i64 t278)) (fun _ hk => hk.2) (.int .i64 t279)) (fun _ hk => hk.2) (.int .i64 t280)) (fun _ hk => trivial), bs2 HB GE274 GE282⟩
     ·
      rw [if_neg c34] at H
      have c34b0 : decide (x7_1 < 0) = false := decide_eq_false c34
      clear c34
      have H' := Aside0.mk H
      clear H
      go_wp2
      go_loopg [10, 11] k1 (fun kq v10 v11 w' => ∃ (x10_2 : Int) (x11_2 : Int) (x283000_2 : List (S26)) (u283000 : Value), v10 = .int .i64 x10_2 ∧ v11 = .int .i64 x11_2 ∧ Aside0 (impl_OpenRing.l1 kq l0 (l0.length : Int) x7_1 x10_2 x11_2 x283000_2 t278 t279 t280 = some (r1, r2, r3, r4, r5)) ∧ Aside0 (kq ≤ k1) ∧ Aside0 (Kd.R k26 26 w' w.heap.size (fun _ => True) u283000 x283000_2) ∧ Aside0 (w'.heap[gb274]? = some (.cells #[(.slice none 0 0), .int .i64 0, .int .i64 0, .int .i64 0] 36 (0, 0))) ∧ Aside0 (w'.heap[gb282]? = some (.cells #[u283000, .int .i64 t278, .int .i64 t279, .int .i64 t280] 36 (0, 0))) ∧ Aside0 (Below w.heap.size w w'))
      case atStart => exact ⟨(x7_1), (x7_1), (t275), (.slice Ao7 t275.length co7), (by first | rfl | (simp; done) | (simp [*]; done)), (by first | rfl | (simp; done) | (simp [*]; done)), H', ⟨Nat.le_refl _⟩, ⟨rr HO_283000.out⟩, ⟨bk BK274⟩, ⟨bk BK282⟩, ⟨bs2 HB GE274 GE282⟩⟩
      case round =>
       clear H'
       try clear c1
       try clear c2
       try clear p2
       try clear q2
       try clear hx2
       try clear c3
       try clear c4
       try clear c6
       try clear p6
       try clear c8
       try clear c10
       try clear c10b0
       try clear c11
       try clear c11b0
       try clear c12
       try clear c12b0
       try clear c14
       try clear c15
       try clear c15b0
       try clear c18
       try clear c19
       try clear c23
       try clear c24
       try clear c25
       try clear p28
       try clear q28
       try clear hx28
       try clear c30
       try clear c31
       try clear c34
       try clear c34b0
       try clear c35
       try clear hcz20_0 hcz20_1 hcz20_2 hcz20_3
       try clear hcz22_0 hcz22_1 hcz22_2 hcz22_3
       try clear hcz26_0 hcz26_1 hcz26_2 hcz26_3
       try clear hcz28_0 hcz28_1 hcz28_2 hcz28_3
       try clear hcz32_0 hcz32_1 hcz32_2 hcz32_3
       try clear hcz36_0 hcz36_1 hcz36_2 hcz36_3
       try clear hcz37_0 hcz37_1 hcz37_2 hcz37_3
       try clear hcz9_0 hcz9_1 hcz9_2 hcz9_3
       try clear hfz20_0 hfz20_1 hfz20_2 hfz20_3
       try clear hfz22_0 hfz22_1 hfz22_2 hfz22_3
       try clear hfz26_0 hfz26_1 hfz26_2 hfz26_3
       try clear hfz28_0 hfz28_1 hfz28_2 hfz28_3
       try clear hfz32_0 hfz32_1 hfz32_2 hfz32_3
       try clear hfz36_0 hfz36_1 hfz36_2 hfz36_3
       try clear hfz37_0 hfz37_1 hfz37_2 hfz37_3
       try clear hfz9_0 hfz9_1 hfz9_2 hfz9_3
       try clear hx283_0
       try clear hx283_1
       try clear hx283_2
       try clear hx283_3
       try clear p2
       try clear p283
       try clear q283
       obtain ⟨x10_2, x11_2, x283000_2, u283000, rfl, rfl, HA, HK2, HO_283000, BK274, BK282, HB⟩ := hrel
       cases gk with
       | zero => exact absurd HA.out (by simp [impl_OpenRing.l1])
       | succ k2 =>
        have H := HA.out
        clear HA
        simp only [impl_OpenRing.l1] at H
        have HC38 := Aside0.mk H
        clear H
        go_upto_region 16 with (fail)
        go_cut [60] (fun v60 wc => ∃ (kq : Nat) (x60_37 : Bool), v60 = .bool x60_37 ∧ Aside0 (impl_OpenRing.j2 kq l0 (l0.length : Int) x7_1 x10_2 x11_2 x60_37 x283000_2 t278 t279 t280 = some (r1, r2, r3, r4, r5)) ∧ Aside0 (kq ≤ k2) ∧ Aside0 (Kd.R k26 26 wc w.heap.size (fun _ => True) u283000 x283000_2) ∧ Aside0 (wc.heap[gb274]? = some (.cells #[(.slice none 0 0), .int .i64 0, .int .i64 0, .int .i64 0] 36 (0, 0))) ∧ Aside0 (wc.heap[gb282]? = some (.cells #[u283000, .int .i64 t278, .int .i64 t279, .int .i64 t280] 36 (0, 0))) ∧ Aside0 (Below w.heap.size w wc))
        case first =>
         have H := HC38.out
         clear HC38
         by_cases c39 : x11_2 ≥ 0
         ·
          rw [if_pos c39] at H
          have c39b0 : decide (0 ≤ x11_2) = true := decide_eq_true c39
          clear c39
          (first | rw [c39b0] | (simp only [i64_w, i32_w]; rw [c39b0]) | (simp only [c39b2, Bool.not_false, Bool.not_true]) | skip)
          have H' := Aside0.mk H
          clear H
          go_wp2
          go_meet
          case rel => exact ⟨_, (decide (x11_2 > (wrap64 (x7_1 - (l0.length : Int))))), (by first | rfl | (simp; done) | (simp [*]; done)), H', ⟨by have := HK1.out; have := HK2.out; first | omega | exact Nat.le_refl _⟩, ⟨rr HO_283000.out⟩, ⟨bk BK274⟩, ⟨bk BK282⟩, ⟨bs2 HB GE274 GE282⟩⟩
         ·
          rw [if_neg c39] at H
          have c39b0 : decide (0 ≤ x11_2) = false := decide_eq_false c39
          clear c39
          (first | rw [c39b0] | (simp only [i64_w, i32_w]; rw [c39b0]) | (simp only [c39b2, Bool.not_false, Bool.not_true]) | skip)
          have H' := Aside0.mk H
          clear H
          go_wp2
          go_meet
          case rel => exact ⟨_, (false), (by first | rfl | (simp; done) | (simp [*]; done)), H', ⟨by have := HK1.out; have := HK2.out; first | omega | exact Nat.le_refl _⟩, ⟨rr HO_283000.out⟩, ⟨bk BK274⟩, ⟨bk BK282⟩, ⟨bs2 HB GE274 GE282⟩⟩
        case rest =>
         clear HC38
         try clear c1
         try clear c2
         try clear p2
         try clear q2
         try clear hx2
         try clear c3
         try clear c4
         try clear c6
         try clear p6
         try clear c8
         try clear c10
         try clear c10b0
         try clear c11
         try clear c11b0
         try clear c12
         try clear c12b0
         try clear c14
         try clear c15
         try clear c15b0
         try clear c18
         try clear c19
         try clear c23
         try clear c24
         try clear c25
         try clear p28
         try clear q28
         try clear hx28
         try clear c30
         try clear c31
         try clear c34
         try clear c34b0
         try clear c35
         try clear c39
         try clear c39b0
         try clear hcz20_0 hcz20_1 hcz20_2 hcz20_3
         try clear hcz22_0 hcz22_1 hcz22_2 hcz22_3
         try clear hcz26_0 hcz26_1 hcz26_2 hcz26_3
         try clear hcz28_0 hcz28_1 hcz28_2 hcz28_3
         try clear hcz32_0 hcz32_1 hcz32_2 hcz32_3
         try clear hcz36_0 hcz36_1 hcz36_2 hcz36_3
         try clear hcz37_0 hcz37_1 hcz37_2 hcz37_3
         try clear hcz9_0 hcz9_1 hcz9_2 hcz9_3
         try clear hfz20_0 hfz20_1 hfz20_2 hfz20_3
         try clear hfz22_0 hfz22_1 hfz22_2 hfz22_3
         try clear hfz26_0 hfz26_1 hfz26_2 hfz26_3
         try clear hfz28_0 hfz28_1 hfz28_2 hfz28_3
         try clear hfz32_0 hfz32_1 hfz32_2 hfz32_3
         try clear hfz36_0 hfz36_1 hfz36_2 hfz36_3
         try clear hfz37_0 hfz37_1 hfz37_2 hfz37_3
         try clear hfz9_0 hfz9_1 hfz9_2 hfz9_3
         try clear hx283_0
         try clear hx283_1
         try clear hx283_2
         try clear hx283_3
         try clear p2
         try clear p28
         try clear p283
         try clear p6
         try clear q2
         try clear q28
         try clear q283
         obtain ⟨kq, x60_37, rfl, HA, HJ37, HO_283000, BK274, BK282, HB⟩ := hcut
         cases kq with
         | zero => exact absurd HA.out (by simp [impl_OpenRing.j2])
         | succ kj37 =>
          have H := HA.out
          clear HA
          simp only [impl_OpenRing.j2] at H
          by_cases c40 : x60_37 = true
          ·
           subst c40
           rw [if_pos rfl] at H
           by_cases c41 : (l0.length : Int) = 0
           ·
            rw [if_pos c41] at H
            exact absurd H (by simp)
           ·
            rw [if_neg c41] at H
            have c41b0 : ((l0.length : Int) == 0) = false := beq_eq_false_iff_ne.mpr c41
            have c41b1 : ((l0.length : Int) != 0) = true := bne_iff_ne.mpr c41
            have c41b2 : ¬ (l0 = []) := fun h_ => c41 (by rw [h_]; rfl)
            obtain ⟨ji42, hji42⟩ : ∃ j_ : Int, (Int.tmod x11_2 (l0.length : Int)) = j_ := ⟨_, rfl⟩
            replace H : (if 0 ≤ (ji42) then (if (ji42) < (l0.length : Int) then ((impl_isIntact.f kj37 ((rd_T26 l0 (ji42)).f0) ((rd_T26 l0 (ji42)).f1) ((rd_T26 l0 (ji42)).f2) ((rd_T26 l0 (ji42)).f3)).bind fun t288 => (if t288 = true then (if ((rd_T26 l0 (ji42)).f0) = (wrap64 ((wrap64 (Int.tdiv x11_2 (l0.length : Int))) + 1)) then (if (ji42) < (x283000_2.length : Int) then (impl_OpenRing.l1 kj37 l0 (l0.length : Int) x7_1 x11_2 (wrap64 (x11_2 - 1)) (x283000_2.set ((ji42) : Int).toNat (⟨(rd_T26 l0 (ji42)).f0, (rd_T26 l0 (ji42)).f1, (rd_T26 l0 (ji42)).f2, (rd_T26 l0 (ji42)).f3⟩ : S26)) t278 t279 t280) else (none)) else (if 0 ≤ (Int.tmod x7_1 (l0.length : Int)) then (if (Int.tmod x7_1 (l0.length : Int)) < (l0.length : Int) then ((impl_GoodRing.f kj37 x283000_2 (wrap64 (x7_1 + 1)) (wrap64 ((wrap64 (Int.tdiv (wrap64 (x7_1 + 1)) (l0.length : Int))) + 1)) (mx ((rd_T26 l0 (Int.tmod x7_1 (l0.length : Int))).f1) x10_2)).bind fun t291 => (if t291 = true then (some (x283000_2, wrap64 (x7_1 + 1), wrap64 ((wrap64 (Int.tdiv (wrap64 (x7_1 + 1)) (l0.length : Int))) + 1), mx ((rd_T26 l0 (Int.tmod x7_1 (l0.length : Int))).f1) x10_2, true)) else (some (([] : List (S26)), 0, 0, 0, false)))) else (none)) else (none))) else (if 0 ≤ (Int.tmod x7_1 (l0.length : Int)) then (if (Int.tmod x7_1 (l0.length : Int)) < (l0.length : Int) then ((impl_GoodRing.f kj37 x283000_2 (wrap64 (x7_1 + 1)) (wrap64 ((wrap64 (Int.tdiv (wrap64 (x7_1 + 1)) (l0.length : Int))) + 1)) (mx ((rd_T26 l0 (Int.tmod x7_1 (l0.length : Int))).f1) x10_2)).bind fun t293 => (if t293 = true then (some (x283000_2, wrap64 (x7_1 + 1), wrap64 ((wrap64 (Int.tdiv (wrap64 (x7_1 + 1)) (l0.length : Int))) + 1), mx ((rd_T26 l0 (Int.tmod x7_1 (l0.length : Int))).f1) x10_2, true)) else (some (([] : List (S26)), 0, 0, 0, false)))) else (none)) else (none)))) else (none)) else (none)) = some (r1, r2, r3, r4, r5) := by first | (rw [hji42] at H; exact H) | (simp only [hji42] at H ⊢; exact H)
            by_cases c43 : 0 ≤ (ji42)
            ·
             rw [if_pos c43] at H
             have c43b0 : decide (0 ≤ (ji42)) = true := decide_eq_true c43
             clear c43
             by_cases c44 : (ji42) < (l0.length : Int)
             ·
              rw [if_pos c44] at H
              have c44b0 : decide ((ji42) < (l0.length : Int)) = true := decide_eq_true c44
              clear c44
              replace H := Option.bind_eq_some_iff.mp H
              obtain ⟨t288, A450, H⟩ := H
              replace H : (if t288 = true then (if ((rd_T26 l0 (ji42)).f0) = (wrap64 ((wrap64 (Int.tdiv x11_2 (l0.length : Int))) + 1)) then (if (ji42) < (x283000_2.length : Int) then (impl_OpenRing.l1 kj37 l0 (l0.length : Int) x7_1 x11_2 (wrap64 (x11_2 - 1)) (x283000_2.set ((ji42) : Int).toNat (⟨(rd_T26 l0 (ji42)).f0, (rd_T26 l0 (ji42)).f1, (rd_T26 l0 (ji42)).f2, (rd_T26 l0 (ji42)).f3⟩ : S26)) t278 t279 t280) else (none)) else (if 0 ≤ (Int.tmod x7_1 (l0.length : Int)) then (if (Int.tmod x7_1 (l0.length : Int)) < (l0.length : Int) then ((impl_GoodRing.f kj37 x283000_2 (wrap64 (x7_1 + 1)) (wrap64 ((wrap64 (Int.tdiv (wrap64 (x7_1 + 1)) (l0.length : Int))) + 1)) (mx ((rd_T26 l0 (Int.tmod x7_1 (l0.length : Int))).f1) x10_2)).bind fun t291 => (if t291 = true then (some (x283000_2, wrap64 (x7_1 + 1), wrap64 ((wrap64 (Int.tdiv (wrap64 (x7_1 + 1)) (l0.length : Int))) + 1), mx ((rd_T26 l0 (Int.tmod x7_1 (l0.length : Int))).f1) x10_2, true)) else (some (([] : List (S26)), 0, 0, 0, false)))) else (none)) else (none))) else (if 0 ≤ (Int.tmod x7_1 (l0.length : Int)) then (if (Int.tmod x7_1 (l0.length : Int)) < (l0.length : Int) then ((impl_GoodRing.f kj37 x283000_2 (wrap64 (x7_1 + 1)) (wrap64 ((wrap64 (Int.tdiv (wrap64 (x7_1 + 1)) (l0.length : Int))) + 1)) (mx ((rd_T26 l0 (Int.tmod x7_1 (l0.length : Int))).f1) x10_2)).bind fun t293 => (if t293 = true then (some (x283000_2, wrap64 (x7_1 + 1), wrap64 ((wrap64 (Int.tdiv (wrap64 (x7_1 + 1)) (l0.length : Int))) + 1), mx ((rd_T26 l0 (Int.tmod x7_1 (l0.length : Int))).f1) x10_2, true)) else (some (([] : List (S26)), 0, 0, 0, false)))) else (none)) else (none))) = some (r1, r2, r3, r4, r5) := H
              have A45 := Aside0.mk A450
              clear A450
              by_cases c46 : t288 = true
              ·
               subst c46
               rw [if_pos rfl] at H
               by_cases c47 : ((rd_T26 l0 (ji42)).f0) = (wrap64 ((wrap64 (Int.tdiv x11_2 (l0.length : Int))) + 1))
               ·
                rw [if_pos c47] at H
                have c47b0 : (((rd_T26 l0 (ji42)).f0) == (wrap64 ((wrap64 (Int.tdiv x11_2 (l0.length : Int))) + 1))) = true := beq_iff_eq.mpr c47
                have c47b1 : (((rd_T26 l0 (ji42)).f0) != (wrap64 ((wrap64 (Int.tdiv x11_2 (l0.length : Int))) + 1))) = false := bne_eq_false_iff_eq.mpr c47
                clear c47
                by_cases c48 : (ji42) < (x283000_2.length : Int)
                ·
                 rw [if_pos c48] at H
                 have c48b0 : decide ((ji42) < (x283000_2.length : Int)) = true := decide_eq_true c48
                 clear c48
                 obtain ⟨y289, hy289⟩ : ∃ y_ : List (S26), y_ = (x283000_2.set ((ji42) : Int).toNat (⟨(rd_T26 l0 (ji42)).f0, (rd_T26 l0 (ji42)).f1, (rd_T26 l0 (ji42)).f2, (rd_T26 l0 (ji42)).f3⟩ : S26)) := ⟨_, rfl⟩
                 replace H : (impl_OpenRing.l1 kj37 l0 (l0.length : Int) x7_1 x11_2 (wrap64 (x11_2 - 1)) y289 t278 t279 t280) = some (r1, r2, r3, r4, r5) := by first | (rw [hy289]; with_reducible exact H) | (have H2_ := (Option.bind_some _ _).symm.trans H; rw [hy289]; with_reducible exact H2_) | (have H2_ := (Option.bind_some _ _).symm.trans H; with_reducible exact H2_) | with_reducible exact H | (rw [hy289]; exact H) | exact H
                 have Ny289 := Aside0.mk hy289
                 clear hy289
                 have H' := Aside0.mk H
                 clear H
                 have p286 : 0 ≤ ((ji42) : Int) := of_decide_eq_true (by first | (with_reducible assumption) | assumption)
                 have q286 : (ji42) < (l0.length : Int) := of_decide_eq_true (by first | (with_reducible assumption) | assumption)
                 obtain ⟨ad286, e286, hx286_0, hx286_1, hx286_2, hx286_3⟩ := at_T26 HR0.out (ji42) p286 q286
                 cases e286
                 replace hx286_0 := (HB.out.cell (World.block_lt_of_cell? w _ hx286_0)).trans hx286_0
                 replace hx286_1 := (HB.out.cell (World.block_lt_of_cell? w _ hx286_1)).trans hx286_1
                 replace hx286_2 := (HB.out.cell (World.block_lt_of_cell? w _ hx286_2)).trans hx286_2
                 replace hx286_3 := (HB.out.cell (World.block_lt_of_cell? w _ hx286_3)).trans hx286_3
                 replace p286 := eq_true p286
                 replace q286 := eq_true q286
                 try go_wp2_with (first | ((with_reducible refine gate_dst (N := 12) rfl ?_); refine box_event ?hg (N := 12) ?hd (cs := #[.int .i64 0, .int .i64 0, .string (⟨#[]⟩ : ByteArray), .int .i64 0]) (t := 26) ?hr ?_; (case hd => rfl); (case hg => rfl); (case hr => first | (go_simp; done) | (go_simp; rfl)); intro gb287 hg w50 hbox hb; replace HO_283000 := Aside0.mk (Kd.R_below (Kd.R_elderB (rr HO_283000.out) gb287 (Nat.le_of_eq hg.symm)) hb); have BK287 := Aside0.mk (hbox); have GW287 := Aside0.mk ((by rw [hg]; exact (below_size (bs2 HB GE274 GE282)) : w.heap.size ≤ gb287)); have GE287 := Aside0.mk ((by rw [hg]; exact (below_size (bs2 HB GE274 GE282)) : w.heap.size ≤ gb287)); replace HB := Aside0.mk (below_step (bs2 HB GE274 GE282) hb); have NB274_287 := Aside0.mk ((bn BK274 hg : gb274 ≠ gb287)); have NB287_274 := Aside0.mk ((bm BK274 hg : gb287 ≠ gb274)); replace BK274 := nb BK274 hb; have NB282_287 := Aside0.mk ((bn BK282 hg : gb282 ≠ gb287)); have NB287_282 := Aside0.mk ((bm BK282 hg : gb287 ≠ gb282)); replace BK282 := nb BK282 hb; clear hb hbox hg; have hnb51 := NB287_274.out; have hnc51 := NB274_287.out; have hnb52 := NB287_282.out; have hnc52 := NB282_287.out; obtain ⟨hcz53_0, hcz53_1, hcz53_2, hcz53_3⟩ := cz4 BK287; obtain ⟨hfz53_0, hfz53_1, hfz53_2, hfz53_3⟩ := fz4 BK287))
                 have n0_ : Aside0 (Kd.R k26 26 ((((w50.setCell ⟨gb287, 0, none⟩ (.int .i64 ((rd_T26 l0 (ji42)).f0))).setCell ⟨gb287, 1, none⟩ (.int .i64 ((rd_T26 l0 (ji42)).f1))).setCell ⟨gb287, 2, none⟩ (.string ((rd_T26 l0 (ji42)).f2))).setCell ⟨gb287, 3, none⟩ (.int .i64 ((rd_T26 l0 (ji42)).f3))) w.heap.size (fun k_ => k_ ≠ gb287) u283000 x283000_2) := ⟨by (with_reducible repeat (first | apply Kd.R_alloc | apply Kd.R_drewN | apply Kd.R_drew)); exact Kd.R_mono (Kd.R_far (p := ⟨gb287, 3, none⟩) (Kd.R_far (p := ⟨gb287, 2, none⟩) (Kd.R_far (p := ⟨gb287, 1, none⟩) (Kd.R_far (p := ⟨gb287, 0, none⟩) (Kd.R_mono HO_283000.out (fun k_ hk => (⟨hk, hk.2⟩ : _ ∧ k_ ≠ gb287))) (fun _ hk => hk.2) (.int .i64 ((rd_T26 l0 (ji42)).f0))) (fun _ hk => hk.2) (.int .i64 ((rd_T26 l0 (ji42)).f1))) (fun _ hk => hk.2) (.string ((rd_T26 l0 (ji42)).f2))) (fun _ hk => hk.2) (.int .i64 ((rd_T26 l0 (ji42)).f3))) (fun _ hk => hk.1.2)⟩
                 have n1_ : Aside0 (((((w50.setCell ⟨gb287, 0, none⟩ (.int .i64 ((rd_T26 l0 (ji42)).f0))).setCell ⟨gb287, 1, none⟩ (.int .i64 ((rd_T26 l0 (ji42)).f1))).setCell ⟨gb287, 2, none⟩ (.string ((rd_T26 l0 (ji42)).f2))).setCell ⟨gb287, 3, none⟩ (.int .i64 ((rd_T26 l0 (ji42)).f3))).heap[gb274]? = some (.cells #[.slice none 0 0, .int .i64 0, .int .i64 0, .int .i64 0] 36 (0, 0))) := ⟨bf BK274 NB274_287⟩
                 have n2_ : Aside0 (((((w50.setCell ⟨gb287, 0, none⟩ (.int .i64 ((rd_T26 l0 (ji42)).f0))).setCell ⟨gb287, 1, none⟩ (.int .i64 ((rd_T26 l0 (ji42)).f1))).setCell ⟨gb287, 2, none⟩ (.string ((rd_T26 l0 (ji42)).f2))).setCell ⟨gb287, 3, none⟩ (.int .i64 ((rd_T26 l0 (ji42)).f3))).heap[gb282]? = some (.cells #[u283000, .int .i64 t278, .int .i64 t279, .int .i64 t280] 36 (0, 0))) := ⟨bf BK282 NB282_287⟩
                 have n3_ : Aside0 (((((w50.setCell ⟨gb287, 0, none⟩ (.int .i64 ((rd_T26 l0 (ji42)).f0))).setCell ⟨gb287, 1, none⟩ (.int .i64 ((rd_T26 l0 (ji42)).f1))).setCell ⟨gb287, 2, none⟩ (.string ((rd_T26 l0 (ji42)).f2))).setCell ⟨gb287, 3, none⟩ (.int .i64 ((rd_T26 l0 (ji42)).f3))).heap[gb287]? = some (.cells #[.int .i64 ((rd_T26 l0 (ji42)).f0), .int .i64 ((rd_T26 l0 (ji42)).f1), .string ((rd_T26 l0 (ji42)).f2), .int .i64 ((rd_T26 l0 (ji42)).f3)] 26 (0, 0))) := ⟨by (with_reducible repeat (first | refine blk_drewN ?_ _ | refine blk_drew ?_ | refine blk_alloc ?_ _)); refine blk_put (cs := #[.int .i64 ((rd_T26 l0 (ji42)).f0), .int .i64 ((rd_T26 l0 (ji42)).f1), .string ((rd_T26 l0 (ji42)).f2), .int .i64 0]) ?_ 3 _ rfl; (with_reducible repeat (first | refine blk_drewN ?_ _ | refine blk_drew ?_ | refine blk_alloc ?_ _)); refine blk_put (cs := #[.int .i64 ((rd_T26 l0 (ji42)).f0), .int .i64 ((rd_T26 l0 (ji42)).f1), .string (⟨#[]⟩ : ByteArray), .int .i64 0]) ?_ 2 _ rfl; (with_reducible repeat (first | refine blk_drewN ?_ _ | refine blk_drew ?_ | refine blk_alloc ?_ _)); refine blk_put (cs := #[.int .i64 ((rd_T26 l0 (ji42)).f0), .int .i64 0, .string (⟨#[]⟩ : ByteArray), .int .i64 0]) ?_ 1 _ rfl; (with_reducible repeat (first | refine blk_drewN ?_ _ | refine blk_drew ?_ | refine blk_alloc ?_ _)); refine blk_put (cs := #[.int .i64 0, .int .i64 0, .string (⟨#[]⟩ : ByteArray), .int .i64 0]) ?_ 0 _ rfl; (with_reducible repeat (first | refine blk_drewN ?_ _ | refine blk_drew ?_ | refine blk_alloc ?_ _)); exact BK287.out⟩
                 have n4_ : Aside0 (Below w.heap.size w ((((w50.setCell ⟨gb287, 0, none⟩ (.int .i64 ((rd_T26 l0 (ji42)).f0))).setCell ⟨gb287, 1, none⟩ (.int .i64 ((rd_T26 l0 (ji42)).f1))).setCell ⟨gb287, 2, none⟩ (.string ((rd_T26 l0 (ji42)).f2))).setCell ⟨gb287, 3, none⟩ (.int .i64 ((rd_T26 l0 (ji42)).f3)))) := ⟨bs3 HB GE274 GE282 GE287⟩
                 (try clear HO_283000)
                 (try clear BK274)
                 (try clear BK282)
                 (try clear BK287)
                 (try clear HB)
                 generalize ((((w50.setCell ⟨gb287, 0, none⟩ (.int .i64 ((rd_T26 l0 (ji42)).f0))).setCell ⟨gb287, 1, none⟩ (.int .i64 ((rd_T26 l0 (ji42)).f1))).setCell ⟨gb287, 2, none⟩ (.string ((rd_T26 l0 (ji42)).f2))).setCell ⟨gb287, 3, none⟩ (.int .i64 ((rd_T26 l0 (ji42)).f3))) = w54 at n0_ n1_ n2_ n3_ n4_ ⊢
                 have HO_283000 := n0_
                 have BK274 := n1_
                 have BK282 := n2_
                 have BK287 := n3_
                 have HB := n4_
                 clear n0_ n1_ n2_ n3_ n4_
                 have n0_ := Aside0.mk (Kd.R_drew HO_283000.out)
                 have n1_ := Aside0.mk (blk_drew BK274.out)
                 have n2_ := Aside0.mk (blk_drew BK282.out)
                 have n3_ := Aside0.mk (blk_drew BK287.out)
                 have n4_ := Aside0.mk (below_drew1 HB.out)
                 clear HO_283000
                 clear BK274
                 clear BK282
                 clear BK287
                 clear HB
                 have HO_283000 := n0_
                 have BK274 := n1_
                 have BK282 := n2_
                 have BK287 := n3_
                 have HB := n4_
                 clear n0_ n1_ n2_ n3_ n4_
                 refine start_ (n := 12) (S := fun w' => w'.cell? ⟨gb287, 0, none⟩ = some (.int .i64 ((rd_T26 l0 (ji42)).f0)) ∧ w'.cell? ⟨gb287, 1, none⟩ = some (.int .i64 ((rd_T26 l0 (ji42)).f1)) ∧ w'.cell? ⟨gb287, 2, none⟩ = some (.string ((rd_T26 l0 (ji42)).f2)) ∧ w'.cell? ⟨gb287, 3, none⟩ = some (.int .i64 ((rd_T26 l0 (ji42)).f3))) (ds := []) #[false, false, false, false, false, false, false, false, false, false, false, false] (by kernel_rfl) rfl rfl ⟨(blk_cell BK287.out 0).trans rfl, (blk_cell BK287.out 1).trans rfl, (blk_cell BK287.out 2).trans rfl, (blk_cell BK287.out 3).trans rfl⟩ (fun hHeld => ?_); refine with_tabW impl_OpenRing.tab19 impl_OpenRing.bits19 (fun HT_ HW_ => ?_)
                 generalize w54.drew = w55 at HO_283000 BK274 BK282 BK287 HB hHeld ⊢
                 refine takeS 0 69 HT_.out HW_.out hHeld (hr := by rintro w' ⟨s0, s1, s2, s3⟩; go_simp; with_reducible rfl) (h := ?_)
                 refine one_ (i := 1) (N := some 70) #[true, true, false, false, false, false, false, false, false, false, false, false] rfl rfl (one_of HT_.out (by kernel_rfl)) (by decide) (fun K hK => ?_)
                 refine goes_ Tryd.func60 (by kernel_rfl) rfl #[.agg #[.int .i64 ((rd_T26 l0 (ji42)).f0), .int .i64 ((rd_T26 l0 (ji42)).f1), .string ((rd_T26 l0 (ji42)).f2), .int .i64 ((rd_T26 l0 (ji42)).f3)]] (by rfl) rfl rfl (by (try simp only [List.map_toArray, List.map_cons, List.map_nil]); first | done | (simp only [hji42]; rfl) | rfl | (simp only [List.length_drop, List.length_take]; rfl)) ?_
                 with_reducible refine (impl_isIntact.calls kj37 ((rd_T26 l0 (ji42)).f0) ((rd_T26 l0 (ji42)).f1) ((rd_T26 l0 (ji42)).f2) ((rd_T26 l0 (ji42)).f3) true _ ?sideT A45.out).mono ?_
                 case sideT => refine ⟨Ito.tabB hTab_.out ?_⟩; first | exact bs HB | exact st_below | (repeat (first | (with_reducible first | exact HB.out | apply below_alloc | apply pw_below_drewN | apply below_drew1 | refine below_set ?_ (Aside0.out (by assumption))) | exact HB.out))
                 rintro e w56 ⟨rfl, hb⟩
                 refine ⟨_, rfl, ?_⟩
                 have n0_ := Aside0.mk (Kd.R_below (rr HO_283000.out) hb)
                 have n1_ := Aside0.mk (bb BK274 hb)
                 have n2_ := Aside0.mk (bb BK282 hb)
                 have n3_ := Aside0.mk (bb BK287 hb)
                 have n4_ := Aside0.mk (below_step (bs3 HB GE274 GE282 GE287) hb)
                 clear HO_283000
                 clear BK274
                 clear BK282
                 clear BK287
                 clear HB
                 have HO_283000 := n0_
                 have BK274 := n1_
                 have BK282 := n2_
                 have BK287 := n3_
                 have HB := n4_
                 clear n0_ n1_ n2_ n3_ n4_
                 (try clear hb)
                 (try clear hb2)
                 (try clear hk)
                 (try clear hi)
                 refine hK.out _ _ ⟨(blk_cell BK287.out 0).trans rfl, (blk_cell BK287.out 1).trans rfl, (blk_cell BK287.out 2).trans rfl, (blk_cell BK287.out 3).trans rfl⟩ (fun hHeld => ?_)
                 clear hK K
                 refine norm_ (a' := ?_) ?_ ?_
                 rotate_left
                 ·
                  show Act.put _ (some 70) _ = _
                  simp only [Act.put, List.setIfInBounds_toArray, List.set_cons_zero, List.set_cons_succ, i64_w, i32_w]
                  rfl
                 refine pureS 2 71 HT_.out ?_
                 refine pureS 3 72 HT_.out ?_
                 refine pureS 4 73 HT_.out ?_
                 refine pureS 6 75 HT_.out ?_
                 refine pureS 7 76 HT_.out ?_
                 refine pureS 8 77 HT_.out ?_
                 refine pureS 9 78 HT_.out ?_
                 refine takeS 5 74 HT_.out HW_.out hHeld (hr := by rintro w' ⟨s0, s1, s2, s3⟩; go_simp; with_reducible rfl) (h := ?_)
                 refine pureS 10 79 HT_.out ?_
                 refine pureS 11 80 HT_.out ?_
                 refine done_ (done_of HT_.out (by kernel_rfl)) ?_
                 try go_wp2
                 have n0_ := Aside0.mk (Kd.R_drew HO_283000.out)
                 have n1_ := Aside0.mk (blk_drew BK274.out)
                 have n2_ := Aside0.mk (blk_drew BK282.out)
                 have n3_ := Aside0.mk (blk_drew BK287.out)
                 have n4_ := Aside0.mk (below_drew1 HB.out)
                 clear HO_283000
                 clear BK274
                 clear BK282
                 clear BK287
                 clear HB
                 have HO_283000 := n0_
                 have BK274 := n1_
                 have BK282 := n2_
                 have BK287 := n3_
                 have HB := n4_
                 clear n0_ n1_ n2_ n3_ n4_
                 have p49 : 0 ≤ ((ji42) : Int) := of_decide_eq_true (by first | (with_reducible assumption) | assumption)
                 have q49 : ((ji42) : Int) < ((x283000_2.length : Int) : Int) := of_decide_eq_true (by first | (with_reducible assumption) | assumption)
                 obtain ⟨go49, co49, eo49, gb49, gl49, cl49, HG49⟩ := Kd.R_form HO_283000.out (by omega)
                 (first | cases eo49 | (injection eo49 with ea_ en_ ec_; (first | subst ea_ | (injection ea_ with ea_; subst ea_)); subst ec_; clear en_))
                 have GB49 := Aside0.mk gb49
                 have GG49 := Aside0.mk HG49
                 clear gb49 gl49 HG49
                 obtain ⟨ce49, hcl49, hM49, hcc49, hfr49⟩ := Kd.R_elem HO_283000.out z26 ((ji42) : Int) p49 q49
                 obtain rfl := k26_openM hM49
                 have hx49_0 : World.cell? _ ⟨go49, ((ji42) : Int).toNat * 4, none⟩ = some (.int .i64 ((rd_T26 x283000_2 (ji42)).f0)) := hcc49 0 _ rfl
                 have hx49_1 : World.cell? _ ⟨go49, ((ji42) : Int).toNat * 4 + 1, none⟩ = some (.int .i64 ((rd_T26 x283000_2 (ji42)).f1)) := hcc49 1 _ rfl
                 have hx49_2 : World.cell? _ ⟨go49, ((ji42) : Int).toNat * 4 + 2, none⟩ = some (.string ((rd_T26 x283000_2 (ji42)).f2)) := hcc49 2 _ rfl
                 have hx49_3 : World.cell? _ ⟨go49, ((ji42) : Int).toNat * 4 + 3, none⟩ = some (.int .i64 ((rd_T26 x283000_2 (ji42)).f3)) := hcc49 3 _ rfl
                 have hf49_0 : World.frozen? _ ⟨go49, ((ji42) : Int).toNat * 4, none⟩ = false := hfr49 0
                 have hf49_1 : World.frozen? _ ⟨go49, ((ji42) : Int).toNat * 4 + 1, none⟩ = false := hfr49 1
                 have hf49_2 : World.frozen? _ ⟨go49, ((ji42) : Int).toNat * 4 + 2, none⟩ = false := hfr49 2
                 have hf49_3 : World.frozen? _ ⟨go49, ((ji42) : Int).toNat * 4 + 3, none⟩ = false := hfr49 3
                 clear hcl49 hcc49 hfr49 hM49
                 replace p49 := eq_true p49
                 replace q49 := eq_true q49
                 obtain ⟨ce58, hcl58, hM58, hcc58, hfr58⟩ := Kd.R_elem HO_283000.out z26 ((ji42) : Int) (of_decide_eq_true (by first | (with_reducible assumption) | assumption)) (by have h_ : ((ji42) : Int) < ((x283000_2.length : Int) : Int) := of_decide_eq_true (by first | (with_reducible assumption) | assumption); first | exact h_ | (have e_ := (Kd.R_reads' HO_283000.out).1; omega) | simpa using h_)
                 obtain rfl := k26_openM hM58
                 have HP58 := (Kd.R_seg HO_283000.out ((ji42) : Int) (of_decide_eq_true (by first | (with_reducible assumption) | assumption)) (by have h_ : ((ji42) : Int) < ((x283000_2.length : Int) : Int) := of_decide_eq_true (by first | (with_reducible assumption) | assumption); first | exact h_ | (have e_ := (Kd.R_reads' HO_283000.out).1; omega) | simpa using h_) (seg := [.int .i64 ((rd_T26 l0 (ji42)).f0), .int .i64 ((rd_T26 l0 (ji42)).f1), .string ((rd_T26 l0 (ji42)).f2), .int .i64 ((rd_T26 l0 (ji42)).f3)]) (j := 0) hcl58 hcc58 (show 4 ≤ 4 from by decide) (x' := (⟨(rd_T26 l0 (ji42)).f0, (rd_T26 l0 (ji42)).f1, (rd_T26 l0 (ji42)).f2, (rd_T26 l0 (ji42)).f3⟩ : S26)) (k26_mkM _ _ _ (⟨(rd_T26 l0 (ji42)).f0, (rd_T26 l0 (ji42)).f1, (rd_T26 l0 (ji42)).f2, (rd_T26 l0 (ji42)).f3⟩ : S26) ) (fun _ hk => hk)).1
                 rw [← Ny289.out] at HP58
                 have HQ58 := Aside0.mk HP58
                 clear hcl58 hcc58 hfr58 hM58 HP58
                 refine start_ (n := 8) (S := fun w' => w'.cell? ⟨gb282, 0, none⟩ = some (.slice (some ⟨go49, 0, none⟩) x283000_2.length co49) ∧ w'.cell? ⟨gb282, 1, none⟩ = some (.int .i64 t278) ∧ w'.cell? ⟨gb282, 2, none⟩ = some (.int .i64 t279) ∧ w'.cell? ⟨gb282, 3, none⟩ = some (.int .i64 t280) ∧ w'.cell? ⟨gb287, 0, none⟩ = some (.int .i64 ((rd_T26 l0 (ji42)).f0)) ∧ w'.cell? ⟨gb287, 1, none⟩ = some (.int .i64 ((rd_T26 l0 (ji42)).f1)) ∧ w'.cell? ⟨gb287, 2, none⟩ = some (.string ((rd_T26 l0 (ji42)).f2)) ∧ w'.cell? ⟨gb287, 3, none⟩ = some (.int .i64 ((rd_T26 l0 (ji42)).f3))) (ds := [7]) #[false, false, false, false, false, false, false, false] (by kernel_rfl) rfl rfl ⟨(blk_cell BK282.out 0).trans rfl, (blk_cell BK282.out 1).trans rfl, (blk_cell BK282.out 2).trans rfl, (blk_cell BK282.out 3).trans rfl, (blk_cell BK287.out 0).trans rfl, (blk_cell BK287.out 1).trans rfl, (blk_cell BK287.out 2).trans rfl, (blk_cell BK287.out 3).trans rfl⟩ (fun hHeld => ?_); refine with_tabW impl_OpenRing.tab20 impl_OpenRing.bits20 (fun HT_ HW_ => ?_)
                 generalize w56.drew = w57 at HO_283000 BK274 BK282 BK287 HB GG49 HQ58 hf49_0 hf49_1 hf49_2 hf49_3 hx49_0 hx49_1 hx49_2 hx49_3 hHeld ⊢
                 refine pureS 0 81 HT_.out ?_
                 refine pureS 2 83 HT_.out ?_
                 refine pureS 3 84 HT_.out ?_
                 refine pureS 4 85 HT_.out ?_
                 refine takeS 1 82 HT_.out HW_.out hHeld (hr := by rintro w' ⟨s0, s1, s2, s3, s4, s5, s6, s7⟩; go_simp; with_reducible rfl) (h := ?_)
                 refine takeS 5 86 HT_.out HW_.out hHeld (hr := by rintro w' ⟨s0, s1, s2, s3, s4, s5, s6, s7⟩; go_simp; with_reducible rfl) (h := ?_)
                 refine pureS 6 87 HT_.out ?_
                 refine last_ (i := 7) (N := none) #[true, true, true, true, true, true, true, true] rfl rfl (one_of HT_.out (by kernel_rfl)) (by decide) (fun K hK => ?_)
                 refine skip_ (w1 := ?_) (by rfl) rfl ?_ ?_
                 rotate_left
                 ·
                  go_simp
                  rfl
                 refine hK.out _ _ ?_
                 clear hK K
                 refine done_ (done_of HT_.out (by kernel_rfl)) ?_
                 try go_wp2
                 go_roundg kj37
                 case measure => have := HK1.out; have := HK2.out; have := HJ37.out; omega
                 case rel => exact ⟨(x11_2), (wrap64 (x11_2 - 1)), (y289), (.slice (some ⟨go49, 0, none⟩) x283000_2.length co49), (by first | rfl | (simp; done) | (simp [*]; done)), (by first | rfl | (simp; done) | (simp [*]; done)), H', ⟨by have := HK1.out; have := HK2.out; have := HJ37.out; omega⟩, ⟨by (with_reducible repeat (first | apply Kd.R_alloc | apply Kd.R_drewN | apply Kd.R_drew)); exact Kd.R_mono HQ58.out (fun _ hk => trivial)⟩, ⟨by (with_reducible repeat (first | refine blk_drewN ?_ _ | refine blk_drew ?_ | refine blk_alloc ?_ _)); refine blk_far ?_ (by have h_ := Kd.R_ne HO_283000.out BK274.out (by decide); intro e_; exact h_ (by rw [e_]; rfl)) _; (with_reducible repeat (first | refine blk_drewN ?_ _ | refine blk_drew ?_ | refine blk_alloc ?_ _)); refine blk_far ?_ (by have h_ := Kd.R_ne HO_283000.out BK274.out (by decide); intro e_; exact h_ (by rw [e_]; rfl)) _; (with_reducible repeat (first | refine blk_drewN ?_ _ | refine blk_drew ?_ | refine blk_alloc ?_ _)); refine blk_far ?_ (by have h_ := Kd.R_ne HO_283000.out BK274.out (by decide); intro e_; exact h_ (by rw [e_]; rfl)) _; (with_reducible repeat (first | refine blk_drewN ?_ _ | refine blk_drew ?_ | refine blk_alloc ?_ _)); refine blk_far ?_ (by have h_ := Kd.R_ne HO_283000.out BK274.out (by decide); intro e_; exact h_ (by rw [e_]; rfl)) _; (with_reducible repeat (first | refine blk_drewN ?_ _ | refine blk_drew ?_ | refine blk_alloc ?_ _)); exact BK274.out⟩, ⟨by (with_reducible repeat (first | refine blk_drewN ?_ _ | refine blk_drew ?_ | refine blk_alloc ?_ _)); refine blk_far ?_ (by have h_ := Kd.R_ne HO_283000.out BK282.out (by decide); intro e_; exact h_ (by rw [e_]; rfl)) _; (with_reducible repeat (first | refine blk_drewN ?_ _ | refine blk_drew ?_ | refine blk_alloc ?_ _)); refine blk_far ?_ (by have h_ := Kd.R_ne HO_283000.out BK282.out (by decide); intro e_; exact h_ (by rw [e_]; rfl)) _; (with_reducible repeat (first | refine blk_drewN ?_ _ | refine blk_drew ?_ | refine blk_alloc ?_ _)); refine blk_far ?_ (by have h_ := Kd.R_ne HO_283000.out BK282.out (by decide); intro e_; exact h_ (by rw [e_]; rfl)) _; (with_reducible repeat (first | refine blk_drewN ?_ _ | refine blk_drew ?_ | refine blk_alloc ?_ _)); refine blk_far ?_ (by have h_ := Kd.R_ne HO_283000.out BK282.out (by decide); intro e_; exact h_ (by rw [e_]; rfl)) _; (with_reducible repeat (first | refine blk_drewN ?_ _ | refine blk_drew ?_ | refine blk_alloc ?_ _)); exact BK282.out⟩, ⟨by repeat (first | (with_reducible first | exact HB.out | apply below_alloc | apply pw_below_drewN | apply below_drew1 | refine below_set ?_ GB49.out | refine below_set ?_ GB49.out | refine below_set ?_ GB49.out | refine below_set ?_ GB49.out | refine below_set ?_ GE274.out | refine below_set ?_ GE282.out | refine below_set ?_ GE287.out) | exact HB.out)⟩⟩
                ·
                 rw [if_neg c48] at H
                 exact absurd H (by simp)
               ·
                rw [if_neg c47] at H
                have c47b0 : (((rd_T26 l0 (ji42)).f0) == (wrap64 ((wrap64 (Int.tdiv x11_2 (l0.length : Int))) + 1))) = false := beq_eq_false_iff_ne.mpr c47
                have c47b1 : (((rd_T26 l0 (ji42)).f0) != (wrap64 ((wrap64 (Int.tdiv x11_2 (l0.length : Int))) + 1))) = true := bne_iff_ne.mpr c47
                obtain ⟨ji59, hji59⟩ : ∃ j_ : Int, (Int.tmod x7_1 (l0.length : Int)) = j_ := ⟨_, rfl⟩
                replace H : (if 0 ≤ (ji59) then (if (ji59) < (l0.length : Int) then ((impl_GoodRing.f kj37 x283000_2 (wrap64 (x7_1 + 1)) (wrap64 ((wrap64 (Int.tdiv (wrap64 (x7_1 + 1)) (l0.length : Int))) + 1)) (mx ((rd_T26 l0 (ji59)).f1) x10_2)).bind fun t291 => (if t291 = true then (some (x283000_2, wrap64 (x7_1 + 1), wrap64 ((wrap64 (Int.tdiv (wrap64 (x7_1 + 1)) (l0.length : Int))) + 1), mx ((rd_T26 l0 (ji59)).f1) x10_2, true)) else (some (([] : List (S26)), 0, 0, 0, false)))) else (none)) else (none)) = some (r1, r2, r3, r4, r5) := by first | (rw [hji59] at H; exact H) | (simp only [hji59] at H ⊢; exact H)
                (try rw [hji59] at A45)
                by_cases c60 : 0 ≤ (ji59)
                ·
                 rw [if_pos c60] at H
                 have c60b0 : decide (0 ≤ (ji59)) = true := decide_eq_true c60
                 clear c60
                 by_cases c61 : (ji59) < (l0.length : Int)
                 ·
                  rw [if_pos c61] at H
                  have c61b0 : decide ((ji59) < (l0.length : Int)) = true := decide_eq_true c61
                  clear c61
                  obtain ⟨ji62, hji62⟩ : ∃ j_ : Int, (mx ((rd_T26 l0 (ji59)).f1) x10_2) = j_ := ⟨_, rfl⟩
                  replace H : ((impl_GoodRing.f kj37 x283000_2 (wrap64 (x7_1 + 1)) (wrap64 ((wrap64 (Int.tdiv (wrap64 (x7_1 + 1)) (l0.length : Int))) + 1)) (ji62)).bind fun t291 => (if t291 = true then (some (x283000_2, wrap64 (x7_1 + 1), wrap64 ((wrap64 (Int.tdiv (wrap64 (x7_1 + 1)) (l0.length : Int))) + 1), ji62, true)) else (some (([] : List (S26)), 0, 0, 0, false)))) = some (r1, r2, r3, r4, r5) := by first | (rw [hji62] at H; exact H) | (simp only [hji62] at H ⊢; exact H)
                  (try rw [hji62] at A45)
                  have hji62_ : (if ((rd_T26 l0 (ji59)).f1) < x10_2 then x10_2 else ((rd_T26 l0 (ji59)).f1)) = ji62 := hji62
                  replace H := Option.bind_eq_some_iff.mp H
                  obtain ⟨t291, A630, H⟩ := H
                  replace H : (if t291 = true then (some (x283000_2, wrap64 (x7_1 + 1), wrap64 ((wrap64 (Int.tdiv (wrap64 (x7_1 + 1)) (l0.length : Int))) + 1), ji62, true)) else (some (([] : List (S26)), 0, 0, 0, false))) = some (r1, r2, r3, r4, r5) := H
                  have A63 := Aside0.mk A630
                  clear A630
                  by_cases c64 : t291 = true
                  ·
                   subst c64
                   rw [if_pos rfl] at H
                   simp only [Option.some.injEq, Prod.mk.injEq] at H
                   obtain ⟨rfl, rfl, rfl, rfl, rfl⟩ := H
                   have p286 : 0 ≤ ((ji42) : Int) := of_decide_eq_true (by first | (with_reducible assumption) | assumption)
                   have q286 : (ji42) < (l0.length : Int) := of_decide_eq_true (by first | (with_reducible assumption) | assumption)
                   obtain ⟨ad286, e286, hx286_0, hx286_1, hx286_2, hx286_3⟩ := at_T26 HR0.out (ji42) p286 q286
                   cases e286
                   replace hx286_0 := (HB.out.cell (World.block_lt_of_cell? w _ hx286_0)).trans hx286_0
                   replace hx286_1 := (HB.out.cell (World.block_lt_of_cell? w _ hx286_1)).trans hx286_1
                   replace hx286_2 := (HB.out.cell (World.block_lt_of_cell? w _ hx286_2)).trans hx286_2
                   replace hx286_3 := (HB.out.cell (World.block_lt_of_cell? w _ hx286_3)).trans hx286_3
                   replace p286 := eq_true p286
                   replace q286 := eq_true q286
                   try go_wp2_with (first | ((with_reducible refine gate_dst (N := 12) rfl ?_); refine box_event ?hg (N := 12) ?hd (cs := #[.int .i64 0, .int .i64 0, .string (⟨#[]⟩ : ByteArray), .int .i64 0]) (t := 26) ?hr ?_; (case hd => rfl); (case hg => rfl); (case hr => first | (go_simp; done) | (go_simp; rfl)); intro gb287 hg w65 hbox hb; replace HO_283000 := Aside0.mk (Kd.R_below (Kd.R_elderB (rr HO_283000.out) gb287 (Nat.le_of_eq hg.symm)) hb); have BK287 := Aside0.mk (hbox); have GW287 := Aside0.mk ((by rw [hg]; exact (below_size (bs2 HB GE274 GE282)) : w.heap.size ≤ gb287)); have GE287 := Aside0.mk ((by rw [hg]; exact (below_size (bs2 HB GE274 GE282)) : w.heap.size ≤ gb287)); replace HB := Aside0.mk (below_step (bs2 HB GE274 GE282) hb); have NB274_287 := Aside0.mk ((bn BK274 hg : gb274 ≠ gb287)); have NB287_274 := Aside0.mk ((bm BK274 hg : gb287 ≠ gb274)); replace BK274 := nb BK274 hb; have NB282_287 := Aside0.mk ((bn BK282 hg : gb282 ≠ gb287)); have NB287_282 := Aside0.mk ((bm BK282 hg : gb287 ≠ gb282)); replace BK282 := nb BK282 hb; clear hb hbox hg; have hnb66 := NB287_274.out; have hnc66 := NB274_287.out; have hnb67 := NB287_282.out; have hnc67 := NB282_287.out; obtain ⟨hcz68_0, hcz68_1, hcz68_2, hcz68_3⟩ := cz4 BK287; obtain ⟨hfz68_0, hfz68_1, hfz68_2, hfz68_3⟩ := fz4 BK287))
                   have n0_ : Aside0 (Kd.R k26 26 ((((w65.setCell ⟨gb287, 0, none⟩ (.int .i64 ((rd_T26 l0 (ji42)).f0))).setCell ⟨gb287, 1, none⟩ (.int .i64 ((rd_T26 l0 (ji42)).f1))).setCell ⟨gb287, 2, none⟩ (.string ((rd_T26 l0 (ji42)).f2))).setCell ⟨gb287, 3, none⟩ (.int .i64 ((rd_T26 l0 (ji42)).f3))) w.heap.size (fun k_ => k_ ≠ gb287) u283000 x283000_2) := ⟨by (with_reducible repeat (first | apply Kd.R_alloc | apply Kd.R_drewN | apply Kd.R_drew)); exact Kd.R_mono (Kd.R_far (p := ⟨gb287, 3, none⟩) (Kd.R_far (p := ⟨gb287, 2, none⟩) (Kd.R_far (p := ⟨gb287, 1, none⟩) (Kd.R_far (p := ⟨gb287, 0, none⟩) (Kd.R_mono HO_283000.out (fun k_ hk => (⟨hk, hk.2⟩ : _ ∧ k_ ≠ gb287))) (fun _ hk => hk.2) (.int .i64 ((rd_T26 l0 (ji42)).f0))) (fun _ hk => hk.2) (.int .i64 ((rd_T26 l0 (ji42)).f1))) (fun _ hk => hk.2) (.string ((rd_T26 l0 (ji42)).f2))) (fun _ hk => hk.2) (.int .i64 ((rd_T26 l0 (ji42)).f3))) (fun _ hk => hk.1.2)⟩
                   have n1_ : Aside0 (((((w65.setCell ⟨gb287, 0, none⟩ (.int .i64 ((rd_T26 l0 (ji42)).f0))).setCell ⟨gb287, 1, none⟩ (.int .i64 ((rd_T26 l0 (ji42)).f1))).setCell ⟨gb287, 2, none⟩ (.string ((rd_T26 l0 (ji42)).f2))).setCell ⟨gb287, 3, none⟩ (.int .i64 ((rd_T26 l0 (ji42)).f3))).heap[gb274]? = some (.cells #[.slice none 0 0, .int .i64 0, .int .i64 0, .int .i64 0] 36 (0, 0))) := ⟨bf BK274 NB274_287⟩
                   have n2_ : Aside0 (((((w65.setCell ⟨gb287, 0, none⟩ (.int .i64 ((rd_T26 l0 (ji42)).f0))).setCell ⟨gb287, 1, none⟩ (.int .i64 ((rd_T26 l0 (ji42)).f1))).setCell ⟨gb287, 2, none⟩ (.string ((rd_T26 l0 (ji42)).f2))).setCell ⟨gb287, 3, none⟩ (.int .i64 ((rd_T26 l0 (ji42)).f3))).heap[gb282]? = some (.cells #[u283000, .int .i64 t278, .int .i64 t279, .int .i64 t280] 36 (0, 0))) := ⟨bf BK282 NB282_287⟩
                   have n3_ : Aside0 (((((w65.setCell ⟨gb287, 0, none⟩ (.int .i64 ((rd_T26 l0 (ji42)).f0))).setCell ⟨gb287, 1, none⟩ (.int .i64 ((rd_T26 l0 (ji42)).f1))).setCell ⟨gb287, 2, none⟩ (.string ((rd_T26 l0 (ji42)).f2))).setCell ⟨gb287, 3, none⟩ (.int .i64 ((rd_T26 l0 (ji42)).f3))).heap[gb287]? = some (.cells #[.int .i64 ((rd_T26 l0 (ji42)).f0), .int .i64 ((rd_T26 l0 (ji42)).f1), .string ((rd_T26 l0 (ji42)).f2), .int .i64 ((rd_T26 l0 (ji42)).f3)] 26 (0, 0))) := ⟨by (with_reducible repeat (first | refine blk_drewN ?_ _ | refine blk_drew ?_ | refine blk_alloc ?_ _)); refine blk_put (cs := #[.int .i64 ((rd_T26 l0 (ji42)).f0), .int .i64 ((rd_T26 l0 (ji42)).f1), .string ((rd_T26 l0 (ji42)).f2), .int .i64 0]) ?_ 3 _ rfl; (with_reducible repeat (first | refine blk_drewN ?_ _ | refine blk_drew ?_ | refine blk_alloc ?_ _)); refine blk_put (cs := #[.int .i64 ((rd_T26 l0 (ji42)).f0), .int .i64 ((rd_T26 l0 (ji42)).f1), .string (⟨#[]⟩ : ByteArray), .int .i64 0]) ?_ 2 _ rfl; (with_reducible repeat (first | refine blk_drewN ?_ _ | refine blk_drew ?_ | refine blk_alloc ?_ _)); refine blk_put (cs := #[.int .i64 ((rd_T26 l0 (ji42)).f0), .int .i64 0, .string (⟨#[]⟩ : ByteArray), .int .i64 0]) ?_ 1 _ rfl; (with_reducible repeat (first | refine blk_drewN ?_ _ | refine blk_drew ?_ | refine blk_alloc ?_ _)); refine blk_put (cs := #[.int .i64 0, .int .i64 0, .string (⟨#[]⟩ : ByteArray), .int .i64 0]) ?_ 0 _ rfl; (with_reducible repeat (first | refine blk_drewN ?_ _ | refine blk_drew ?_ | refine blk_alloc ?_ _)); exact BK287.out⟩
                   have n4_ : Aside0 (Below w.heap.size w ((((w65.setCell ⟨gb287, 0, none⟩ (.int .i64 ((rd_T26 l0 (ji42)).f0))).setCell ⟨gb287, 1, none⟩ (.int .i64 ((rd_T26 l0 (ji42)).f1))).setCell ⟨gb287, 2, none⟩ (.string ((rd_T26 l0 (ji42)).f2))).setCell ⟨gb287, 3, none⟩ (.int .i64 ((rd_T26 l0 (ji42)).f3)))) := ⟨bs3 HB GE274 GE282 GE287⟩
                   (try clear HO_283000)
                   (try clear BK274)
                   (try clear BK282)
                   (try clear BK287)
                   (try clear HB)
                   generalize ((((w65.setCell ⟨gb287, 0, none⟩ (.int .i64 ((rd_T26 l0 (ji42)).f0))).setCell ⟨gb287, 1, none⟩ (.int .i64 ((rd_T26 l0 (ji42)).f1))).setCell ⟨gb287, 2, none⟩ (.string ((rd_T26 l0 (ji42)).f2))).setCell ⟨gb287, 3, none⟩ (.int .i64 ((rd_T26 l0 (ji42)).f3))) = w69 at n0_ n1_ n2_ n3_ n4_ ⊢
                   have HO_283000 := n0_
                   have BK274 := n1_
                   have BK282 := n2_
                   have BK287 := n3_
                   have HB := n4_
                   clear n0_ n1_ n2_ n3_ n4_
                   have n0_ := Aside0.mk (Kd.R_drew HO_283000.out)
                   have n1_ := Aside0.mk (blk_drew BK274.out)
                   have n2_ := Aside0.mk (blk_drew BK282.out)
                   have n3_ := Aside0.mk (blk_drew BK287.out)
                   have n4_ := Aside0.mk (below_drew1 HB.out)
                   clear HO_283000
                   clear BK274
                   clear BK282
                   clear BK287
                   clear HB
                   have HO_283000 := n0_
                   have BK274 := n1_
                   have BK282 := n2_
                   have BK287 := n3_
                   have HB := n4_
                   clear n0_ n1_ n2_ n3_ n4_
                   refine start_ (n := 12) (S := fun w' => w'.cell? ⟨gb287, 0, none⟩ = some (.int .i64 ((rd_T26 l0 (ji42)).f0)) ∧ w'.cell? ⟨gb287, 1, none⟩ = some (.int .i64 ((rd_T26 l0 (ji42)).f1)) ∧ w'.cell? ⟨gb287, 2, none⟩ = some (.string ((rd_T26 l0 (ji42)).f2)) ∧ w'.cell? ⟨gb287, 3, none⟩ = some (.int .i64 ((rd_T26 l0 (ji42)).f3))) (ds := []) #[false, false, false, false, false, false, false, false, false, false, false, false] (by kernel_rfl) rfl rfl ⟨(blk_cell BK287.out 0).trans rfl, (blk_cell BK287.out 1).trans rfl, (blk_cell BK287.out 2).trans rfl, (blk_cell BK287.out 3).trans rfl⟩ (fun hHeld => ?_); refine with_tabW impl_OpenRing.tab19 impl_OpenRing.bits19 (fun HT_ HW_ => ?_)
                   generalize w69.drew = w70 at HO_283000 BK274 BK282 BK287 HB hHeld ⊢
                   refine takeS 0 69 HT_.out HW_.out hHeld (hr := by rintro w' ⟨s0, s1, s2, s3⟩; go_simp; with_reducible rfl) (h := ?_)
                   refine one_ (i := 1) (N := some 70) #[true, true, false, false, false, false, false, false, false, false, false, false] rfl rfl (one_of HT_.out (by kernel_rfl)) (by decide) (fun K hK => ?_)
                   refine goes_ Tryd.func60 (by kernel_rfl) rfl #[.agg #[.int .i64 ((rd_T26 l0 (ji42)).f0), .int .i64 ((rd_T26 l0 (ji42)).f1), .string ((rd_T26 l0 (ji42)).f2), .int .i64 ((rd_T26 l0 (ji42)).f3)]] (by rfl) rfl rfl (by (try simp only [List.map_toArray, List.map_cons, List.map_nil]); first | done | (simp only [hji42]; rfl) | rfl | (simp only [List.length_drop, List.length_take]; rfl)) ?_
                   with_reducible refine (impl_isIntact.calls kj37 ((rd_T26 l0 (ji42)).f0) ((rd_T26 l0 (ji42)).f1) ((rd_T26 l0 (ji42)).f2) ((rd_T26 l0 (ji42)).f3) true _ ?sideT A45.out).mono ?_
                   case sideT => refine ⟨Ito.tabB hTab_.out ?_⟩; first | exact bs HB | exact st_below | (repeat (first | (with_reducible first | exact HB.out | apply below_alloc | apply pw_below_drewN | apply below_drew1 | refine below_set ?_ (Aside0.out (by assumption))) | exact HB.out))
                   rintro e w71 ⟨rfl, hb⟩
                   refine ⟨_, rfl, ?_⟩
                   have n0_ := Aside0.mk (Kd.R_below (rr HO_283000.out) hb)
                   have n1_ := Aside0.mk (bb BK274 hb)
                   have n2_ := Aside0.mk (bb BK282 hb)
                   have n3_ := Aside0.mk (bb BK287 hb)
                   have n4_ := Aside0.mk (below_step (bs3 HB GE274 GE282 GE287) hb)
                   clear HO_283000
                   clear BK274
                   clear BK282
                   clear BK287
                   clear HB
                   have HO_283000 := n0_
                   have BK274 := n1_
                   have BK282 := n2_
                   have BK287 := n3_
                   have HB := n4_
                   clear n0_ n1_ n2_ n3_ n4_
                   (try clear hb)
                   (try clear hb2)
                   (try clear hk)
                   (try clear hi)
                   refine hK.out _ _ ⟨(blk_cell BK287.out 0).trans rfl, (blk_cell BK287.out 1).trans rfl, (blk_cell BK287.out 2).trans rfl, (blk_cell BK287.out 3).trans rfl⟩ (fun hHeld => ?_)
                   clear hK K
                   refine norm_ (a' := ?_) ?_ ?_
                   rotate_left
                   ·
                    show Act.put _ (some 70) _ = _
                    simp only [Act.put, List.setIfInBounds_toArray, List.set_cons_zero, List.set_cons_succ, i64_w, i32_w]
                    rfl
                   refine pureS 2 71 HT_.out ?_
                   refine pureS 3 72 HT_.out ?_
                   refine pureS 4 73 HT_.out ?_
                   refine pureS 6 75 HT_.out ?_
                   refine pureS 7 76 HT_.out ?_
                   refine pureS 8 77 HT_.out ?_
                   refine pureS 9 78 HT_.out ?_
                   refine takeS 5 74 HT_.out HW_.out hHeld (hr := by rintro w' ⟨s0, s1, s2, s3⟩; go_simp; with_reducible rfl) (h := ?_)
                   refine pureS 10 79 HT_.out ?_
                   refine pureS 11 80 HT_.out ?_
                   refine done_ (done_of HT_.out (by kernel_rfl)) ?_
                   have hnb72 := NB282_274.out
                   have hnc72 := NB274_282.out
                   obtain ⟨hcz73_0, hcz73_1, hcz73_2, hcz73_3⟩ := cz4 BK282
                   obtain ⟨hfz73_0, hfz73_1, hfz73_2, hfz73_3⟩ := fz4 BK282
                   have p290 : 0 ≤ ((ji59) : Int) := of_decide_eq_true (by first | (with_reducible assumption) | assumption)
                   have q290 : (ji59) < (l0.length : Int) := of_decide_eq_true (by first | (with_reducible assumption) | assumption)
                   obtain ⟨ad290, e290, hx290_0, hx290_1, hx290_2, hx290_3⟩ := at_T26 HR0.out (ji59) p290 q290
                   obtain rfl : ad286 = ad290 := (by injection e290)
                   have hn290_0 : ad286.block ≠ gb282 := Nat.ne_of_lt (Nat.lt_of_lt_of_le (by have := World.block_lt_of_cell? _ _ hx290_0; first | rwa [add_block] at this | exact this) GW282.out)
                   have hn290_1 : ad286.block ≠ gb282 := Nat.ne_of_lt (Nat.lt_of_lt_of_le (by have := World.block_lt_of_cell? _ _ hx290_0; first | rwa [add_block] at this | exact this) GW282.out)
                   replace hx290_0 := (HB.out.cell (World.block_lt_of_cell? w _ hx290_0)).trans hx290_0
                   replace hx290_1 := (HB.out.cell (World.block_lt_of_cell? w _ hx290_1)).trans hx290_1
                   replace hx290_2 := (HB.out.cell (World.block_lt_of_cell? w _ hx290_2)).trans hx290_2
                   replace hx290_3 := (HB.out.cell (World.block_lt_of_cell? w _ hx290_3)).trans hx290_3
                   replace hx290_0 := (cell_far (p := ⟨gb282, 1, none⟩) (by first | (rw [add_block]; exact hn290_0) | (show (Addr.add _ _).block ≠ _; rw [add_block]; exact hn290_0) | exact hn290_0) (.int .i64 (wrap64 (x7_1 + 1)))).trans hx290_0
                   replace hx290_1 := (cell_far (p := ⟨gb282, 1, none⟩) (by first | (rw [add_block]; exact hn290_0) | (show (Addr.add _ _).block ≠ _; rw [add_block]; exact hn290_0) | exact hn290_0) (.int .i64 (wrap64 (x7_1 + 1)))).trans hx290_1
                   replace hx290_2 := (cell_far (p := ⟨gb282, 1, none⟩) (by first | (rw [add_block]; exact hn290_0) | (show (Addr.add _ _).block ≠ _; rw [add_block]; exact hn290_0) | exact hn290_0) (.int .i64 (wrap64 (x7_1 + 1)))).trans hx290_2
                   replace hx290_3 := (cell_far (p := ⟨gb282, 1, none⟩) (by first | (rw [add_block]; exact hn290_0) | (show (Addr.add _ _).block ≠ _; rw [add_block]; exact hn290_0) | exact hn290_0) (.int .i64 (wrap64 (x7_1 + 1)))).trans hx290_3
                   replace hx290_0 := (cell_far (p := ⟨gb282, 2, none⟩) (by first | (rw [add_block]; exact hn290_1) | (show (Addr.add _ _).block ≠ _; rw [add_block]; exact hn290_1) | exact hn290_1) (.int .i64 (wrap64 ((wrap64 (Int.tdiv (wrap64 (x7_1 + 1)) (l0.length : Int))) + 1)))).trans hx290_0
                   replace hx290_1 := (cell_far (p := ⟨gb282, 2, none⟩) (by first | (rw [add_block]; exact hn290_1) | (show (Addr.add _ _).block ≠ _; rw [add_block]; exact hn290_1) | exact hn290_1) (.int .i64 (wrap64 ((wrap64 (Int.tdiv (wrap64 (x7_1 + 1)) (l0.length : Int))) + 1)))).trans hx290_1
                   replace hx290_2 := (cell_far (p := ⟨gb282, 2, none⟩) (by first | (rw [add_block]; exact hn290_1) | (show (Addr.add _ _).block ≠ _; rw [add_block]; exact hn290_1) | exact hn290_1) (.int .i64 (wrap64 ((wrap64 (Int.tdiv (wrap64 (x7_1 + 1)) (l0.length : Int))) + 1)))).trans hx290_2
                   replace hx290_3 := (cell_far (p := ⟨gb282, 2, none⟩) (by first | (rw [add_block]; exact hn290_1) | (show (Addr.add _ _).block ≠ _; rw [add_block]; exact hn290_1) | exact hn290_1) (.int .i64 (wrap64 ((wrap64 (Int.tdiv (wrap64 (x7_1 + 1)) (l0.length : Int))) + 1)))).trans hx290_3
                   clear hn290_0
                   clear hn290_1
                   replace p290 := eq_true p290
                   replace q290 := eq_true q290
                   obtain ⟨Ao74, co74, eo74⟩ := Kd.R_slice HO_283000.out
                   subst eo74
                   try go_wp2_with (first | ((with_reducible refine gate_callee (f := 20) rfl ?_); refine goesL_ (some 109) rfl rfl Tryd.func20 (by kernel_rfl) rfl #[.agg #[.slice Ao74 x283000_2.length co74, .int .i64 (wrap64 (x7_1 + 1)), .int .i64 (wrap64 ((wrap64 (Int.tdiv (wrap64 (x7_1 + 1)) (l0.length : Int))) + 1)), .int .i64 ji62]] rfl (by (try simp only [List.map_toArray, List.map_cons, List.map_nil]); first | done | (simp only [hji62]; rfl) | rfl | (simp only [List.length_drop, List.length_take]; rfl)) ?_; (with_reducible refine (impl_GoodRing.calls kj37 _ _ x283000_2 (wrap64 (x7_1 + 1)) (wrap64 ((wrap64 (Int.tdiv (wrap64 (x7_1 + 1)) (l0.length : Int))) + 1)) ji62 true _ ?sideT ?side1 ?side2 A63.out).mono ?_); (case sideT => refine ⟨Ito.tabB hTab_.out ?_⟩; first | exact bs HB | exact st_below | (repeat (first | (with_reducible first | exact HB.out | apply below_alloc | apply pw_below_drewN | apply below_drew1 | refine below_set ?_ (Aside0.out (by assumption))) | exact HB.out))); (case side1 => refine (Kd.R_reads' (e := 26) (base := w.heap.size) (ok := fun k_ => k_ ≠ gb287) (n := x283000_2.length) (c := co74) ?_).2.2; exact (by (with_reducible repeat (first | apply Kd.R_alloc | apply Kd.R_drewN | apply Kd.R_drew)); exact (Kd.R_mono (Kd.R_far (p := ⟨gb282, 3, none⟩) (Kd.R_far (p := ⟨gb282, 2, none⟩) (Kd.R_far (p := ⟨gb282, 1, none⟩) (Kd.R_types HO_283000.out BK282.out (by decide)) (fun _ hk => hk.2) (.int .i64 (wrap64 (x7_1 + 1)))) (fun _ hk => hk.2) (.int .i64 (wrap64 ((wrap64 (Int.tdiv (wrap64 (x7_1 + 1)) (l0.length : Int))) + 1)))) (fun _ hk => hk.2) (.int .i64 ji62)) (fun _ h_ => h_.1)))); (case side2 => exact (Kd.R_reads' HO_283000.out).2.1); rintro e w75 ⟨rfl, hb⟩; refine ⟨_, rfl, ?_⟩; replace HO_283000 := Aside0.mk (Kd.R_below (by (with_reducible repeat (first | apply Kd.R_alloc | apply Kd.R_drewN | apply Kd.R_drew)); exact (Kd.R_mono (Kd.R_far (p := ⟨gb282, 3, none⟩) (Kd.R_far (p := ⟨gb282, 2, none⟩) (Kd.R_far (p := ⟨gb282, 1, none⟩) (Kd.R_types HO_283000.out BK282.out (by decide)) (fun _ hk => hk.2) (.int .i64 (wrap64 (x7_1 + 1)))) (fun _ hk => hk.2) (.int .i64 (wrap64 ((wrap64 (Int.tdiv (wrap64 (x7_1 + 1)) (l0.length : Int))) + 1)))) (fun _ hk => hk.2) (.int .i64 ji62)) (fun _ h_ => h_.1))) hb); replace BK274 := Aside0.mk (blk_below (bf BK274 NB274_282) hb); replace BK282 := Aside0.mk (blk_below (g := gb282) (o := .cells #[.slice Ao74 x283000_2.length co74, .int .i64 (wrap64 (x7_1 + 1)), .int .i64 (wrap64 ((wrap64 (Int.tdiv (wrap64 (x7_1 + 1)) (l0.length : Int))) + 1)), .int .i64 ji62] 36 (0, 0)) (by (with_reducible repeat (first | refine blk_drewN ?_ _ | refine blk_drew ?_ | refine blk_alloc ?_ _)); refine blk_put (cs := #[.slice Ao74 x283000_2.length co74, .int .i64 (wrap64 (x7_1 + 1)), .int .i64 (wrap64 ((wrap64 (Int.tdiv (wrap64 (x7_1 + 1)) (l0.length : Int))) + 1)), .int .i64 t280]) ?_ 3 _ rfl; (with_reducible repeat (first | refine blk_drewN ?_ _ | refine blk_drew ?_ | refine blk_alloc ?_ _)); refine blk_put (cs := #[.slice Ao74 x283000_2.length co74, .int .i64 (wrap64 (x7_1 + 1)), .int .i64 t279, .int .i64 t280]) ?_ 2 _ rfl; (with_reducible repeat (first | refine blk_drewN ?_ _ | refine blk_drew ?_ | refine blk_alloc ?_ _)); refine blk_put (cs := #[.slice Ao74 x283000_2.length co74, .int .i64 t278, .int .i64 t279, .int .i64 t280]) ?_ 1 _ rfl; (with_reducible repeat (first | refine blk_drewN ?_ _ | refine blk_drew ?_ | refine blk_alloc ?_ _)); exact BK282.out) hb); replace BK287 := Aside0.mk (blk_below (bf BK287 NB287_282) hb); replace HB := Aside0.mk (below_step (bs3 HB GE274 GE282 GE287) hb); (try clear hb); (try clear hb2); (try clear hk); (try clear hi); obtain ⟨hcz76_0, hcz76_1, hcz76_2, hcz76_3⟩ := cz4 BK282; obtain ⟨hfz76_0, hfz76_1, hfz76_2, hfz76_3⟩ := fz4 BK282; obtain ⟨hcz77_0, hcz77_1, hcz77_2, hcz77_3⟩ := cz4 BK274; obtain ⟨hfz77_0, hfz77_1, hfz77_2, hfz77_3⟩ := fz4 BK274))
                   refine bodyPost_ret (results_ct rfl _ _ gb274 36 #[.slice Ao74 x283000_2.length co74, .int .i64 (wrap64 (x7_1 + 1)), .int .i64 (wrap64 ((wrap64 (Int.tdiv (wrap64 (x7_1 + 1)) (l0.length : Int))) + 1)), .int .i64 ji62] (0, 0) _ rfl (by (with_reducible repeat (first | refine blk_drewN ?_ _ | refine blk_drew ?_ | refine blk_alloc ?_ _)); refine blk_put (cs := #[.slice Ao74 x283000_2.length co74, .int .i64 (wrap64 (x7_1 + 1)), .int .i64 (wrap64 ((wrap64 (Int.tdiv (wrap64 (x7_1 + 1)) (l0.length : Int))) + 1)), .int .i64 0]) ?_ 3 _ rfl; (with_reducible repeat (first | refine blk_drewN ?_ _ | refine blk_drew ?_ | refine blk_alloc ?_ _)); refine blk_put (cs := #[.slice Ao74 x283000_2.length co74, .int .i64 (wrap64 (x7_1 + 1)), .int .i64 0, .int .i64 0]) ?_ 2 _ rfl; (with_reducible repeat (first | refine blk_drewN ?_ _ | refine blk_drew ?_ | refine blk_alloc ?_ _)); refine blk_put (cs := #[.slice Ao74 x283000_2.length co74, .int .i64 0, .int .i64 0, .int .i64 0]) ?_ 1 _ rfl; (with_reducible repeat (first | refine blk_drewN ?_ _ | refine blk_drew ?_ | refine blk_alloc ?_ _)); refine blk_put (cs := #[.slice none 0 0, .int .i64 0, .int .i64 0, .int .i64 0]) ?_ 0 _ rfl; (with_reducible repeat (first | refine blk_drewN ?_ _ | refine blk_drew ?_ | refine blk_alloc ?_ _)); exact BK274.out) Tryd.underlying36 rfl (by kernel_rfl)) rfl ?_
                   exact ⟨_, by first | rfl | (simp [errW_none, errW_some] <;> rfl) | (simp only [← hji42, ← hji59, ← hji62]; first | rfl | (simp [errW_none, errW_some] <;> rfl)) | (simp [*, errW_none, errW_some] <;> rfl), by (with_reducible repeat (first | apply Kd.R_alloc | apply Kd.R_drewN | apply Kd.R_drew)); exact Kd.R_mono (Kd.R_far (p := ⟨gb274, 3, none⟩) (Kd.R_far (p := ⟨gb274, 2, none⟩) (Kd.R_far (p := ⟨gb274, 1, none⟩) (Kd.R_far (p := ⟨gb274, 0, none⟩) (Kd.R_types HO_283000.out BK274.out (by decide)) (fun _ hk => hk.2) (.slice Ao74 x283000_2.length co74)) (fun _ hk => hk.2) (.int .i64 (wrap64 (x7_1 + 1)))) (fun _ hk => hk.2) (.int .i64 (wrap64 ((wrap64 (Int.tdiv (wrap64 (x7_1 + 1)) (l0.length : Int))) + 1)))) (fun _ hk => hk.2) (.int .i64 ji62)) (fun _ hk => trivial), bs3 HB GE274 GE282 GE287⟩
                  ·
                   replace c64 := Bool.eq_false_iff.mpr c64
                   subst c64
                   rw [if_neg (show ¬ (false = true) by decide)] at H
                   simp only [Option.some.injEq, Prod.mk.injEq] at H
                   obtain ⟨rfl, rfl, rfl, rfl, rfl⟩ := H
                   have p286 : 0 ≤ ((ji42) : Int) := of_decide_eq_true (by first | (with_reducible assumption) | assumption)
                   have q286 : (ji42) < (l0.length : Int) := of_decide_eq_true (by first | (with_reducible assumption) | assumption)
                   obtain ⟨ad286, e286, hx286_0, hx286_1, hx286_2, hx286_3⟩ := at_T26 HR0.out (ji42) p286 q286
                   cases e286
                   replace hx286_0 := (HB.out.cell (World.block_lt_of_cell? w _ hx286_0)).trans hx286_0
                   replace hx286_1 := (HB.out.cell (World.block_lt_of_cell? w _ hx286_1)).trans hx286_1
                   replace hx286_2 := (HB.out.cell (World.block_lt_of_cell? w _ hx286_2)).trans hx286_2
                   replace hx286_3 := (HB.out.cell (World.block_lt_of_cell? w _ hx286_3)).trans hx286_3
                   replace p286 := eq_true p286
                   replace q286 := eq_true q286
                   try go_wp2_with (first | ((with_reducible refine gate_dst (N := 12) rfl ?_); refine box_event ?hg (N := 12) ?hd (cs := #[.int .i64 0, .int .i64 0, .string (⟨#[]⟩ : ByteArray), .int .i64 0]) (t := 26) ?hr ?_; (case hd => rfl); (case hg => rfl); (case hr => first | (go_simp; done) | (go_simp; rfl)); intro gb287 hg w78 hbox hb; replace HO_283000 := Aside0.mk (Kd.R_below (Kd.R_elderB (rr HO_283000.out) gb287 (Nat.le_of_eq hg.symm)) hb); have BK287 := Aside0.mk (hbox); have GW287 := Aside0.mk ((by rw [hg]; exact (below_size (bs2 HB GE274 GE282)) : w.heap.size ≤ gb287)); have GE287 := Aside0.mk ((by rw [hg]; exact (below_size (bs2 HB GE274 GE282)) : w.heap.size ≤ gb287)); replace HB := Aside0.mk (below_step (bs2 HB GE274 GE282) hb); have NB274_287 := Aside0.mk ((bn BK274 hg : gb274 ≠ gb287)); have NB287_274 := Aside0.mk ((bm BK274 hg : gb287 ≠ gb274)); replace BK274 := nb BK274 hb; have NB282_287 := Aside0.mk ((bn BK282 hg : gb282 ≠ gb287)); have NB287_282 := Aside0.mk ((bm BK282 hg : gb287 ≠ gb282)); replace BK282 := nb BK282 hb; clear hb hbox hg; have hnb79 := NB287_274.out; have hnc79 := NB274_287.out; have hnb80 := NB287_282.out; have hnc80 := NB282_287.out; obtain ⟨hcz81_0, hcz81_1, hcz81_2, hcz81_3⟩ := cz4 BK287; obtain ⟨hfz81_0, hfz81_1, hfz81_2, hfz81_3⟩ := fz4 BK287))
                   have n0_ : Aside0 (Kd.R k26 26 ((((w78.setCell ⟨gb287, 0, none⟩ (.int .i64 ((rd_T26 l0 (ji42)).f0))).setCell ⟨gb287, 1, none⟩ (.int .i64 ((rd_T26 l0 (ji42)).f1))).setCell ⟨gb287, 2, none⟩ (.string ((rd_T26 l0 (ji42)).f2))).setCell ⟨gb287, 3, none⟩ (.int .i64 ((rd_T26 l0 (ji42)).f3))) w.heap.size (fun k_ => k_ ≠ gb287) u283000 x283000_2) := ⟨by (with_reducible repeat (first | apply Kd.R_alloc | apply Kd.R_drewN | apply Kd.R_drew)); exact Kd.R_mono (Kd.R_far (p := ⟨gb287, 3, none⟩) (Kd.R_far (p := ⟨gb287, 2, none⟩) (Kd.R_far (p := ⟨gb287, 1, none⟩) (Kd.R_far (p := ⟨gb287, 0, none⟩) (Kd.R_mono HO_283000.out (fun k_ hk => (⟨hk, hk.2⟩ : _ ∧ k_ ≠ gb287))) (fun _ hk => hk.2) (.int .i64 ((rd_T26 l0 (ji42)).f0))) (fun _ hk => hk.2) (.int .i64 ((rd_T26 l0 (ji42)).f1))) (fun _ hk => hk.2) (.string ((rd_T26 l0 (ji42)).f2))) (fun _ hk => hk.2) (.int .i64 ((rd_T26 l0 (ji42)).f3))) (fun _ hk => hk.1.2)⟩
                   have n1_ : Aside0 (((((w78.setCell ⟨gb287, 0, none⟩ (.int .i64 ((rd_T26 l0 (ji42)).f0))).setCell ⟨gb287, 1, none⟩ (.int .i64 ((rd_T26 l0 (ji42)).f1))).setCell ⟨gb287, 2, none⟩ (.string ((rd_T26 l0 (ji42)).f2))).setCell ⟨gb287, 3, none⟩ (.int .i64 ((rd_T26 l0 (ji42)).f3))).heap[gb274]? = some (.cells #[.slice none 0 0, .int .i64 0, .int .i64 0, .int .i64 0] 36 (0, 0))) := ⟨bf BK274 NB274_287⟩
                   have n2_ : Aside0 (((((w78.setCell ⟨gb287, 0, none⟩ (.int .i64 ((rd_T26 l0 (ji42)).f0))).setCell ⟨gb287, 1, none⟩ (.int .i64 ((rd_T26 l0 (ji42)).f1))).setCell ⟨gb287, 2, none⟩ (.string ((rd_T26 l0 (ji42)).f2))).setCell ⟨gb287, 3, none⟩ (.int .i64 ((rd_T26 l0 (ji42)).f3))).heap[gb282]? = some (.cells #[u283000, .int .i64 t278, .int .i64 t279, .int .i64 t280] 36 (0, 0))) := ⟨bf BK282 NB282_287⟩
                   have n3_ : Aside0 (((((w78.setCell ⟨gb287, 0, none⟩ (.int .i64 ((rd_T26 l0 (ji42)).f0))).setCell ⟨gb287, 1, none⟩ (.int .i64 ((rd_T26 l0 (ji42)).f1))).setCell ⟨gb287, 2, none⟩ (.string ((rd_T26 l0 (ji42)).f2))).setCell ⟨gb287, 3, none⟩ (.int .i64 ((rd_T26 l0 (ji42)).f3))).heap[gb287]? = some (.cells #[.int .i64 ((rd_T26 l0 (ji42)).f0), .int .i64 ((rd_T26 l0 (ji42)).f1), .string ((rd_T26 l0 (ji42)).f2), .int .i64 ((rd_T26 l0 (ji42)).f3)] 26 (0, 0))) := ⟨by (with_reducible repeat (first | refine blk_drewN ?_ _ | refine blk_drew ?_ | refine blk_alloc ?_ _)); refine blk_put (cs := #[.int .i64 ((rd_T26 l0 (ji42)).f0), .int .i64 ((rd_T26 l0 (ji42)).f1), .string ((rd_T26 l0 (ji42)).f2), .int .i64 0]) ?_ 3 _ rfl; (with_reducible repeat (first | refine blk_drewN ?_ _ | refine blk_drew ?_ | refine blk_alloc ?_ _)); refine blk_put (cs := #[.int .i64 ((rd_T26 l0 (ji42)).f0), .int .i64 ((rd_T26 l0 (ji42)).f1), .string (⟨#[]⟩ : ByteArray), .int .i64 0]) ?_ 2 _ rfl; (with_reducible repeat (first | refine blk_drewN ?_ _ | refine blk_drew ?_ | refine blk_alloc ?_ _)); refine blk_put (cs := #[.int .i64 ((rd_T26 l0 (ji42)).f0), .int .i64 0, .string (⟨#[]⟩ : ByteArray), .int .i64 0]) ?_ 1 _ rfl; (with_reducible repeat (first | refine blk_drewN ?_ _ | refine blk_drew ?_ | refine blk_alloc ?_ _)); refine blk_put (cs := #[.int .i64 0, .int .i64 0, .string (⟨#[]⟩ : ByteArray), .int .i64 0]) ?_ 0 _ rfl; (with_reducible repeat (first | refine blk_drewN ?_ _ | refine blk_drew ?_ | refine blk_alloc ?_ _)); exact BK287.out⟩
                   have n4_ : Aside0 (Below w.heap.size w ((((w78.setCell ⟨gb287, 0, none⟩ (.int .i64 ((rd_T26 l0 (ji42)).f0))).setCell ⟨gb287, 1, none⟩ (.int .i64 ((rd_T26 l0 (ji42)).f1))).setCell ⟨gb287, 2, none⟩ (.string ((rd_T26 l0 (ji42)).f2))).setCell ⟨gb287, 3, none⟩ (.int .i64 ((rd_T26 l0 (ji42)).f3)))) := ⟨bs3 HB GE274 GE282 GE287⟩
                   (try clear HO_283000)
                   (try clear BK274)
                   (try clear BK282)
                   (try clear BK287)
                   (try clear HB)
                   generalize ((((w78.setCell ⟨gb287, 0, none⟩ (.int .i64 ((rd_T26 l0 (ji42)).f0))).setCell ⟨gb287, 1, none⟩ (.int .i64 ((rd_T26 l0 (ji42)).f1))).setCell ⟨gb287, 2, none⟩ (.string ((rd_T26 l0 (ji42)).f2))).setCell ⟨gb287, 3, none⟩ (.int .i64 ((rd_T26 l0 (ji42)).f3))) = w82 at n0_ n1_ n2_ n3_ n4_ ⊢
                   have HO_283000 := n0_
                   have BK274 := n1_
                   have BK282 := n2_
                   have BK287 := n3_
                   have HB := n4_
                   clear n0_ n1_ n2_ n3_ n4_
                   have n0_ := Aside0.mk (Kd.R_drew HO_283000.out)
                   have n1_ := Aside0.mk (blk_drew BK274.out)
                   have n2_ := Aside0.mk (blk_drew BK282.out)
                   have n3_ := Aside0.mk (blk_drew BK287.out)
                   have n4_ := Aside0.mk (below_drew1 HB.out)
                   clear HO_283000
                   clear BK274
                   clear BK282
                   clear BK287
                   clear HB
                   have HO_283000 := n0_
                   have BK274 := n1_
                   have BK282 := n2_
                   have BK287 := n3_
                   have HB := n4_
                   clear n0_ n1_ n2_ n3_ n4_
                   refine start_ (n := 12) (S := fun w' => w'.cell? ⟨gb287, 0, none⟩ = some (.int .i64 ((rd_T26 l0 (ji42)).f0)) ∧ w'.cell? ⟨gb287, 1, none⟩ = some (.int .i64 ((rd_T26 l0 (ji42)).f1)) ∧ w'.cell? ⟨gb287, 2, none⟩ = some (.string ((rd_T26 l0 (ji42)).f2)) ∧ w'.cell? ⟨gb287, 3, none⟩ = some (.int .i64 ((rd_T26 l0 (ji42)).f3))) (ds := []) #[false, false, false, false, false, false, false, false, false, false, false, false] (by kernel_rfl) rfl rfl ⟨(blk_cell BK287.out 0).trans rfl, (blk_cell BK287.out 1).trans rfl, (blk_cell BK287.out 2).trans rfl, (blk_cell BK287.out 3).trans rfl⟩ (fun hHeld => ?_); refine with_tabW impl_OpenRing.tab19 impl_OpenRing.bits19 (fun HT_ HW_ => ?_)
                   generalize w82.drew = w83 at HO_283000 BK274 BK282 BK287 HB hHeld ⊢
                   refine takeS 0 69 HT_.out HW_.out hHeld (hr := by rintro w' ⟨s0, s1, s2, s3⟩; go_simp; with_reducible rfl) (h := ?_)
                   refine one_ (i := 1) (N := some 70) #[true, true, false, false, false, false, false, false, false, false, false, false] rfl rfl (one_of HT_.out (by kernel_rfl)) (by decide) (fun K hK => ?_)
                   refine goes_ Tryd.func60 (by kernel_rfl) rfl #[.agg #[.int .i64 ((rd_T26 l0 (ji42)).f0), .int .i64 ((rd_T26 l0 (ji42)).f1), .string ((rd_T26 l0 (ji42)).f2), .int .i64 ((rd_T26 l0 (ji42)).f3)]] (by rfl) rfl rfl (by (try simp only [List.map_toArray, List.map_cons, List.map_nil]); first | done | (simp only [hji42]; rfl) | rfl | (simp only [List.length_drop, List.length_take]; rfl)) ?_
                   with_reducible refine (impl_isIntact.calls kj37 ((rd_T26 l0 (ji42)).f0) ((rd_T26 l0 (ji42)).f1) ((rd_T26 l0 (ji42)).f2) ((rd_T26 l0 (ji42)).f3) true _ ?sideT A45.out).mono ?_
                   case sideT => refine ⟨Ito.tabB hTab_.out ?_⟩; first | exact bs HB | exact st_below | (repeat (first | (with_reducible first | exact HB.out | apply below_alloc | apply pw_below_drewN | apply below_drew1 | refine below_set ?_ (Aside0.out (by assumption))) | exact HB.out))
                   rintro e w84 ⟨rfl, hb⟩
                   refine ⟨_, rfl, ?_⟩
                   have n0_ := Aside0.mk (Kd.R_below (rr HO_283000.out) hb)
                   have n1_ := Aside0.mk (bb BK274 hb)
                   have n2_ := Aside0.mk (bb BK282 hb)
                   have n3_ := Aside0.mk (bb BK287 hb)
                   have n4_ := Aside0.mk (below_step (bs3 HB GE274 GE282 GE287) hb)
                   clear HO_283000
                   clear BK274
                   clear BK282
                   clear BK287
                   clear HB
                   have HO_283000 := n0_
                   have BK274 := n1_
                   have BK282 := n2_
                   have BK287 := n3_
                   have HB := n4_
                   clear n0_ n1_ n2_ n3_ n4_
                   (try clear hb)
                   (try clear hb2)
                   (try clear hk)
                   (try clear hi)
                   refine hK.out _ _ ⟨(blk_cell BK287.out 0).trans rfl, (blk_cell BK287.out 1).trans rfl, (blk_cell BK287.out 2).trans rfl, (blk_cell BK287.out 3).trans rfl⟩ (fun hHeld => ?_)
                   clear hK K
                   refine norm_ (a' := ?_) ?_ ?_
                   rotate_left
                   ·
                    show Act.put _ (some 70) _ = _
                    simp only [Act.put, List.setIfInBounds_toArray, List.set_cons_zero, List.set_cons_succ, i64_w, i32_w]
                    rfl
                   refine pureS 2 71 HT_.out ?_
                   refine pureS 3 72 HT_.out ?_
                   refine pureS 4 73 HT_.out ?_
                   refine pureS 6 75 HT_.out ?_
                   refine pureS 7 76 HT_.out ?_
                   refine pureS 8 77 HT_.out ?_
                   refine pureS 9 78 HT_.out ?_
                   refine takeS 5 74 HT_.out HW_.out hHeld (hr := by rintro w' ⟨s0, s1, s2, s3⟩; go_simp; with_reducible rfl) (h := ?_)
                   refine pureS 10 79 HT_.out ?_
                   refine pureS 11 80 HT_.out ?_
                   refine done_ (done_of HT_.out (by kernel_rfl)) ?_
                   have hnb85 := NB282_274.out
                   have hnc85 := NB274_282.out
                   obtain ⟨hcz86_0, hcz86_1, hcz86_2, hcz86_3⟩ := cz4 BK282
                   obtain ⟨hfz86_0, hfz86_1, hfz86_2, hfz86_3⟩ := fz4 BK282
                   have p290 : 0 ≤ ((ji59) : Int) := of_decide_eq_true (by first | (with_reducible assumption) | assumption)
                   have q290 : (ji59) < (l0.length : Int) := of_decide_eq_true (by first | (with_reducible assumption) | assumption)
                   obtain ⟨ad290, e290, hx290_0, hx290_1, hx290_2, hx290_3⟩ := at_T26 HR0.out (ji59) p290 q290
                   obtain rfl : ad286 = ad290 := (by injection e290)
                   have hn290_0 : ad286.block ≠ gb282 := Nat.ne_of_lt (Nat.lt_of_lt_of_le (by have := World.block_lt_of_cell? _ _ hx290_0; first | rwa [add_block] at this | exact this) GW282.out)
                   have hn290_1 : ad286.block ≠ gb282 := Nat.ne_of_lt (Nat.lt_of_lt_of_le (by have := World.block_lt_of_cell? _ _ hx290_0; first | rwa [add_block] at this | exact this) GW282.out)
                   replace hx290_0 := (HB.out.cell (World.block_lt_of_cell? w _ hx290_0)).trans hx290_0
                   replace hx290_1 := (HB.out.cell (World.block_lt_of_cell? w _ hx290_1)).trans hx290_1
                   replace hx290_2 := (HB.out.cell (World.block_lt_of_cell? w _ hx290_2)).trans hx290_2
                   replace hx290_3 := (HB.out.cell (World.block_lt_of_cell? w _ hx290_3)).trans hx290_3
                   replace hx290_0 := (cell_far (p := ⟨gb282, 1, none⟩) (by first | (rw [add_block]; exact hn290_0) | (show (Addr.add _ _).block ≠ _; rw [add_block]; exact hn290_0) | exact hn290_0) (.int .i64 (wrap64 (x7_1 + 1)))).trans hx290_0
                   replace hx290_1 := (cell_far (p := ⟨gb282, 1, none⟩) (by first | (rw [add_block]; exact hn290_0) | (show (Addr.add _ _).block ≠ _; rw [add_block]; exact hn290_0) | exact hn290_0) (.int .i64 (wrap64 (x7_1 + 1)))).trans hx290_1
                   replace hx290_2 := (cell_far (p := ⟨gb282, 1, none⟩) (by first | (rw [add_block]; exact hn290_0) | (show (Addr.add _ _).block ≠ _; rw [add_block]; exact hn290_0) | exact hn290_0) (.int .i64 (wrap64 (x7_1 + 1)))).trans hx290_2
                   replace hx290_3 := (cell_far (p := ⟨gb282, 1, none⟩) (by first | (rw [add_block]; exact hn290_0) | (show (Addr.add _ _).block ≠ _; rw [add_block]; exact hn290_0) | exact hn290_0) (.int .i64 (wrap64 (x7_1 + 1)))).trans hx290_3
                   replace hx290_0 := (cell_far (p := ⟨gb282, 2, none⟩) (by first | (rw [add_block]; exact hn290_1) | (show (Addr.add _ _).block ≠ _; rw [add_block]; exact hn290_1) | exact hn290_1) (.int .i64 (wrap64 ((wrap64 (Int.tdiv (wrap64 (x7_1 + 1)) (l0.length : Int))) + 1)))).trans hx290_0
                   replace hx290_1 := (cell_far (p := ⟨gb282, 2, none⟩) (by first | (rw [add_block]; exact hn290_1) | (show (Addr.add _ _).block ≠ _; rw [add_block]; exact hn290_1) | exact hn290_1) (.int .i64 (wrap64 ((wrap64 (Int.tdiv (wrap64 (x7_1 + 1)) (l0.length : Int))) + 1)))).trans hx290_1
                   replace hx290_2 := (cell_far (p := ⟨gb282, 2, none⟩) (by first | (rw [add_block]; exact hn290_1) | (show (Addr.add _ _).block ≠ _; rw [add_block]; exact hn290_1) | exact hn290_1) (.int .i64 (wrap64 ((wrap64 (Int.tdiv (wrap64 (x7_1 + 1)) (l0.length : Int))) + 1)))).trans hx290_2
                   replace hx290_3 := (cell_far (p := ⟨gb282, 2, none⟩) (by first | (rw [add_block]; exact hn290_1) | (show (Addr.add _ _).block ≠ _; rw [add_block]; exact hn290_1) | exact hn290_1) (.int .i64 (wrap64 ((wrap64 (Int.tdiv (wrap64 (x7_1 + 1)) (l0.length : Int))) + 1)))).trans hx290_3
                   clear hn290_0
                   clear hn290_1
                   replace p290 := eq_true p290
                   replace q290 := eq_true q290
                   obtain ⟨Ao87, co87, eo87⟩ := Kd.R_slice HO_283000.out
                   subst eo87
                   try go_wp2_with (first | ((with_reducible refine gate_callee (f := 20) rfl ?_); refine goesL_ (some 109) rfl rfl Tryd.func20 (by kernel_rfl) rfl #[.agg #[.slice Ao87 x283000_2.length co87, .int .i64 (wrap64 (x7_1 + 1)), .int .i64 (wrap64 ((wrap64 (Int.tdiv (wrap64 (x7_1 + 1)) (l0.length : Int))) + 1)), .int .i64 ji62]] rfl (by (try simp only [List.map_toArray, List.map_cons, List.map_nil]); first | done | (simp only [hji62]; rfl) | rfl | (simp only [List.length_drop, List.length_take]; rfl)) ?_; (with_reducible refine (impl_GoodRing.calls kj37 _ _ x283000_2 (wrap64 (x7_1 + 1)) (wrap64 ((wrap64 (Int.tdiv (wrap64 (x7_1 + 1)) (l0.length : Int))) + 1)) ji62 false _ ?sideT ?side1 ?side2 A63.out).mono ?_); (case sideT => refine ⟨Ito.tabB hTab_.out ?_⟩; first | exact bs HB | exact st_below | (repeat (first | (with_reducible first | exact HB.out | apply below_alloc | apply pw_below_drewN | apply below_drew1 | refine below_set ?_ (Aside0.out (by assumption))) | exact HB.out))); (case side1 => refine (Kd.R_reads' (e := 26) (base := w.heap.size) (ok := fun k_ => k_ ≠ gb287) (n := x283000_2.length) (c := co87) ?_).2.2; exact (by (with_reducible repeat (first | apply Kd.R_alloc | apply Kd.R_drewN | apply Kd.R_drew)); exact (Kd.R_mono (Kd.R_far (p := ⟨gb282, 3, none⟩) (Kd.R_far (p := ⟨gb282, 2, none⟩) (Kd.R_far (p := ⟨gb282, 1, none⟩) (Kd.R_types HO_283000.out BK282.out (by decide)) (fun _ hk => hk.2) (.int .i64 (wrap64 (x7_1 + 1)))) (fun _ hk => hk.2) (.int .i64 (wrap64 ((wrap64 (Int.tdiv (wrap64 (x7_1 + 1)) (l0.length : Int))) + 1)))) (fun _ hk => hk.2) (.int .i64 ji62)) (fun _ h_ => h_.1)))); (case side2 => exact (Kd.R_reads' HO_283000.out).2.1); rintro e w88 ⟨rfl, hb⟩; refine ⟨_, rfl, ?_⟩; replace HO_283000 := Aside0.mk (Kd.R_below (by (with_reducible repeat (first | apply Kd.R_alloc | apply Kd.R_drewN | apply Kd.R_drew)); exact (Kd.R_mono (Kd.R_far (p := ⟨gb282, 3, none⟩) (Kd.R_far (p := ⟨gb282, 2, none⟩) (Kd.R_far (p := ⟨gb282, 1, none⟩) (Kd.R_types HO_283000.out BK282.out (by decide)) (fun _ hk => hk.2) (.int .i64 (wrap64 (x7_1 + 1)))) (fun _ hk => hk.2) (.int .i64 (wrap64 ((wrap64 (Int.tdiv (wrap64 (x7_1 + 1)) (l0.length : Int))) + 1)))) (fun _ hk => hk.2) (.int .i64 ji62)) (fun _ h_ => h_.1))) hb); replace BK274 := Aside0.mk (blk_below (bf BK274 NB274_282) hb); replace BK282 := Aside0.mk (blk_below (g := gb282) (o := .cells #[.slice Ao87 x283000_2.length co87, .int .i64 (wrap64 (x7_1 + 1)), .int .i64 (wrap64 ((wrap64 (Int.tdiv (wrap64 (x7_1 + 1)) (l0.length : Int))) + 1)), .int .i64 ji62] 36 (0, 0)) (by (with_reducible repeat (first | refine blk_drewN ?_ _ | refine blk_drew ?_ | refine blk_alloc ?_ _)); refine blk_put (cs := #[.slice Ao87 x283000_2.length co87, .int .i64 (wrap64 (x7_1 + 1)), .int .i64 (wrap64 ((wrap64 (Int.tdiv (wrap64 (x7_1 + 1)) (l0.length : Int))) + 1)), .int .i64 t280]) ?_ 3 _ rfl; (with_reducible repeat (first | refine blk_drewN ?_ _ | refine blk_drew ?_ | refine blk_alloc ?_ _)); refine blk_put (cs := #[.slice Ao87 x283000_2.length co87, .int .i64 (wrap64 (x7_1 + 1)), .int .i64 t279, .int .i64 t280]) ?_ 2 _ rfl; (with_reducible repeat (first | refine blk_drewN ?_ _ | refine blk_drew ?_ | refine blk_alloc ?_ _)); refine blk_put (cs := #[.slice Ao87 x283000_2.length co87, .int .i64 t278, .int .i64 t279, .int .i64 t280]) ?_ 1 _ rfl; (with_reducible repeat (first | refine blk_drewN ?_ _ | refine blk_drew ?_ | refine blk_alloc ?_ _)); exact BK282.out) hb); replace BK287 := Aside0.mk (blk_below (bf BK287 NB287_282) hb); replace HB := Aside0.mk (below_step (bs3 HB GE274 GE282 GE287) hb); (try clear hb); (try clear hb2); (try clear hk); (try clear hi); obtain ⟨hcz89_0, hcz89_1, hcz89_2, hcz89_3⟩ := cz4 BK274; obtain ⟨hfz89_0, hfz89_1, hfz89_2, hfz89_3⟩ := fz4 BK274))
                   refine bodyPost_ret (results_ct rfl _ _ gb274 36 #[.slice none 0 0, .int .i64 0, .int .i64 0, .int .i64 0] (0, 0) _ rfl (by (with_reducible repeat (first | refine blk_drewN ?_ _ | refine blk_drew ?_ | refine blk_alloc ?_ _)); refine blk_put (cs := #[.slice none 0 0, .int .i64 0, .int .i64 0, .int .i64 0]) ?_ 3 _ rfl; (with_reducible repeat (first | refine blk_drewN ?_ _ | refine blk_drew ?_ | refine blk_alloc ?_ _)); refine blk_put (cs := #[.slice none 0 0, .int .i64 0, .int .i64 0, .int .i64 0]) ?_ 2 _ rfl; (with_reducible repeat (first | refine blk_drewN ?_ _ | refine blk_drew ?_ | refine blk_alloc ?_ _)); refine blk_put (cs := #[.slice none 0 0, .int .i64 0, .int .i64 0, .int .i64 0]) ?_ 1 _ rfl; (with_reducible repeat (first | refine blk_drewN ?_ _ | refine blk_drew ?_ | refine blk_alloc ?_ _)); refine blk_put (cs := #[.slice none 0 0, .int .i64 0, .int .i64 0, .int .i64 0]) ?_ 0 _ rfl; (with_reducible repeat (first | refine blk_drewN ?_ _ | refine blk_drew ?_ | refine blk_alloc ?_ _)); exact BK274.out) Tryd.underlying36 rfl (by kernel_rfl)) rfl ?_
                   exact ⟨_, by first | rfl | (simp [errW_none, errW_some] <;> rfl) | (simp only [← hji42, ← hji59, ← hji62]; first | rfl | (simp [errW_none, errW_some] <;> rfl)) | (simp [*, errW_none, errW_some] <;> rfl), by first | exact Kd.R_nil _ _ _ _ _ | exact Kd.N_nil _ _ _ _ _ | exact Kd.V_nil _ _ _ _ _ | exact Kd.Q_nil _ _ _ _ _ | exact Kd.S_nil _ _ _ _ _, bs3 HB GE274 GE282 GE287⟩
                 ·
                  rw [if_neg c61] at H
                  exact absurd H (by simp)
                ·
                 rw [if_neg c60] at H
                 exact absurd H (by simp)
              ·
               replace c46 := Bool.eq_false_iff.mpr c46
               subst c46
               rw [if_neg (show ¬ (false = true) by decide)] at H
               obtain ⟨ji90, hji90⟩ : ∃ j_ : Int, (Int.tmod x7_1 (l0.length : Int)) = j_ := ⟨_, rfl⟩
               replace H : (if 0 ≤ (ji90) then (if (ji90) < (l0.length : Int) then ((impl_GoodRing.f kj37 x283000_2 (wrap64 (x7_1 + 1)) (wrap64 ((wrap64 (Int.tdiv (wrap64 (x7_1 + 1)) (l0.length : Int))) + 1)) (mx ((rd_T26 l0 (ji90)).f1) x10_2)).bind fun t293 => (if t293 = true then (some (x283000_2, wrap64 (x7_1 + 1), wrap64 ((wrap64 (Int.tdiv (wrap64 (x7_1 + 1)) (l0.length : Int))) + 1), mx ((rd_T26 l0 (ji90)).f1) x10_2, true)) else (some (([] : List (S26)), 0, 0, 0, false)))) else (none)) else (none)) = some (r1, r2, r3, r4, r5) := by first | (rw [hji90] at H; exact H) | (simp only [hji90] at H ⊢; exact H)
               (try rw [hji90] at A45)
               by_cases c91 : 0 ≤ (ji90)
               ·
                rw [if_pos c91] at H
                have c91b0 : decide (0 ≤ (ji90)) = true := decide_eq_true c91
                clear c91
                by_cases c92 : (ji90) < (l0.length : Int)
                ·
                 rw [if_pos c92] at H
                 have c92b0 : decide ((ji90) < (l0.length : Int)) = true := decide_eq_true c92
                 clear c92
                 obtain ⟨ji93, hji93⟩ : ∃ j_ : Int, (mx ((rd_T26 l0 (ji90)).f1) x10_2) = j_ := ⟨_, rfl⟩
                 replace H : ((impl_GoodRing.f kj37 x283000_2 (wrap64 (x7_1 + 1)) (wrap64 ((wrap64 (Int.tdiv (wrap64 (x7_1 + 1)) (l0.length : Int))) + 1)) (ji93)).bind fun t293 => (if t293 = true then (some (x283000_2, wrap64 (x7_1 + 1), wrap64 ((wrap64 (Int.tdiv (wrap64 (x7_1 + 1)) (l0.length : Int))) + 1), ji93, true)) else (some (([] : List (S26)), 0, 0, 0, false)))) = some (r1, r2, r3, r4, r5) := by first | (rw [hji93] at H; exact H) | (simp only [hji93] at H ⊢; exact H)
                 (try rw [hji93] at A45)
                 have hji93_ : (if ((rd_T26 l0 (ji90)).f1) < x10_2 then x10_2 else ((rd_T26 l0 (ji90)).f1)) = ji93 := hji93
                 replace H := Option.bind_eq_some_iff.mp H
                 obtain ⟨t293, A940, H⟩ := H
                 replace H : (if t293 = true then (some (x283000_2, wrap64 (x7_1 + 1), wrap64 ((wrap64 (Int.tdiv (wrap64 (x7_1 + 1)) (l0.length : Int))) + 1), ji93, true)) else (some (([] : List (S26)), 0, 0, 0, false))) = some (r1, r2, r3, r4, r5) := H
                 have A94 := Aside0.mk A940
                 clear A940
                 by_cases c95 : t293 = true
                 ·
                  subst c95
                  rw [if_pos rfl] at H
                  simp only [Option.some.injEq, Prod.mk.injEq] at H
                  obtain ⟨rfl, rfl, rfl, rfl, rfl⟩ := H
                  have p286 : 0 ≤ ((ji42) : Int) := of_decide_eq_true (by first | (with_reducible assumption) | assumption)
                  have q286 : (ji42) < (l0.length : Int) := of_decide_eq_true (by first | (with_reducible assumption) | assumption)
                  obtain ⟨ad286, e286, hx286_0, hx286_1, hx286_2, hx286_3⟩ := at_T26 HR0.out (ji42) p286 q286
                  cases e286
                  replace hx286_0 := (HB.out.cell (World.block_lt_of_cell? w _ hx286_0)).trans hx286_0
                  replace hx286_1 := (HB.out.cell (World.block_lt_of_cell? w _ hx286_1)).trans hx286_1
                  replace hx286_2 := (HB.out.cell (World.block_lt_of_cell? w _ hx286_2)).trans hx286_2
                  replace hx286_3 := (HB.out.cell (World.block_lt_of_cell? w _ hx286_3)).trans hx286_3
                  replace p286 := eq_true p286
                  replace q286 := eq_true q286
                  try go_wp2_with (first | ((with_reducible refine gate_dst (N := 12) rfl ?_); refine box_event ?hg (N := 12) ?hd (cs := #[.int .i64 0, .int .i64 0, .string (⟨#[]⟩ : ByteArray), .int .i64 0]) (t := 26) ?hr ?_; (case hd => rfl); (case hg => rfl); (case hr => first | (go_simp; done) | (go_simp; rfl)); intro gb287 hg w96 hbox hb; replace HO_283000 := Aside0.mk (Kd.R_below (Kd.R_elderB (rr HO_283000.out) gb287 (Nat.le_of_eq hg.symm)) hb); have BK287 := Aside0.mk (hbox); have GW287 := Aside0.mk ((by rw [hg]; exact (below_size (bs2 HB GE274 GE282)) : w.heap.size ≤ gb287)); have GE287 := Aside0.mk ((by rw [hg]; exact (below_size (bs2 HB GE274 GE282)) : w.heap.size ≤ gb287)); replace HB := Aside0.mk (below_step (bs2 HB GE274 GE282) hb); have NB274_287 := Aside0.mk ((bn BK274 hg : gb274 ≠ gb287)); have NB287_274 := Aside0.mk ((bm BK274 hg : gb287 ≠ gb274)); replace BK274 := nb BK274 hb; have NB282_287 := Aside0.mk ((bn BK282 hg : gb282 ≠ gb287)); have NB287_282 := Aside0.mk ((bm BK282 hg : gb287 ≠ gb282)); replace BK282 := nb BK282 hb; clear hb hbox hg; have hnb97 := NB287_274.out; have hnc97 := NB274_287.out; have hnb98 := NB287_282.out; have hnc98 := NB282_287.out; obtain ⟨hcz99_0, hcz99_1, hcz99_2, hcz99_3⟩ := cz4 BK287; obtain ⟨hfz99_0, hfz99_1, hfz99_2, hfz99_3⟩ := fz4 BK287))
                  have n0_ : Aside0 (Kd.R k26 26 ((((w96.setCell ⟨gb287, 0, none⟩ (.int .i64 ((rd_T26 l0 (ji42)).f0))).setCell ⟨gb287, 1, none⟩ (.int .i64 ((rd_T26 l0 (ji42)).f1))).setCell ⟨gb287, 2, none⟩ (.string ((rd_T26 l0 (ji42)).f2))).setCell ⟨gb287, 3, none⟩ (.int .i64 ((rd_T26 l0 (ji42)).f3))) w.heap.size (fun k_ => k_ ≠ gb287) u283000 x283000_2) := ⟨by (with_reducible repeat (first | apply Kd.R_alloc | apply Kd.R_drewN | apply Kd.R_drew)); exact Kd.R_mono (Kd.R_far (p := ⟨gb287, 3, none⟩) (Kd.R_far (p := ⟨gb287, 2, none⟩) (Kd.R_far (p := ⟨gb287, 1, none⟩) (Kd.R_far (p := ⟨gb287, 0, none⟩) (Kd.R_mono HO_283000.out (fun k_ hk => (⟨hk, hk.2⟩ : _ ∧ k_ ≠ gb287))) (fun _ hk => hk.2) (.int .i64 ((rd_T26 l0 (ji42)).f0))) (fun _ hk => hk.2) (.int .i64 ((rd_T26 l0 (ji42)).f1))) (fun _ hk => hk.2) (.string ((rd_T26 l0 (ji42)).f2))) (fun _ hk => hk.2) (.int .i64 ((rd_T26 l0 (ji42)).f3))) (fun _ hk => hk.1.2)⟩
                  have n1_ : Aside0 (((((w96.setCell ⟨gb287, 0, none⟩ (.int .i64 ((rd_T26 l0 (ji42)).f0))).setCell ⟨gb287, 1, none⟩ (.int .i64 ((rd_T26 l0 (ji42)).f1))).setCell ⟨gb287, 2, none⟩ (.string ((rd_T26 l0 (ji42)).f2))).setCell ⟨gb287, 3, none⟩ (.int .i64 ((rd_T26 l0 (ji42)).f3))).heap[gb274]? = some (.cells #[.slice none 0 0, .int .i64 0, .int .i64 0, .int .i64 0] 36 (0, 0))) := ⟨bf BK274 NB274_287⟩
                  have n2_ : Aside0 (((((w96.setCell ⟨gb287, 0, none⟩ (.int .i64 ((rd_T26 l0 (ji42)).f0))).setCell ⟨gb287, 1, none⟩ (.int .i64 ((rd_T26 l0 (ji42)).f1))).setCell ⟨gb287, 2, none⟩ (.string ((rd_T26 l0 (ji42)).f2))).setCell ⟨gb287, 3, none⟩ (.int .i64 ((rd_T26 l0 (ji42)).f3))).heap[gb282]? = some (.cells #[u283000, .int .i64 t278, .int .i64 t279, .int .i64 t280] 36 (0, 0))) := ⟨bf BK282 NB282_287⟩
                  have n3_ : Aside0 (((((w96.setCell ⟨gb287, 0, none⟩ (.int .i64 ((rd_T26 l0 (ji42)).f0))).setCell ⟨gb287, 1, none⟩ (.int .i64 ((rd_T26 l0 (ji42)).f1))).setCell ⟨gb287, 2, none⟩ (.string ((rd_T26 l0 (ji42)).f2))).setCell ⟨gb287, 3, none⟩ (.int .i64 ((rd_T26 l0 (ji42)).f3))).heap[gb287]? = some (.cells #[.int .i64 ((rd_T26 l0 (ji42)).f0), .int .i64 ((rd_T26 l0 (ji42)).f1), .string ((rd_T26 l0 (ji42)).f2), .int .i64 ((rd_T26 l0 (ji42)).f3)] 26 (0, 0))) := ⟨by (with_reducible repeat (first | refine blk_drewN ?_ _ | refine blk_drew ?_ | refine blk_alloc ?_ _)); refine blk_put (cs := #[.int .i64 ((rd_T26 l0 (ji42)).f0), .int .i64 ((rd_T26 l0 (ji42)).f1), .string ((rd_T26 l0 (ji42)).f2), .int .i64 0]) ?_ 3 _ rfl; (with_reducible repeat (first | refine blk_drewN ?_ _ | refine blk_drew ?_ | refine blk_alloc ?_ _)); refine blk_put (cs := #[.int .i64 ((rd_T26 l0 (ji42)).f0), .int .i64 ((rd_T26 l0 (ji42)).f1), .string (⟨#[]⟩ : ByteArray), .int .i64 0]) ?_ 2 _ rfl; (with_reducible repeat (first | refine blk_drewN ?_ _ | refine blk_drew ?_ | refine blk_alloc ?_ _)); refine blk_put (cs := #[.int .i64 ((rd_T26 l0 (ji42)).f0), .int .i64 0, .string (⟨#[]⟩ : ByteArray), .int .i64 0]) ?_ 1 _ rfl; (with_reducible repeat (first | refine blk_drewN ?_ _ | refine blk_drew ?_ | refine blk_alloc ?_ _)); refine blk_put (cs := #[.int .i64 0, .int .i64 0, .string (⟨#[]⟩ : ByteArray), .int .i64 0]) ?_ 0 _ rfl; (with_reducible repeat (first | refine blk_drewN ?_ _ | refine blk_drew ?_ | refine blk_alloc ?_ _)); exact BK287.out⟩
                  have n4_ : Aside0 (Below w.heap.size w ((((w96.setCell ⟨gb287, 0, none⟩ (.int .i64 ((rd_T26 l0 (ji42)).f0))).setCell ⟨gb287, 1, none⟩ (.int .i64 ((rd_T26 l0 (ji42)).f1))).setCell ⟨gb287, 2, none⟩ (.string ((rd_T26 l0 (ji42)).f2))).setCell ⟨gb287, 3, none⟩ (.int .i64 ((rd_T26 l0 (ji42)).f3)))) := ⟨bs3 HB GE274 GE282 GE287⟩
                  (try clear HO_283000)
                  (try clear BK274)
                  (try clear BK282)
                  (try clear BK287)
                  (try clear HB)
                  generalize ((((w96.setCell ⟨gb287, 0, none⟩ (.int .i64 ((rd_T26 l0 (ji42)).f0))).setCell ⟨gb287, 1, none⟩ (.int .i64 ((rd_T26 l0 (ji42)).f1))).setCell ⟨gb287, 2, none⟩ (.string ((rd_T26 l0 (ji42)).f2))).setCell ⟨gb287, 3, none⟩ (.int .i64 ((rd_T26 l0 (ji42)).f3))) = w100 at n0_ n1_ n2_ n3_ n4_ ⊢
                  have HO_283000 := n0_
                  have BK274 := n1_
                  have BK282 := n2_
                  have BK287 := n3_
                  have HB := n4_
                  clear n0_ n1_ n2_ n3_ n4_
                  have n0_ := Aside0.mk (Kd.R_drew HO_283000.out)
                  have n1_ := Aside0.mk (blk_drew BK274.out)
                  have n2_ := Aside0.mk (blk_drew BK282.out)
                  have n3_ := Aside0.mk (blk_drew BK287.out)
                  have n4_ := Aside0.mk (below_drew1 HB.out)
                  clear HO_283000
                  clear BK274
                  clear BK282
                  clear BK287
                  clear HB
                  have HO_283000 := n0_
                  have BK274 := n1_
                  have BK282 := n2_
                  have BK287 := n3_
                  have HB := n4_
                  clear n0_ n1_ n2_ n3_ n4_
                  refine start_ (n := 12) (S := fun w' => w'.cell? ⟨gb287, 0, none⟩ = some (.int .i64 ((rd_T26 l0 (ji42)).f0)) ∧ w'.cell? ⟨gb287, 1, none⟩ = some (.int .i64 ((rd_T26 l0 (ji42)).f1)) ∧ w'.cell? ⟨gb287, 2, none⟩ = some (.string ((rd_T26 l0 (ji42)).f2)) ∧ w'.cell? ⟨gb287, 3, none⟩ = some (.int .i64 ((rd_T26 l0 (ji42)).f3))) (ds := []) #[false, false, false, false, false, false, false, false, false, false, false, false] (by kernel_rfl) rfl rfl ⟨(blk_cell BK287.out 0).trans rfl, (blk_cell BK287.out 1).trans rfl, (blk_cell BK287.out 2).trans rfl, (blk_cell BK287.out 3).trans rfl⟩ (fun hHeld => ?_); refine with_tabW impl_OpenRing.tab19 impl_OpenRing.bits19 (fun HT_ HW_ => ?_)
                  generalize w100.drew = w101 at HO_283000 BK274 BK282 BK287 HB hHeld ⊢
                  refine takeS 0 69 HT_.out HW_.out hHeld (hr := by rintro w' ⟨s0, s1, s2, s3⟩; go_simp; with_reducible rfl) (h := ?_)
                  refine one_ (i := 1) (N := some 70) #[true, true, false, false, false, false, false, false, false, false, false, false] rfl rfl (one_of HT_.out (by kernel_rfl)) (by decide) (fun K hK => ?_)
                  refine goes_ Tryd.func60 (by kernel_rfl) rfl #[.agg #[.int .i64 ((rd_T26 l0 (ji42)).f0), .int .i64 ((rd_T26 l0 (ji42)).f1), .string ((rd_T26 l0 (ji42)).f2), .int .i64 ((rd_T26 l0 (ji42)).f3)]] (by rfl) rfl rfl (by (try simp only [List.map_toArray, List.map_cons, List.map_nil]); first | done | (simp only [hji42]; rfl) | rfl | (simp only [List.length_drop, List.length_take]; rfl)) ?_
                  with_reducible refine (impl_isIntact.calls kj37 ((rd_T26 l0 (ji42)).f0) ((rd_T26 l0 (ji42)).f1) ((rd_T26 l0 (ji42)).f2) ((rd_T26 l0 (ji42)).f3) false _ ?sideT A45.out).mono ?_
                  case sideT => refine ⟨Ito.tabB hTab_.out ?_⟩; first | exact bs HB | exact st_below | (repeat (first | (with_reducible first | exact HB.out | apply below_alloc | apply pw_below_drewN | apply below_drew1 | refine below_set ?_ (Aside0.out (by assumption))) | exact HB.out))
                  rintro e w102 ⟨rfl, hb⟩
                  refine ⟨_, rfl, ?_⟩
                  have n0_ := Aside0.mk (Kd.R_below (rr HO_283000.out) hb)
                  have n1_ := Aside0.mk (bb BK274 hb)
                  have n2_ := Aside0.mk (bb BK282 hb)
                  have n3_ := Aside0.mk (bb BK287 hb)
                  have n4_ := Aside0.mk (below_step (bs3 HB GE274 GE282 GE287) hb)
                  clear HO_283000
                  clear BK274
                  clear BK282
                  clear BK287
                  clear HB
                  have HO_283000 := n0_
                  have BK274 := n1_
                  have BK282 := n2_
                  have BK287 := n3_
                  have HB := n4_
                  clear n0_ n1_ n2_ n3_ n4_
                  (try clear hb)
                  (try clear hb2)
                  (try clear hk)
                  (try clear hi)
                  refine hK.out _ _ ⟨(blk_cell BK287.out 0).trans rfl, (blk_cell BK287.out 1).trans rfl, (blk_cell BK287.out 2).trans rfl, (blk_cell BK287.out 3).trans rfl⟩ (fun hHeld => ?_)
                  clear hK K
                  refine norm_ (a' := ?_) ?_ ?_
                  rotate_left
                  ·
                   show Act.put _ (some 70) _ = _
                   simp only [Act.put, List.setIfInBounds_toArray, List.set_cons_zero, List.set_cons_succ, i64_w, i32_w]
                   rfl
                  refine pureS 2 71 HT_.out ?_
                  refine pureS 3 72 HT_.out ?_
                  refine pureU 4 73 HT_.out ?_
                  refine pureU 5 74 HT_.out ?_
                  refine pureU 6 75 HT_.out ?_
                  refine pureU 7 76 HT_.out ?_
                  refine pureU 8 77 HT_.out ?_
                  refine pureU 9 78 HT_.out ?_
                  refine pureU 10 79 HT_.out ?_
                  refine pureS 11 80 HT_.out ?_
                  refine done_ (done_of HT_.out (by kernel_rfl)) ?_
                  have hnb103 := NB282_274.out
                  have hnc103 := NB274_282.out
                  obtain ⟨hcz104_0, hcz104_1, hcz104_2, hcz104_3⟩ := cz4 BK282
                  obtain ⟨hfz104_0, hfz104_1, hfz104_2, hfz104_3⟩ := fz4 BK282
                  have p292 : 0 ≤ ((ji90) : Int) := of_decide_eq_true (by first | (with_reducible assumption) | assumption)
                  have q292 : (ji90) < (l0.length : Int) := of_decide_eq_true (by first | (with_reducible assumption) | assumption)
                  obtain ⟨ad292, e292, hx292_0, hx292_1, hx292_2, hx292_3⟩ := at_T26 HR0.out (ji90) p292 q292
                  obtain rfl : ad286 = ad292 := (by injection e292)
                  have hn292_0 : ad286.block ≠ gb282 := Nat.ne_of_lt (Nat.lt_of_lt_of_le (by have := World.block_lt_of_cell? _ _ hx292_0; first | rwa [add_block] at this | exact this) GW282.out)
                  have hn292_1 : ad286.block ≠ gb282 := Nat.ne_of_lt (Nat.lt_of_lt_of_le (by have := World.block_lt_of_cell? _ _ hx292_0; first | rwa [add_block] at this | exact this) GW282.out)
                  replace hx292_0 := (HB.out.cell (World.block_lt_of_cell? w _ hx292_0)).trans hx292_0
                  replace hx292_1 := (HB.out.cell (World.block_lt_of_cell? w _ hx292_1)).trans hx292_1
                  replace hx292_2 := (HB.out.cell (World.block_lt_of_cell? w _ hx292_2)).trans hx292_2
                  replace hx292_3 := (HB.out.cell (World.block_lt_of_cell? w _ hx292_3)).trans hx292_3
                  replace hx292_0 := (cell_far (p := ⟨gb282, 1, none⟩) (by first | (rw [add_block]; exact hn292_0) | (show (Addr.add _ _).block ≠ _; rw [add_block]; exact hn292_0) | exact hn292_0) (.int .i64 (wrap64 (x7_1 + 1)))).trans hx292_0
                  replace hx292_1 := (cell_far (p := ⟨gb282, 1, none⟩) (by first | (rw [add_block]; exact hn292_0) | (show (Addr.add _ _).block ≠ _; rw [add_block]; exact hn292_0) | exact hn292_0) (.int .i64 (wrap64 (x7_1 + 1)))).trans hx292_1
                  replace hx292_2 := (cell_far (p := ⟨gb282, 1, none⟩) (by first | (rw [add_block]; exact hn292_0) | (show (Addr.add _ _).block ≠ _; rw [add_block]; exact hn292_0) | exact hn292_0) (.int .i64 (wrap64 (x7_1 + 1)))).trans hx292_2
                  replace hx292_3 := (cell_far (p := ⟨gb282, 1, none⟩) (by first | (rw [add_block]; exact hn292_0) | (show (Addr.add _ _).block ≠ _; rw [add_block]; exact hn292_0) | exact hn292_0) (.int .i64 (wrap64 (x7_1 + 1)))).trans hx292_3
                  replace hx292_0 := (cell_far (p := ⟨gb282, 2, none⟩) (by first | (rw [add_block]; exact hn292_1) | (show (Addr.add _ _).block ≠ _; rw [add_block]; exact hn292_1) | exact hn292_1) (.int .i64 (wrap64 ((wrap64 (Int.tdiv (wrap64 (x7_1 + 1)) (l0.length : Int))) + 1)))).trans hx292_0
                  replace hx292_1 := (cell_far (p := ⟨gb282, 2, none⟩) (by first | (rw [add_block]; exact hn292_1) | (show (Addr.add _ _).block ≠ _; rw [add_block]; exact hn292_1) | exact hn292_1) (.int .i64 (wrap64 ((wrap64 (Int.tdiv (wrap64 (x7_1 + 1)) (l0.length : Int))) + 1)))).trans hx292_1
                  replace hx292_2 := (cell_far (p := ⟨gb282, 2, none⟩) (by first | (rw [add_block]; exact hn292_1) | (show (Addr.add _ _).block ≠ _; rw [add_block]; exact hn292_1) | exact hn292_1) (.int .i64 (wrap64 ((wrap64 (Int.tdiv (wrap64 (x7_1 + 1)) (l0.length : Int))) + 1)))).trans hx292_2
                  replace hx292_3 := (cell_far (p := ⟨gb282, 2, none⟩) (by first | (rw [add_block]; exact hn292_1) | (show (Addr.add _ _).block ≠ _; rw [add_block]; exact hn292_1) | exact hn292_1) (.int .i64 (wrap64 ((wrap64 (Int.tdiv (wrap64 (x7_1 + 1)) (l0.length : Int))) + 1)))).trans hx292_3
                  clear hn292_0
                  clear hn292_1
                  replace p292 := eq_true p292
                  replace q292 := eq_true q292
                  obtain ⟨Ao105, co105, eo105⟩ := Kd.R_slice HO_283000.out
                  subst eo105
                  try go_wp2_with (first | ((with_reducible refine gate_callee (f := 20) rfl ?_); refine goesL_ (some 109) rfl rfl Tryd.func20 (by kernel_rfl) rfl #[.agg #[.slice Ao105 x283000_2.length co105, .int .i64 (wrap64 (x7_1 + 1)), .int .i64 (wrap64 ((wrap64 (Int.tdiv (wrap64 (x7_1 + 1)) (l0.length : Int))) + 1)), .int .i64 ji93]] rfl (by (try simp only [List.map_toArray, List.map_cons, List.map_nil]); first | done | (simp only [hji93]; rfl) | rfl | (simp only [List.length_drop, List.length_take]; rfl)) ?_; (with_reducible refine (impl_GoodRing.calls kj37 _ _ x283000_2 (wrap64 (x7_1 + 1)) (wrap64 ((wrap64 (Int.tdiv (wrap64 (x7_1 + 1)) (l0.length : Int))) + 1)) ji93 true _ ?sideT ?side1 ?side2 A94.out).mono ?_); (case sideT => refine ⟨Ito.tabB hTab_.out ?_⟩; first | exact bs HB | exact st_below | (repeat (first | (with_reducible first | exact HB.out | apply below_alloc | apply pw_below_drewN | apply below_drew1 | refine below_set ?_ (Aside0.out (by assumption))) | exact HB.out))); (case side1 => refine (Kd.R_reads' (e := 26) (base := w.heap.size) (ok := fun k_ => k_ ≠ gb287) (n := x283000_2.length) (c := co105) ?_).2.2; exact (by (with_reducible repeat (first | apply Kd.R_alloc | apply Kd.R_drewN | apply Kd.R_drew)); exact (Kd.R_mono (Kd.R_far (p := ⟨gb282, 3, none⟩) (Kd.R_far (p := ⟨gb282, 2, none⟩) (Kd.R_far (p := ⟨gb282, 1, none⟩) (Kd.R_types HO_283000.out BK282.out (by decide)) (fun _ hk => hk.2) (.int .i64 (wrap64 (x7_1 + 1)))) (fun _ hk => hk.2) (.int .i64 (wrap64 ((wrap64 (Int.tdiv (wrap64 (x7_1 + 1)) (l0.length : Int))) + 1)))) (fun _ hk => hk.2) (.int .i64 ji93)) (fun _ h_ => h_.1)))); (case side2 => exact (Kd.R_reads' HO_283000.out).2.1); rintro e w106 ⟨rfl, hb⟩; refine ⟨_, rfl, ?_⟩; replace HO_283000 := Aside0.mk (Kd.R_below (by (with_reducible repeat (first | apply Kd.R_alloc | apply Kd.R_drewN | apply Kd.R_drew)); exact (Kd.R_mono (Kd.R_far (p := ⟨gb282, 3, none⟩) (Kd.R_far (p := ⟨gb282, 2, none⟩) (Kd.R_far (p := ⟨gb282, 1, none⟩) (Kd.R_types HO_283000.out BK282.out (by decide)) (fun _ hk => hk.2) (.int .i64 (wrap64 (x7_1 + 1)))) (fun _ hk => hk.2) (.int .i64 (wrap64 ((wrap64 (Int.tdiv (wrap64 (x7_1 + 1)) (l0.length : Int))) + 1)))) (fun _ hk => hk.2) (.int .i64 ji93)) (fun _ h_ => h_.1))) hb); replace BK274 := Aside0.mk (blk_below (bf BK274 NB274_282) hb); replace BK282 := Aside0.mk (blk_below (g := gb282) (o := .cells #[.slice Ao105 x283000_2.length co105, .int .i64 (wrap64 (x7_1 + 1)), .int .i64 (wrap64 ((wrap64 (Int.tdiv (wrap64 (x7_1 + 1)) (l0.length : Int))) + 1)), .int .i64 ji93] 36 (0, 0)) (by (with_reducible repeat (first | refine blk_drewN ?_ _ | refine blk_drew ?_ | refine blk_alloc ?_ _)); refine blk_put (cs := #[.slice Ao105 x283000_2.length co105, .int .i64 (wrap64 (x7_1 + 1)), .int .i64 (wrap64 ((wrap64 (Int.tdiv (wrap64 (x7_1 + 1)) (l0.length : Int))) + 1)), .int .i64 t280]) ?_ 3 _ rfl; (with_reducible repeat (first | refine blk_drewN ?_ _ | refine blk_drew ?_ | refine blk_alloc ?_ _)); refine blk_put (cs := #[.slice Ao105 x283000_2.length co105, .int .i64 (wrap64 (x7_1 + 1)), .int .i64 t279, .int .i64 t280]) ?_ 2 _ rfl; (with_reducible repeat (first | refine blk_drewN ?_ _ | refine blk_drew ?_ | refine blk_alloc ?_ _)); refine blk_put (cs := #[.slice Ao105 x283000_2.length co105, .int .i64 t278, .int .i64 t279, .int .i64 t280]) ?_ 1 _ rfl; (with_reducible repeat (first | refine blk_drewN ?_ _ | refine blk_drew ?_ | refine blk_alloc ?_ _)); exact BK282.out) hb); replace BK287 := Aside0.mk (blk_below (bf BK287 NB287_282) hb); replace HB := Aside0.mk (below_step (bs3 HB GE274 GE282 GE287) hb); (try clear hb); (try clear hb2); (try clear hk); (try clear hi); obtain ⟨hcz107_0, hcz107_1, hcz107_2, hcz107_3⟩ := cz4 BK282; obtain ⟨hfz107_0, hfz107_1, hfz107_2, hfz107_3⟩ := fz4 BK282; obtain ⟨hcz108_0, hcz108_1, hcz108_2, hcz108_3⟩ := cz4 BK274; obtain ⟨hfz108_0, hfz108_1, hfz108_2, hfz108_3⟩ := fz4 BK274))
                  refine bodyPost_ret (results_ct rfl _ _ gb274 36 #[.slice Ao105 x283000_2.length co105, .int .i64 (wrap64 (x7_1 + 1)), .int .i64 (wrap64 ((wrap64 (Int.tdiv (wrap64 (x7_1 + 1)) (l0.length : Int))) + 1)), .int .i64 ji93] (0, 0) _ rfl (by (with_reducible repeat (first | refine blk_drewN ?_ _ | refine blk_drew ?_ | refine blk_alloc ?_ _)); refine blk_put (cs := #[.slice Ao105 x283000_2.length co105, .int .i64 (wrap64 (x7_1 + 1)), .int .i64 (wrap64 ((wrap64 (Int.tdiv (wrap64 (x7_1 + 1)) (l0.length : Int))) + 1)), .int .i64 0]) ?_ 3 _ rfl; (with_reducible repeat (first | refine blk_drewN ?_ _ | refine blk_drew ?_ | refine blk_alloc ?_ _)); refine blk_put (cs := #[.slice Ao105 x283000_2.length co105, .int .i64 (wrap64 (x7_1 + 1)), .int .i64 0, .int .i64 0]) ?_ 2 _ rfl; (with_reducible repeat (first | refine blk_drewN ?_ _ | refine blk_drew ?_ | refine blk_alloc ?_ _)); refine blk_put (cs := #[.slice Ao105 x283000_2.length co105, .int .i64 0, .int .i64 0, .int .i64 0]) ?_ 1 _ rfl; (with_reducible repeat (first | refine blk_drewN ?_ _ | refine blk_drew ?_ | refine blk_alloc ?_ _)); refine blk_put (cs := #[.slice none 0 0, .int .i64 0, .int .i64 0, .int .i64 0]) ?_ 0 _ rfl; (with_reducible repeat (first | refine blk_drewN ?_ _ | refine blk_drew ?_ | refine blk_alloc ?_ _)); exact BK274.out) Tryd.underlying36 rfl (by kernel_rfl)) rfl ?_
                  exact ⟨_, by first | rfl | (simp [errW_none, errW_some] <;> rfl) | (simp only [← hji42, ← hji90, ← hji93]; first | rfl | (simp [errW_none, errW_some] <;> rfl)) | (simp [*, errW_none, errW_some] <;> rfl), by (with_reducible repeat (first | apply Kd.R_alloc | apply Kd.R_drewN | apply Kd.R_drew)); exact Kd.R_mono (Kd.R_far (p := ⟨gb274, 3, none⟩) (Kd.R_far (p := ⟨gb274, 2, none⟩) (Kd.R_far (p := ⟨gb274, 1, none⟩) (Kd.R_far (p := ⟨gb274, 0, none⟩) (Kd.R_types HO_283000.out BK274.out (by decide)) (fun _ hk => hk.2) (.slice Ao105 x283000_2.length co105)) (fun _ hk => hk.2) (.int .i64 (wrap64 (x7_1 + 1)))) (fun _ hk => hk.2) (.int .i64 (wrap64 ((wrap64 (Int.tdiv (wrap64 (x7_1 + 1)) (l0.length : Int))) + 1)))) (fun _ hk => hk.2) (.int .i64 ji93)) (fun _ hk => trivial), bs3 HB GE274 GE282 GE287⟩
                 ·
                  replace c95 := Bool.eq_false_iff.mpr c95
                  subst c95
                  rw [if_neg (show ¬ (false = true) by decide)] at H
                  simp only [Option.some.injEq, Prod.mk.injEq] at H
                  obtain ⟨rfl, rfl, rfl, rfl, rfl⟩ := H
                  have p286 : 0 ≤ ((ji42) : Int) := of_decide_eq_true (by first | (with_reducible assumption) | assumption)
                  have q286 : (ji42) < (l0.length : Int) := of_decide_eq_true (by first | (with_reducible assumption) | assumption)
                  obtain ⟨ad286, e286, hx286_0, hx286_1, hx286_2, hx286_3⟩ := at_T26 HR0.out (ji42) p286 q286
                  cases e286
                  replace hx286_0 := (HB.out.cell (World.block_lt_of_cell? w _ hx286_0)).trans hx286_0
                  replace hx286_1 := (HB.out.cell (World.block_lt_of_cell? w _ hx286_1)).trans hx286_1
                  replace hx286_2 := (HB.out.cell (World.block_lt_of_cell? w _ hx286_2)).trans hx286_2
                  replace hx286_3 := (HB.out.cell (World.block_lt_of_cell? w _ hx286_3)).trans hx286_3
                  replace p286 := eq_true p286
                  replace q286 := eq_true q286
                  try go_wp2_with (first | ((with_reducible refine gate_dst (N := 12) rfl ?_); refine box_event ?hg (N := 12) ?hd (cs := #[.int .i64 0, .int .i64 0, .string (⟨#[]⟩ : ByteArray), .int .i64 0]) (t := 26) ?hr ?_; (case hd => rfl); (case hg => rfl); (case hr => first | (go_simp; done) | (go_simp; rfl)); intro gb287 hg w109 hbox hb; replace HO_283000 := Aside0.mk (Kd.R_below (Kd.R_elderB (rr HO_283000.out) gb287 (Nat.le_of_eq hg.symm)) hb); have BK287 := Aside0.mk (hbox); have GW287 := Aside0.mk ((by rw [hg]; exact (below_size (bs2 HB GE274 GE282)) : w.heap.size ≤ gb287)); have GE287 := Aside0.mk ((by rw [hg]; exact (below_size (bs2 HB GE274 GE282)) : w.heap.size ≤ gb287)); replace HB := Aside0.mk (below_step (bs2 HB GE274 GE282) hb); have NB274_287 := Aside0.mk ((bn BK274 hg : gb274 ≠ gb287)); have NB287_274 := Aside0.mk ((bm BK274 hg : gb287 ≠ gb274)); replace BK274 := nb BK274 hb; have NB282_287 := Aside0.mk ((bn BK282 hg : gb282 ≠ gb287)); have NB287_282 := Aside0.mk ((bm BK282 hg : gb287 ≠ gb282)); replace BK282 := nb BK282 hb; clear hb hbox hg; have hnb110 := NB287_274.out; have hnc110 := NB274_287.out; have hnb111 := NB287_282.out; have hnc111 := NB282_287.out; obtain ⟨hcz112_0, hcz112_1, hcz112_2, hcz112_3⟩ := cz4 BK287; obtain ⟨hfz112_0, hfz112_1, hfz112_2, hfz112_3⟩ := fz4 BK287))
                  have n0_ : Aside0 (Kd.R k26 26 ((((w109.setCell ⟨gb287, 0, none⟩ (.int .i64 ((rd_T26 l0 (ji42)).f0))).setCell ⟨gb287, 1, none⟩ (.int .i64 ((rd_T26 l0 (ji42)).f1))).setCell ⟨gb287, 2, none⟩ (.string ((rd_T26 l0 (ji42)).f2))).setCell ⟨gb287, 3, none⟩ (.int .i64 ((rd_T26 l0 (ji42)).f3))) w.heap.size (fun k_ => k_ ≠ gb287) u283000 x283000_2) := ⟨by (with_reducible repeat (first | apply Kd.R_alloc | apply Kd.R_drewN | apply Kd.R_drew)); exact Kd.R_mono (Kd.R_far (p := ⟨gb287, 3, none⟩) (Kd.R_far (p := ⟨gb287, 2, none⟩) (Kd.R_far (p := ⟨gb287, 1, none⟩) (Kd.R_far (p := ⟨gb287, 0, none⟩) (Kd.R_mono HO_283000.out (fun k_ hk => (⟨hk, hk.2⟩ : _ ∧ k_ ≠ gb287))) (fun _ hk => hk.2) (.int .i64 ((rd_T26 l0 (ji42)).f0))) (fun _ hk => hk.2) (.int .i64 ((rd_T26 l0 (ji42)).f1))) (fun _ hk => hk.2) (.string ((rd_T26 l0 (ji42)).f2))) (fun _ hk => hk.2) (.int .i64 ((rd_T26 l0 (ji42)).f3))) (fun _ hk => hk.1.2)⟩
                  have n1_ : Aside0 (((((w109.setCell ⟨gb287, 0, none⟩ (.int .i64 ((rd_T26 l0 (ji42)).f0))).setCell ⟨gb287, 1, none⟩ (.int .i64 ((rd_T26 l0 (ji42)).f1))).setCell ⟨gb287, 2, none⟩ (.string ((rd_T26 l0 (ji42)).f2))).setCell ⟨gb287, 3, none⟩ (.int .i64 ((rd_T26 l0 (ji42)).f3))).heap[gb274]? = some (.cells #[.slice none 0 0, .int .i64 0, .int .i64 0, .int .i64 0] 36 (0, 0))) := ⟨bf BK274 NB274_287⟩
                  have n2_ : Aside0 (((((w109.setCell ⟨gb287, 0, none⟩ (.int .i64 ((rd_T26 l0 (ji42)).f0))).setCell ⟨gb287, 1, none⟩ (.int .i64 ((rd_T26 l0 (ji42)).f1))).setCell ⟨gb287, 2, none⟩ (.string ((rd_T26 l0 (ji42)).f2))).setCell ⟨gb287, 3, none⟩ (.int .i64 ((rd_T26 l0 (ji42)).f3))).heap[gb282]? = some (.cells #[u283000, .int .i64 t278, .int .i64 t279, .int .i64 t280] 36 (0, 0))) := ⟨bf BK282 NB282_287⟩
                  have n3_ : Aside0 (((((w109.setCell ⟨gb287, 0, none⟩ (.int .i64 ((rd_T26 l0 (ji42)).f0))).setCell ⟨gb287, 1, none⟩ (.int .i64 ((rd_T26 l0 (ji42)).f1))).setCell ⟨gb287, 2, none⟩ (.string ((rd_T26 l0 (ji42)).f2))).setCell ⟨gb287, 3, none⟩ (.int .i64 ((rd_T26 l0 (ji42)).f3))).heap[gb287]? = some (.cells #[.int .i64 ((rd_T26 l0 (ji42)).f0), .int .i64 ((rd_T26 l0 (ji42)).f1), .string ((rd_T26 l0 (ji42)).f2), .int .i64 ((rd_T26 l0 (ji42)).f3)] 26 (0, 0))) := ⟨by (with_reducible repeat (first | refine blk_drewN ?_ _ | refine blk_drew ?_ | refine blk_alloc ?_ _)); refine blk_put (cs := #[.int .i64 ((rd_T26 l0 (ji42)).f0), .int .i64 ((rd_T26 l0 (ji42)).f1), .string ((rd_T26 l0 (ji42)).f2), .int .i64 0]) ?_ 3 _ rfl; (with_reducible repeat (first | refine blk_drewN ?_ _ | refine blk_drew ?_ | refine blk_alloc ?_ _)); refine blk_put (cs := #[.int .i64 ((rd_T26 l0 (ji42)).f0), .int .i64 ((rd_T26 l0 (ji42)).f1), .string (⟨#[]⟩ : ByteArray), .int .i64 0]) ?_ 2 _ rfl; (with_reducible repeat (first | refine blk_drewN ?_ _ | refine blk_drew ?_ | refine blk_alloc ?_ _)); refine blk_put (cs := #[.int .i64 ((rd_T26 l0 (ji42)).f0), .int .i64 0, .string (⟨#[]⟩ : ByteArray), .int .i64 0]) ?_ 1 _ rfl; (with_reducible repeat (first | refine blk_drewN ?_ _ | refine blk_drew ?_ | refine blk_alloc ?_ _)); refine blk_put (cs := #[.int .i64 0, .int .i64 0, .string (⟨#[]⟩ : ByteArray), .int .i64 0]) ?_ 0 _ rfl; (with_reducible repeat (first | refine blk_drewN ?_ _ | refine blk_drew ?_ | refine blk_alloc ?_ _)); exact BK287.out⟩
                  have n4_ : Aside0 (Below w.heap.size w ((((w109.setCell ⟨gb287, 0, none⟩ (.int .i64 ((rd_T26 l0 (ji42)).f0))).setCell ⟨gb287, 1, none⟩ (.int .i64 ((rd_T26 l0 (ji42)).f1))).setCell ⟨gb287, 2, none⟩ (.string ((rd_T26 l0 (ji42)).f2))).setCell ⟨gb287, 3, none⟩ (.int .i64 ((rd_T26 l0 (ji42)).f3)))) := ⟨bs3 HB GE274 GE282 GE287⟩
                  (try clear HO_283000)
                  (try clear BK274)
                  (try clear BK282)
                  (try clear BK287)
                  (try clear HB)
                  generalize ((((w109.setCell ⟨gb287, 0, none⟩ (.int .i64 ((rd_T26 l0 (ji42)).f0))).setCell ⟨gb287, 1, none⟩ (.int .i64 ((rd_T26 l0 (ji42)).f1))).setCell ⟨gb287, 2, none⟩ (.string ((rd_T26 l0 (ji42)).f2))).setCell ⟨gb287, 3, none⟩ (.int .i64 ((rd_T26 l0 (ji42)).f3))) = w113 at n0_ n1_ n2_ n3_ n4_ ⊢
                  have HO_283000 := n0_
                  have BK274 := n1_
                  have BK282 := n2_
                  have BK287 := n3_
                  have HB := n4_
                  clear n0_ n1_ n2_ n3_ n4_
                  have n0_ := Aside0.mk (Kd.R_drew HO_283000.out)
                  have n1_ := Aside0.mk (blk_drew BK274.out)
                  have n2_ := Aside0.mk (blk_drew BK282.out)
                  have n3_ := Aside0.mk (blk_drew BK287.out)
                  have n4_ := Aside0.mk (below_drew1 HB.out)
                  clear HO_283000
                  clear BK274
                  clear BK282
                  clear BK287
                  clear HB
                  have HO_283000 := n0_
                  have BK274 := n1_
                  have BK282 := n2_
                  have BK287 := n3_
                  have HB := n4_
                  clear n0_ n1_ n2_ n3_ n4_
                  refine start_ (n := 12) (S := fun w' => w'.cell? ⟨gb287, 0, none⟩ = some (.int .i64 ((rd_T26 l0 (ji42)).f0)) ∧ w'.cell? ⟨gb287, 1, none⟩ = some (.int .i64 ((rd_T26 l0 (ji42)).f1)) ∧ w'.cell? ⟨gb287, 2, none⟩ = some (.string ((rd_T26 l0 (ji42)).f2)) ∧ w'.cell? ⟨gb287, 3, none⟩ = some (.int .i64 ((rd_T26 l0 (ji42)).f3))) (ds := []) #[false, false, false, false, false, false, false, false, false, false, false, false] (by kernel_rfl) rfl rfl ⟨(blk_cell BK287.out 0).trans rfl, (blk_cell BK287.out 1).trans rfl, (blk_cell BK287.out 2).trans rfl, (blk_cell BK287.out 3).trans rfl⟩ (fun hHeld => ?_); refine with_tabW impl_OpenRing.tab19 impl_OpenRing.bits19 (fun HT_ HW_ => ?_)
                  generalize w113.drew = w114 at HO_283000 BK274 BK282 BK287 HB hHeld ⊢
                  refine takeS 0 69 HT_.out HW_.out hHeld (hr := by rintro w' ⟨s0, s1, s2, s3⟩; go_simp; with_reducible rfl) (h := ?_)
                  refine one_ (i := 1) (N := some 70) #[true, true, false, false, false, false, false, false, false, false, false, false] rfl rfl (one_of HT_.out (by kernel_rfl)) (by decide) (fun K hK => ?_)
                  refine goes_ Tryd.func60 (by kernel_rfl) rfl #[.agg #[.int .i64 ((rd_T26 l0 (ji42)).f0), .int .i64 ((rd_T26 l0 (ji42)).f1), .string ((rd_T26 l0 (ji42)).f2), .int .i64 ((rd_T26 l0 (ji42)).f3)]] (by rfl) rfl rfl (by (try simp only [List.map_toArray, List.map_cons, List.map_nil]); first | done | (simp only [hji42]; rfl) | rfl | (simp only [List.length_drop, List.length_take]; rfl)) ?_
                  with_reducible refine (impl_isIntact.calls kj37 ((rd_T26 l0 (ji42)).f0) ((rd_T26 l0 (ji42)).f1) ((rd_T26 l0 (ji42)).f2) ((rd_T26 l0 (ji42)).f3) false _ ?sideT A45.out).mono ?_
                  case sideT => refine ⟨Ito.tabB hTab_.out ?_⟩; first | exact bs HB | exact st_below | (repeat (first | (with_reducible first | exact HB.out | apply below_alloc | apply pw_below_drewN | apply below_drew1 | refine below_set ?_ (Aside0.out (by assumption))) | exact HB.out))
                  rintro e w115 ⟨rfl, hb⟩
                  refine ⟨_, rfl, ?_⟩
                  have n0_ := Aside0.mk (Kd.R_below (rr HO_283000.out) hb)
                  have n1_ := Aside0.mk (bb BK274 hb)
                  have n2_ := Aside0.mk (bb BK282 hb)
                  have n3_ := Aside0.mk (bb BK287 hb)
                  have n4_ := Aside0.mk (below_step (bs3 HB GE274 GE282 GE287) hb)
                  clear HO_283000
                  clear BK274
                  clear BK282
                  clear BK287
                  clear HB
                  have HO_283000 := n0_
                  have BK274 := n1_
                  have BK282 := n2_
                  have BK287 := n3_
                  have HB := n4_
                  clear n0_ n1_ n2_ n3_ n4_
                  (try clear hb)
                  (try clear hb2)
                  (try clear hk)
                  (try clear hi)
                  refine hK.out _ _ ⟨(blk_cell BK287.out 0).trans rfl, (blk_cell BK287.out 1).trans rfl, (blk_cell BK287.out 2).trans rfl, (blk_cell BK287.out 3).trans rfl⟩ (fun hHeld => ?_)
                  clear hK K
                  refine norm_ (a' := ?_) ?_ ?_
                  rotate_left
                  ·
                   show Act.put _ (some 70) _ = _
                   simp only [Act.put, List.setIfInBounds_toArray, List.set_cons_zero, List.set_cons_succ, i64_w, i32_w]
                   rfl
                  refine pureS 2 71 HT_.out ?_
                  refine pureS 3 72 HT_.out ?_
                  refine pureU 4 73 HT_.out ?_
                  refine pureU 5 74 HT_.out ?_
                  refine pureU 6 75 HT_.out ?_
                  refine pureU 7 76 HT_.out ?_
                  refine pureU 8 77 HT_.out ?_
                  refine pureU 9 78 HT_.out ?_
                  refine pureU 10 79 HT_.out ?_
                  refine pureS 11 80 HT_.out ?_
                  refine done_ (done_of HT_.out (by kernel_rfl)) ?_
                  have hnb116 := NB282_274.out
                  have hnc116 := NB274_282.out
                  obtain ⟨hcz117_0, hcz117_1, hcz117_2, hcz117_3⟩ := cz4 BK282
                  obtain ⟨hfz117_0, hfz117_1, hfz117_2, hfz117_3⟩ := fz4 BK282
                  have p292 : 0 ≤ ((ji90) : Int) := of_decide_eq_true (by first | (with_reducible assumption) | assumption)
                  have q292 : (ji90) < (l0.length : Int) := of_decide_eq_true (by first | (with_reducible assumption) | assumption)
                  obtain ⟨ad292, e292, hx292_0, hx292_1, hx292_2, hx292_3⟩ := at_T26 HR0.out (ji90) p292 q292
                  obtain rfl : ad286 = ad292 := (by injection e292)
                  have hn292_0 : ad286.block ≠ gb282 := Nat.ne_of_lt (Nat.lt_of_lt_of_le (by have := World.block_lt_of_cell? _ _ hx292_0; first | rwa [add_block] at this | exact this) GW282.out)
                  have hn292_1 : ad286.block ≠ gb282 := Nat.ne_of_lt (Nat.lt_of_lt_of_le (by have := World.block_lt_of_cell? _ _ hx292_0; first | rwa [add_block] at this | exact this) GW282.out)
                  replace hx292_0 := (HB.out.cell (World.block_lt_of_cell? w _ hx292_0)).trans hx292_0
                  replace hx292_1 := (HB.out.cell (World.block_lt_of_cell? w _ hx292_1)).trans hx292_1
                  replace hx292_2 := (HB.out.cell (World.block_lt_of_cell? w _ hx292_2)).trans hx292_2
                  replace hx292_3 := (HB.out.cell (World.block_lt_of_cell? w _ hx292_3)).trans hx292_3
                  replace hx292_0 := (cell_far (p := ⟨gb282, 1, none⟩) (by first | (rw [add_block]; exact hn292_0) | (show (Addr.add _ _).block ≠ _; rw [add_block]; exact hn292_0) | exact hn292_0) (.int .i64 (wrap64 (x7_1 + 1)))).trans hx292_0
                  replace hx292_1 := (cell_far (p := ⟨gb282, 1, none⟩) (by first | (rw [add_block]; exact hn292_0) | (show (Addr.add _ _).block ≠ _; rw [add_block]; exact hn292_0) | exact hn292_0) (.int .i64 (wrap64 (x7_1 + 1)))).trans hx292_1
                  replace hx292_2 := (cell_far (p := ⟨gb282, 1, none⟩) (by first | (rw [add_block]; exact hn292_0) | (show (Addr.add _ _).block ≠ _; rw [add_block]; exact hn292_0) | exact hn292_0) (.int .i64 (wrap64 (x7_1 + 1)))).trans hx292_2
                  replace hx292_3 := (cell_far (p := ⟨gb282, 1, none⟩) (by first | (rw [add_block]; exact hn292_0) | (show (Addr.add _ _).block ≠ _; rw [add_block]; exact hn292_0) | exact hn292_0) (.int .i64 (wrap64 (x7_1 + 1)))).trans hx292_3
                  replace hx292_0 := (cell_far (p := ⟨gb282, 2, none⟩) (by first | (rw [add_block]; exact hn292_1) | (show (Addr.add _ _).block ≠ _; rw [add_block]; exact hn292_1) | exact hn292_1) (.int .i64 (wrap64 ((wrap64 (Int.tdiv (wrap64 (x7_1 + 1)) (l0.length : Int))) + 1)))).trans hx292_0
                  replace hx292_1 := (cell_far (p := ⟨gb282, 2, none⟩) (by first | (rw [add_block]; exact hn292_1) | (show (Addr.add _ _).block ≠ _; rw [add_block]; exact hn292_1) | exact hn292_1) (.int .i64 (wrap64 ((wrap64 (Int.tdiv (wrap64 (x7_1 + 1)) (l0.length : Int))) + 1)))).trans hx292_1
                  replace hx292_2 := (cell_far (p := ⟨gb282, 2, none⟩) (by first | (rw [add_block]; exact hn292_1) | (show (Addr.add _ _).block ≠ _; rw [add_block]; exact hn292_1) | exact hn292_1) (.int .i64 (wrap64 ((wrap64 (Int.tdiv (wrap64 (x7_1 + 1)) (l0.length : Int))) + 1)))).trans hx292_2
                  replace hx292_3 := (cell_far (p := ⟨gb282, 2, none⟩) (by first | (rw [add_block]; exact hn292_1) | (show (Addr.add _ _).block ≠ _; rw [add_block]; exact hn292_1) | exact hn292_1) (.int .i64 (wrap64 ((wrap64 (Int.tdiv (wrap64 (x7_1 + 1)) (l0.length : Int))) + 1)))).trans hx292_3
                  clear hn292_0
                  clear hn292_1
                  replace p292 := eq_true p292
                  replace q292 := eq_true q292
                  obtain ⟨Ao118, co118, eo118⟩ := Kd.R_slice HO_283000.out
                  subst eo118
                  try go_wp2_with (first | ((with_reducible refine gate_callee (f := 20) rfl ?_); refine goesL_ (some 109) rfl rfl Tryd.func20 (by kernel_rfl) rfl #[.agg #[.slice Ao118 x283000_2.length co118, .int .i64 (wrap64 (x7_1 + 1)), .int .i64 (wrap64 ((wrap64 (Int.tdiv (wrap64 (x7_1 + 1)) (l0.length : Int))) + 1)), .int .i64 ji93]] rfl (by (try simp only [List.map_toArray, List.map_cons, List.map_nil]); first | done | (simp only [hji93]; rfl) | rfl | (simp only [List.length_drop, List.length_take]; rfl)) ?_; (with_reducible refine (impl_GoodRing.calls kj37 _ _ x283000_2 (wrap64 (x7_1 + 1)) (wrap64 ((wrap64 (Int.tdiv (wrap64 (x7_1 + 1)) (l0.length : Int))) + 1)) ji93 false _ ?sideT ?side1 ?side2 A94.out).mono ?_); (case sideT => refine ⟨Ito.tabB hTab_.out ?_⟩; first | exact bs HB | exact st_below | (repeat (first | (with_reducible first | exact HB.out | apply below_alloc | apply pw_below_drewN | apply below_drew1 | refine below_set ?_ (Aside0.out (by assumption))) | exact HB.out))); (case side1 => refine (Kd.R_reads' (e := 26) (base := w.heap.size) (ok := fun k_ => k_ ≠ gb287) (n := x283000_2.length) (c := co118) ?_).2.2; exact (by (with_reducible repeat (first | apply Kd.R_alloc | apply Kd.R_drewN | apply Kd.R_drew)); exact (Kd.R_mono (Kd.R_far (p := ⟨gb282, 3, none⟩) (Kd.R_far (p := ⟨gb282, 2, none⟩) (Kd.R_far (p := ⟨gb282, 1, none⟩) (Kd.R_types HO_283000.out BK282.out (by decide)) (fun _ hk => hk.2) (.int .i64 (wrap64 (x7_1 + 1)))) (fun _ hk => hk.2) (.int .i64 (wrap64 ((wrap64 (Int.tdiv (wrap64 (x7_1 + 1)) (l0.length : Int))) + 1)))) (fun _ hk => hk.2) (.int .i64 ji93)) (fun _ h_ => h_.1)))); (case side2 => exact (Kd.R_reads' HO_283000.out).2.1); rintro e w119 ⟨rfl, hb⟩; refine ⟨_, rfl, ?_⟩; replace HO_283000 := Aside0.mk (Kd.R_below (by (with_reducible repeat (first | apply Kd.R_alloc | apply Kd.R_drewN | apply Kd.R_drew)); exact (Kd.R_mono (Kd.R_far (p := ⟨gb282, 3, none⟩) (Kd.R_far (p := ⟨gb282, 2, none⟩) (Kd.R_far (p := ⟨gb282, 1, none⟩) (Kd.R_types HO_283000.out BK282.out (by decide)) (fun _ hk => hk.2) (.int .i64 (wrap64 (x7_1 + 1)))) (fun _ hk => hk.2) (.int .i64 (wrap64 ((wrap64 (Int.tdiv (wrap64 (x7_1 + 1)) (l0.length : Int))) + 1)))) (fun _ hk => hk.2) (.int .i64 ji93)) (fun _ h_ => h_.1))) hb); replace BK274 := Aside0.mk (blk_below (bf BK274 NB274_282) hb); replace BK282 := Aside0.mk (blk_below (g := gb282) (o := .cells #[.slice Ao118 x283000_2.length co118, .int .i64 (wrap64 (x7_1 + 1)), .int .i64 (wrap64 ((wrap64 (Int.tdiv (wrap64 (x7_1 + 1)) (l0.length : Int))) + 1)), .int .i64 ji93] 36 (0, 0)) (by (with_reducible repeat (first | refine blk_drewN ?_ _ | refine blk_drew ?_ | refine blk_alloc ?_ _)); refine blk_put (cs := #[.slice Ao118 x283000_2.length co118, .int .i64 (wrap64 (x7_1 + 1)), .int .i64 (wrap64 ((wrap64 (Int.tdiv (wrap64 (x7_1 + 1)) (l0.length : Int))) + 1)), .int .i64 t280]) ?_ 3 _ rfl; (with_reducible repeat (first | refine blk_drewN ?_ _ | refine blk_drew ?_ | refine blk_alloc ?_ _)); refine blk_put (cs := #[.slice Ao118 x283000_2.length co118, .int .i64 (wrap64 (x7_1 + 1)), .int .i64 t279, .int .i64 t280]) ?_ 2 _ rfl; (with_reducible repeat (first | refine blk_drewN ?_ _ | refine blk_drew ?_ | refine blk_alloc ?_ _)); refine blk_put (cs := #[.slice Ao118 x283000_2.length co118, .int .i64 t278, .int .i64 t279, .int .i64 t280]) ?_ 1 _ rfl; (with_reducible repeat (first | refine blk_drewN ?_ _ | refine blk_drew ?_ | refine blk_alloc ?_ _)); exact BK282.out) hb); replace BK287 := Aside0.mk (blk_below (bf BK287 NB287_282) hb); replace HB := Aside0.mk (below_step (bs3 HB GE274 GE282 GE287) hb); (try clear hb); (try clear hb2); (try clear hk); (try clear hi); obtain ⟨hcz120_0, hcz120_1, hcz120_2, hcz120_3⟩ := cz4 BK274; obtain ⟨hfz120_0, hfz120_1, hfz120_2, hfz120_3⟩ := fz4 BK274))
                  refine bodyPost_ret (results_ct rfl _ _ gb274 36 #[.slice none 0 0, .int .i64 0, .int .i64 0, .int .i64 0] (0, 0) _ rfl (by (with_reducible repeat (first | refine blk_drewN ?_ _ | refine blk_drew ?_ | refine blk_alloc ?_ _)); refine blk_put (cs := #[.slice none 0 0, .int .i64 0, .int .i64 0, .int .i64 0]) ?_ 3 _ rfl; (with_reducible repeat (first | refine blk_drewN ?_ _ | refine blk_drew ?_ | refine blk_alloc ?_ _)); refine blk_put (cs := #[.slice none 0 0, .int .i64 0, .int .i64 0, .int .i64 0]) ?_ 2 _ rfl; (with_reducible repeat (first | refine blk_drewN ?_ _ | refine blk_drew ?_ | refine blk_alloc ?_ _)); refine blk_put (cs := #[.slice none 0 0, .int .i64 0, .int .i64 0, .int .i64 0]) ?_ 1 _ rfl; (with_reducible repeat (first | refine blk_drewN ?_ _ | refine blk_drew ?_ | refine blk_alloc ?_ _)); refine blk_put (cs := #[.slice none 0 0, .int .i64 0, .int .i64 0, .int .i64 0]) ?_ 0 _ rfl; (with_reducible repeat (first | refine blk_drewN ?_ _ | refine blk_drew ?_ | refine blk_alloc ?_ _)); exact BK274.out) Tryd.underlying36 rfl (by kernel_rfl)) rfl ?_
                  exact ⟨_, by first | rfl | (simp [errW_none, errW_some] <;> rfl) | (simp only [← hji42, ← hji90, ← hji93]; first | rfl | (simp [errW_none, errW_some] <;> rfl)) | (simp [*, errW_none, errW_some] <;> rfl), by first | exact Kd.R_nil _ _ _ _ _ | exact Kd.N_nil _ _ _ _ _ | exact Kd.V_nil _ _ _ _ _ | exact Kd.Q_nil _ _ _ _ _ | exact Kd.S_nil _ _ _ _ _, bs3 HB GE274 GE282 GE287⟩
                ·
                 rw [if_neg c92] at H
                 exact absurd H (by simp)
               ·
                rw [if_neg c91] at H
                exact absurd H (by simp)
             ·
              rw [if_neg c44] at H
              exact absurd H (by simp)
            ·
             rw [if_neg c43] at H
             exact absurd H (by simp)
          ·
           replace c40 := Bool.eq_false_iff.mpr c40
           subst c40
           rw [if_neg (show ¬ (false = true) by decide)] at H
           by_cases c121 : (l0.length : Int) = 0
           ·
            rw [if_pos c121] at H
            exact absurd H (by simp)
           ·
            rw [if_neg c121] at H
            have c121b0 : ((l0.length : Int) == 0) = false := beq_eq_false_iff_ne.mpr c121
            have c121b1 : ((l0.length : Int) != 0) = true := bne_iff_ne.mpr c121
            have c121b2 : ¬ (l0 = []) := fun h_ => c121 (by rw [h_]; rfl)
            obtain ⟨ji122, hji122⟩ : ∃ j_ : Int, (Int.tmod x7_1 (l0.length : Int)) = j_ := ⟨_, rfl⟩
            replace H : (if 0 ≤ (ji122) then (if (ji122) < (l0.length : Int) then ((impl_GoodRing.f kj37 x283000_2 (wrap64 (x7_1 + 1)) (wrap64 ((wrap64 (Int.tdiv (wrap64 (x7_1 + 1)) (l0.length : Int))) + 1)) (mx ((rd_T26 l0 (ji122)).f1) x10_2)).bind fun t295 => (if t295 = true then (some (x283000_2, wrap64 (x7_1 + 1), wrap64 ((wrap64 (Int.tdiv (wrap64 (x7_1 + 1)) (l0.length : Int))) + 1), mx ((rd_T26 l0 (ji122)).f1) x10_2, true)) else (some (([] : List (S26)), 0, 0, 0, false)))) else (none)) else (none)) = some (r1, r2, r3, r4, r5) := by first | (rw [hji122] at H; exact H) | (simp only [hji122] at H ⊢; exact H)
            by_cases c123 : 0 ≤ (ji122)
            ·
             rw [if_pos c123] at H
             have c123b0 : decide (0 ≤ (ji122)) = true := decide_eq_true c123
             clear c123
             by_cases c124 : (ji122) < (l0.length : Int)
             ·
              rw [if_pos c124] at H
              have c124b0 : decide ((ji122) < (l0.length : Int)) = true := decide_eq_true c124
              clear c124
              obtain ⟨ji125, hji125⟩ : ∃ j_ : Int, (mx ((rd_T26 l0 (ji122)).f1) x10_2) = j_ := ⟨_, rfl⟩
              replace H : ((impl_GoodRing.f kj37 x283000_2 (wrap64 (x7_1 + 1)) (wrap64 ((wrap64 (Int.tdiv (wrap64 (x7_1 + 1)) (l0.length : Int))) + 1)) (ji125)).bind fun t295 => (if t295 = true then (some (x283000_2, wrap64 (x7_1 + 1), wrap64 ((wrap64 (Int.tdiv (wrap64 (x7_1 + 1)) (l0.length : Int))) + 1), ji125, true)) else (some (([] : List (S26)), 0, 0, 0, false)))) = some (r1, r2, r3, r4, r5) := by first | (rw [hji125] at H; exact H) | (simp only [hji125] at H ⊢; exact H)
              have hji125_ : (if ((rd_T26 l0 (ji122)).f1) < x10_2 then x10_2 else ((rd_T26 l0 (ji122)).f1)) = ji125 := hji125
              replace H := Option.bind_eq_some_iff.mp H
              obtain ⟨t295, A1260, H⟩ := H
              replace H : (if t295 = true then (some (x283000_2, wrap64 (x7_1 + 1), wrap64 ((wrap64 (Int.tdiv (wrap64 (x7_1 + 1)) (l0.length : Int))) + 1), ji125, true)) else (some (([] : List (S26)), 0, 0, 0, false))) = some (r1, r2, r3, r4, r5) := H
              have A126 := Aside0.mk A1260
              clear A1260
              by_cases c127 : t295 = true
              ·
               subst c127
               rw [if_pos rfl] at H
               simp only [Option.some.injEq, Prod.mk.injEq] at H
               obtain ⟨rfl, rfl, rfl, rfl, rfl⟩ := H
               have hnb128 := NB282_274.out
               have hnc128 := NB274_282.out
               obtain ⟨hcz129_0, hcz129_1, hcz129_2, hcz129_3⟩ := cz4 BK282
               obtain ⟨hfz129_0, hfz129_1, hfz129_2, hfz129_3⟩ := fz4 BK282
               have p294 : 0 ≤ ((ji122) : Int) := of_decide_eq_true (by first | (with_reducible assumption) | assumption)
               have q294 : (ji122) < (l0.length : Int) := of_decide_eq_true (by first | (with_reducible assumption) | assumption)
               obtain ⟨ad294, e294, hx294_0, hx294_1, hx294_2, hx294_3⟩ := at_T26 HR0.out (ji122) p294 q294
               cases e294
               have hn294_0 : ad294.block ≠ gb282 := Nat.ne_of_lt (Nat.lt_of_lt_of_le (by have := World.block_lt_of_cell? _ _ hx294_0; first | rwa [add_block] at this | exact this) GW282.out)
               have hn294_1 : ad294.block ≠ gb282 := Nat.ne_of_lt (Nat.lt_of_lt_of_le (by have := World.block_lt_of_cell? _ _ hx294_0; first | rwa [add_block] at this | exact this) GW282.out)
               replace hx294_0 := (HB.out.cell (World.block_lt_of_cell? w _ hx294_0)).trans hx294_0
               replace hx294_1 := (HB.out.cell (World.block_lt_of_cell? w _ hx294_1)).trans hx294_1
               replace hx294_2 := (HB.out.cell (World.block_lt_of_cell? w _ hx294_2)).trans hx294_2
               replace hx294_3 := (HB.out.cell (World.block_lt_of_cell? w _ hx294_3)).trans hx294_3
               replace hx294_0 := (cell_far (p := ⟨gb282, 1, none⟩) (by first | (rw [add_block]; exact hn294_0) | (show (Addr.add _ _).block ≠ _; rw [add_block]; exact hn294_0) | exact hn294_0) (.int .i64 (wrap64 (x7_1 + 1)))).trans hx294_0
               replace hx294_1 := (cell_far (p := ⟨gb282, 1, none⟩) (by first | (rw [add_block]; exact hn294_0) | (show (Addr.add _ _).block ≠ _; rw [add_block]; exact hn294_0) | exact hn294_0) (.int .i64 (wrap64 (x7_1 + 1)))).trans hx294_1
               replace hx294_2 := (cell_far (p := ⟨gb282, 1, none⟩) (by first | (rw [add_block]; exact hn294_0) | (show (Addr.add _ _).block ≠ _; rw [add_block]; exact hn294_0) | exact hn294_0) (.int .i64 (wrap64 (x7_1 + 1)))).trans hx294_2
               replace hx294_3 := (cell_far (p := ⟨gb282, 1, none⟩) (by first | (rw [add_block]; exact hn294_0) | (show (Addr.add _ _).block ≠ _; rw [add_block]; exact hn294_0) | exact hn294_0) (.int .i64 (wrap64 (x7_1 + 1)))).trans hx294_3
               replace hx294_0 := (cell_far (p := ⟨gb282, 2, none⟩) (by first | (rw [add_block]; exact hn294_1) | (show (Addr.add _ _).block ≠ _; rw [add_block]; exact hn294_1) | exact hn294_1) (.int .i64 (wrap64 ((wrap64 (Int.tdiv (wrap64 (x7_1 + 1)) (l0.length : Int))) + 1)))).trans hx294_0
               replace hx294_1 := (cell_far (p := ⟨gb282, 2, none⟩) (by first | (rw [add_block]; exact hn294_1) | (show (Addr.add _ _).block ≠ _; rw [add_block]; exact hn294_1) | exact hn294_1) (.int .i64 (wrap64 ((wrap64 (Int.tdiv (wrap64 (x7_1 + 1)) (l0.length : Int))) + 1)))).trans hx294_1
               replace hx294_2 := (cell_far (p := ⟨gb282, 2, none⟩) (by first | (rw [add_block]; exact hn294_1) | (show (Addr.add _ _).block ≠ _; rw [add_block]; exact hn294_1) | exact hn294_1) (.int .i64 (wrap64 ((wrap64 (Int.tdiv (wrap64 (x7_1 + 1)) (l0.length : Int))) + 1)))).trans hx294_2
               replace hx294_3 := (cell_far (p := ⟨gb282, 2, none⟩) (by first | (rw [add_block]; exact hn294_1) | (show (Addr.add _ _).block ≠ _; rw [add_block]; exact hn294_1) | exact hn294_1) (.int .i64 (wrap64 ((wrap64 (Int.tdiv (wrap64 (x7_1 + 1)) (l0.length : Int))) + 1)))).trans hx294_3
               clear hn294_0
               clear hn294_1
               replace p294 := eq_true p294
               replace q294 := eq_true q294
               obtain ⟨Ao130, co130, eo130⟩ := Kd.R_slice HO_283000.out
               subst eo130
               go_wp2_with (first | ((with_reducible refine gate_callee (f := 20) rfl ?_); refine goesL_ (some 109) rfl rfl Tryd.func20 (by kernel_rfl) rfl #[.agg #[.slice Ao130 x283000_2.length co130, .int .i64 (wrap64 (x7_1 + 1)), .int .i64 (wrap64 ((wrap64 (Int.tdiv (wrap64 (x7_1 + 1)) (l0.length : Int))) + 1)), .int .i64 ji125]] rfl (by (try simp only [List.map_toArray, List.map_cons, List.map_nil]); first | done | (simp only [hji125]; rfl) | rfl | (simp only [List.length_drop, List.length_take]; rfl)) ?_; (with_reducible refine (impl_GoodRing.calls kj37 _ _ x283000_2 (wrap64 (x7_1 + 1)) (wrap64 ((wrap64 (Int.tdiv (wrap64 (x7_1 + 1)) (l0.length : Int))) + 1)) ji125 true _ ?sideT ?side1 ?side2 A126.out).mono ?_); (case sideT => refine ⟨Ito.tabB hTab_.out ?_⟩; first | exact bs HB | exact st_below | (repeat (first | (with_reducible first | exact HB.out | apply below_alloc | apply pw_below_drewN | apply below_drew1 | refine below_set ?_ (Aside0.out (by assumption))) | exact HB.out))); (case side1 => refine (Kd.R_reads' (e := 26) (base := w.heap.size) (ok := fun k_ => True) (n := x283000_2.length) (c := co130) ?_).2.2; exact (by (with_reducible repeat (first | apply Kd.R_alloc | apply Kd.R_drewN | apply Kd.R_drew)); exact (Kd.R_mono (Kd.R_far (p := ⟨gb282, 3, none⟩) (Kd.R_far (p := ⟨gb282, 2, none⟩) (Kd.R_far (p := ⟨gb282, 1, none⟩) (Kd.R_types HO_283000.out BK282.out (by decide)) (fun _ hk => hk.2) (.int .i64 (wrap64 (x7_1 + 1)))) (fun _ hk => hk.2) (.int .i64 (wrap64 ((wrap64 (Int.tdiv (wrap64 (x7_1 + 1)) (l0.length : Int))) + 1)))) (fun _ hk => hk.2) (.int .i64 ji125)) (fun _ h_ => h_.1)))); (case side2 => exact (Kd.R_reads' HO_283000.out).2.1); rintro e w131 ⟨rfl, hb⟩; refine ⟨_, rfl, ?_⟩; replace HO_283000 := Aside0.mk (Kd.R_below (by (with_reducible repeat (first | apply Kd.R_alloc | apply Kd.R_drewN | apply Kd.R_drew)); exact (Kd.R_mono (Kd.R_far (p := ⟨gb282, 3, none⟩) (Kd.R_far (p := ⟨gb282, 2, none⟩) (Kd.R_far (p := ⟨gb282, 1, none⟩) (Kd.R_types HO_283000.out BK282.out (by decide)) (fun _ hk => hk.2) (.int .i64 (wrap64 (x7_1 + 1)))) (fun _ hk => hk.2) (.int .i64 (wrap64 ((wrap64 (Int.tdiv (wrap64 (x7_1 + 1)) (l0.length : Int))) + 1)))) (fun _ hk => hk.2) (.int .i64 ji125)) (fun _ h_ => h_.1))) hb); replace BK274 := Aside0.mk (blk_below (bf BK274 NB274_282) hb); replace BK282 := Aside0.mk (blk_below (g := gb282) (o := .cells #[.slice Ao130 x283000_2.length co130, .int .i64 (wrap64 (x7_1 + 1)), .int .i64 (wrap64 ((wrap64 (Int.tdiv (wrap64 (x7_1 + 1)) (l0.length : Int))) + 1)), .int .i64 ji125] 36 (0, 0)) (by (with_reducible repeat (first | refine blk_drewN ?_ _ | refine blk_drew ?_ | refine blk_alloc ?_ _)); refine blk_put (cs := #[.slice Ao130 x283000_2.length co130, .int .i64 (wrap64 (x7_1 + 1)), .int .i64 (wrap64 ((wrap64 (Int.tdiv (wrap64 (x7_1 + 1)) (l0.length : Int))) + 1)), .int .i64 t280]) ?_ 3 _ rfl; (with_reducible repeat (first | refine blk_drewN ?_ _ | refine blk_drew ?_ | refine blk_alloc ?_ _)); refine blk_put (cs := #[.slice Ao130 x283000_2.length co130, .int .i64 (wrap64 (x7_1 + 1)), .int .i64 t279, .int .i64 t280]) ?_ 2 _ rfl; (with_reducible repeat (first | refine blk_drewN ?_ _ | refine blk_drew ?_ | refine blk_alloc ?_ _)); refine blk_put (cs := #[.slice Ao130 x283000_2.length co130, .int .i64 t278, .int .i64 t279, .int .i64 t280]) ?_ 1 _ rfl; (with_reducible repeat (first | refine blk_drewN ?_ _ | refine blk_drew ?_ | refine blk_alloc ?_ _)); exact BK282.out) hb); replace HB := Aside0.mk (below_step (bs2 HB GE274 GE282) hb); (try clear hb); (try clear hb2); (try clear hk); (try clear hi); obtain ⟨hcz132_0, hcz132_1, hcz132_2, hcz132_3⟩ := cz4 BK282; obtain ⟨hfz132_0, hfz132_1, hfz132_2, hfz132_3⟩ := fz4 BK282; obtain ⟨hcz133_0, hcz133_1, hcz133_2, hcz133_3⟩ := cz4 BK274; obtain ⟨hfz133_0, hfz133_1, hfz133_2, hfz133_3⟩ := fz4 BK274))
               refine bodyPost_ret (results_ct rfl _ _ gb274 36 #[.slice Ao130 x283000_2.length co130, .int .i64 (wrap64 (x7_1 + 1)), .int .i64 (wrap64 ((wrap64 (Int.tdiv (wrap64 (x7_1 + 1)) (l0.length : Int))) + 1)), .int .i64 ji125] (0, 0) _ rfl (by (with_reducible repeat (first | refine blk_drewN ?_ _ | refine blk_drew ?_ | refine blk_alloc ?_ _)); refine blk_put (cs := #[.slice Ao130 x283000_2.length co130, .int .i64 (wrap64 (x7_1 + 1)), .int .i64 (wrap64 ((wrap64 (Int.tdiv (wrap64 (x7_1 + 1)) (l0.length : Int))) + 1)), .int .i64 0]) ?_ 3 _ rfl; (with_reducible repeat (first | refine blk_drewN ?_ _ | refine blk_drew ?_ | refine blk_alloc ?_ _)); refine blk_put (cs := #[.slice Ao130 x283000_2.length co130, .int .i64 (wrap64 (x7_1 + 1)), .int .i64 0, .int .i64 0]) ?_ 2 _ rfl; (with_reducible repeat (first | refine blk_drewN ?_ _ | refine blk_drew ?_ | refine blk_alloc ?_ _)); refine blk_put (cs := #[.slice Ao130 x283000_2.length co130, .int .i64 0, .int .i64 0, .int .i64 0]) ?_ 1 _ rfl; (with_reducible repeat (first | refine blk_drewN ?_ _ | refine blk_drew ?_ | refine blk_alloc ?_ _)); refine blk_put (cs := #[.slice none 0 0, .int .i64 0, .int .i64 0, .int .i64 0]) ?_ 0 _ rfl; (with_reducible repeat (first | refine blk_drewN ?_ _ | refine blk_drew ?_ | refine blk_alloc ?_ _)); exact BK274.out) Tryd.underlying36 rfl (by kernel_rfl)) rfl ?_
               exact ⟨_, by first | rfl | (simp [errW_none, errW_some] <;> rfl) | (simp only [← hji122, ← hji125]; first | rfl | (simp [errW_none, errW_some] <;> rfl)) | (simp [*, errW_none, errW_some] <;> rfl), by (with_reducible repeat (first | apply Kd.R_alloc | apply Kd.R_drewN | apply Kd.R_drew)); exact Kd.R_mono (Kd.R_far (p := ⟨gb274, 3, none⟩) (Kd.R_far (p := ⟨gb274, 2, none⟩) (Kd.R_far (p := ⟨gb274, 1, none⟩) (Kd.R_far (p := ⟨gb274, 0, none⟩) (Kd.R_types HO_283000.out BK274.out (by decide)) (fun _ hk => hk.2) (.slice Ao130 x283000_2.length co130)) (fun _ hk => hk.2) (.int .i64 (wrap64 (x7_1 + 1)))) (fun _ hk => hk.2) (.int .i64 (wrap64 ((wrap64 (Int.tdiv (wrap64 (x7_1 + 1)) (l0.length : Int))) + 1)))) (fun _ hk => hk.2) (.int .i64 ji125)) (fun _ hk => trivial), bs2 HB GE274 GE282⟩
              ·
               replace c127 := Bool.eq_false_iff.mpr c127
               subst c127
               rw [if_neg (show ¬ (false = true) by decide)] at H
               simp only [Option.some.injEq, Prod.mk.injEq] at H
               obtain ⟨rfl, rfl, rfl, rfl, rfl⟩ := H
               have hnb134 := NB282_274.out
               have hnc134 := NB274_282.out
               obtain ⟨hcz135_0, hcz135_1, hcz135_2, hcz135_3⟩ := cz4 BK282
               obtain ⟨hfz135_0, hfz135_1, hfz135_2, hfz135_3⟩ := fz4 BK282
               have p294 : 0 ≤ ((ji122) : Int) := of_decide_eq_true (by first | (with_reducible assumption) | assumption)
               have q294 : (ji122) < (l0.length : Int) := of_decide_eq_true (by first | (with_reducible assumption) | assumption)
               obtain ⟨ad294, e294, hx294_0, hx294_1, hx294_2, hx294_3⟩ := at_T26 HR0.out (ji122) p294 q294
               cases e294
               have hn294_0 : ad294.block ≠ gb282 := Nat.ne_of_lt (Nat.lt_of_lt_of_le (by have := World.block_lt_of_cell? _ _ hx294_0; first | rwa [add_block] at this | exact this) GW282.out)
               have hn294_1 : ad294.block ≠ gb282 := Nat.ne_of_lt (Nat.lt_of_lt_of_le (by have := World.block_lt_of_cell? _ _ hx294_0; first | rwa [add_block] at this | exact this) GW282.out)
               replace hx294_0 := (HB.out.cell (World.block_lt_of_cell? w _ hx294_0)).trans hx294_0
               replace hx294_1 := (HB.out.cell (World.block_lt_of_cell? w _ hx294_1)).trans hx294_1
               replace hx294_2 := (HB.out.cell (World.block_lt_of_cell? w _ hx294_2)).trans hx294_2
               replace hx294_3 := (HB.out.cell (World.block_lt_of_cell? w _ hx294_3)).trans hx294_3
               replace hx294_0 := (cell_far (p := ⟨gb282, 1, none⟩) (by first | (rw [add_block]; exact hn294_0) | (show (Addr.add _ _).block ≠ _; rw [add_block]; exact hn294_0) | exact hn294_0) (.int .i64 (wrap64 (x7_1 + 1)))).trans hx294_0
               replace hx294_1 := (cell_far (p := ⟨gb282, 1, none⟩) (by first | (rw [add_block]; exact hn294_0) | (show (Addr.add _ _).block ≠ _; rw [add_block]; exact hn294_0) | exact hn294_0) (.int .i64 (wrap64 (x7_1 + 1)))).trans hx294_1
               replace hx294_2 := (cell_far (p := ⟨gb282, 1, none⟩) (by first | (rw [add_block]; exact hn294_0) | (show (Addr.add _ _).block ≠ _; rw [add_block]; exact hn294_0) | exact hn294_0) (.int .i64 (wrap64 (x7_1 + 1)))).trans hx294_2
               replace hx294_3 := (cell_far (p := ⟨gb282, 1, none⟩) (by first | (rw [add_block]; exact hn294_0) | (show (Addr.add _ _).block ≠ _; rw [add_block]; exact hn294_0) | exact hn294_0) (.int .i64 (wrap64 (x7_1 + 1)))).trans hx294_3
               replace hx294_0 := (cell_far (p := ⟨gb282, 2, none⟩) (by first | (rw [add_block]; exact hn294_1) | (show (Addr.add _ _).block ≠ _; rw [add_block]; exact hn294_1) | exact hn294_1) (.int .i64 (wrap64 ((wrap64 (Int.tdiv (wrap64 (x7_1 + 1)) (l0.length : Int))) + 1)))).trans hx294_0
               replace hx294_1 := (cell_far (p := ⟨gb282, 2, none⟩) (by first | (rw [add_block]; exact hn294_1) | (show (Addr.add _ _).block ≠ _; rw [add_block]; exact hn294_1) | exact hn294_1) (.int .i64 (wrap64 ((wrap64 (Int.tdiv (wrap64 (x7_1 + 1)) (l0.length : Int))) + 1)))).trans hx294_1
               replace hx294_2 := (cell_far (p := ⟨gb282, 2, none⟩) (by first | (rw [add_block]; exact hn294_1) | (show (Addr.add _ _).block ≠ _; rw [add_block]; exact hn294_1) | exact hn294_1) (.int .i64 (wrap64 ((wrap64 (Int.tdiv (wrap64 (x7_1 + 1)) (l0.length : Int))) + 1)))).trans hx294_2
               replace hx294_3 := (cell_far (p := ⟨gb282, 2, none⟩) (by first | (rw [add_block]; exact hn294_1) | (show (Addr.add _ _).block ≠ _; rw [add_block]; exact hn294_1) | exact hn294_1) (.int .i64 (wrap64 ((wrap64 (Int.tdiv (wrap64 (x7_1 + 1)) (l0.length : Int))) + 1)))).trans hx294_3
               clear hn294_0
               clear hn294_1
               replace p294 := eq_true p294
               replace q294 := eq_true q294
               obtain ⟨Ao136, co136, eo136⟩ := Kd.R_slice HO_283000.out
               subst eo136
               go_wp2_with (first | ((with_reducible refine gate_callee (f := 20) rfl ?_); refine goesL_ (some 109) rfl rfl Tryd.func20 (by kernel_rfl) rfl #[.agg #[.slice Ao136 x283000_2.length co136, .int .i64 (wrap64 (x7_1 + 1)), .int .i64 (wrap64 ((wrap64 (Int.tdiv (wrap64 (x7_1 + 1)) (l0.length : Int))) + 1)), .int .i64 ji125]] rfl (by (try simp only [List.map_toArray, List.map_cons, List.map_nil]); first | done | (simp only [hji125]; rfl) | rfl | (simp only [List.length_drop, List.length_take]; rfl)) ?_; (with_reducible refine (impl_GoodRing.calls kj37 _ _ x283000_2 (wrap64 (x7_1 + 1)) (wrap64 ((wrap64 (Int.tdiv (wrap64 (x7_1 + 1)) (l0.length : Int))) + 1)) ji125 false _ ?sideT ?side1 ?side2 A126.out).mono ?_); (case sideT => refine ⟨Ito.tabB hTab_.out ?_⟩; first | exact bs HB | exact st_below | (repeat (first | (with_reducible first | exact HB.out | apply below_alloc | apply pw_below_drewN | apply below_drew1 | refine below_set ?_ (Aside0.out (by assumption))) | exact HB.out))); (case side1 => refine (Kd.R_reads' (e := 26) (base := w.heap.size) (ok := fun k_ => True) (n := x283000_2.length) (c := co136) ?_).2.2; exact (by (with_reducible repeat (first | apply Kd.R_alloc | apply Kd.R_drewN | apply Kd.R_drew)); exact (Kd.R_mono (Kd.R_far (p := ⟨gb282, 3, none⟩) (Kd.R_far (p := ⟨gb282, 2, none⟩) (Kd.R_far (p := ⟨gb282, 1, none⟩) (Kd.R_types HO_283000.out BK282.out (by decide)) (fun _ hk => hk.2) (.int .i64 (wrap64 (x7_1 + 1)))) (fun _ hk => hk.2) (.int .i64 (wrap64 ((wrap64 (Int.tdiv (wrap64 (x7_1 + 1)) (l0.length : Int))) + 1)))) (fun _ hk => hk.2) (.int .i64 ji125)) (fun _ h_ => h_.1)))); (case side2 => exact (Kd.R_reads' HO_283000.out).2.1); rintro e w137 ⟨rfl, hb⟩; refine ⟨_, rfl, ?_⟩; replace HO_283000 := Aside0.mk (Kd.R_below (by (with_reducible repeat (first | apply Kd.R_alloc | apply Kd.R_drewN | apply Kd.R_drew)); exact (Kd.R_mono (Kd.R_far (p := ⟨gb282, 3, none⟩) (Kd.R_far (p := ⟨gb282, 2, none⟩) (Kd.R_far (p := ⟨gb282, 1, none⟩) (Kd.R_types HO_283000.out BK282.out (by decide)) (fun _ hk => hk.2) (.int .i64 (wrap64 (x7_1 + 1)))) (fun _ hk => hk.2) (.int .i64 (wrap64 ((wrap64 (Int.tdiv (wrap64 (x7_1 + 1)) (l0.length : Int))) + 1)))) (fun _ hk => hk.2) (.int .i64 ji125)) (fun _ h_ => h_.1))) hb); replace BK274 := Aside0.mk (blk_below (bf BK274 NB274_282) hb); replace BK282 := Aside0.mk (blk_below (g := gb282) (o := .cells #[.slice Ao136 x283000_2.length co136, .int .i64 (wrap64 (x7_1 + 1)), .int .i64 (wrap64 ((wrap64 (Int.tdiv (wrap64 (x7_1 + 1)) (l0.length : Int))) + 1)), .int .i64 ji125] 36 (0, 0)) (by (with_reducible repeat (first | refine blk_drewN ?_ _ | refine blk_drew ?_ | refine blk_alloc ?_ _)); refine blk_put (cs := #[.slice Ao136 x283000_2.length co136, .int .i64 (wrap64 (x7_1 + 1)), .int .i64 (wrap64 ((wrap64 (Int.tdiv (wrap64 (x7_1 + 1)) (l0.length : Int))) + 1)), .int .i64 t280]) ?_ 3 _ rfl; (with_reducible repeat (first | refine blk_drewN ?_ _ | refine blk_drew ?_ | refine blk_alloc ?_ _)); refine blk_put (cs := #[.slice Ao136 x283000_2.length co136, .int .i64 (wrap64 (x7_1 + 1)), .int .i64 t279, .int .i64 t280]) ?_ 2 _ rfl; (with_reducible repeat (first | refine blk_drewN ?_ _ | refine blk_drew ?_ | refine blk_alloc ?_ _)); refine blk_put (cs := #[.slice Ao136 x283000_2.length co136, .int .i64 t278, .int .i64 t279, .int .i64 t280]) ?_ 1 _ rfl; (with_reducible repeat (first | refine blk_drewN ?_ _ | refine blk_drew ?_ | refine blk_alloc ?_ _)); exact BK282.out) hb); replace HB := Aside0.mk (below_step (bs2 HB GE274 GE282) hb); (try clear hb); (try clear hb2); (try clear hk); (try clear hi); obtain ⟨hcz138_0, hcz138_1, hcz138_2, hcz138_3⟩ := cz4 BK274; obtain ⟨hfz138_0, hfz138_1, hfz138_2, hfz138_3⟩ := fz4 BK274))
               refine bodyPost_ret (results_ct rfl _ _ gb274 36 #[.slice none 0 0, .int .i64 0, .int .i64 0, .int .i64 0] (0, 0) _ rfl (by (with_reducible repeat (first | refine blk_drewN ?_ _ | refine blk_drew ?_ | refine blk_alloc ?_ _)); refine blk_put (cs := #[.slice none 0 0, .int .i64 0, .int .i64 0, .int .i64 0]) ?_ 3 _ rfl; (with_reducible repeat (first | refine blk_drewN ?_ _ | refine blk_drew ?_ | refine blk_alloc ?_ _)); refine blk_put (cs := #[.slice none 0 0, .int .i64 0, .int .i64 0, .int .i64 0]) ?_ 2 _ rfl; (with_reducible repeat (first | refine blk_drewN ?_ _ | refine blk_drew ?_ | refine blk_alloc ?_ _)); refine blk_put (cs := #[.slice none 0 0, .int .i64 0, .int .i64 0, .int .i64 0]) ?_ 1 _ rfl; (with_reducible repeat (first | refine blk_drewN ?_ _ | refine blk_drew ?_ | refine blk_alloc ?_ _)); refine blk_put (cs := #[.slice none 0 0, .int .i64 0, .int .i64 0, .int .i64 0]) ?_ 0 _ rfl; (with_reducible repeat (first | refine blk_drewN ?_ _ | refine blk_drew ?_ | refine blk_alloc ?_ _)); exact BK274.out) Tryd.underlying36 rfl (by kernel_rfl)) rfl ?_
               exact ⟨_, by first | rfl | (simp [errW_none, errW_some] <;> rfl) | (simp only [← hji122, ← hji125]; first | rfl | (simp [errW_none, errW_some] <;> rfl)) | (simp [*, errW_none, errW_some] <;> rfl), by first | exact Kd.R_nil _ _ _ _ _ | exact Kd.N_nil _ _ _ _ _ | exact Kd.V_nil _ _ _ _ _ | exact Kd.Q_nil _ _ _ _ _ | exact Kd.S_nil _ _ _ _ _, bs2 HB GE274 GE282⟩
             ·
              rw [if_neg c124] at H
              exact absurd H (by simp)
            ·
             rw [if_neg c123] at H
             exact absurd H (by simp)
 ·
  replace c3 := Bool.eq_false_iff.mpr c3
  subst c3
  rw [if_neg (show ¬ (false = true) by decide)] at H
  simp only [Option.some.injEq, Prod.mk.injEq] at H
  obtain ⟨rfl, rfl, rfl, rfl, rfl⟩ := H
  go_enter Tryd.func44, Tryd.ntmps44
  go_wp2_with (first | ((with_reducible refine gate_dst (N := 2) rfl ?_); refine box_event ?hg (N := 2) ?hd (cs := #[.slice none 0 0, .int .i64 0, .int .i64 0, .int .i64 0]) (t := 36) ?hr ?_; (case hd => rfl); (case hg => rfl); (case hr => first | (go_simp; done) | (go_simp; rfl)); intro gb274 hg w139 hbox hb; have BK274 := Aside0.mk (hbox); have GW274 := Aside0.mk ((by rw [hg]; exact (below_size (bs HB)) : w.heap.size ≤ gb274)); have GE274 := Aside0.mk ((by rw [hg]; exact (below_size (bs HB)) : w.heap.size ≤ gb274)); replace HB := Aside0.mk (below_step (bs HB) hb); clear hb hbox hg) | ((with_reducible refine gate_callee (f := 23) rfl ?_); refine gL (some 17) rfl rfl Tryd.func23 (by kernel_rfl) rfl #[.int .i64 (l0.length : Int)] rfl ?_; (with_reducible refine (impl_NewRing.calls k (l0.length : Int) t275 t278 t279 t280 false _ ?sideT A2.out).mono ?_); (case sideT => refine ⟨Ito.tabB hTab_.out ?_⟩; first | exact bs HB | exact st_below | (repeat (first | (with_reducible first | exact HB.out | apply below_alloc | apply pw_below_drewN | apply below_drew1 | refine below_set ?_ (Aside0.out (by assumption))) | exact HB.out))); rintro e w140 ⟨v276, rfl, ho0, hb⟩; refine ⟨_, rfl, ?_⟩; have HO277 := Aside0.mk (Kd.R_lower ho0 (below_size (bs1 HB GE274))); replace BK274 := nb BK274 hb; replace HB := Aside0.mk (below_step (bs1 HB GE274) hb); (try clear hb); (try clear hb2); (try clear hk); (try clear hi); (try clear ho0)) | ((with_reducible refine gate_dst (N := 5) rfl ?_); refine box_event ?hg (N := 5) ?hd (cs := #[.slice none 0 0, .int .i64 0, .int .i64 0, .int .i64 0]) (t := 36) ?hr ?_; (case hd => rfl); (case hg => rfl); (case hr => first | (go_simp; done) | (go_simp; rfl)); intro gb282 hg w141 hbox hb; replace HO277 := nr HO277 hb; have BK282 := Aside0.mk (hbox); have GW282 := Aside0.mk ((by rw [hg]; exact (below_size (bs1 HB GE274)) : w.heap.size ≤ gb282)); have GE282 := Aside0.mk ((by rw [hg]; exact (below_size (bs1 HB GE274)) : w.heap.size ≤ gb282)); replace HB := Aside0.mk (below_step (bs1 HB GE274) hb); have NB274_282 := Aside0.mk ((bn BK274 hg : gb274 ≠ gb282)); have NB282_274 := Aside0.mk ((bm BK274 hg : gb282 ≠ gb274)); replace BK274 := nb BK274 hb; clear hb hbox hg; obtain ⟨Ao142, co142, eo142⟩ := Kd.R_slice HO277.out; subst eo142; have hnb143 := NB282_274.out; have hnc143 := NB274_282.out; obtain ⟨hcz144_0, hcz144_1, hcz144_2, hcz144_3⟩ := cz4 BK282; obtain ⟨hfz144_0, hfz144_1, hfz144_2, hfz144_3⟩ := fz4 BK282; obtain ⟨hcz145_0, hcz145_1, hcz145_2, hcz145_3⟩ := cz4 BK274; obtain ⟨hfz145_0, hfz145_1, hfz145_2, hfz145_3⟩ := fz4 BK274))
  refine bodyPost_ret (results_ct rfl _ _ gb274 36 #[.slice none 0 0, .int .i64 0, .int .i64 0, .int .i64 0] (0, 0) _ rfl (by (with_reducible repeat (first | refine blk_drewN ?_ _ | refine blk_drew ?_ | refine blk_alloc ?_ _)); refine blk_put (cs := #[.slice none 0 0, .int .i64 0, .int .i64 0, .int .i64 0]) ?_ 3 _ rfl; (with_reducible repeat (first | refine blk_drewN ?_ _ | refine blk_drew ?_ | refine blk_alloc ?_ _)); refine blk_put (cs := #[.slice none 0 0, .int .i64 0, .int .i64 0, .int .i64 0]) ?_ 2 _ rfl; (with_reducible repeat (first | refine blk_drewN ?_ _ | refine blk_drew ?_ | refine blk_alloc ?_ _)); refine blk_put (cs := #[.slice none 0 0, .int .i64 0, .int .i64 0, .int .i64 0]) ?_ 1 _ rfl; (with_reducible repeat (first | refine blk_drewN ?_ _ | refine blk_drew ?_ | refine blk_alloc ?_ _)); refine blk_put (cs := #[.slice none 0 0, .int .i64 0, .int .i64 0, .int .i64 0]) ?_ 0 _ rfl; (with_reducible repeat (first | refine blk_drewN ?_ _ | refine blk_drew ?_ | refine blk_alloc ?_ _)); refine blk_far ?_ NB274_282.out _; (with_reducible repeat (first | refine blk_drewN ?_ _ | refine blk_drew ?_ | refine blk_alloc ?_ _)); refine blk_far ?_ NB274_282.out _; (with_reducible repeat (first | refine blk_drewN ?_ _ | refine blk_drew ?_ | refine blk_alloc ?_ _)); refine blk_far ?_ NB274_282.out _; (with_reducible repeat (first | refine blk_drewN ?_ _ | refine blk_drew ?_ | refine blk_alloc ?_ _)); refine blk_far ?_ NB274_282.out _; (with_reducible repeat (first | refine blk_drewN ?_ _ | refine blk_drew ?_ | refine blk_alloc ?_ _)); exact BK274.out) Tryd.underlying36 rfl (by kernel_rfl)) rfl ?_
  exact ⟨_, by first | rfl | (simp [errW_none, errW_some] <;> rfl) | (simp [*, errW_none, errW_some] <;> rfl), by first | exact Kd.R_nil _ _ _ _ _ | exact Kd.N_nil _ _ _ _ _ | exact Kd.V_nil _ _ _ _ _ | exact Kd.Q_nil _ _ _ _ _ | exact Kd.S_nil _ _ _ _ _, bs2 HB GE274 GE282⟩

/-! ### laws_FnExactOpenRing: function 11 -/
mutual
def laws_FnExactOpenRing.j0 : Nat → List (S23) → Bool → List (S26) → Bool → Bool → List (S26) → Int → Int → Int → List (S26) → Int → Int → Int → Option (Bool)
 | 0, _, _, _, _, _, _, _, _, _, _, _, _, _ => none
 | k + 1, x0, x5, x6, x8, x40, x308000, x308001, x308002, x308003, x319000, x319001, x319002, x319003 => if x40 = true then (some false) else ((laws_toSlotS.f k x0).bind fun t320 => ((laws_eqSlotS.f k x6 t320).bind fun t323 => (if t323 = true then ((laws_markSlotS.f k x6 1).bind fun bt324 => (if bt324.1 < 0 then (laws_FnExactOpenRing.j1 k x0 x5 true x308000 x308001 x308002 x308003 x319000 x319001 x319002 x319003) else ((laws_eqRing.f k x319000 x319001 x319002 x319003 x308000 x308001 x308002 x308003).bind fun t326 => (if t326 = true then (laws_FnExactOpenRing.j1 k x0 x5 (x8 != x5) x308000 x308001 x308002 x308003 x319000 x319001 x319002 x319003) else (laws_FnExactOpenRing.j1 k x0 x5 true x308000 x308001 x308002 x308003 x319000 x319001 x319002 x319003))))) else (some false))))
def laws_FnExactOpenRing.j1 : Nat → List (S23) → Bool → Bool → List (S26) → Int → Int → Int → List (S26) → Int → Int → Int → Option (Bool)
 | 0, _, _, _, _, _, _, _, _, _, _, _ => none
 | k + 1, x0, x5, x61, x308000, x308001, x308002, x308003, x319000, x319001, x319002, x319003 => if x61 = true then (some false) else ((laws_markRing.f k x319000 x319001 x319002 x319003 1).bind fun bt327 => ((laws_heldRing.f k bt327.2 x319001 x319002 x319003 1).bind fun t329 => (if t329 < 0 then (some false) else (if t329 = bt327.1 then ((laws_toSlotS.f k x0).bind fun t330 => ((impl_OpenRing.f k t330).bind fun bt333 => ((laws_eqRing.f k bt333.1 bt333.2.1 bt333.2.2.1 bt333.2.2.2.1 x308000 x308001 x308002 x308003).bind fun t341 => (if t341 = true then (laws_FnExactOpenRing.j2 k bt327.1 (bt333.2.2.2.2 != x5) bt327.2 x319001 x319002 x319003) else (laws_FnExactOpenRing.j2 k bt327.1 true bt327.2 x319001 x319002 x319003))))) else (some false)))))
def laws_FnExactOpenRing.j2 : Nat → Int → Bool → List (S26) → Int → Int → Int → Option (Bool)
 | 0, _, _, _, _, _, _ => none
 | k + 1, x10, x87, x319000, x319001, x319002, x319003 => if x87 = true then (some false) else ((laws_heldRing.f k x319000 x319001 x319002 x319003 1).bind fun t342 => (if t342 < 0 then (some false) else (if t342 = x10 then (some true) else (some false))))
end
def laws_FnExactOpenRing.f (k : Nat) (l0 : List (S23)) : Option (Bool) := (laws_szSlotS.f k l0 1048576).bind fun t296 => (if t296 < 0 then (some true) else ((laws_toSlotS.f k l0).bind fun t297 => ((spec_OpenRing.f k t297).bind fun bt300 => ((laws_toSlotS.f k l0).bind fun t308 => ((impl_OpenRing.f k t308).bind fun bt311 => ((laws_eqRing.f k bt311.1 bt311.2.1 bt311.2.2.1 bt311.2.2.2.1 bt300.1 bt300.2.1 bt300.2.2.1 bt300.2.2.2.1).bind fun t319 => (if t319 = true then (laws_FnExactOpenRing.j0 k l0 bt300.2.2.2.2 t308 bt311.2.2.2.2 (bt311.2.2.2.2 != bt300.2.2.2.2) bt300.1 bt300.2.1 bt300.2.2.1 bt300.2.2.2.1 bt311.1 bt311.2.1 bt311.2.2.1 bt311.2.2.2.1) else (laws_FnExactOpenRing.j0 k l0 bt300.2.2.2.2 t308 bt311.2.2.2.2 true bt300.1 bt300.2.1 bt300.2.2.1 bt300.2.2.2.1 bt311.1 bt311.2.1 bt311.2.2.1 bt311.2.2.2.1))))))))
theorem laws_FnExactOpenRing.mono_l : ∀ k, (∀ y0 y1 y2 y3 y4 y5 y6 y7 y8 y9 y10 y11 y12, LeO (laws_FnExactOpenRing.j0 k y0 y1 y2 y3 y4 y5 y6 y7 y8 y9 y10 y11 y12) (laws_FnExactOpenRing.j0 (k + 1) y0 y1 y2 y3 y4 y5 y6 y7 y8 y9 y10 y11 y12)) ∧ (∀ y0 y1 y2 y3 y4 y5 y6 y7 y8 y9 y10, LeO (laws_FnExactOpenRing.j1 k y0 y1 y2 y3 y4 y5 y6 y7 y8 y9 y10) (laws_FnExactOpenRing.j1 (k + 1) y0 y1 y2 y3 y4 y5 y6 y7 y8 y9 y10)) ∧ (∀ y0 y1 y2 y3 y4 y5, LeO (laws_FnExactOpenRing.j2 k y0 y1 y2 y3 y4 y5) (laws_FnExactOpenRing.j2 (k + 1) y0 y1 y2 y3 y4 y5))
 | 0 => ⟨fun _ _ _ _ _ _ _ _ _ _ _ _ _ r h => by simp [laws_FnExactOpenRing.j0] at h, fun _ _ _ _ _ _ _ _ _ _ _ r h => by simp [laws_FnExactOpenRing.j1] at h, fun _ _ _ _ _ _ r h => by simp [laws_FnExactOpenRing.j2] at h⟩
 | k + 1 => by
  obtain ⟨ih0, ih1, ih2⟩ := laws_FnExactOpenRing.mono_l k
  refine ⟨?_, ?_, ?_⟩
  ·
   intro y0 y1 y2 y3 y4 y5 y6 y7 y8 y9 y10 y11 y12
   unfold laws_FnExactOpenRing.j0
   repeat' first
   | (with_reducible exact ih0 _ _ _ _ _ _ _ _ _ _ _ _ _)
   | (with_reducible exact ih1 _ _ _ _ _ _ _ _ _ _ _)
   | (with_reducible exact ih2 _ _ _ _ _ _)
   | (with_reducible exact impl_OpenRing.mono _ _)
   | (with_reducible exact laws_eqRing.mono _ _ _ _ _ _ _ _ _)
   | (with_reducible exact laws_eqSlotS.mono _ _ _)
   | (with_reducible exact laws_heldRing.mono _ _ _ _ _ _)
   | (with_reducible exact laws_markRing.mono _ _ _ _ _ _)
   | (with_reducible exact laws_markSlotS.mono _ _ _)
   | (with_reducible exact laws_szSlotS.mono _ _ _)
   | (with_reducible exact laws_toSlotS.mono _ _)
   | (with_reducible exact spec_OpenRing.mono _ _)
   | (with_reducible exact LeO.refl _)
   | (with_reducible exact LeO.none _)
   | (with_reducible refine LeO.ite ?_ ?_)
   | (with_reducible refine LeO.bind ?_ (fun _ => ?_))
   | exact ih0 _ _ _ _ _ _ _ _ _ _ _ _ _
   | exact ih1 _ _ _ _ _ _ _ _ _ _ _
   | exact ih2 _ _ _ _ _ _
   | exact impl_OpenRing.mono _ _
   | exact laws_eqRing.mono _ _ _ _ _ _ _ _ _
   | exact laws_eqSlotS.mono _ _ _
   | exact laws_heldRing.mono _ _ _ _ _ _
   | exact laws_markRing.mono _ _ _ _ _ _
   | exact laws_markSlotS.mono _ _ _
   | exact laws_szSlotS.mono _ _ _
   | exact laws_toSlotS.mono _ _
   | exact spec_OpenRing.mono _ _
   | exact LeO.none _
   | refine LeO.ite ?_ ?_
   | refine LeO.bind ?_ (fun _ => ?_)
  ·
   intro y0 y1 y2 y3 y4 y5 y6 y7 y8 y9 y10
   unfold laws_FnExactOpenRing.j1
   repeat' first
   | (with_reducible exact ih0 _ _ _ _ _ _ _ _ _ _ _ _ _)
   | (with_reducible exact ih1 _ _ _ _ _ _ _ _ _ _ _)
   | (with_reducible exact ih2 _ _ _ _ _ _)
   | (with_reducible exact impl_OpenRing.mono _ _)
   | (with_reducible exact laws_eqRing.mono _ _ _ _ _ _ _ _ _)
   | (with_reducible exact laws_eqSlotS.mono _ _ _)
   | (with_reducible exact laws_heldRing.mono _ _ _ _ _ _)
   | (with_reducible exact laws_markRing.mono _ _ _ _ _ _)
   | (with_reducible exact laws_markSlotS.mono _ _ _)
   | (with_reducible exact laws_szSlotS.mono _ _ _)
   | (with_reducible exact laws_toSlotS.mono _ _)
   | (with_reducible exact spec_OpenRing.mono _ _)
   | (with_reducible exact LeO.refl _)
   | (with_reducible exact LeO.none _)
   | (with_reducible refine LeO.ite ?_ ?_)
   | (with_reducible refine LeO.bind ?_ (fun _ => ?_))
   | exact ih0 _ _ _ _ _ _ _ _ _ _ _ _ _
   | exact ih1 _ _ _ _ _ _ _ _ _ _ _
   | exact ih2 _ _ _ _ _ _
   | exact impl_OpenRing.mono _ _
   | exact laws_eqRing.mono _ _ _ _ _ _ _ _ _
   | exact laws_eqSlotS.mono _ _ _
   | exact laws_heldRing.mono _ _ _ _ _ _
   | exact laws_markRing.mono _ _ _ _ _ _
   | exact laws_markSlotS.mono _ _ _
   | exact laws_szSlotS.mono _ _ _
   | exact laws_toSlotS.mono _ _
   | exact spec_OpenRing.mono _ _
   | exact LeO.none _
   | refine LeO.ite ?_ ?_
   | refine LeO.bind ?_ (fun _ => ?_)
  ·
   intro y0 y1 y2 y3 y4 y5
   unfold laws_FnExactOpenRing.j2
   repeat' first
   | (with_reducible exact ih0 _ _ _ _ _ _ _ _ _ _ _ _ _)
   | (with_reducible exact ih1 _ _ _ _ _ _ _ _ _ _ _)
   | (with_reducible exact ih2 _ _ _ _ _ _)
   | (with_reducible exact impl_OpenRing.mono _ _)
   | (with_reducible exact laws_eqRing.mono _ _ _ _ _ _ _ _ _)
   | (with_reducible exact laws_eqSlotS.mono _ _ _)
   | (with_reducible exact laws_heldRing.mono _ _ _ _ _ _)
   | (with_reducible exact laws_markRing.mono _ _ _ _ _ _)
   | (with_reducible exact laws_markSlotS.mono _ _ _)
   | (with_reducible exact laws_szSlotS.mono _ _ _)
   | (with_reducible exact laws_toSlotS.mono _ _)
   | (with_reducible exact spec_OpenRing.mono _ _)
   | (with_reducible exact LeO.refl _)
   | (with_reducible exact LeO.none _)
   | (with_reducible refine LeO.ite ?_ ?_)
   | (with_reducible refine LeO.bind ?_ (fun _ => ?_))
   | exact ih0 _ _ _ _ _ _ _ _ _ _ _ _ _
   | exact ih1 _ _ _ _ _ _ _ _ _ _ _
   | exact ih2 _ _ _ _ _ _
   | exact impl_OpenRing.mono _ _
   | exact laws_eqRing.mono _ _ _ _ _ _ _ _ _
   | exact laws_eqSlotS.mono _ _ _
   | exact laws_heldRing.mono _ _ _ _ _ _
   | exact laws_markRing.mono _ _ _ _ _ _
   | exact laws_markSlotS.mono _ _ _
   | exact laws_szSlotS.mono _ _ _
   | exact laws_toSlotS.mono _ _
   | exact spec_OpenRing.mono _ _
   | exact LeO.none _
   | refine LeO.ite ?_ ?_
   | refine LeO.bind ?_ (fun _ => ?_)
theorem laws_FnExactOpenRing.mono : ∀ a0 k, LeO (laws_FnExactOpenRing.f k a0) (laws_FnExactOpenRing.f (k + 1) a0) := by
 intro a0 k
 obtain ⟨ih0, ih1, ih2⟩ := laws_FnExactOpenRing.mono_l k
 unfold laws_FnExactOpenRing.f
 repeat' first
   | (with_reducible exact ih0 _ _ _ _ _ _ _ _ _ _ _ _ _)
   | (with_reducible exact ih1 _ _ _ _ _ _ _ _ _ _ _)
   | (with_reducible exact ih2 _ _ _ _ _ _)
   | (with_reducible exact impl_OpenRing.mono _ _)
   | (with_reducible exact laws_eqRing.mono _ _ _ _ _ _ _ _ _)
   | (with_reducible exact laws_eqSlotS.mono _ _ _)
   | (with_reducible exact laws_heldRing.mono _ _ _ _ _ _)
   | (with_reducible exact laws_markRing.mono _ _ _ _ _ _)
   | (with_reducible exact laws_markSlotS.mono _ _ _)
   | (with_reducible exact laws_szSlotS.mono _ _ _)
   | (with_reducible exact laws_toSlotS.mono _ _)
   | (with_reducible exact spec_OpenRing.mono _ _)
   | (with_reducible exact LeO.refl _)
   | (with_reducible exact LeO.none _)
   | (with_reducible refine LeO.ite ?_ ?_)
   | (with_reducible refine LeO.bind ?_ (fun _ => ?_))
   | exact ih0 _ _ _ _ _ _ _ _ _ _ _ _ _
   | exact ih1 _ _ _ _ _ _ _ _ _ _ _
   | exact ih2 _ _ _ _ _ _
   | exact impl_OpenRing.mono _ _
   | exact laws_eqRing.mono _ _ _ _ _ _ _ _ _
   | exact laws_eqSlotS.mono _ _ _
   | exact laws_heldRing.mono _ _ _ _ _ _
   | exact laws_markRing.mono _ _ _ _ _ _
   | exact laws_markSlotS.mono _ _ _
   | exact laws_szSlotS.mono _ _ _
   | exact laws_toSlotS.mono _ _
   | exact spec_OpenRing.mono _ _
   | exact LeO.none _
   | refine LeO.ite ?_ ?_
   | refine LeO.bind ?_ (fun _ => ?_)
set_option maxHeartbeats 8000000 in
set_option maxRecDepth 100000 in
theorem laws_FnExactOpenRing.calls (k : Nat) (A0 : Option Addr) (c0 : Nat) (l0 : List (S23)) (r : Bool) (w : World) (hTab_ : Aside0 (Ito.TabW w)) (hr0 : Kd.C k23 w A0 l0.length l0) (hc0 : l0.length ≤ c0) (h : laws_FnExactOpenRing.f k l0 = some r) :
  Calls Tryd.prog 11 #[.slice A0 l0.length c0] w fun e w' => e = .returned (.bool r) ∧ Below w.heap.size w w' := by
 have hu36 := Tryd.underlying36
 have HR0 := Aside0.mk hr0
 have HC0 := Aside0.mk hc0
 clear hr0 hc0
 have HB := Aside0.mk (Below.refl w.heap.size w)
 have H : ((laws_szSlotS.f k l0 1048576).bind fun t296 => (if t296 < 0 then (some true) else ((laws_toSlotS.f k l0).bind fun t297 => ((spec_OpenRing.f k t297).bind fun bt300 => ((laws_toSlotS.f k l0).bind fun t308 => ((impl_OpenRing.f k t308).bind fun bt311 => ((laws_eqRing.f k bt311.1 bt311.2.1 bt311.2.2.1 bt311.2.2.2.1 bt300.1 bt300.2.1 bt300.2.2.1 bt300.2.2.2.1).bind fun t319 => (if t319 = true then (laws_FnExactOpenRing.j0 k l0 bt300.2.2.2.2 t308 bt311.2.2.2.2 (bt311.2.2.2.2 != bt300.2.2.2.2) bt300.1 bt300.2.1 bt300.2.2.1 bt300.2.2.2.1 bt311.1 bt311.2.1 bt311.2.2.1 bt311.2.2.2.1) else (laws_FnExactOpenRing.j0 k l0 bt300.2.2.2.2 t308 bt311.2.2.2.2 true bt300.1 bt300.2.1 bt300.2.2.1 bt300.2.2.2.1 bt311.1 bt311.2.1 bt311.2.2.1 bt311.2.2.2.1))))))))) = some r := h
 clear h
 replace H := Option.bind_eq_some_iff.mp H
 obtain ⟨t296, A20, H⟩ := H
 replace H : (if t296 < 0 then (some true) else ((laws_toSlotS.f k l0).bind fun t297 => ((spec_OpenRing.f k t297).bind fun bt300 => ((laws_toSlotS.f k l0).bind fun t308 => ((impl_OpenRing.f k t308).bind fun bt311 => ((laws_eqRing.f k bt311.1 bt311.2.1 bt311.2.2.1 bt311.2.2.2.1 bt300.1 bt300.2.1 bt300.2.2.1 bt300.2.2.2.1).bind fun t319 => (if t319 = true then (laws_FnExactOpenRing.j0 k l0 bt300.2.2.2.2 t308 bt311.2.2.2.2 (bt311.2.2.2.2 != bt300.2.2.2.2) bt300.1 bt300.2.1 bt300.2.2.1 bt300.2.2.2.1 bt311.1 bt311.2.1 bt311.2.2.1 bt311.2.2.2.1) else (laws_FnExactOpenRing.j0 k l0 bt300.2.2.2.2 t308 bt311.2.2.2.2 true bt300.1 bt300.2.1 bt300.2.2.1 bt300.2.2.2.1 bt311.1 bt311.2.1 bt311.2.2.1 bt311.2.2.2.1)))))))) = some r := H
 have A2 := Aside0.mk A20
 clear A20
 by_cases c3 : t296 < 0
 ·
  rw [if_pos c3] at H
  have c3b0 : decide (t296 < 0) = true := decide_eq_true c3
  clear c3
  obtain rfl := Option.some.inj H
  go_enter Tryd.func11, Tryd.ntmps11
  go_wp2_with (first | ((with_reducible refine gate_callee (f := 41) rfl ?_); refine gL (some 16) rfl rfl Tryd.func41 (by kernel_rfl) rfl #[.slice A0 l0.length c0, .int .i64 1048576] rfl ?_; (with_reducible refine (laws_szSlotS.calls k _ _ l0 1048576 t296 _ ?side1 ?side2 A2.out).mono ?_); (case side1 => repeat (first | exact HR0.out | (with_reducible refine Kd.C_alloc ?_ _) | (with_reducible refine Kd.C_drewN ?_ _) | (with_reducible refine Kd.C_drew ?_))); (case side2 => exact HC0.out); rintro e w4 ⟨rfl, hb⟩; refine ⟨_, rfl, ?_⟩; replace HB := Aside0.mk (below_step (bs HB) hb); (try clear hb); (try clear hb2); (try clear hk); (try clear hi)))
  go_ret
  exact ⟨by first | rfl | (simp [errW_none, errW_some] <;> rfl) | (simp [*, errW_none, errW_some] <;> rfl), bs HB⟩
 ·
  rw [if_neg c3] at H
  have c3b0 : decide (t296 < 0) = false := decide_eq_false c3
  clear c3
  replace H := Option.bind_eq_some_iff.mp H
  obtain ⟨t297, A50, H⟩ := H
  replace H : ((spec_OpenRing.f k t297).bind fun bt300 => ((laws_toSlotS.f k l0).bind fun t308 => ((impl_OpenRing.f k t308).bind fun bt311 => ((laws_eqRing.f k bt311.1 bt311.2.1 bt311.2.2.1 bt311.2.2.2.1 bt300.1 bt300.2.1 bt300.2.2.1 bt300.2.2.2.1).bind fun t319 => (if t319 = true then (laws_FnExactOpenRing.j0 k l0 bt300.2.2.2.2 t308 bt311.2.2.2.2 (bt311.2.2.2.2 != bt300.2.2.2.2) bt300.1 bt300.2.1 bt300.2.2.1 bt300.2.2.2.1 bt311.1 bt311.2.1 bt311.2.2.1 bt311.2.2.2.1) else (laws_FnExactOpenRing.j0 k l0 bt300.2.2.2.2 t308 bt311.2.2.2.2 true bt300.1 bt300.2.1 bt300.2.2.1 bt300.2.2.2.1 bt311.1 bt311.2.1 bt311.2.2.1 bt311.2.2.2.1)))))) = some r := H
  have A5 := Aside0.mk A50
  clear A50
  replace H := Option.bind_eq_some_iff.mp H
  obtain ⟨⟨t300, t303, t304, t305, t306⟩, A60, H⟩ := H
  replace H : ((laws_toSlotS.f k l0).bind fun t308 => ((impl_OpenRing.f k t308).bind fun bt311 => ((laws_eqRing.f k bt311.1 bt311.2.1 bt311.2.2.1 bt311.2.2.2.1 t300 t303 t304 t305).bind fun t319 => (if t319 = true then (laws_FnExactOpenRing.j0 k l0 t306 t308 bt311.2.2.2.2 (bt311.2.2.2.2 != t306) t300 t303 t304 t305 bt311.1 bt311.2.1 bt311.2.2.1 bt311.2.2.2.1) else (laws_FnExactOpenRing.j0 k l0 t306 t308 bt311.2.2.2.2 true t300 t303 t304 t305 bt311.1 bt311.2.1 bt311.2.2.1 bt311.2.2.2.1))))) = some r := H
  have A6 := Aside0.mk A60
  clear A60
  replace H := Option.bind_eq_some_iff.mp H
  obtain ⟨t308, A70, H⟩ := H
  replace H : ((impl_OpenRing.f k t308).bind fun bt311 => ((laws_eqRing.f k bt311.1 bt311.2.1 bt311.2.2.1 bt311.2.2.2.1 t300 t303 t304 t305).bind fun t319 => (if t319 = true then (laws_FnExactOpenRing.j0 k l0 t306 t308 bt311.2.2.2.2 (bt311.2.2.2.2 != t306) t300 t303 t304 t305 bt311.1 bt311.2.1 bt311.2.2.1 bt311.2.2.2.1) else (laws_FnExactOpenRing.j0 k l0 t306 t308 bt311.2.2.2.2 true t300 t303 t304 t305 bt311.1 bt311.2.1 bt311.2.2.1 bt311.2.2.2.1)))) = some r := H
  have A7 := Aside0.mk A70
  clear A70
  replace H := Option.bind_eq_some_iff.mp H
  obtain ⟨⟨t311, t314, t315, t316, t317⟩, A80, H⟩ := H
  replace H : ((laws_eqRing.f k t311 t314 t315 t316 t300 t303 t304 t305).bind fun t319 => (if t319 = true then (laws_FnExactOpenRing.j0 k l0 t306 t308 t317 (t317 != t306) t300 t303 t304 t305 t311 t314 t315 t316) else (laws_FnExactOpenRing.j0 k l0 t306 t308 t317 true t300 t303 t304 t305 t311 t314 t315 t316))) = some r := H
  have A8 := Aside0.mk A80
  clear A80
  have HC9 := Aside0.mk H
  clear H
  go_enter Tryd.func11, Tryd.ntmps11
  go_upto_region 8 with (first | ((with_reducible refine gate_callee (f := 41) rfl ?_); refine gL (some 16) rfl rfl Tryd.func41 (by kernel_rfl) rfl #[.slice A0 l0.length c0, .int .i64 1048576] rfl ?_; (with_reducible refine (laws_szSlotS.calls k _ _ l0 1048576 t296 _ ?side1 ?side2 A2.out).mono ?_); (case side1 => repeat (first | exact HR0.out | (with_reducible refine Kd.C_alloc ?_ _) | (with_reducible refine Kd.C_drewN ?_ _) | (with_reducible refine Kd.C_drew ?_))); (case side2 => exact HC0.out); rintro e w10 ⟨rfl, hb⟩; refine ⟨_, rfl, ?_⟩; replace HB := Aside0.mk (below_step (bs HB) hb); (try clear hb); (try clear hb2); (try clear hk); (try clear hi)) | ((with_reducible refine gate_callee (f := 43) rfl ?_); refine gL (some 21) rfl rfl Tryd.func43 (by kernel_rfl) rfl #[.slice A0 l0.length c0] rfl ?_; (with_reducible refine (laws_toSlotS.calls k _ _ l0 t297 _ ?side1 ?side2 A5.out).mono ?_); (case side1 => exact cb HR0 HB); (case side2 => exact HC0.out); rintro e w11 ⟨v298, rfl, ho0, hb⟩; refine ⟨_, rfl, ?_⟩; have HO299 := Aside0.mk (Kd.R_lower ho0 (below_size (bs HB))); replace HB := Aside0.mk (below_step (bs HB) hb); (try clear hb); (try clear hb2); (try clear hk); (try clear hi); (try clear ho0); obtain ⟨Ao12, co12, eo12⟩ := Kd.R_slice HO299.out; subst eo12) | ((with_reducible refine gate_callee (f := 42) rfl ?_); refine gL (some 22) rfl rfl Tryd.func42 (by kernel_rfl) rfl #[.slice Ao12 t297.length co12] rfl ?_; (with_reducible refine (spec_OpenRing.calls k _ _ t297 t300 t303 t304 t305 t306 _ ?side1 ?side2 A6.out).mono ?_); (case side1 => exact rc0 HO299); (case side2 => exact (Kd.R_reads' HO299.out).2.1); rintro e w13 ⟨v301, rfl, ho0, hb⟩; refine ⟨_, rfl, ?_⟩; have HO302 := Aside0.mk (Kd.R_lower (Kd.R_new' ho0 (Kd.R_lt (rr HO299.out))) (below_size (bs HB))); replace HO299 := Aside0.mk (Kd.R_elder' (rr HO299.out) (Kd.R_base ho0) hb); replace HB := Aside0.mk (below_step (bs HB) hb); (try clear hb); (try clear hb2); (try clear hk); (try clear hi); (try clear ho0)) | ((with_reducible refine gate_dst (N := 4) rfl ?_); refine box_event ?hg (N := 4) ?hd (cs := #[.slice none 0 0, .int .i64 0, .int .i64 0, .int .i64 0]) (t := 36) ?hr ?_; (case hd => rfl); (case hg => rfl); (case hr => first | (go_simp; done) | (go_simp; rfl)); intro gb307 hg w14 hbox hb; replace HO299 := nr HO299 hb; replace HO302 := nr HO302 hb; have BK307 := Aside0.mk (hbox); have GW307 := Aside0.mk ((by rw [hg]; exact (below_size (bs HB)) : w.heap.size ≤ gb307)); have GE307 := Aside0.mk ((by rw [hg]; exact (below_size (bs HB)) : w.heap.size ≤ gb307)); replace HB := Aside0.mk (below_step (bs HB) hb); clear hb hbox hg; obtain ⟨Ao15, co15, eo15⟩ := Kd.R_slice HO302.out; subst eo15; obtain ⟨hcz16_0, hcz16_1, hcz16_2, hcz16_3⟩ := cz4 BK307; obtain ⟨hfz16_0, hfz16_1, hfz16_2, hfz16_3⟩ := fz4 BK307) | ((with_reducible refine gate_callee (f := 43) rfl ?_); refine gL (some 26) rfl rfl Tryd.func43 (by kernel_rfl) rfl #[.slice A0 l0.length c0] rfl ?_; (with_reducible refine (laws_toSlotS.calls k _ _ l0 t308 _ ?side1 ?side2 A7.out).mono ?_); (case side1 => exact Kd.C_below HR0.out (bs1 HB GE307)); (case side2 => exact HC0.out); rintro e w17 ⟨v309, rfl, ho0, hb⟩; refine ⟨_, rfl, ?_⟩; have HO310 := Aside0.mk (Kd.R_lower (Kd.R_new' (Kd.R_new' ho0 (Kd.R_lt (rf HO299 BK307))) (Kd.R_lt (rf HO302 BK307))) (below_size (bs1 HB GE307))); replace HO299 := Aside0.mk (Kd.R_elder' (rf HO299 BK307) (Kd.R_base ho0) hb); replace HO302 := Aside0.mk (Kd.R_elder' (rf HO302 BK307) (Kd.R_base ho0) hb); replace BK307 := Aside0.mk (blk_below (g := gb307) (o := .cells #[.slice Ao15 t300.length co15, .int .i64 t303, .int .i64 t304, .int .i64 t305] 36 (0, 0)) (by (with_reducible repeat (first | refine blk_drewN ?_ _ | refine blk_drew ?_ | refine blk_alloc ?_ _)); refine blk_put (cs := #[.slice Ao15 t300.length co15, .int .i64 t303, .int .i64 t304, .int .i64 0]) ?_ 3 _ rfl; (with_reducible repeat (first | refine blk_drewN ?_ _ | refine blk_drew ?_ | refine blk_alloc ?_ _)); refine blk_put (cs := #[.slice Ao15 t300.length co15, .int .i64 t303, .int .i64 0, .int .i64 0]) ?_ 2 _ rfl; (with_reducible repeat (first | refine blk_drewN ?_ _ | refine blk_drew ?_ | refine blk_alloc ?_ _)); refine blk_put (cs := #[.slice Ao15 t300.length co15, .int .i64 0, .int .i64 0, .int .i64 0]) ?_ 1 _ rfl; (with_reducible repeat (first | refine blk_drewN ?_ _ | refine blk_drew ?_ | refine blk_alloc ?_ _)); refine blk_put (cs := #[.slice none 0 0, .int .i64 0, .int .i64 0, .int .i64 0]) ?_ 0 _ rfl; (with_reducible repeat (first | refine blk_drewN ?_ _ | refine blk_drew ?_ | refine blk_alloc ?_ _)); exact BK307.out) hb); replace HB := Aside0.mk (below_step (bs1 HB GE307) hb); (try clear hb); (try clear hb2); (try clear hk); (try clear hi); (try clear ho0); obtain ⟨Ao18, co18, eo18⟩ := Kd.R_slice HO310.out; subst eo18) | ((with_reducible refine gate_callee (f := 44) rfl ?_); refine gL (some 29) rfl rfl Tryd.func44 (by kernel_rfl) rfl #[.slice Ao18 t308.length co18] rfl ?_; (with_reducible refine (impl_OpenRing.calls k _ _ t308 t311 t314 t315 t316 t317 _ ?sideT ?side1 ?side2 A8.out).mono ?_); (case sideT => refine ⟨Ito.tabB hTab_.out ?_⟩; first | exact bs HB | exact st_below | (repeat (first | (with_reducible first | exact HB.out | apply below_alloc | apply pw_below_drewN | apply below_drew1 | refine below_set ?_ (Aside0.out (by assumption))) | exact HB.out))); (case side1 => exact rc0 HO310); (case side2 => exact (Kd.R_reads' HO310.out).2.1); rintro e w19 ⟨v312, rfl, ho0, hb⟩; refine ⟨_, rfl, ?_⟩; have HO313 := Aside0.mk (Kd.R_lower (Kd.R_new' (Kd.R_new' (Kd.R_new' ho0 (Kd.R_lt (rr HO299.out))) (Kd.R_lt (rr HO302.out))) (Kd.R_lt (rr HO310.out))) (below_size (bs1 HB GE307))); replace HO299 := Aside0.mk (Kd.R_elder' (rr HO299.out) (Kd.R_base ho0) hb); replace HO302 := Aside0.mk (Kd.R_elder' (rr HO302.out) (Kd.R_base ho0) hb); replace HO310 := Aside0.mk (Kd.R_elder' (rr HO310.out) (Kd.R_base ho0) hb); replace BK307 := nb BK307 hb; replace HB := Aside0.mk (below_step (bs1 HB GE307) hb); (try clear hb); (try clear hb2); (try clear hk); (try clear hi); (try clear ho0)) | ((with_reducible refine gate_dst (N := 7) rfl ?_); refine box_event ?hg (N := 7) ?hd (cs := #[.slice none 0 0, .int .i64 0, .int .i64 0, .int .i64 0]) (t := 36) ?hr ?_; (case hd => rfl); (case hg => rfl); (case hr => first | (go_simp; done) | (go_simp; rfl)); intro gb318 hg w20 hbox hb; replace HO299 := nr HO299 hb; replace HO302 := nr HO302 hb; replace HO310 := nr HO310 hb; replace HO313 := nr HO313 hb; have BK318 := Aside0.mk (hbox); have GW318 := Aside0.mk ((by rw [hg]; exact (below_size (bs1 HB GE307)) : w.heap.size ≤ gb318)); have GE318 := Aside0.mk ((by rw [hg]; exact (below_size (bs1 HB GE307)) : w.heap.size ≤ gb318)); replace HB := Aside0.mk (below_step (bs1 HB GE307) hb); have NB307_318 := Aside0.mk ((bn BK307 hg : gb307 ≠ gb318)); have NB318_307 := Aside0.mk ((bm BK307 hg : gb318 ≠ gb307)); replace BK307 := nb BK307 hb; clear hb hbox hg; obtain ⟨Ao21, co21, eo21⟩ := Kd.R_slice HO313.out; subst eo21; have hnb22 := NB318_307.out; have hnc22 := NB307_318.out; obtain ⟨hcz23_0, hcz23_1, hcz23_2, hcz23_3⟩ := cz4 BK318; obtain ⟨hfz23_0, hfz23_1, hfz23_2, hfz23_3⟩ := fz4 BK318))
  (try simp only [Act.put, List.setIfInBounds_toArray, List.set_cons_zero, List.set_cons_succ])
  go_cut [40] (fun v40 wc => ∃ (kq : Nat) (x40_8 : Bool), v40 = .bool x40_8 ∧ Aside0 (laws_FnExactOpenRing.j0 kq l0 t306 t308 t317 x40_8 t300 t303 t304 t305 t311 t314 t315 t316 = some r) ∧ Aside0 (kq ≤ k) ∧ Aside0 (Kd.R k26 26 wc w.heap.size (fun k_ => some k_ ≠ ((.slice Ao15 t300.length co15) : Value).ownBlock ∧ some k_ ≠ ((.slice Ao21 t311.length co21) : Value).ownBlock) (.slice Ao18 t308.length co18) t308) ∧ Aside0 (Kd.R k26 26 wc w.heap.size (fun k_ => some k_ ≠ ((.slice Ao18 t308.length co18) : Value).ownBlock ∧ some k_ ≠ ((.slice Ao21 t311.length co21) : Value).ownBlock) (.slice Ao15 t300.length co15) t300) ∧ Aside0 (Kd.R k26 26 wc w.heap.size (fun k_ => some k_ ≠ ((.slice Ao18 t308.length co18) : Value).ownBlock ∧ some k_ ≠ ((.slice Ao15 t300.length co15) : Value).ownBlock) (.slice Ao21 t311.length co21) t311) ∧ Aside0 (wc.heap[gb307]? = some (.cells #[(.slice Ao15 t300.length co15), .int .i64 t303, .int .i64 t304, .int .i64 t305] 36 (0, 0))) ∧ Aside0 (wc.heap[gb318]? = some (.cells #[(.slice Ao21 t311.length co21), .int .i64 t314, .int .i64 t315, .int .i64 t316] 36 (0, 0))) ∧ Aside0 (Below w.heap.size w wc))
  case first =>
   have H := HC9.out
   clear HC9
   replace H := Option.bind_eq_some_iff.mp H
   obtain ⟨t319, A240, H⟩ := H
   replace H : (if t319 = true then (laws_FnExactOpenRing.j0 k l0 t306 t308 t317 (t317 != t306) t300 t303 t304 t305 t311 t314 t315 t316) else (laws_FnExactOpenRing.j0 k l0 t306 t308 t317 true t300 t303 t304 t305 t311 t314 t315 t316)) = some r := H
   have A24 := Aside0.mk A240
   clear A240
   by_cases c25 : t319 = true
   ·
    subst c25
    rw [if_pos rfl] at H
    have H' := Aside0.mk H
    clear H
    have hnb26 := NB318_307.out
    have hnc26 := NB307_318.out
    obtain ⟨hcz27_0, hcz27_1, hcz27_2, hcz27_3⟩ := cz4 BK318
    obtain ⟨hfz27_0, hfz27_1, hfz27_2, hfz27_3⟩ := fz4 BK318
    obtain ⟨hcz28_0, hcz28_1, hcz28_2, hcz28_3⟩ := cz4 BK307
    obtain ⟨hfz28_0, hfz28_1, hfz28_2, hfz28_3⟩ := fz4 BK307
    go_wp2_with (first | ((with_reducible refine gate_callee (f := 21) rfl ?_); refine gL (some 34) rfl rfl Tryd.func21 (by kernel_rfl) rfl #[.agg #[.slice Ao21 t311.length co21, .int .i64 t314, .int .i64 t315, .int .i64 t316], .agg #[.slice Ao15 t300.length co15, .int .i64 t303, .int .i64 t304, .int .i64 t305]] rfl ?_; (with_reducible refine (laws_eqRing.calls k _ _ t311 t314 t315 t316 _ _ t300 t303 t304 t305 true _ ?side1 ?side2 ?side3 ?side4 A24.out).mono ?_); (case side1 => exact rc HO313 BK318); (case side2 => exact (Kd.R_reads' HO313.out).2.1); (case side3 => exact rc HO302 BK318); (case side4 => exact (Kd.R_reads' HO302.out).2.1); rintro e w29 ⟨rfl, hb⟩; refine ⟨_, rfl, ?_⟩; replace HO299 := nf HO299 BK318 hb; replace HO302 := nf HO302 BK318 hb; replace HO310 := nf HO310 BK318 hb; replace HO313 := nf HO313 BK318 hb; replace BK307 := Aside0.mk (blk_below (bf BK307 NB307_318) hb); replace BK318 := Aside0.mk (blk_below (g := gb318) (o := .cells #[.slice Ao21 t311.length co21, .int .i64 t314, .int .i64 t315, .int .i64 t316] 36 (0, 0)) (by (with_reducible repeat (first | refine blk_drewN ?_ _ | refine blk_drew ?_ | refine blk_alloc ?_ _)); refine blk_put (cs := #[.slice Ao21 t311.length co21, .int .i64 t314, .int .i64 t315, .int .i64 0]) ?_ 3 _ rfl; (with_reducible repeat (first | refine blk_drewN ?_ _ | refine blk_drew ?_ | refine blk_alloc ?_ _)); refine blk_put (cs := #[.slice Ao21 t311.length co21, .int .i64 t314, .int .i64 0, .int .i64 0]) ?_ 2 _ rfl; (with_reducible repeat (first | refine blk_drewN ?_ _ | refine blk_drew ?_ | refine blk_alloc ?_ _)); refine blk_put (cs := #[.slice Ao21 t311.length co21, .int .i64 0, .int .i64 0, .int .i64 0]) ?_ 1 _ rfl; (with_reducible repeat (first | refine blk_drewN ?_ _ | refine blk_drew ?_ | refine blk_alloc ?_ _)); refine blk_put (cs := #[.slice none 0 0, .int .i64 0, .int .i64 0, .int .i64 0]) ?_ 0 _ rfl; (with_reducible repeat (first | refine blk_drewN ?_ _ | refine blk_drew ?_ | refine blk_alloc ?_ _)); exact BK318.out) hb); replace HB := Aside0.mk (below_step (bs2 HB GE307 GE318) hb); (try clear hb); (try clear hb2); (try clear hk); (try clear hi)))
    go_meet
    case rel => exact ⟨_, ((t317 != t306)), (by first | rfl | (simp; done) | (simp [*]; done)), H', ⟨by first | omega | exact Nat.le_refl _⟩, rm HO310 (fun _ hk => ⟨hk.1.2, hk.2⟩), rm HO302 (fun _ hk => ⟨hk.1.2, hk.2⟩), rm HO313 (fun _ hk => ⟨hk.2, hk.1.2⟩), ⟨bk BK307⟩, ⟨bk BK318⟩, ⟨bs2 HB GE307 GE318⟩⟩
   ·
    replace c25 := Bool.eq_false_iff.mpr c25
    subst c25
    rw [if_neg (show ¬ (false = true) by decide)] at H
    have H' := Aside0.mk H
    clear H
    have hnb30 := NB318_307.out
    have hnc30 := NB307_318.out
    obtain ⟨hcz31_0, hcz31_1, hcz31_2, hcz31_3⟩ := cz4 BK318
    obtain ⟨hfz31_0, hfz31_1, hfz31_2, hfz31_3⟩ := fz4 BK318
    obtain ⟨hcz32_0, hcz32_1, hcz32_2, hcz32_3⟩ := cz4 BK307
    obtain ⟨hfz32_0, hfz32_1, hfz32_2, hfz32_3⟩ := fz4 BK307
    go_wp2_with (first | ((with_reducible refine gate_callee (f := 21) rfl ?_); refine gL (some 34) rfl rfl Tryd.func21 (by kernel_rfl) rfl #[.agg #[.slice Ao21 t311.length co21, .int .i64 t314, .int .i64 t315, .int .i64 t316], .agg #[.slice Ao15 t300.length co15, .int .i64 t303, .int .i64 t304, .int .i64 t305]] rfl ?_; (with_reducible refine (laws_eqRing.calls k _ _ t311 t314 t315 t316 _ _ t300 t303 t304 t305 false _ ?side1 ?side2 ?side3 ?side4 A24.out).mono ?_); (case side1 => exact rc HO313 BK318); (case side2 => exact (Kd.R_reads' HO313.out).2.1); (case side3 => exact rc HO302 BK318); (case side4 => exact (Kd.R_reads' HO302.out).2.1); rintro e w33 ⟨rfl, hb⟩; refine ⟨_, rfl, ?_⟩; replace HO299 := nf HO299 BK318 hb; replace HO302 := nf HO302 BK318 hb; replace HO310 := nf HO310 BK318 hb; replace HO313 := nf HO313 BK318 hb; replace BK307 := Aside0.mk (blk_below (bf BK307 NB307_318) hb); replace BK318 := Aside0.mk (blk_below (g := gb318) (o := .cells #[.slice Ao21 t311.length co21, .int .i64 t314, .int .i64 t315, .int .i64 t316] 36 (0, 0)) (by (with_reducible repeat (first | refine blk_drewN ?_ _ | refine blk_drew ?_ | refine blk_alloc ?_ _)); refine blk_put (cs := #[.slice Ao21 t311.length co21, .int .i64 t314, .int .i64 t315, .int .i64 0]) ?_ 3 _ rfl; (with_reducible repeat (first | refine blk_drewN ?_ _ | refine blk_drew ?_ | refine blk_alloc ?_ _)); refine blk_put (cs := #[.slice Ao21 t311.length co21, .int .i64 t314, .int .i64 0, .int .i64 0]) ?_ 2 _ rfl; (with_reducible repeat (first | refine blk_drewN ?_ _ | refine blk_drew ?_ | refine blk_alloc ?_ _)); refine blk_put (cs := #[.slice Ao21 t311.length co21, .int .i64 0, .int .i64 0, .int .i64 0]) ?_ 1 _ rfl; (with_reducible repeat (first | refine blk_drewN ?_ _ | refine blk_drew ?_ | refine blk_alloc ?_ _)); refine blk_put (cs := #[.slice none 0 0, .int .i64 0, .int .i64 0, .int .i64 0]) ?_ 0 _ rfl; (with_reducible repeat (first | refine blk_drewN ?_ _ | refine blk_drew ?_ | refine blk_alloc ?_ _)); exact BK318.out) hb); replace HB := Aside0.mk (below_step (bs2 HB GE307 GE318) hb); (try clear hb); (try clear hb2); (try clear hk); (try clear hi)))
    go_meet
    case rel => exact ⟨_, (true), (by first | rfl | (simp; done) | (simp [*]; done)), H', ⟨by first | omega | exact Nat.le_refl _⟩, rm HO310 (fun _ hk => ⟨hk.1.2, hk.2⟩), rm HO302 (fun _ hk => ⟨hk.1.2, hk.2⟩), rm HO313 (fun _ hk => ⟨hk.2, hk.1.2⟩), ⟨bk BK307⟩, ⟨bk BK318⟩, ⟨bs2 HB GE307 GE318⟩⟩
  case rest =>
   clear HC9
   try clear c1
   try clear c2
   try clear p2
   try clear c3
   try clear c3b0
   try clear c4
   try clear c11
   try clear c21
   try clear c22
   try clear c25
   try clear c26
   try clear c30
   try clear hcz16_0 hcz16_1 hcz16_2 hcz16_3
   try clear hcz23_0 hcz23_1 hcz23_2 hcz23_3
   try clear hcz27_0 hcz27_1 hcz27_2 hcz27_3
   try clear hcz28_0 hcz28_1 hcz28_2 hcz28_3
   try clear hcz31_0 hcz31_1 hcz31_2 hcz31_3
   try clear hcz32_0 hcz32_1 hcz32_2 hcz32_3
   try clear hfz16_0 hfz16_1 hfz16_2 hfz16_3
   try clear hfz23_0 hfz23_1 hfz23_2 hfz23_3
   try clear hfz27_0 hfz27_1 hfz27_2 hfz27_3
   try clear hfz28_0 hfz28_1 hfz28_2 hfz28_3
   try clear hfz31_0 hfz31_1 hfz31_2 hfz31_3
   try clear hfz32_0 hfz32_1 hfz32_2 hfz32_3
   obtain ⟨kq, x40_8, rfl, HA, HJ8, HO_6, HO_308000, HO_319000, BK307, BK318, HB⟩ := hcut
   cases kq with
   | zero => exact absurd HA.out (by simp [laws_FnExactOpenRing.j0])
   | succ kj8 =>
    have H := HA.out
    clear HA
    simp only [laws_FnExactOpenRing.j0] at H
    by_cases c34 : x40_8 = true
    ·
     subst c34
     rw [if_pos rfl] at H
     obtain rfl := Option.some.inj H
     go_wp2
     go_ret
     exact ⟨by first | rfl | (simp [errW_none, errW_some] <;> rfl) | (simp [*, errW_none, errW_some] <;> rfl), bs2 HB GE307 GE318⟩
    ·
     replace c34 := Bool.eq_false_iff.mpr c34
     subst c34
     rw [if_neg (show ¬ (false = true) by decide)] at H
     replace H := Option.bind_eq_some_iff.mp H
     obtain ⟨t320, A350, H⟩ := H
     replace H : ((laws_eqSlotS.f kj8 t308 t320).bind fun t323 => (if t323 = true then ((laws_markSlotS.f kj8 t308 1).bind fun bt324 => (if bt324.1 < 0 then (laws_FnExactOpenRing.j1 kj8 l0 t306 true t300 t303 t304 t305 t311 t314 t315 t316) else ((laws_eqRing.f kj8 t311 t314 t315 t316 t300 t303 t304 t305).bind fun t326 => (if t326 = true then (laws_FnExactOpenRing.j1 kj8 l0 t306 (t317 != t306) t300 t303 t304 t305 t311 t314 t315 t316) else (laws_FnExactOpenRing.j1 kj8 l0 t306 true t300 t303 t304 t305 t311 t314 t315 t316))))) else (some false))) = some r := H
     have A35 := Aside0.mk A350
     clear A350
     replace H := Option.bind_eq_some_iff.mp H
     obtain ⟨t323, A360, H⟩ := H
     replace H : (if t323 = true then ((laws_markSlotS.f kj8 t308 1).bind fun bt324 => (if bt324.1 < 0 then (laws_FnExactOpenRing.j1 kj8 l0 t306 true t300 t303 t304 t305 t311 t314 t315 t316) else ((laws_eqRing.f kj8 t311 t314 t315 t316 t300 t303 t304 t305).bind fun t326 => (if t326 = true then (laws_FnExactOpenRing.j1 kj8 l0 t306 (t317 != t306) t300 t303 t304 t305 t311 t314 t315 t316) else (laws_FnExactOpenRing.j1 kj8 l0 t306 true t300 t303 t304 t305 t311 t314 t315 t316))))) else (some false)) = some r := H
     have A36 := Aside0.mk A360
     clear A360
     by_cases c37 : t323 = true
     ·
      subst c37
      rw [if_pos rfl] at H
      replace H := Option.bind_eq_some_iff.mp H
      obtain ⟨⟨t324, t325⟩, A380, H⟩ := H
      replace H : (if t324 < 0 then (laws_FnExactOpenRing.j1 kj8 l0 t306 true t300 t303 t304 t305 t311 t314 t315 t316) else ((laws_eqRing.f kj8 t311 t314 t315 t316 t300 t303 t304 t305).bind fun t326 => (if t326 = true then (laws_FnExactOpenRing.j1 kj8 l0 t306 (t317 != t306) t300 t303 t304 t305 t311 t314 t315 t316) else (laws_FnExactOpenRing.j1 kj8 l0 t306 true t300 t303 t304 t305 t311 t314 t315 t316)))) = some r := H
      have A38 := Aside0.mk A380
      clear A380
      have HC39 := Aside0.mk H
      clear H
      go_upto_region 14 with (first | ((with_reducible refine gate_callee (f := 43) rfl ?_); refine gL (some 43) rfl rfl Tryd.func43 (by kernel_rfl) rfl #[.slice A0 l0.length c0] rfl ?_; (with_reducible refine (laws_toSlotS.calls kj8 _ _ l0 t320 _ ?side1 ?side2 A35.out).mono ?_); (case side1 => exact cb HR0 HB); (case side2 => exact HC0.out); rintro e w40 ⟨v321, rfl, ho0, hb⟩; refine ⟨_, rfl, ?_⟩; have HO322 := Aside0.mk (Kd.R_lower (Kd.R_new' (Kd.R_new' (Kd.R_new' ho0 (Kd.R_lt (rr HO_6.out))) (Kd.R_lt (rr HO_308000.out))) (Kd.R_lt (rr HO_319000.out))) (below_size (bs2 HB GE307 GE318))); replace HO_6 := Aside0.mk (Kd.R_elder' (rr HO_6.out) (Kd.R_base ho0) hb); replace HO_308000 := Aside0.mk (Kd.R_elder' (rr HO_308000.out) (Kd.R_base ho0) hb); replace HO_319000 := Aside0.mk (Kd.R_elder' (rr HO_319000.out) (Kd.R_base ho0) hb); replace BK307 := nb BK307 hb; replace BK318 := nb BK318 hb; replace HB := Aside0.mk (below_step (bs2 HB GE307 GE318) hb); (try clear hb); (try clear hb2); (try clear hk); (try clear hi); (try clear ho0); obtain ⟨Ao41, co41, eo41⟩ := Kd.R_slice HO322.out; subst eo41) | ((with_reducible refine gate_callee (f := 45) rfl ?_); refine gL (some 44) rfl rfl Tryd.func45 (by kernel_rfl) rfl #[.slice Ao18 t308.length co18, .slice Ao41 t320.length co41] rfl ?_; (with_reducible refine (laws_eqSlotS.calls kj8 _ _ t308 _ _ t320 true _ ?side1 ?side2 ?side3 ?side4 A36.out).mono ?_); (case side1 => exact rc0 HO_6); (case side2 => exact (Kd.R_reads' HO_6.out).2.1); (case side3 => exact rc0 HO322); (case side4 => exact (Kd.R_reads' HO322.out).2.1); rintro e w42 ⟨rfl, hb⟩; refine ⟨_, rfl, ?_⟩; replace HO_6 := nr HO_6 hb; replace HO_308000 := nr HO_308000 hb; replace HO_319000 := nr HO_319000 hb; replace HO322 := nr HO322 hb; replace BK307 := nb BK307 hb; replace BK318 := nb BK318 hb; replace HB := Aside0.mk (below_step (bs2 HB GE307 GE318) hb); (try clear hb); (try clear hb2); (try clear hk); (try clear hi)) | ((with_reducible refine gate_callee (f := 46) rfl ?_); refine gL (some 48) rfl rfl Tryd.func46 (by kernel_rfl) rfl #[.slice Ao18 t308.length co18, .int .i64 1] rfl ?_; (with_reducible refine (laws_markSlotS.calls kj8 (fun k_ => some k_ = (.slice Ao18 t308.length co18 : Value).ownBlock) (.slice Ao18 t308.length co18) t308 1 t324 t325 w _ ?side1 ?side2 A38.out).mono ?_); (case side1 => repeat (first | (with_reducible first | exact HB.out | apply below_alloc | apply pw_below_drewN | apply below_drew1 | refine below_set ?_ GE307.out | refine below_set ?_ GE318.out) | exact HB.out)); (case side2 => exact Kd.R_tight rfl HO_6.out); rintro e w43 ⟨rfl, hy0, hb, hkp⟩; refine ⟨_, rfl, ?_⟩; replace HO_308000 := Aside0.mk (Kd.R_mono (ok' := fun k_ => some k_ ≠ (.slice Ao18 t308.length co18 : Value).ownBlock ∧ some k_ ≠ (.slice Ao21 t311.length co21 : Value).ownBlock ∧ some k_ ≠ (.slice Ao41 t320.length co41 : Value).ownBlock) (Kd.R_keptB (HO_308000.out) hkp (fun k_ hk_ hs_ => (hk_.1.1) hs_)) (fun k_ hk_ => ⟨hk_.1.1.1, hk_.1.1.2, hk_.1.2⟩)); replace HO_319000 := Aside0.mk (Kd.R_mono (ok' := fun k_ => some k_ ≠ (.slice Ao18 t308.length co18 : Value).ownBlock ∧ some k_ ≠ (.slice Ao15 t300.length co15 : Value).ownBlock ∧ some k_ ≠ (.slice Ao41 t320.length co41 : Value).ownBlock) (Kd.R_keptB (HO_319000.out) hkp (fun k_ hk_ hs_ => (hk_.1.1) hs_)) (fun k_ hk_ => ⟨hk_.1.1.1, hk_.1.1.2, hk_.1.2⟩)); replace BK307 := Aside0.mk (blk_kept (bk BK307) hkp (fun hs_ => (fun e_ => (Kd.R_ne HO_6.out BK307.out (by decide)) e_) hs_)); replace BK318 := Aside0.mk (blk_kept (bk BK318) hkp (fun hs_ => (fun e_ => (Kd.R_ne HO_6.out BK318.out (by decide)) e_) hs_)); replace HO_6 := Aside0.mk (Kd.R_reok rfl hy0 (fun k_ e_ => HO_6.out.1 k_ e_)); replace HO322 := Aside0.mk (Kd.R_mono (ok' := fun k_ => some k_ ≠ (.slice Ao18 t308.length co18 : Value).ownBlock ∧ some k_ ≠ (.slice Ao15 t300.length co15 : Value).ownBlock ∧ some k_ ≠ (.slice Ao21 t311.length co21 : Value).ownBlock) (Kd.R_keptB (HO322.out) hkp (fun k_ hk_ hs_ => (hk_.1.1.2) hs_)) (fun k_ hk_ => ⟨hk_.1.1.1.2, hk_.1.1.2, hk_.1.2⟩)); replace HB := Aside0.mk (hb); (try clear hb); (try clear hkp); (try clear hy0)))
      (try simp only [Act.put, List.setIfInBounds_toArray, List.set_cons_zero, List.set_cons_succ])
      go_cut [61] (fun v61 wc => ∃ (kq : Nat) (x61_38 : Bool), v61 = .bool x61_38 ∧ Aside0 (laws_FnExactOpenRing.j1 kq l0 t306 x61_38 t300 t303 t304 t305 t311 t314 t315 t316 = some r) ∧ Aside0 (kq ≤ kj8) ∧ Aside0 (Kd.R k26 26 wc w.heap.size (fun k_ => some k_ ≠ ((.slice Ao21 t311.length co21) : Value).ownBlock) (.slice Ao15 t300.length co15) t300) ∧ Aside0 (Kd.R k26 26 wc w.heap.size (fun k_ => some k_ ≠ ((.slice Ao15 t300.length co15) : Value).ownBlock) (.slice Ao21 t311.length co21) t311) ∧ Aside0 (wc.heap[gb307]? = some (.cells #[(.slice Ao15 t300.length co15), .int .i64 t303, .int .i64 t304, .int .i64 t305] 36 (0, 0))) ∧ Aside0 (wc.heap[gb318]? = some (.cells #[(.slice Ao21 t311.length co21), .int .i64 t314, .int .i64 t315, .int .i64 t316] 36 (0, 0))) ∧ Aside0 (Below w.heap.size w wc))
      case first =>
       have H := HC39.out
       clear HC39
       by_cases c44 : t324 < 0
       ·
        rw [if_pos c44] at H
        have c44b0 : decide (t324 < 0) = true := decide_eq_true c44
        clear c44
        (first | rw [c44b0] | (simp only [i64_w, i32_w]; rw [c44b0]) | (simp only [c44b2, Bool.not_false, Bool.not_true]) | skip)
        have H' := Aside0.mk H
        clear H
        go_wp2
        go_meet
        case rel => exact ⟨_, (true), (by first | rfl | (simp; done) | (simp [*]; done)), H', ⟨by have := HJ8.out; first | omega | exact Nat.le_refl _⟩, rm HO_308000 (fun _ hk => hk.2.1), rm HO_319000 (fun _ hk => hk.2.1), ⟨bk BK307⟩, ⟨bk BK318⟩, ⟨bs2 HB GE307 GE318⟩⟩
       ·
        rw [if_neg c44] at H
        have c44b0 : decide (t324 < 0) = false := decide_eq_false c44
        clear c44
        (first | rw [c44b0] | (simp only [i64_w, i32_w]; rw [c44b0]) | (simp only [c44b2, Bool.not_false, Bool.not_true]) | skip)
        replace H := Option.bind_eq_some_iff.mp H
        obtain ⟨t326, A450, H⟩ := H
        replace H : (if t326 = true then (laws_FnExactOpenRing.j1 kj8 l0 t306 (t317 != t306) t300 t303 t304 t305 t311 t314 t315 t316) else (laws_FnExactOpenRing.j1 kj8 l0 t306 true t300 t303 t304 t305 t311 t314 t315 t316)) = some r := H
        have A45 := Aside0.mk A450
        clear A450
        by_cases c46 : t326 = true
        ·
         subst c46
         rw [if_pos rfl] at H
         have H' := Aside0.mk H
         clear H
         have hnb47 := NB318_307.out
         have hnc47 := NB307_318.out
         obtain ⟨hcz48_0, hcz48_1, hcz48_2, hcz48_3⟩ := cz4 BK318
         obtain ⟨hfz48_0, hfz48_1, hfz48_2, hfz48_3⟩ := fz4 BK318
         obtain ⟨hcz49_0, hcz49_1, hcz49_2, hcz49_3⟩ := cz4 BK307
         obtain ⟨hfz49_0, hfz49_1, hfz49_2, hfz49_3⟩ := fz4 BK307
         go_wp2_with (first | (go_at_call 21; (with_reducible refine (laws_eqRing.calls kj8 _ _ t311 t314 t315 t316 _ _ t300 t303 t304 t305 true _ ?side1 ?side2 ?side3 ?side4 A45.out).mono ?_); (case side1 => exact rc0 HO_319000); (case side2 => exact (Kd.R_reads' HO_319000.out).2.1); (case side3 => exact rc0 HO_308000); (case side4 => exact (Kd.R_reads' HO_308000.out).2.1); rintro e w50 ⟨rfl, hb⟩; replace HO_6 := nr HO_6 hb; replace HO_308000 := nr HO_308000 hb; replace HO_319000 := nr HO_319000 hb; replace HO322 := nr HO322 hb; replace BK307 := nb BK307 hb; replace BK318 := nb BK318 hb; replace HB := Aside0.mk (below_step (bs2 HB GE307 GE318) hb); (try clear hb); (try clear hb2); (try clear hk); (try clear hi)))
         go_meet
         case rel => exact ⟨_, ((t317 != t306)), (by first | rfl | (simp; done) | (simp [*]; done)), H', ⟨by have := HJ8.out; first | omega | exact Nat.le_refl _⟩, rm HO_308000 (fun _ hk => hk.2.1), rm HO_319000 (fun _ hk => hk.2.1), ⟨bk BK307⟩, ⟨bk BK318⟩, ⟨bs2 HB GE307 GE318⟩⟩
        ·
         replace c46 := Bool.eq_false_iff.mpr c46
         subst c46
         rw [if_neg (show ¬ (false = true) by decide)] at H
         have H' := Aside0.mk H
         clear H
         have hnb51 := NB318_307.out
         have hnc51 := NB307_318.out
         obtain ⟨hcz52_0, hcz52_1, hcz52_2, hcz52_3⟩ := cz4 BK318
         obtain ⟨hfz52_0, hfz52_1, hfz52_2, hfz52_3⟩ := fz4 BK318
         obtain ⟨hcz53_0, hcz53_1, hcz53_2, hcz53_3⟩ := cz4 BK307
         obtain ⟨hfz53_0, hfz53_1, hfz53_2, hfz53_3⟩ := fz4 BK307
         go_wp2_with (first | (go_at_call 21; (with_reducible refine (laws_eqRing.calls kj8 _ _ t311 t314 t315 t316 _ _ t300 t303 t304 t305 false _ ?side1 ?side2 ?side3 ?side4 A45.out).mono ?_); (case side1 => exact rc0 HO_319000); (case side2 => exact (Kd.R_reads' HO_319000.out).2.1); (case side3 => exact rc0 HO_308000); (case side4 => exact (Kd.R_reads' HO_308000.out).2.1); rintro e w54 ⟨rfl, hb⟩; replace HO_6 := nr HO_6 hb; replace HO_308000 := nr HO_308000 hb; replace HO_319000 := nr HO_319000 hb; replace HO322 := nr HO322 hb; replace BK307 := nb BK307 hb; replace BK318 := nb BK318 hb; replace HB := Aside0.mk (below_step (bs2 HB GE307 GE318) hb); (try clear hb); (try clear hb2); (try clear hk); (try clear hi)))
         go_meet
         case rel => exact ⟨_, (true), (by first | rfl | (simp; done) | (simp [*]; done)), H', ⟨by have := HJ8.out; first | omega | exact Nat.le_refl _⟩, rm HO_308000 (fun _ hk => hk.2.1), rm HO_319000 (fun _ hk => hk.2.1), ⟨bk BK307⟩, ⟨bk BK318⟩, ⟨bs2 HB GE307 GE318⟩⟩
      case rest =>
       clear HC39
       try clear c1
       try clear c2
       try clear p2
       try clear c3
       try clear c3b0
       try clear c4
       try clear c5
       try clear c11
       try clear c21
       try clear c22
       try clear c25
       try clear c26
       try clear c30
       try clear c34
       try clear c37
       try clear c41
       try clear c42
       try clear c43
       try clear c44
       try clear c44b0
       try clear c45
       try clear c46
       try clear c47
       try clear c51
       try clear hcz16_0 hcz16_1 hcz16_2 hcz16_3
       try clear hcz23_0 hcz23_1 hcz23_2 hcz23_3
       try clear hcz27_0 hcz27_1 hcz27_2 hcz27_3
       try clear hcz28_0 hcz28_1 hcz28_2 hcz28_3
       try clear hcz31_0 hcz31_1 hcz31_2 hcz31_3
       try clear hcz32_0 hcz32_1 hcz32_2 hcz32_3
       try clear hcz48_0 hcz48_1 hcz48_2 hcz48_3
       try clear hcz49_0 hcz49_1 hcz49_2 hcz49_3
       try clear hcz52_0 hcz52_1 hcz52_2 hcz52_3
       try clear hcz53_0 hcz53_1 hcz53_2 hcz53_3
       try clear hfz16_0 hfz16_1 hfz16_2 hfz16_3
       try clear hfz23_0 hfz23_1 hfz23_2 hfz23_3
       try clear hfz27_0 hfz27_1 hfz27_2 hfz27_3
       try clear hfz28_0 hfz28_1 hfz28_2 hfz28_3
       try clear hfz31_0 hfz31_1 hfz31_2 hfz31_3
       try clear hfz32_0 hfz32_1 hfz32_2 hfz32_3
       try clear hfz48_0 hfz48_1 hfz48_2 hfz48_3
       try clear hfz49_0 hfz49_1 hfz49_2 hfz49_3
       try clear hfz52_0 hfz52_1 hfz52_2 hfz52_3
       try clear hfz53_0 hfz53_1 hfz53_2 hfz53_3
       try clear p2
       obtain ⟨kq, x61_38, rfl, HA, HJ38, HO_308000, HO_319000, BK307, BK318, HB⟩ := hcut
       cases kq with
       | zero => exact absurd HA.out (by simp [laws_FnExactOpenRing.j1])
       | succ kj38 =>
        have H := HA.out
        clear HA
        simp only [laws_FnExactOpenRing.j1] at H
        by_cases c55 : x61_38 = true
        ·
         subst c55
         rw [if_pos rfl] at H
         obtain rfl := Option.some.inj H
         go_wp2
         go_ret
         exact ⟨by first | rfl | (simp [errW_none, errW_some] <;> rfl) | (simp [*, errW_none, errW_some] <;> rfl), bs2 HB GE307 GE318⟩
        ·
         replace c55 := Bool.eq_false_iff.mpr c55
         subst c55
         rw [if_neg (show ¬ (false = true) by decide)] at H
         replace H := Option.bind_eq_some_iff.mp H
         obtain ⟨⟨t327, t328⟩, A560, H⟩ := H
         replace H : ((laws_heldRing.f kj38 t328 t314 t315 t316 1).bind fun t329 => (if t329 < 0 then (some false) else (if t329 = t327 then ((laws_toSlotS.f kj38 l0).bind fun t330 => ((impl_OpenRing.f kj38 t330).bind fun bt333 => ((laws_eqRing.f kj38 bt333.1 bt333.2.1 bt333.2.2.1 bt333.2.2.2.1 t300 t303 t304 t305).bind fun t341 => (if t341 = true then (laws_FnExactOpenRing.j2 kj38 t327 (bt333.2.2.2.2 != t306) t328 t314 t315 t316) else (laws_FnExactOpenRing.j2 kj38 t327 true t328 t314 t315 t316))))) else (some false)))) = some r := H
         have A56 := Aside0.mk A560
         clear A560
         replace H := Option.bind_eq_some_iff.mp H
         obtain ⟨t329, A570, H⟩ := H
         replace H : (if t329 < 0 then (some false) else (if t329 = t327 then ((laws_toSlotS.f kj38 l0).bind fun t330 => ((impl_OpenRing.f kj38 t330).bind fun bt333 => ((laws_eqRing.f kj38 bt333.1 bt333.2.1 bt333.2.2.1 bt333.2.2.2.1 t300 t303 t304 t305).bind fun t341 => (if t341 = true then (laws_FnExactOpenRing.j2 kj38 t327 (bt333.2.2.2.2 != t306) t328 t314 t315 t316) else (laws_FnExactOpenRing.j2 kj38 t327 true t328 t314 t315 t316))))) else (some false))) = some r := H
         have A57 := Aside0.mk A570
         clear A570
         by_cases c58 : t329 < 0
         ·
          rw [if_pos c58] at H
          have c58b0 : decide (t329 < 0) = true := decide_eq_true c58
          clear c58
          obtain rfl := Option.some.inj H
          have hnb59 := NB318_307.out
          have hnc59 := NB307_318.out
          obtain ⟨hcz60_0, hcz60_1, hcz60_2, hcz60_3⟩ := cz4 BK318
          obtain ⟨hfz60_0, hfz60_1, hfz60_2, hfz60_3⟩ := fz4 BK318
          go_wp2_with (first | ((with_reducible refine gate_callee (f := 24) rfl ?_); refine gL (some 64) rfl rfl Tryd.func24 (by kernel_rfl) rfl #[.agg #[.slice Ao21 t311.length co21, .int .i64 t314, .int .i64 t315, .int .i64 t316], .int .i64 1] rfl ?_; (with_reducible refine (laws_markRing.calls kj38 (fun k_ => some k_ = (.slice Ao21 t311.length co21 : Value).ownBlock) (.slice Ao21 t311.length co21) t311 t314 t315 t316 1 t327 t328 w _ ?side1 ?side2 A56.out).mono ?_); (case side1 => repeat (first | (with_reducible first | exact HB.out | apply below_alloc | apply pw_below_drewN | apply below_drew1 | refine below_set ?_ GE307.out | refine below_set ?_ GE318.out) | exact HB.out)); (case side2 => exact Kd.R_tight rfl HO_319000.out); rintro e w61 ⟨rfl, hy0, hb, hkp⟩; refine ⟨_, rfl, ?_⟩; replace HO_308000 := Aside0.mk (Kd.R_mono (ok' := fun k_ => some k_ ≠ (.slice Ao21 t311.length co21 : Value).ownBlock) (Kd.R_keptB (HO_308000.out) hkp (fun k_ hk_ hs_ => (hk_) hs_)) (fun k_ hk_ => hk_.1)); replace BK307 := Aside0.mk (blk_kept (bk BK307) hkp (fun hs_ => (fun e_ => (Kd.R_ne HO_319000.out BK307.out (by decide)) e_) hs_)); replace BK318 := Aside0.mk (blk_kept (bk BK318) hkp (fun hs_ => (fun e_ => (Kd.R_ne HO_319000.out BK318.out (by decide)) e_) hs_)); replace HO_319000 := Aside0.mk (Kd.R_reok rfl hy0 (fun k_ e_ => HO_319000.out.1 k_ e_)); replace HB := Aside0.mk (hb); (try clear hb); (try clear hkp); (try clear hy0); obtain ⟨hcz62_0, hcz62_1, hcz62_2, hcz62_3⟩ := cz4 BK318; obtain ⟨hfz62_0, hfz62_1, hfz62_2, hfz62_3⟩ := fz4 BK318) | ((with_reducible refine gate_callee (f := 25) rfl ?_); refine goesL_ (some 67) rfl rfl Tryd.func25 (by kernel_rfl) rfl #[.agg #[.slice Ao21 t328.length co21, .int .i64 t314, .int .i64 t315, .int .i64 t316], .int .i64 1] rfl (by (try simp only [List.map_toArray, List.map_cons, List.map_nil]); first | done | (rw [show t328.length = t311.length from (Kd.R_reads' HO_319000.out).1.symm] <;> rfl) | rfl | (simp only [List.length_drop, List.length_take]; rfl)) ?_; (with_reducible refine (laws_heldRing.calls kj38 _ _ t328 t314 t315 t316 1 t329 _ ?side1 ?side2 A57.out).mono ?_); (case side1 => exact rc0 HO_319000); (case side2 => rw [show t328.length = t311.length from (Kd.R_reads' HO_319000.out).1.symm]; exact (Kd.R_reads' HO_319000.out).2.1); rintro e w63 ⟨rfl, hb⟩; refine ⟨_, rfl, ?_⟩; replace HO_308000 := nr HO_308000 hb; replace HO_319000 := nr HO_319000 hb; replace BK307 := nb BK307 hb; replace BK318 := nb BK318 hb; replace HB := Aside0.mk (below_step (bs2 HB GE307 GE318) hb); (try clear hb); (try clear hb2); (try clear hk); (try clear hi)))
          go_ret
          exact ⟨by first | rfl | (simp [errW_none, errW_some] <;> rfl) | (simp [*, errW_none, errW_some] <;> rfl), bs2 HB GE307 GE318⟩
         ·
          rw [if_neg c58] at H
          have c58b0 : decide (t329 < 0) = false := decide_eq_false c58
          clear c58
          by_cases c64 : t329 = t327
          ·
           rw [if_pos c64] at H
           have c64b0 : (t329 == t327) = true := beq_iff_eq.mpr c64
           have c64b1 : (t329 != t327) = false := bne_eq_false_iff_eq.mpr c64
           clear c64
           replace H := Option.bind_eq_some_iff.mp H
           obtain ⟨t330, A650, H⟩ := H
           replace H : ((impl_OpenRing.f kj38 t330).bind fun bt333 => ((laws_eqRing.f kj38 bt333.1 bt333.2.1 bt333.2.2.1 bt333.2.2.2.1 t300 t303 t304 t305).bind fun t341 => (if t341 = true then (laws_FnExactOpenRing.j2 kj38 t327 (bt333.2.2.2.2 != t306) t328 t314 t315 t316) else (laws_FnExactOpenRing.j2 kj38 t327 true t328 t314 t315 t316)))) = some r := H
           have A65 := Aside0.mk A650
           clear A650
           replace H := Option.bind_eq_some_iff.mp H
           obtain ⟨⟨t333, t336, t337, t338, t339⟩, A660, H⟩ := H
           replace H : ((laws_eqRing.f kj38 t333 t336 t337 t338 t300 t303 t304 t305).bind fun t341 => (if t341 = true then (laws_FnExactOpenRing.j2 kj38 t327 (t339 != t306) t328 t314 t315 t316) else (laws_FnExactOpenRing.j2 kj38 t327 true t328 t314 t315 t316))) = some r := H
           have A66 := Aside0.mk A660
           clear A660
           have HC67 := Aside0.mk H
           clear H
           have hnb68 := NB318_307.out
           have hnc68 := NB307_318.out
           obtain ⟨hcz69_0, hcz69_1, hcz69_2, hcz69_3⟩ := cz4 BK318
           obtain ⟨hfz69_0, hfz69_1, hfz69_2, hfz69_3⟩ := fz4 BK318
           go_upto_region 25 with (first | ((with_reducible refine gate_callee (f := 24) rfl ?_); refine gL (some 64) rfl rfl Tryd.func24 (by kernel_rfl) rfl #[.agg #[.slice Ao21 t311.length co21, .int .i64 t314, .int .i64 t315, .int .i64 t316], .int .i64 1] rfl ?_; (with_reducible refine (laws_markRing.calls kj38 (fun k_ => some k_ = (.slice Ao21 t311.length co21 : Value).ownBlock) (.slice Ao21 t311.length co21) t311 t314 t315 t316 1 t327 t328 w _ ?side1 ?side2 A56.out).mono ?_); (case side1 => repeat (first | (with_reducible first | exact HB.out | apply below_alloc | apply pw_below_drewN | apply below_drew1 | refine below_set ?_ GE307.out | refine below_set ?_ GE318.out) | exact HB.out)); (case side2 => exact Kd.R_tight rfl HO_319000.out); rintro e w70 ⟨rfl, hy0, hb, hkp⟩; refine ⟨_, rfl, ?_⟩; replace HO_308000 := Aside0.mk (Kd.R_mono (ok' := fun k_ => some k_ ≠ (.slice Ao21 t311.length co21 : Value).ownBlock) (Kd.R_keptB (HO_308000.out) hkp (fun k_ hk_ hs_ => (hk_) hs_)) (fun k_ hk_ => hk_.1)); replace BK307 := Aside0.mk (blk_kept (bk BK307) hkp (fun hs_ => (fun e_ => (Kd.R_ne HO_319000.out BK307.out (by decide)) e_) hs_)); replace BK318 := Aside0.mk (blk_kept (bk BK318) hkp (fun hs_ => (fun e_ => (Kd.R_ne HO_319000.out BK318.out (by decide)) e_) hs_)); replace HO_319000 := Aside0.mk (Kd.R_reok rfl hy0 (fun k_ e_ => HO_319000.out.1 k_ e_)); replace HB := Aside0.mk (hb); (try clear hb); (try clear hkp); (try clear hy0); obtain ⟨hcz71_0, hcz71_1, hcz71_2, hcz71_3⟩ := cz4 BK318; obtain ⟨hfz71_0, hfz71_1, hfz71_2, hfz71_3⟩ := fz4 BK318) | ((with_reducible refine gate_callee (f := 25) rfl ?_); refine goesL_ (some 67) rfl rfl Tryd.func25 (by kernel_rfl) rfl #[.agg #[.slice Ao21 t328.length co21, .int .i64 t314, .int .i64 t315, .int .i64 t316], .int .i64 1] rfl (by (try simp only [List.map_toArray, List.map_cons, List.map_nil]); first | done | (rw [show t328.length = t311.length from (Kd.R_reads' HO_319000.out).1.symm] <;> rfl) | rfl | (simp only [List.length_drop, List.length_take]; rfl)) ?_; (with_reducible refine (laws_heldRing.calls kj38 _ _ t328 t314 t315 t316 1 t329 _ ?side1 ?side2 A57.out).mono ?_); (case side1 => exact rc0 HO_319000); (case side2 => rw [show t328.length = t311.length from (Kd.R_reads' HO_319000.out).1.symm]; exact (Kd.R_reads' HO_319000.out).2.1); rintro e w72 ⟨rfl, hb⟩; refine ⟨_, rfl, ?_⟩; replace HO_308000 := nr HO_308000 hb; replace HO_319000 := nr HO_319000 hb; replace BK307 := nb BK307 hb; replace BK318 := nb BK318 hb; replace HB := Aside0.mk (below_step (bs2 HB GE307 GE318) hb); (try clear hb); (try clear hb2); (try clear hk); (try clear hi)) | ((with_reducible refine gate_callee (f := 43) rfl ?_); refine gL (some 75) rfl rfl Tryd.func43 (by kernel_rfl) rfl #[.slice A0 l0.length c0] rfl ?_; (with_reducible refine (laws_toSlotS.calls kj38 _ _ l0 t330 _ ?side1 ?side2 A65.out).mono ?_); (case side1 => exact cb HR0 HB); (case side2 => exact HC0.out); rintro e w73 ⟨v331, rfl, ho0, hb⟩; refine ⟨_, rfl, ?_⟩; have HO332 := Aside0.mk (Kd.R_lower (Kd.R_new' (Kd.R_new' ho0 (Kd.R_lt (rr HO_308000.out))) (Kd.R_lt (rr HO_319000.out))) (below_size (bs2 HB GE307 GE318))); replace HO_308000 := Aside0.mk (Kd.R_elder' (rr HO_308000.out) (Kd.R_base ho0) hb); replace HO_319000 := Aside0.mk (Kd.R_elder' (rr HO_319000.out) (Kd.R_base ho0) hb); replace BK307 := nb BK307 hb; replace BK318 := nb BK318 hb; replace HB := Aside0.mk (below_step (bs2 HB GE307 GE318) hb); (try clear hb); (try clear hb2); (try clear hk); (try clear hi); (try clear ho0); obtain ⟨Ao74, co74, eo74⟩ := Kd.R_slice HO332.out; subst eo74) | ((with_reducible refine gate_callee (f := 44) rfl ?_); refine gL (some 76) rfl rfl Tryd.func44 (by kernel_rfl) rfl #[.slice Ao74 t330.length co74] rfl ?_; (with_reducible refine (impl_OpenRing.calls kj38 _ _ t330 t333 t336 t337 t338 t339 _ ?sideT ?side1 ?side2 A66.out).mono ?_); (case sideT => refine ⟨Ito.tabB hTab_.out ?_⟩; first | exact bs HB | exact st_below | (repeat (first | (with_reducible first | exact HB.out | apply below_alloc | apply pw_below_drewN | apply below_drew1 | refine below_set ?_ (Aside0.out (by assumption))) | exact HB.out))); (case side1 => exact rc0 HO332); (case side2 => exact (Kd.R_reads' HO332.out).2.1); rintro e w75 ⟨v334, rfl, ho0, hb⟩; refine ⟨_, rfl, ?_⟩; have HO335 := Aside0.mk (Kd.R_lower (Kd.R_new' (Kd.R_new' (Kd.R_new' ho0 (Kd.R_lt (rr HO_308000.out))) (Kd.R_lt (rr HO_319000.out))) (Kd.R_lt (rr HO332.out))) (below_size (bs2 HB GE307 GE318))); replace HO_308000 := Aside0.mk (Kd.R_elder' (rr HO_308000.out) (Kd.R_base ho0) hb); replace HO_319000 := Aside0.mk (Kd.R_elder' (rr HO_319000.out) (Kd.R_base ho0) hb); replace HO332 := Aside0.mk (Kd.R_elder' (rr HO332.out) (Kd.R_base ho0) hb); replace BK307 := nb BK307 hb; replace BK318 := nb BK318 hb; replace HB := Aside0.mk (below_step (bs2 HB GE307 GE318) hb); (try clear hb); (try clear hb2); (try clear hk); (try clear hi); (try clear ho0)) | ((with_reducible refine gate_dst (N := 12) rfl ?_); refine box_event ?hg (N := 12) ?hd (cs := #[.slice none 0 0, .int .i64 0, .int .i64 0, .int .i64 0]) (t := 36) ?hr ?_; (case hd => rfl); (case hg => rfl); (case hr => first | (go_simp; done) | (go_simp; rfl)); intro gb340 hg w76 hbox hb; replace HO_308000 := nr HO_308000 hb; replace HO_319000 := nr HO_319000 hb; replace HO332 := nr HO332 hb; replace HO335 := nr HO335 hb; have BK340 := Aside0.mk (hbox); have GW340 := Aside0.mk ((by rw [hg]; exact (below_size (bs2 HB GE307 GE318)) : w.heap.size ≤ gb340)); have GE340 := Aside0.mk ((by rw [hg]; exact (below_size (bs2 HB GE307 GE318)) : w.heap.size ≤ gb340)); replace HB := Aside0.mk (below_step (bs2 HB GE307 GE318) hb); have NB307_340 := Aside0.mk ((bn BK307 hg : gb307 ≠ gb340)); have NB340_307 := Aside0.mk ((bm BK307 hg : gb340 ≠ gb307)); replace BK307 := nb BK307 hb; have NB318_340 := Aside0.mk ((bn BK318 hg : gb318 ≠ gb340)); have NB340_318 := Aside0.mk ((bm BK318 hg : gb340 ≠ gb318)); replace BK318 := nb BK318 hb; clear hb hbox hg; obtain ⟨Ao77, co77, eo77⟩ := Kd.R_slice HO335.out; subst eo77; have hnb78 := NB340_307.out; have hnc78 := NB307_340.out; have hnb79 := NB340_318.out; have hnc79 := NB318_340.out; obtain ⟨hcz80_0, hcz80_1, hcz80_2, hcz80_3⟩ := cz4 BK340; obtain ⟨hfz80_0, hfz80_1, hfz80_2, hfz80_3⟩ := fz4 BK340))
           (try simp only [Act.put, List.setIfInBounds_toArray, List.set_cons_zero, List.set_cons_succ])
           go_cut [87] (fun v87 wc => ∃ (kq : Nat) (x87_66 : Bool), v87 = .bool x87_66 ∧ Aside0 (laws_FnExactOpenRing.j2 kq t327 x87_66 t328 t314 t315 t316 = some r) ∧ Aside0 (kq ≤ kj38) ∧ Aside0 (Kd.R k26 26 wc w.heap.size (fun k_ => some k_ ≠ ((.slice Ao21 t311.length co21) : Value).ownBlock ∧ some k_ ≠ ((.slice Ao77 t333.length co77) : Value).ownBlock) (.slice Ao15 t300.length co15) t300) ∧ Aside0 (Kd.R k26 26 wc w.heap.size (fun k_ => some k_ ≠ ((.slice Ao15 t300.length co15) : Value).ownBlock ∧ some k_ ≠ ((.slice Ao77 t333.length co77) : Value).ownBlock) (.slice Ao21 t311.length co21) t328) ∧ Aside0 (Kd.R k26 26 wc w.heap.size (fun k_ => some k_ ≠ ((.slice Ao15 t300.length co15) : Value).ownBlock ∧ some k_ ≠ ((.slice Ao21 t311.length co21) : Value).ownBlock) (.slice Ao77 t333.length co77) t333) ∧ Aside0 (wc.heap[gb307]? = some (.cells #[(.slice Ao15 t300.length co15), .int .i64 t303, .int .i64 t304, .int .i64 t305] 36 (0, 0))) ∧ Aside0 (wc.heap[gb318]? = some (.cells #[(.slice Ao21 t311.length co21), .int .i64 t314, .int .i64 t315, .int .i64 t316] 36 (0, 0))) ∧ Aside0 (wc.heap[gb340]? = some (.cells #[(.slice Ao77 t333.length co77), .int .i64 t336, .int .i64 t337, .int .i64 t338] 36 (0, 0))) ∧ Aside0 (Below w.heap.size w wc))
           case first =>
            have H := HC67.out
            clear HC67
            replace H := Option.bind_eq_some_iff.mp H
            obtain ⟨t341, A810, H⟩ := H
            replace H : (if t341 = true then (laws_FnExactOpenRing.j2 kj38 t327 (t339 != t306) t328 t314 t315 t316) else (laws_FnExactOpenRing.j2 kj38 t327 true t328 t314 t315 t316)) = some r := H
            have A81 := Aside0.mk A810
            clear A810
            by_cases c82 : t341 = true
            ·
             subst c82
             rw [if_pos rfl] at H
             have H' := Aside0.mk H
             clear H
             have hnb83 := NB340_307.out
             have hnc83 := NB307_340.out
             have hnb84 := NB340_318.out
             have hnc84 := NB318_340.out
             obtain ⟨hcz85_0, hcz85_1, hcz85_2, hcz85_3⟩ := cz4 BK340
             obtain ⟨hfz85_0, hfz85_1, hfz85_2, hfz85_3⟩ := fz4 BK340
             have hnb86 := NB307_318.out
             have hnc86 := NB318_307.out
             obtain ⟨hcz87_0, hcz87_1, hcz87_2, hcz87_3⟩ := cz4 BK307
             obtain ⟨hfz87_0, hfz87_1, hfz87_2, hfz87_3⟩ := fz4 BK307
             go_wp2_with (first | ((with_reducible refine gate_callee (f := 21) rfl ?_); refine gL (some 81) rfl rfl Tryd.func21 (by kernel_rfl) rfl #[.agg #[.slice Ao77 t333.length co77, .int .i64 t336, .int .i64 t337, .int .i64 t338], .agg #[.slice Ao15 t300.length co15, .int .i64 t303, .int .i64 t304, .int .i64 t305]] rfl ?_; (with_reducible refine (laws_eqRing.calls kj38 _ _ t333 t336 t337 t338 _ _ t300 t303 t304 t305 true _ ?side1 ?side2 ?side3 ?side4 A81.out).mono ?_); (case side1 => exact rc HO335 BK340); (case side2 => exact (Kd.R_reads' HO335.out).2.1); (case side3 => exact rc HO_308000 BK340); (case side4 => exact (Kd.R_reads' HO_308000.out).2.1); rintro e w88 ⟨rfl, hb⟩; refine ⟨_, rfl, ?_⟩; replace HO_308000 := nf HO_308000 BK340 hb; replace HO_319000 := nf HO_319000 BK340 hb; replace HO332 := nf HO332 BK340 hb; replace HO335 := nf HO335 BK340 hb; replace BK307 := Aside0.mk (blk_below (bf BK307 NB307_340) hb); replace BK318 := Aside0.mk (blk_below (bf BK318 NB318_340) hb); replace BK340 := Aside0.mk (blk_below (g := gb340) (o := .cells #[.slice Ao77 t333.length co77, .int .i64 t336, .int .i64 t337, .int .i64 t338] 36 (0, 0)) (by (with_reducible repeat (first | refine blk_drewN ?_ _ | refine blk_drew ?_ | refine blk_alloc ?_ _)); refine blk_put (cs := #[.slice Ao77 t333.length co77, .int .i64 t336, .int .i64 t337, .int .i64 0]) ?_ 3 _ rfl; (with_reducible repeat (first | refine blk_drewN ?_ _ | refine blk_drew ?_ | refine blk_alloc ?_ _)); refine blk_put (cs := #[.slice Ao77 t333.length co77, .int .i64 t336, .int .i64 0, .int .i64 0]) ?_ 2 _ rfl; (with_reducible repeat (first | refine blk_drewN ?_ _ | refine blk_drew ?_ | refine blk_alloc ?_ _)); refine blk_put (cs := #[.slice Ao77 t333.length co77, .int .i64 0, .int .i64 0, .int .i64 0]) ?_ 1 _ rfl; (with_reducible repeat (first | refine blk_drewN ?_ _ | refine blk_drew ?_ | refine blk_alloc ?_ _)); refine blk_put (cs := #[.slice none 0 0, .int .i64 0, .int .i64 0, .int .i64 0]) ?_ 0 _ rfl; (with_reducible repeat (first | refine blk_drewN ?_ _ | refine blk_drew ?_ | refine blk_alloc ?_ _)); exact BK340.out) hb); replace HB := Aside0.mk (below_step (bs3 HB GE307 GE318 GE340) hb); (try clear hb); (try clear hb2); (try clear hk); (try clear hi)))
             go_meet
             case rel => exact ⟨_, ((t339 != t306)), (by first | rfl | (simp; done) | (simp [*]; done)), H', ⟨by have := HJ8.out; have := HJ38.out; first | omega | exact Nat.le_refl _⟩, rm HO_308000 (fun _ hk => ⟨hk.1.1, hk.2⟩), rm HO_319000 (fun _ hk => ⟨hk.1.1, hk.2⟩), rm HO335 (fun _ hk => ⟨hk.1.1.2, hk.1.2⟩), ⟨bk BK307⟩, ⟨bk BK318⟩, ⟨bk BK340⟩, ⟨bs3 HB GE307 GE318 GE340⟩⟩
            ·
             replace c82 := Bool.eq_false_iff.mpr c82
             subst c82
             rw [if_neg (show ¬ (false = true) by decide)] at H
             have H' := Aside0.mk H
             clear H
             have hnb89 := NB340_307.out
             have hnc89 := NB307_340.out
             have hnb90 := NB340_318.out
             have hnc90 := NB318_340.out
             obtain ⟨hcz91_0, hcz91_1, hcz91_2, hcz91_3⟩ := cz4 BK340
             obtain ⟨hfz91_0, hfz91_1, hfz91_2, hfz91_3⟩ := fz4 BK340
             have hnb92 := NB307_318.out
             have hnc92 := NB318_307.out
             obtain ⟨hcz93_0, hcz93_1, hcz93_2, hcz93_3⟩ := cz4 BK307
             obtain ⟨hfz93_0, hfz93_1, hfz93_2, hfz93_3⟩ := fz4 BK307
             go_wp2_with (first | ((with_reducible refine gate_callee (f := 21) rfl ?_); refine gL (some 81) rfl rfl Tryd.func21 (by kernel_rfl) rfl #[.agg #[.slice Ao77 t333.length co77, .int .i64 t336, .int .i64 t337, .int .i64 t338], .agg #[.slice Ao15 t300.length co15, .int .i64 t303, .int .i64 t304, .int .i64 t305]] rfl ?_; (with_reducible refine (laws_eqRing.calls kj38 _ _ t333 t336 t337 t338 _ _ t300 t303 t304 t305 false _ ?side1 ?side2 ?side3 ?side4 A81.out).mono ?_); (case side1 => exact rc HO335 BK340); (case side2 => exact (Kd.R_reads' HO335.out).2.1); (case side3 => exact rc HO_308000 BK340); (case side4 => exact (Kd.R_reads' HO_308000.out).2.1); rintro e w94 ⟨rfl, hb⟩; refine ⟨_, rfl, ?_⟩; replace HO_308000 := nf HO_308000 BK340 hb; replace HO_319000 := nf HO_319000 BK340 hb; replace HO332 := nf HO332 BK340 hb; replace HO335 := nf HO335 BK340 hb; replace BK307 := Aside0.mk (blk_below (bf BK307 NB307_340) hb); replace BK318 := Aside0.mk (blk_below (bf BK318 NB318_340) hb); replace BK340 := Aside0.mk (blk_below (g := gb340) (o := .cells #[.slice Ao77 t333.length co77, .int .i64 t336, .int .i64 t337, .int .i64 t338] 36 (0, 0)) (by (with_reducible repeat (first | refine blk_drewN ?_ _ | refine blk_drew ?_ | refine blk_alloc ?_ _)); refine blk_put (cs := #[.slice Ao77 t333.length co77, .int .i64 t336, .int .i64 t337, .int .i64 0]) ?_ 3 _ rfl; (with_reducible repeat (first | refine blk_drewN ?_ _ | refine blk_drew ?_ | refine blk_alloc ?_ _)); refine blk_put (cs := #[.slice Ao77 t333.length co77, .int .i64 t336, .int .i64 0, .int .i64 0]) ?_ 2 _ rfl; (with_reducible repeat (first | refine blk_drewN ?_ _ | refine blk_drew ?_ | refine blk_alloc ?_ _)); refine blk_put (cs := #[.slice Ao77 t333.length co77, .int .i64 0, .int .i64 0, .int .i64 0]) ?_ 1 _ rfl; (with_reducible repeat (first | refine blk_drewN ?_ _ | refine blk_drew ?_ | refine blk_alloc ?_ _)); refine blk_put (cs := #[.slice none 0 0, .int .i64 0, .int .i64 0, .int .i64 0]) ?_ 0 _ rfl; (with_reducible repeat (first | refine blk_drewN ?_ _ | refine blk_drew ?_ | refine blk_alloc ?_ _)); exact BK340.out) hb); replace HB := Aside0.mk (below_step (bs3 HB GE307 GE318 GE340) hb); (try clear hb); (try clear hb2); (try clear hk); (try clear hi)))
             go_meet
             case rel => exact ⟨_, (true), (by first | rfl | (simp; done) | (simp [*]; done)), H', ⟨by have := HJ8.out; have := HJ38.out; first | omega | exact Nat.le_refl _⟩, rm HO_308000 (fun _ hk => ⟨hk.1.1, hk.2⟩), rm HO_319000 (fun _ hk => ⟨hk.1.1, hk.2⟩), rm HO335 (fun _ hk => ⟨hk.1.1.2, hk.1.2⟩), ⟨bk BK307⟩, ⟨bk BK318⟩, ⟨bk BK340⟩, ⟨bs3 HB GE307 GE318 GE340⟩⟩
           case rest =>
            clear HC67
            try clear c1
            try clear c2
            try clear p2
            try clear c3
            try clear c3b0
            try clear c4
            try clear c5
            try clear c6
            try clear c7
            try clear c8
            try clear c9
            try clear c11
            try clear c21
            try clear c22
            try clear c24
            try clear c25
            try clear c26
            try clear c30
            try clear c34
            try clear c37
            try clear c41
            try clear c42
            try clear c43
            try clear c44
            try clear c44b0
            try clear c45
            try clear c46
            try clear c47
            try clear c51
            try clear c55
            try clear c58
            try clear c58b0
            try clear c59
            try clear c64
            try clear c64b0
            try clear c64b1
            try clear c68
            try clear c78
            try clear c79
            try clear c82
            try clear c83
            try clear c84
            try clear c86
            try clear c89
            try clear c90
            try clear c92
            try clear hcz16_0 hcz16_1 hcz16_2 hcz16_3
            try clear hcz23_0 hcz23_1 hcz23_2 hcz23_3
            try clear hcz27_0 hcz27_1 hcz27_2 hcz27_3
            try clear hcz28_0 hcz28_1 hcz28_2 hcz28_3
            try clear hcz31_0 hcz31_1 hcz31_2 hcz31_3
            try clear hcz32_0 hcz32_1 hcz32_2 hcz32_3
            try clear hcz48_0 hcz48_1 hcz48_2 hcz48_3
            try clear hcz49_0 hcz49_1 hcz49_2 hcz49_3
            try clear hcz52_0 hcz52_1 hcz52_2 hcz52_3
            try clear hcz53_0 hcz53_1 hcz53_2 hcz53_3
            try clear hcz60_0 hcz60_1 hcz60_2 hcz60_3
            try clear hcz62_0 hcz62_1 hcz62_2 hcz62_3
            try clear hcz69_0 hcz69_1 hcz69_2 hcz69_3
            try clear hcz71_0 hcz71_1 hcz71_2 hcz71_3
            try clear hcz80_0 hcz80_1 hcz80_2 hcz80_3
            try clear hcz85_0 hcz85_1 hcz85_2 hcz85_3
            try clear hcz87_0 hcz87_1 hcz87_2 hcz87_3
            try clear hcz91_0 hcz91_1 hcz91_2 hcz91_3
            try clear hcz93_0 hcz93_1 hcz93_2 hcz93_3
            try clear hfz16_0 hfz16_1 hfz16_2 hfz16_3
            try clear hfz23_0 hfz23_1 hfz23_2 hfz23_3
            try clear hfz27_0 hfz27_1 hfz27_2 hfz27_3
            try clear hfz28_0 hfz28_1 hfz28_2 hfz28_3
            try clear hfz31_0 hfz31_1 hfz31_2 hfz31_3
            try clear hfz32_0 hfz32_1 hfz32_2 hfz32_3
            try clear hfz48_0 hfz48_1 hfz48_2 hfz48_3
            try clear hfz49_0 hfz49_1 hfz49_2 hfz49_3
            try clear hfz52_0 hfz52_1 hfz52_2 hfz52_3
            try clear hfz53_0 hfz53_1 hfz53_2 hfz53_3
            try clear hfz60_0 hfz60_1 hfz60_2 hfz60_3
            try clear hfz62_0 hfz62_1 hfz62_2 hfz62_3
            try clear hfz69_0 hfz69_1 hfz69_2 hfz69_3
            try clear hfz71_0 hfz71_1 hfz71_2 hfz71_3
            try clear hfz80_0 hfz80_1 hfz80_2 hfz80_3
            try clear hfz85_0 hfz85_1 hfz85_2 hfz85_3
            try clear hfz87_0 hfz87_1 hfz87_2 hfz87_3
            try clear hfz91_0 hfz91_1 hfz91_2 hfz91_3
            try clear hfz93_0 hfz93_1 hfz93_2 hfz93_3
            try clear p2
            obtain ⟨kq, x87_66, rfl, HA, HJ66, HO_308000, HO_319000, HO_341000, BK307, BK318, BK340, HB⟩ := hcut
            have hl319000_66 := (Kd.R_reads' HO_319000.out).1
            rw [hl319000_66] at HO_319000
            (try simp only [hl319000_66])
            (try simp only [hl319000_66] at BK307)
            (try simp only [hl319000_66] at BK318)
            (try simp only [hl319000_66] at BK340)
            (try simp only [hl319000_66] at HO_308000)
            (try simp only [hl319000_66] at HO_341000)
            cases kq with
            | zero => exact absurd HA.out (by simp [laws_FnExactOpenRing.j2])
            | succ kj66 =>
             have H := HA.out
             clear HA
             simp only [laws_FnExactOpenRing.j2] at H
             by_cases c95 : x87_66 = true
             ·
              subst c95
              rw [if_pos rfl] at H
              obtain rfl := Option.some.inj H
              go_wp2
              go_ret
              exact ⟨by first | rfl | (simp [errW_none, errW_some] <;> rfl) | (simp [*, errW_none, errW_some] <;> rfl), bs3 HB GE307 GE318 GE340⟩
             ·
              replace c95 := Bool.eq_false_iff.mpr c95
              subst c95
              rw [if_neg (show ¬ (false = true) by decide)] at H
              replace H := Option.bind_eq_some_iff.mp H
              obtain ⟨t342, A960, H⟩ := H
              replace H : (if t342 < 0 then (some false) else (if t342 = t327 then (some true) else (some false))) = some r := H
              have A96 := Aside0.mk A960
              clear A960
              by_cases c97 : t342 < 0
              ·
               rw [if_pos c97] at H
               have c97b0 : decide (t342 < 0) = true := decide_eq_true c97
               clear c97
               obtain rfl := Option.some.inj H
               have hnb98 := NB318_307.out
               have hnc98 := NB307_318.out
               have hnb99 := NB318_340.out
               have hnc99 := NB340_318.out
               obtain ⟨hcz100_0, hcz100_1, hcz100_2, hcz100_3⟩ := cz4 BK318
               obtain ⟨hfz100_0, hfz100_1, hfz100_2, hfz100_3⟩ := fz4 BK318
               go_wp2_with (first | ((with_reducible refine gate_callee (f := 25) rfl ?_); refine gL (some 90) rfl rfl Tryd.func25 (by kernel_rfl) rfl #[.agg #[.slice Ao21 t328.length co21, .int .i64 t314, .int .i64 t315, .int .i64 t316], .int .i64 1] rfl ?_; (with_reducible refine (laws_heldRing.calls kj66 _ _ t328 t314 t315 t316 1 t342 _ ?side1 ?side2 A96.out).mono ?_); (case side1 => exact rc0 HO_319000); (case side2 => exact (Kd.R_reads' HO_319000.out).2.1); rintro e w101 ⟨rfl, hb⟩; refine ⟨_, rfl, ?_⟩; replace HO_308000 := nr HO_308000 hb; replace HO_319000 := nr HO_319000 hb; replace HO_341000 := nr HO_341000 hb; replace BK307 := nb BK307 hb; replace BK318 := nb BK318 hb; replace BK340 := nb BK340 hb; replace HB := Aside0.mk (below_step (bs3 HB GE307 GE318 GE340) hb); (try clear hb); (try clear hb2); (try clear hk); (try clear hi)))
               go_ret
               exact ⟨by first | rfl | (simp [errW_none, errW_some] <;> rfl) | (simp [*, errW_none, errW_some] <;> rfl), bs3 HB GE307 GE318 GE340⟩
              ·
               rw [if_neg c97] at H
               have c97b0 : decide (t342 < 0) = false := decide_eq_false c97
               clear c97
               by_cases c102 : t342 = t327
               ·
                rw [if_pos c102] at H
                have c102b0 : (t342 == t327) = true := beq_iff_eq.mpr c102
                have c102b1 : (t342 != t327) = false := bne_eq_false_iff_eq.mpr c102
                clear c102
                obtain rfl := Option.some.inj H
                have hnb103 := NB318_307.out
                have hnc103 := NB307_318.out
                have hnb104 := NB318_340.out
                have hnc104 := NB340_318.out
                obtain ⟨hcz105_0, hcz105_1, hcz105_2, hcz105_3⟩ := cz4 BK318
                obtain ⟨hfz105_0, hfz105_1, hfz105_2, hfz105_3⟩ := fz4 BK318
                go_wp2_with (first | ((with_reducible refine gate_callee (f := 25) rfl ?_); refine gL (some 90) rfl rfl Tryd.func25 (by kernel_rfl) rfl #[.agg #[.slice Ao21 t328.length co21, .int .i64 t314, .int .i64 t315, .int .i64 t316], .int .i64 1] rfl ?_; (with_reducible refine (laws_heldRing.calls kj66 _ _ t328 t314 t315 t316 1 t342 _ ?side1 ?side2 A96.out).mono ?_); (case side1 => exact rc0 HO_319000); (case side2 => exact (Kd.R_reads' HO_319000.out).2.1); rintro e w106 ⟨rfl, hb⟩; refine ⟨_, rfl, ?_⟩; replace HO_308000 := nr HO_308000 hb; replace HO_319000 := nr HO_319000 hb; replace HO_341000 := nr HO_341000 hb; replace BK307 := nb BK307 hb; replace BK318 := nb BK318 hb; replace BK340 := nb BK340 hb; replace HB := Aside0.mk (below_step (bs3 HB GE307 GE318 GE340) hb); (try clear hb); (try clear hb2); (try clear hk); (try clear hi)))
                go_ret
                exact ⟨by first | rfl | (simp [errW_none, errW_some] <;> rfl) | (simp [*, errW_none, errW_some] <;> rfl), bs3 HB GE307 GE318 GE340⟩
               ·
                rw [if_neg c102] at H
                have c102b0 : (t342 == t327) = false := beq_eq_false_iff_ne.mpr c102
                have c102b1 : (t342 != t327) = true := bne_iff_ne.mpr c102
                obtain rfl := Option.some.inj H
                have hnb107 := NB318_307.out
                have hnc107 := NB307_318.out
                have hnb108 := NB318_340.out
                have hnc108 := NB340_318.out
                obtain ⟨hcz109_0, hcz109_1, hcz109_2, hcz109_3⟩ := cz4 BK318
                obtain ⟨hfz109_0, hfz109_1, hfz109_2, hfz109_3⟩ := fz4 BK318
                go_wp2_with (first | ((with_reducible refine gate_callee (f := 25) rfl ?_); refine gL (some 90) rfl rfl Tryd.func25 (by kernel_rfl) rfl #[.agg #[.slice Ao21 t328.length co21, .int .i64 t314, .int .i64 t315, .int .i64 t316], .int .i64 1] rfl ?_; (with_reducible refine (laws_heldRing.calls kj66 _ _ t328 t314 t315 t316 1 t342 _ ?side1 ?side2 A96.out).mono ?_); (case side1 => exact rc0 HO_319000); (case side2 => exact (Kd.R_reads' HO_319000.out).2.1); rintro e w110 ⟨rfl, hb⟩; refine ⟨_, rfl, ?_⟩; replace HO_308000 := nr HO_308000 hb; replace HO_319000 := nr HO_319000 hb; replace HO_341000 := nr HO_341000 hb; replace BK307 := nb BK307 hb; replace BK318 := nb BK318 hb; replace BK340 := nb BK340 hb; replace HB := Aside0.mk (below_step (bs3 HB GE307 GE318 GE340) hb); (try clear hb); (try clear hb2); (try clear hk); (try clear hi)))
                go_ret
                exact ⟨by first | rfl | (simp [errW_none, errW_some] <;> rfl) | (simp [*, errW_none, errW_some] <;> rfl), bs3 HB GE307 GE318 GE340⟩
          ·
           rw [if_neg c64] at H
           have c64b0 : (t329 == t327) = false := beq_eq_false_iff_ne.mpr c64
           have c64b1 : (t329 != t327) = true := bne_iff_ne.mpr c64
           obtain rfl := Option.some.inj H
           have hnb111 := NB318_307.out
           have hnc111 := NB307_318.out
           obtain ⟨hcz112_0, hcz112_1, hcz112_2, hcz112_3⟩ := cz4 BK318
           obtain ⟨hfz112_0, hfz112_1, hfz112_2, hfz112_3⟩ := fz4 BK318
           go_wp2_with (first | ((with_reducible refine gate_callee (f := 24) rfl ?_); refine gL (some 64) rfl rfl Tryd.func24 (by kernel_rfl) rfl #[.agg #[.slice Ao21 t311.length co21, .int .i64 t314, .int .i64 t315, .int .i64 t316], .int .i64 1] rfl ?_; (with_reducible refine (laws_markRing.calls kj38 (fun k_ => some k_ = (.slice Ao21 t311.length co21 : Value).ownBlock) (.slice Ao21 t311.length co21) t311 t314 t315 t316 1 t327 t328 w _ ?side1 ?side2 A56.out).mono ?_); (case side1 => repeat (first | (with_reducible first | exact HB.out | apply below_alloc | apply pw_below_drewN | apply below_drew1 | refine below_set ?_ GE307.out | refine below_set ?_ GE318.out) | exact HB.out)); (case side2 => exact Kd.R_tight rfl HO_319000.out); rintro e w113 ⟨rfl, hy0, hb, hkp⟩; refine ⟨_, rfl, ?_⟩; replace HO_308000 := Aside0.mk (Kd.R_mono (ok' := fun k_ => some k_ ≠ (.slice Ao21 t311.length co21 : Value).ownBlock) (Kd.R_keptB (HO_308000.out) hkp (fun k_ hk_ hs_ => (hk_) hs_)) (fun k_ hk_ => hk_.1)); replace BK307 := Aside0.mk (blk_kept (bk BK307) hkp (fun hs_ => (fun e_ => (Kd.R_ne HO_319000.out BK307.out (by decide)) e_) hs_)); replace BK318 := Aside0.mk (blk_kept (bk BK318) hkp (fun hs_ => (fun e_ => (Kd.R_ne HO_319000.out BK318.out (by decide)) e_) hs_)); replace HO_319000 := Aside0.mk (Kd.R_reok rfl hy0 (fun k_ e_ => HO_319000.out.1 k_ e_)); replace HB := Aside0.mk (hb); (try clear hb); (try clear hkp); (try clear hy0); obtain ⟨hcz114_0, hcz114_1, hcz114_2, hcz114_3⟩ := cz4 BK318; obtain ⟨hfz114_0, hfz114_1, hfz114_2, hfz114_3⟩ := fz4 BK318) | ((with_reducible refine gate_callee (f := 25) rfl ?_); refine goesL_ (some 67) rfl rfl Tryd.func25 (by kernel_rfl) rfl #[.agg #[.slice Ao21 t328.length co21, .int .i64 t314, .int .i64 t315, .int .i64 t316], .int .i64 1] rfl (by (try simp only [List.map_toArray, List.map_cons, List.map_nil]); first | done | (rw [show t328.length = t311.length from (Kd.R_reads' HO_319000.out).1.symm] <;> rfl) | rfl | (simp only [List.length_drop, List.length_take]; rfl)) ?_; (with_reducible refine (laws_heldRing.calls kj38 _ _ t328 t314 t315 t316 1 t329 _ ?side1 ?side2 A57.out).mono ?_); (case side1 => exact rc0 HO_319000); (case side2 => rw [show t328.length = t311.length from (Kd.R_reads' HO_319000.out).1.symm]; exact (Kd.R_reads' HO_319000.out).2.1); rintro e w115 ⟨rfl, hb⟩; refine ⟨_, rfl, ?_⟩; replace HO_308000 := nr HO_308000 hb; replace HO_319000 := nr HO_319000 hb; replace BK307 := nb BK307 hb; replace BK318 := nb BK318 hb; replace HB := Aside0.mk (below_step (bs2 HB GE307 GE318) hb); (try clear hb); (try clear hb2); (try clear hk); (try clear hi)))
           go_ret
           exact ⟨by first | rfl | (simp [errW_none, errW_some] <;> rfl) | (simp [*, errW_none, errW_some] <;> rfl), bs2 HB GE307 GE318⟩
     ·
      replace c37 := Bool.eq_false_iff.mpr c37
      subst c37
      rw [if_neg (show ¬ (false = true) by decide)] at H
      obtain rfl := Option.some.inj H
      go_wp2_with (first | ((with_reducible refine gate_callee (f := 43) rfl ?_); refine gL (some 43) rfl rfl Tryd.func43 (by kernel_rfl) rfl #[.slice A0 l0.length c0] rfl ?_; (with_reducible refine (laws_toSlotS.calls kj8 _ _ l0 t320 _ ?side1 ?side2 A35.out).mono ?_); (case side1 => exact cb HR0 HB); (case side2 => exact HC0.out); rintro e w116 ⟨v321, rfl, ho0, hb⟩; refine ⟨_, rfl, ?_⟩; have HO322 := Aside0.mk (Kd.R_lower (Kd.R_new' (Kd.R_new' (Kd.R_new' ho0 (Kd.R_lt (rr HO_6.out))) (Kd.R_lt (rr HO_308000.out))) (Kd.R_lt (rr HO_319000.out))) (below_size (bs2 HB GE307 GE318))); replace HO_6 := Aside0.mk (Kd.R_elder' (rr HO_6.out) (Kd.R_base ho0) hb); replace HO_308000 := Aside0.mk (Kd.R_elder' (rr HO_308000.out) (Kd.R_base ho0) hb); replace HO_319000 := Aside0.mk (Kd.R_elder' (rr HO_319000.out) (Kd.R_base ho0) hb); replace BK307 := nb BK307 hb; replace BK318 := nb BK318 hb; replace HB := Aside0.mk (below_step (bs2 HB GE307 GE318) hb); (try clear hb); (try clear hb2); (try clear hk); (try clear hi); (try clear ho0); obtain ⟨Ao117, co117, eo117⟩ := Kd.R_slice HO322.out; subst eo117) | ((with_reducible refine gate_callee (f := 45) rfl ?_); refine gL (some 44) rfl rfl Tryd.func45 (by kernel_rfl) rfl #[.slice Ao18 t308.length co18, .slice Ao117 t320.length co117] rfl ?_; (with_reducible refine (laws_eqSlotS.calls kj8 _ _ t308 _ _ t320 false _ ?side1 ?side2 ?side3 ?side4 A36.out).mono ?_); (case side1 => exact rc0 HO_6); (case side2 => exact (Kd.R_reads' HO_6.out).2.1); (case side3 => exact rc0 HO322); (case side4 => exact (Kd.R_reads' HO322.out).2.1); rintro e w118 ⟨rfl, hb⟩; refine ⟨_, rfl, ?_⟩; replace HO_6 := nr HO_6 hb; replace HO_308000 := nr HO_308000 hb; replace HO_319000 := nr HO_319000 hb; replace HO322 := nr HO322 hb; replace BK307 := nb BK307 hb; replace BK318 := nb BK318 hb; replace HB := Aside0.mk (below_step (bs2 HB GE307 GE318) hb); (try clear hb); (try clear hb2); (try clear hk); (try clear hi)))
      go_ret
      exact ⟨by first | rfl | (simp [errW_none, errW_some] <;> rfl) | (simp [*, errW_none, errW_some] <;> rfl), bs2 HB GE307 GE318⟩

/-- THE ONE PURE STATEMENT of laws_FnExactOpenRing. -/
def laws_FnExactOpenRing.Pure : Prop := ∀ (l0 : List (S23)), (l0.length ≤ maxLen ∧ ∀ y0 ∈ l0, ok23 y0) → ∃ k, laws_FnExactOpenRing.f k l0 = some true

end Go.Proofs.YthlifcbkpafofaaDoor.G
