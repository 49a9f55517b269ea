-- Printed by a program of this session (drive.py, by way of the kit's print). Not trusted: Lean checks it.
import Derived.Test.YthlifcbkpafofaaDoorG0
import Derived.Test.YthlifcbkpafofaaDoorG1
import Derived.Test.YthlifcbkpafofaaDoorG2
import Derived.Test.YthlifcbkpafofaaDoorG3
namespace Go.Proofs.YthlifcbkpafofaaDoor.G
open Go.RowKit Go.Proofs.YthlifcbkpafofaaDoorW.PrintWords Go.Proofs.YthlifcbkpafofaaDoorW.PrintLast Go.Proofs.YthlifcbkpafofaaDoorW.PrintMore
attribute [local go_sem] max2_int min2_int max_two min_two max_three min_three max_four min_four   -- for this text's walks alone
set_option linter.unusedVariables false
set_option linter.unusedSimpArgs false

attribute [local go_sem high] eqA26
/-! ### impl_GoodRing: function 20 -/
mutual
def impl_GoodRing.j0 : Nat → Int → Bool → List (S26) → Int → Int → Int → Option (Bool)
 | 0, _, _, _, _, _, _ => none
 | k + 1, x3, x41, x178000, x178001, x178002, x178003 => if x41 = true then (some false) else (impl_GoodRing.l0 k x3 0 (wrap64 (x178001 - x3)) x178000 x178001 x178002 x178003)
def impl_GoodRing.l0 : Nat → Int → Int → Int → List (S26) → Int → Int → Int → Option (Bool)
 | 0, _, _, _, _, _, _, _ => none
 | k + 1, x3, x4, x5, x178000, x178001, x178002, x178003 => if x5 < x178001 then (if x5 < 0 then (if 0 ≤ (wrap64 (x5 + x3)) then (if (wrap64 (x5 + x3)) < (x178000.length : Int) then ((impl_zeroSlot.f k).bind fun bt182 => (if (!(((rd_T26 x178000 (wrap64 (x5 + x3))).f0) == bt182.1) || (!(((rd_T26 x178000 (wrap64 (x5 + x3))).f1) == bt182.2.1) || (!((((rd_T26 x178000 (wrap64 (x5 + x3))).f2).toList) == bt182.2.2.1.toList) || (!(((rd_T26 x178000 (wrap64 (x5 + x3))).f3) == bt182.2.2.2))))) = true then (some false) else (impl_GoodRing.l0 k x3 x4 (wrap64 (x5 + 1)) x178000 x178001 x178002 x178003))) else (none)) else (none)) else (if x3 = 0 then (none) else (if 0 ≤ (Int.tmod x5 x3) then (if (Int.tmod x5 x3) < (x178000.length : Int) then (if x5 < x178003 then ((impl_zeroSlot.f k).bind fun bt188 => (impl_GoodRing.j2 k x3 x4 x5 (((rd_T26 x178000 (Int.tmod x5 x3)).f0) == bt188.1 && (((rd_T26 x178000 (Int.tmod x5 x3)).f1) == bt188.2.1 && ((((rd_T26 x178000 (Int.tmod x5 x3)).f2).toList) == bt188.2.2.1.toList && (((rd_T26 x178000 (Int.tmod x5 x3)).f3) == bt188.2.2.2)))) x178000 x178001 x178002 x178003 ((rd_T26 x178000 (Int.tmod x5 x3)).f0) ((rd_T26 x178000 (Int.tmod x5 x3)).f1) ((rd_T26 x178000 (Int.tmod x5 x3)).f2) ((rd_T26 x178000 (Int.tmod x5 x3)).f3))) else (impl_GoodRing.j2 k x3 x4 x5 false x178000 x178001 x178002 x178003 ((rd_T26 x178000 (Int.tmod x5 x3)).f0) ((rd_T26 x178000 (Int.tmod x5 x3)).f1) ((rd_T26 x178000 (Int.tmod x5 x3)).f2) ((rd_T26 x178000 (Int.tmod x5 x3)).f3))) else (none)) else (none)))) else (some true)
def impl_GoodRing.j2 : Nat → Int → Int → Int → Bool → List (S26) → Int → Int → Int → Int → Int → ByteArray → Int → Option (Bool)
 | 0, _, _, _, _, _, _, _, _, _, _, _, _ => none
 | k + 1, x3, x4, x5, x78, x178000, x178001, x178002, x178003, x188000, x188001, x188002, x188003 => if x78 = true then (impl_GoodRing.l0 k x3 x4 (wrap64 (x5 + 1)) x178000 x178001 x178002 x178003) else ((impl_isIntact.f k x188000 x188001 x188002 x188003).bind fun t192 => (if t192 = true then (if x3 = 0 then (none) else (if x188000 = (wrap64 ((wrap64 (Int.tdiv x5 x3)) + 1)) then (if x188001 > x5 then (some false) else (if x188001 > x178003 then (some false) else (if x188001 < x4 then (some false) else (impl_GoodRing.l0 k x3 x188001 (wrap64 (x5 + 1)) x178000 x178001 x178002 x178003)))) else (some false))) else (some false)))
end
def impl_GoodRing.f (k : Nat) (l0_0 : List (S26)) (a0_1 : Int) (a0_2 : Int) (a0_3 : Int) : Option (Bool) := (impl_within.f (l0_0.length : Int) 2 24).bind fun t178 => (if t178 = true then ((impl_within.f a0_1 0 10000000).bind fun t179 => (if t179 = true then ((impl_within.f a0_3 (mx 0 (wrap64 (a0_1 - (l0_0.length : Int)))) a0_1).bind fun t180 => (if t180 = true then (if (l0_0.length : Int) = 0 then (none) else (impl_GoodRing.j0 k (l0_0.length : Int) (a0_2 != (wrap64 ((wrap64 (Int.tdiv a0_1 (l0_0.length : Int))) + 1))) l0_0 a0_1 a0_2 a0_3)) else (impl_GoodRing.j0 k (l0_0.length : Int) true l0_0 a0_1 a0_2 a0_3))) else (impl_GoodRing.j0 k (l0_0.length : Int) true l0_0 a0_1 a0_2 a0_3))) else (impl_GoodRing.j0 k (l0_0.length : Int) true l0_0 a0_1 a0_2 a0_3))
theorem impl_GoodRing.mono_l : ∀ k, (∀ y0 y1 y2 y3 y4 y5, LeO (impl_GoodRing.j0 k y0 y1 y2 y3 y4 y5) (impl_GoodRing.j0 (k + 1) y0 y1 y2 y3 y4 y5)) ∧ (∀ y0 y1 y2 y3 y4 y5 y6, LeO (impl_GoodRing.l0 k y0 y1 y2 y3 y4 y5 y6) (impl_GoodRing.l0 (k + 1) y0 y1 y2 y3 y4 y5 y6)) ∧ (∀ y0 y1 y2 y3 y4 y5 y6 y7 y8 y9 y10 y11, LeO (impl_GoodRing.j2 k y0 y1 y2 y3 y4 y5 y6 y7 y8 y9 y10 y11) (impl_GoodRing.j2 (k + 1) y0 y1 y2 y3 y4 y5 y6 y7 y8 y9 y10 y11))
 | 0 => ⟨fun _ _ _ _ _ _ r h => by simp [impl_GoodRing.j0] at h, fun _ _ _ _ _ _ _ r h => by simp [impl_GoodRing.l0] at h, fun _ _ _ _ _ _ _ _ _ _ _ _ r h => by simp [impl_GoodRing.j2] at h⟩
 | k + 1 => by
  obtain ⟨ih0, ih1, ih2⟩ := impl_GoodRing.mono_l k
  refine ⟨?_, ?_, ?_⟩
  ·
   intro y0 y1 y2 y3 y4 y5
   unfold impl_GoodRing.j0
   repeat' first
   | (with_reducible exact ih0 _ _ _ _ _ _)
   | (with_reducible exact ih1 _ _ _ _ _ _ _)
   | (with_reducible exact ih2 _ _ _ _ _ _ _ _ _ _ _ _)
   | (with_reducible exact impl_isIntact.mono _ _ _ _ _)
   | (with_reducible exact impl_zeroSlot.mono _)
   | (with_reducible exact LeO.refl _)
   | (with_reducible exact LeO.none _)
   | (with_reducible refine LeO.ite ?_ ?_)
   | (with_reducible refine LeO.bind ?_ (fun _ => ?_))
   | exact ih0 _ _ _ _ _ _
   | exact ih1 _ _ _ _ _ _ _
   | exact ih2 _ _ _ _ _ _ _ _ _ _ _ _
   | exact impl_isIntact.mono _ _ _ _ _
   | exact impl_zeroSlot.mono _
   | exact LeO.none _
   | refine LeO.ite ?_ ?_
   | refine LeO.bind ?_ (fun _ => ?_)
  ·
   intro y0 y1 y2 y3 y4 y5 y6
   unfold impl_GoodRing.l0
   repeat' first
   | (with_reducible exact ih0 _ _ _ _ _ _)
   | (with_reducible exact ih1 _ _ _ _ _ _ _)
   | (with_reducible exact ih2 _ _ _ _ _ _ _ _ _ _ _ _)
   | (with_reducible exact impl_isIntact.mono _ _ _ _ _)
   | (with_reducible exact impl_zeroSlot.mono _)
   | (with_reducible exact LeO.refl _)
   | (with_reducible exact LeO.none _)
   | (with_reducible refine LeO.ite ?_ ?_)
   | (with_reducible refine LeO.bind ?_ (fun _ => ?_))
   | exact ih0 _ _ _ _ _ _
   | exact ih1 _ _ _ _ _ _ _
   | exact ih2 _ _ _ _ _ _ _ _ _ _ _ _
   | exact impl_isIntact.mono _ _ _ _ _
   | exact impl_zeroSlot.mono _
   | exact LeO.none _
   | refine LeO.ite ?_ ?_
   | refine LeO.bind ?_ (fun _ => ?_)
  ·
   intro y0 y1 y2 y3 y4 y5 y6 y7 y8 y9 y10 y11
   unfold impl_GoodRing.j2
   repeat' first
   | (with_reducible exact ih0 _ _ _ _ _ _)
   | (with_reducible exact ih1 _ _ _ _ _ _ _)
   | (with_reducible exact ih2 _ _ _ _ _ _ _ _ _ _ _ _)
   | (with_reducible exact impl_isIntact.mono _ _ _ _ _)
   | (with_reducible exact impl_zeroSlot.mono _)
   | (with_reducible exact LeO.refl _)
   | (with_reducible exact LeO.none _)
   | (with_reducible refine LeO.ite ?_ ?_)
   | (with_reducible refine LeO.bind ?_ (fun _ => ?_))
   | exact ih0 _ _ _ _ _ _
   | exact ih1 _ _ _ _ _ _ _
   | exact ih2 _ _ _ _ _ _ _ _ _ _ _ _
   | exact impl_isIntact.mono _ _ _ _ _
   | exact impl_zeroSlot.mono _
   | exact LeO.none _
   | refine LeO.ite ?_ ?_
   | refine LeO.bind ?_ (fun _ => ?_)
theorem impl_GoodRing.mono : ∀ a0 a1 a2 a3 k, LeO (impl_GoodRing.f k a0 a1 a2 a3) (impl_GoodRing.f (k + 1) a0 a1 a2 a3) := by
 intro a0 a1 a2 a3 k
 obtain ⟨ih0, ih1, ih2⟩ := impl_GoodRing.mono_l k
 unfold impl_GoodRing.f
 repeat' first
   | (with_reducible exact ih0 _ _ _ _ _ _)
   | (with_reducible exact ih1 _ _ _ _ _ _ _)
   | (with_reducible exact ih2 _ _ _ _ _ _ _ _ _ _ _ _)
   | (with_reducible exact impl_isIntact.mono _ _ _ _ _)
   | (with_reducible exact impl_zeroSlot.mono _)
   | (with_reducible exact LeO.refl _)
   | (with_reducible exact LeO.none _)
   | (with_reducible refine LeO.ite ?_ ?_)
   | (with_reducible refine LeO.bind ?_ (fun _ => ?_))
   | exact ih0 _ _ _ _ _ _
   | exact ih1 _ _ _ _ _ _ _
   | exact ih2 _ _ _ _ _ _ _ _ _ _ _ _
   | exact impl_isIntact.mono _ _ _ _ _
   | exact impl_zeroSlot.mono _
   | exact LeO.none _
   | refine LeO.ite ?_ ?_
   | refine LeO.bind ?_ (fun _ => ?_)
def impl_GoodRing.T2 : Bool × List (List Nat × List Nat) := (true, [([], []), ([0], [0]), ([1], [1]), ([2, 1], [2]), ([3], [3]), ([4, 3], [3, 4]), ([5, 3, 3], [3, 5]), ([6, 3], [3, 6]), ([3, 7], [3, 7]), ([8, 6], [8]), ([9], [9]), ([10, 9], [9, 10]), ([9], [9]), ([12, 9], [9, 12]), ([9], [9]), ([13, 14, 9], [9, 13, 14]), ([15, 9], [9, 15]), ([9], [9]), ([17, 9], [9, 17]), ([11, 16, 18, 9, 9], [9, 11, 16, 18]), ([19, 9], [9, 19]), ([9, 20], [9, 20]), ([21, 19], [21]), ([22], [22]), ([23, 22], [22, 23]), ([22], [22]), ([25, 22], [22, 25]), ([22], [22]), ([26, 27, 22], [22, 26, 27]), ([28, 22], [22, 28]), ([24, 29, 22], [22, 24, 29]), ([22, 30], [22, 30])])
def impl_GoodRing.B2 : List Nat := [0, 1, 3, 7, 15, 31, 63, 127, 255, 511, 1023, 2047, 1023, 5119, 1023, 29695, 62463, 1023, 132095, 524287, 1048575, 2097151, 4194303, 8388607, 16777215, 8388607, 41943039, 8388607, 243269631, 511705087, 1073741823, 2147483647]
theorem impl_GoodRing.tab2 : rtab .any (opsOf Tryd.f20 2) = impl_GoodRing.T2 := by kernel_rfl
theorem impl_GoodRing.bits2 : waitsOk impl_GoodRing.T2.2 impl_GoodRing.B2 = true := by kernel_rfl
def impl_GoodRing.T9 : Bool × List (List Nat × List Nat) := (true, [([], []), ([0], [0]), ([], []), ([], []), ([2, 3], [2, 3]), ([1, 4], [1, 4]), ([5], [5]), ([], []), ([6, 7], [6, 7])])
def impl_GoodRing.B9 : List Nat := [0, 1, 0, 0, 12, 31, 63, 0, 255]
theorem impl_GoodRing.tab9 : rtab .any (opsOf Tryd.f20 9) = impl_GoodRing.T9 := by kernel_rfl
theorem impl_GoodRing.bits9 : waitsOk impl_GoodRing.T9.2 impl_GoodRing.B9 = true := by kernel_rfl
def impl_GoodRing.T11 : Bool × List (List Nat × List Nat) := (true, [([], []), ([0], [0]), ([], []), ([], []), ([2, 3], [2, 3]), ([1, 4], [1, 4]), ([5], [5]), ([], []), ([7, 6, 0, 1, 2, 3, 4, 5, 6, 7], [6, 7])])
def impl_GoodRing.B11 : List Nat := [0, 1, 0, 0, 12, 31, 63, 0, 255]
theorem impl_GoodRing.tab11 : rtab .any (opsOf Tryd.f20 11) = impl_GoodRing.T11 := by kernel_rfl
theorem impl_GoodRing.bits11 : waitsOk impl_GoodRing.T11.2 impl_GoodRing.B11 = true := by kernel_rfl
def impl_GoodRing.T12 : Bool × List (List Nat × List Nat) := (true, [([], []), ([], []), ([1], [1]), ([0, 2], [0, 2]), ([3], [3]), ([4], [4]), ([4, 4], [4]), ([5, 6, 4], [4, 5, 6]), ([4, 7], [4, 7])])
def impl_GoodRing.B12 : List Nat := [0, 0, 2, 7, 15, 31, 31, 127, 255]
theorem impl_GoodRing.tab12 : rtab .any (opsOf Tryd.f20 12) = impl_GoodRing.T12 := by kernel_rfl
theorem impl_GoodRing.bits12 : waitsOk impl_GoodRing.T12.2 impl_GoodRing.B12 = true := by kernel_rfl
def impl_GoodRing.T13 : Bool × List (List Nat × List Nat) := (true, [([], []), ([0], [0]), ([1], [1]), ([2, 1], [2]), ([3], [3]), ([4, 3], [3, 4]), ([3], [3]), ([3], [3]), ([6, 7, 3], [3, 6, 7]), ([8, 3], [3, 8]), ([5, 9, 3], [3, 5, 9]), ([3, 10], [3, 10]), ([11, 3], [11]), ([12], [12]), ([13, 12], [12, 13]), ([12], [12]), ([14, 15, 12], [12, 14, 15]), ([12, 16], [12, 16]), ([17, 12], [17]), ([18], [18]), ([19, 18], [18, 19]), ([18], [18]), ([21, 18], [18, 21]), ([20, 22, 18], [18, 20, 22]), ([18, 23], [18, 23]), ([24, 18], [24]), ([25], [25]), ([26, 25], [25, 26]), ([25], [25]), ([27, 28, 25], [25, 27, 28]), ([25, 29], [25, 29])])
def impl_GoodRing.B13 : List Nat := [0, 1, 3, 7, 15, 31, 15, 15, 207, 463, 1023, 2047, 4095, 8191, 16383, 8191, 65535, 131071, 262143, 524287, 1048575, 524287, 2621439, 8388607, 16777215, 33554431, 67108863, 134217727, 67108863, 536870911, 1073741823]
theorem impl_GoodRing.tab13 : rtab .any (opsOf Tryd.f20 13) = impl_GoodRing.T13 := by kernel_rfl
theorem impl_GoodRing.bits13 : waitsOk impl_GoodRing.T13.2 impl_GoodRing.B13 = true := by kernel_rfl
set_option maxHeartbeats 8000000 in
set_option maxRecDepth 100000 in
theorem impl_GoodRing.calls (k : Nat) (A0_0 : Option Addr) (c0_0 : Nat) (l0_0 : List (S26)) (a0_1 : Int) (a0_2 : Int) (a0_3 : Int) (r : Bool) (w : World) (hTab_ : Aside0 (Ito.TabW w)) (hr0_0 : Kd.C k26 w A0_0 l0_0.length l0_0) (hc0_0 : l0_0.length ≤ c0_0) (h : impl_GoodRing.f k l0_0 a0_1 a0_2 a0_3 = some r) :
  Calls Tryd.prog 20 #[.agg #[.slice A0_0 l0_0.length c0_0, .int .i64 a0_1, .int .i64 a0_2, .int .i64 a0_3]] w fun e w' => e = .returned (.bool r) ∧ Below w.heap.size w w' := by
 have hu36 := Tryd.underlying36
 have hu26 := Tryd.underlying26
 have HR0_0 := Aside0.mk hr0_0
 have HC0_0 := Aside0.mk hc0_0
 clear hr0_0 hc0_0
 have HB := Aside0.mk (Below.refl w.heap.size w)
 have H : ((impl_within.f (l0_0.length : Int) 2 24).bind fun t178 => (if t178 = true then ((impl_within.f a0_1 0 10000000).bind fun t179 => (if t179 = true then ((impl_within.f a0_3 (mx 0 (wrap64 (a0_1 - (l0_0.length : Int)))) a0_1).bind fun t180 => (if t180 = true then (if (l0_0.length : Int) = 0 then (none) else (impl_GoodRing.j0 k (l0_0.length : Int) (a0_2 != (wrap64 ((wrap64 (Int.tdiv a0_1 (l0_0.length : Int))) + 1))) l0_0 a0_1 a0_2 a0_3)) else (impl_GoodRing.j0 k (l0_0.length : Int) true l0_0 a0_1 a0_2 a0_3))) else (impl_GoodRing.j0 k (l0_0.length : Int) true l0_0 a0_1 a0_2 a0_3))) else (impl_GoodRing.j0 k (l0_0.length : Int) true l0_0 a0_1 a0_2 a0_3))) = some r := h
 clear h
 have HC2 := Aside0.mk H
 clear H
 go_enter Tryd.func20, Tryd.ntmps20
 go_upto_region 2 with (first | ((with_reducible refine gate_dst (N := 1) rfl ?_); (try (refine gate_guard (by rfl) ?_; dsimp only)); refine box_event ?hg (N := 1) ?hd (cs := #[.slice A0_0 l0_0.length c0_0, .int .i64 a0_1, .int .i64 a0_2, .int .i64 a0_3]) (t := 36) ?hr ?_; (case hd => rfl); (case hg => rfl); (case hr => first | (go_simp; done) | (go_simp; rfl)); intro gb177 hg w3 hbox hb; have BK177 := Aside0.mk (hbox); have GW177 := Aside0.mk ((by rw [hg]; exact (below_size (bs HB)) : w.heap.size ≤ gb177)); have GE177 := Aside0.mk ((by rw [hg]; exact (below_size (bs HB)) : w.heap.size ≤ gb177)); replace HB := Aside0.mk (below_step (bs HB) hb); clear hb hbox hg; obtain ⟨hcz4_0, hcz4_1, hcz4_2, hcz4_3⟩ := cz4 BK177; obtain ⟨hfz4_0, hfz4_1, hfz4_2, hfz4_3⟩ := fz4 BK177))
 (try simp only [Act.put, List.setIfInBounds_toArray, List.set_cons_zero, List.set_cons_succ])
 go_cut [41] (fun v41 wc => ∃ (kq : Nat) (x41_1 : Bool), v41 = .bool x41_1 ∧ Aside0 (impl_GoodRing.j0 kq (l0_0.length : Int) x41_1 l0_0 a0_1 a0_2 a0_3 = some r) ∧ Aside0 (kq ≤ k) ∧ Aside0 (wc.heap[gb177]? = some (.cells #[(.slice A0_0 l0_0.length c0_0), .int .i64 a0_1, .int .i64 a0_2, .int .i64 a0_3] 36 (0, 0))) ∧ Aside0 (Below w.heap.size w wc))
 case first =>
  have H := HC2.out
  clear HC2
  replace H := Option.bind_eq_some_iff.mp H
  obtain ⟨t178, A50, H⟩ := H
  replace H : (if t178 = true then ((impl_within.f a0_1 0 10000000).bind fun t179 => (if t179 = true then ((impl_within.f a0_3 (mx 0 (wrap64 (a0_1 - (l0_0.length : Int)))) a0_1).bind fun t180 => (if t180 = true then (if (l0_0.length : Int) = 0 then (none) else (impl_GoodRing.j0 k (l0_0.length : Int) (a0_2 != (wrap64 ((wrap64 (Int.tdiv a0_1 (l0_0.length : Int))) + 1))) l0_0 a0_1 a0_2 a0_3)) else (impl_GoodRing.j0 k (l0_0.length : Int) true l0_0 a0_1 a0_2 a0_3))) else (impl_GoodRing.j0 k (l0_0.length : Int) true l0_0 a0_1 a0_2 a0_3))) else (impl_GoodRing.j0 k (l0_0.length : Int) true l0_0 a0_1 a0_2 a0_3)) = some r := H
  have A5 := Aside0.mk A50
  clear A50
  by_cases c6 : t178 = true
  ·
   subst c6
   rw [if_pos rfl] at H
   replace H := Option.bind_eq_some_iff.mp H
   obtain ⟨t179, A70, H⟩ := H
   replace H : (if t179 = true then ((impl_within.f a0_3 (mx 0 (wrap64 (a0_1 - (l0_0.length : Int)))) a0_1).bind fun t180 => (if t180 = true then (if (l0_0.length : Int) = 0 then (none) else (impl_GoodRing.j0 k (l0_0.length : Int) (a0_2 != (wrap64 ((wrap64 (Int.tdiv a0_1 (l0_0.length : Int))) + 1))) l0_0 a0_1 a0_2 a0_3)) else (impl_GoodRing.j0 k (l0_0.length : Int) true l0_0 a0_1 a0_2 a0_3))) else (impl_GoodRing.j0 k (l0_0.length : Int) true l0_0 a0_1 a0_2 a0_3)) = some r := H
   have A7 := Aside0.mk A70
   clear A70
   by_cases c8 : t179 = true
   ·
    subst c8
    rw [if_pos rfl] at H
    obtain ⟨ji9, hji9⟩ : ∃ j_ : Int, (mx 0 (wrap64 (a0_1 - (l0_0.length : Int)))) = j_ := ⟨_, rfl⟩
    replace H : ((impl_within.f a0_3 (ji9) a0_1).bind fun t180 => (if t180 = true then (if (l0_0.length : Int) = 0 then (none) else (impl_GoodRing.j0 k (l0_0.length : Int) (a0_2 != (wrap64 ((wrap64 (Int.tdiv a0_1 (l0_0.length : Int))) + 1))) l0_0 a0_1 a0_2 a0_3)) else (impl_GoodRing.j0 k (l0_0.length : Int) true l0_0 a0_1 a0_2 a0_3))) = some r := by first | (rw [hji9] at H; exact H) | (simp only [hji9] at H ⊢; exact H)
    (try rw [hji9] at A5)
    (try rw [hji9] at A7)
    (try (have hji9l : 0 ≤ ji9 := by (rw [← hji9]; unfold mx; (repeat' split) <;> omega)))
    (try (have hji9m : 0 ≤ ji9 := by omega))
    have hji9_ : (if 0 < (wrap64 (a0_1 - (l0_0.length : Int))) then (wrap64 (a0_1 - (l0_0.length : Int))) else 0) = ji9 := hji9
    replace H := Option.bind_eq_some_iff.mp H
    obtain ⟨t180, A100, H⟩ := H
    replace H : (if t180 = true then (if (l0_0.length : Int) = 0 then (none) else (impl_GoodRing.j0 k (l0_0.length : Int) (a0_2 != (wrap64 ((wrap64 (Int.tdiv a0_1 (l0_0.length : Int))) + 1))) l0_0 a0_1 a0_2 a0_3)) else (impl_GoodRing.j0 k (l0_0.length : Int) true l0_0 a0_1 a0_2 a0_3)) = some r := H
    have A10 := Aside0.mk A100
    clear A100
    by_cases c11 : t180 = true
    ·
     subst c11
     rw [if_pos rfl] at H
     by_cases c12 : (l0_0.length : Int) = 0
     ·
      rw [if_pos c12] at H
      exact absurd H (by simp)
     ·
      rw [if_neg c12] at H
      have c12b0 : ((l0_0.length : Int) == 0) = false := beq_eq_false_iff_ne.mpr c12
      have c12b1 : ((l0_0.length : Int) != 0) = true := bne_iff_ne.mpr c12
      have c12b2 : ¬ (l0_0 = []) := fun h_ => c12 (by rw [h_]; rfl)
      (first | rw [c12b0] | (simp only [i64_w, i32_w]; rw [c12b0]) | (simp only [c12b2, Bool.not_false, Bool.not_true]) | skip)
      have H' := Aside0.mk H
      clear H
      try go_wp2
      have n0_ := Aside0.mk (blk_drew BK177.out)
      have n1_ := Aside0.mk (below_drew1 HB.out)
      clear BK177
      clear HB
      have BK177 := n0_
      have HB := n1_
      clear n0_ n1_
      refine start_ (n := 32) (S := fun w' => w'.cell? ⟨gb177, 0, none⟩ = some (.slice A0_0 l0_0.length c0_0) ∧ w'.cell? ⟨gb177, 1, none⟩ = some (.int .i64 a0_1) ∧ w'.cell? ⟨gb177, 2, none⟩ = some (.int .i64 a0_2) ∧ w'.cell? ⟨gb177, 3, none⟩ = some (.int .i64 a0_3)) (ds := []) #[false, false, false, false, false, false, false, false, false, false, false, false, false, false, false, false, false, false, false, false, false, false, false, false, false, false, false, false, false, false, false, false] (by kernel_rfl) rfl rfl ⟨(blk_cell BK177.out 0).trans rfl, (blk_cell BK177.out 1).trans rfl, (blk_cell BK177.out 2).trans rfl, (blk_cell BK177.out 3).trans rfl⟩ (fun hHeld => ?_); refine with_tabW impl_GoodRing.tab2 impl_GoodRing.bits2 (fun HT_ HW_ => ?_)
      generalize w3.drew = w13 at BK177 HB hHeld ⊢
      refine pureS 0 10 HT_.out ?_
      refine one_ (i := 1) (N := some 11) #[true, true, false, false, false, false, false, false, false, false, false, false, false, false, false, false, false, false, false, false, false, false, false, false, false, false, false, false, false, false, false, false] rfl rfl (one_of HT_.out (by kernel_rfl)) (by decide) (fun K hK => ?_)
      refine goes_ Tryd.func58 (by kernel_rfl) rfl #[.int .i64 (l0_0.length : Int), .int .i64 2, .int .i64 24] (by rfl) rfl rfl (by (try simp only [List.map_toArray, List.map_cons, List.map_nil]); first | done | rfl | (simp only [List.length_drop, List.length_take]; rfl)) ?_
      with_reducible refine (impl_within.calls (l0_0.length : Int) 2 24 true _ A5.out).mono ?_
      rintro e w' ⟨rfl, ⟨nd, rfl⟩⟩
      refine ⟨_, rfl, ?_⟩
      refine hK.out _ _ ⟨(blk_cell BK177.out 0).trans rfl, (blk_cell BK177.out 1).trans rfl, (blk_cell BK177.out 2).trans rfl, (blk_cell BK177.out 3).trans rfl⟩ (fun hHeld => ?_)
      clear hK K
      refine norm_ (a' := ?_) ?_ ?_
      rotate_left
      ·
       show Act.put _ (some 11) _ = _
       simp only [Act.put, List.setIfInBounds_toArray, List.set_cons_zero, List.set_cons_succ, i64_w, i32_w]
       rfl
      refine pureS 2 12 HT_.out ?_
      refine pureS 3 13 HT_.out ?_
      refine pureS 4 14 HT_.out ?_
      refine takeS 5 15 HT_.out HW_.out hHeld (hr := by rintro w' ⟨s0, s1, s2, s3⟩; go_simp; with_reducible rfl) (h := ?_)
      refine one_ (i := 6) (N := some 16) #[true, true, true, true, true, true, true, false, false, false, false, false, false, false, false, false, false, false, false, false, false, false, false, false, false, false, false, false, false, false, false, false] rfl rfl (one_of HT_.out (by kernel_rfl)) (by decide) (fun K hK => ?_)
      refine goes_ Tryd.func58 (by kernel_rfl) rfl #[.int .i64 a0_1, .int .i64 0, .int .i64 10000000] (by rfl) rfl rfl (by (try simp only [List.map_toArray, List.map_cons, List.map_nil]); first | done | rfl | (simp only [List.length_drop, List.length_take]; rfl)) ?_
      with_reducible refine (impl_within.calls a0_1 0 10000000 true _ A7.out).mono ?_
      rintro e w' ⟨rfl, ⟨nd, rfl⟩⟩
      refine ⟨_, rfl, ?_⟩
      refine hK.out _ _ ⟨(blk_cell BK177.out 0).trans rfl, (blk_cell BK177.out 1).trans rfl, (blk_cell BK177.out 2).trans rfl, (blk_cell BK177.out 3).trans rfl⟩ (fun hHeld => ?_)
      clear hK K
      refine norm_ (a' := ?_) ?_ ?_
      rotate_left
      ·
       show Act.put _ (some 16) _ = _
       simp only [Act.put, List.setIfInBounds_toArray, List.set_cons_zero, List.set_cons_succ, i64_w, i32_w]
       rfl
      refine pureS 7 17 HT_.out ?_
      refine pureS 8 18 HT_.out ?_
      refine pureS 9 19 HT_.out ?_
      refine pureS 10 20 HT_.out ?_
      refine pureS 12 22 HT_.out ?_
      refine pureS 14 24 HT_.out ?_
      refine pureS 17 27 HT_.out ?_
      refine takeS 11 21 HT_.out HW_.out hHeld (hr := by rintro w' ⟨s0, s1, s2, s3⟩; go_simp; with_reducible rfl) (h := ?_)
      refine takeS 13 23 HT_.out HW_.out hHeld (hr := by rintro w' ⟨s0, s1, s2, s3⟩; go_simp; with_reducible rfl) (h := ?_)
      refine pureS 15 25 HT_.out ?_
      refine pureS 16 26 HT_.out ?_
      refine takeS 18 28 HT_.out HW_.out hHeld (hr := by rintro w' ⟨s0, s1, s2, s3⟩; go_simp; with_reducible rfl) (h := ?_)
      refine one_ (i := 19) (N := some 29) #[true, true, true, true, true, true, true, true, true, true, true, true, true, true, true, true, true, true, true, true, false, false, false, false, false, false, false, false, false, false, false, false] rfl rfl (one_of HT_.out (by kernel_rfl)) (by decide) (fun K hK => ?_)
      refine goes_ Tryd.func58 (by kernel_rfl) rfl #[.int .i64 a0_3, .int .i64 ji9, .int .i64 a0_1] (by rfl) rfl rfl (by (try simp only [List.map_toArray, List.map_cons, List.map_nil]); first | done | (simp only [hji9]; rfl) | rfl | (simp only [List.length_drop, List.length_take]; rfl)) ?_
      with_reducible refine (impl_within.calls a0_3 ji9 a0_1 true _ A10.out).mono ?_
      rintro e w' ⟨rfl, ⟨nd, rfl⟩⟩
      refine ⟨_, rfl, ?_⟩
      refine hK.out _ _ ⟨(blk_cell BK177.out 0).trans rfl, (blk_cell BK177.out 1).trans rfl, (blk_cell BK177.out 2).trans rfl, (blk_cell BK177.out 3).trans rfl⟩ (fun hHeld => ?_)
      clear hK K
      refine norm_ (a' := ?_) ?_ ?_
      rotate_left
      ·
       show Act.put _ (some 29) _ = _
       simp only [Act.put, List.setIfInBounds_toArray, List.set_cons_zero, List.set_cons_succ, i64_w, i32_w]
       rfl
      refine pureS 20 30 HT_.out ?_
      refine pureS 21 31 HT_.out ?_
      refine pureS 22 32 HT_.out ?_
      refine pureS 23 33 HT_.out ?_
      refine pureS 25 35 HT_.out ?_
      refine pureS 27 37 HT_.out ?_
      refine takeS 24 34 HT_.out HW_.out hHeld (hr := by rintro w' ⟨s0, s1, s2, s3⟩; go_simp; with_reducible rfl) (h := ?_)
      refine takeS 26 36 HT_.out HW_.out hHeld (hr := by rintro w' ⟨s0, s1, s2, s3⟩; go_simp; with_reducible rfl) (h := ?_)
      refine pureS 28 38 HT_.out ?_
      refine pureS 29 39 HT_.out ?_
      refine pureS 30 40 HT_.out ?_
      refine pureS 31 41 HT_.out ?_
      refine done_ (done_of HT_.out (by kernel_rfl)) ?_
      try go_wp2
      go_meet
      case rel => exact ⟨_, ((a0_2 != (wrap64 ((wrap64 (Int.tdiv a0_1 (l0_0.length : Int))) + 1)))), (by first | rfl | (simp; done) | (simp [*]; done)), H', ⟨by first | omega | exact Nat.le_refl _⟩, ⟨bk BK177⟩, ⟨bs1 HB GE177⟩⟩
    ·
     replace c11 := Bool.eq_false_iff.mpr c11
     subst c11
     rw [if_neg (show ¬ (false = true) by decide)] at H
     have H' := Aside0.mk H
     clear H
     try go_wp2
     have n0_ := Aside0.mk (blk_drew BK177.out)
     have n1_ := Aside0.mk (below_drew1 HB.out)
     clear BK177
     clear HB
     have BK177 := n0_
     have HB := n1_
     clear n0_ n1_
     refine start_ (n := 32) (S := fun w' => w'.cell? ⟨gb177, 0, none⟩ = some (.slice A0_0 l0_0.length c0_0) ∧ w'.cell? ⟨gb177, 1, none⟩ = some (.int .i64 a0_1) ∧ w'.cell? ⟨gb177, 2, none⟩ = some (.int .i64 a0_2) ∧ w'.cell? ⟨gb177, 3, none⟩ = some (.int .i64 a0_3)) (ds := []) #[false, false, false, false, false, false, false, false, false, false, false, false, false, false, false, false, false, false, false, false, false, false, false, false, false, false, false, false, false, false, false, false] (by kernel_rfl) rfl rfl ⟨(blk_cell BK177.out 0).trans rfl, (blk_cell BK177.out 1).trans rfl, (blk_cell BK177.out 2).trans rfl, (blk_cell BK177.out 3).trans rfl⟩ (fun hHeld => ?_); refine with_tabW impl_GoodRing.tab2 impl_GoodRing.bits2 (fun HT_ HW_ => ?_)
     generalize w3.drew = w14 at BK177 HB hHeld ⊢
     refine pureS 0 10 HT_.out ?_
     refine one_ (i := 1) (N := some 11) #[true, true, false, false, false, false, false, false, false, false, false, false, false, false, false, false, false, false, false, false, false, false, false, false, false, false, false, false, false, false, false, false] rfl rfl (one_of HT_.out (by kernel_rfl)) (by decide) (fun K hK => ?_)
     refine goes_ Tryd.func58 (by kernel_rfl) rfl #[.int .i64 (l0_0.length : Int), .int .i64 2, .int .i64 24] (by rfl) rfl rfl (by (try simp only [List.map_toArray, List.map_cons, List.map_nil]); first | done | rfl | (simp only [List.length_drop, List.length_take]; rfl)) ?_
     with_reducible refine (impl_within.calls (l0_0.length : Int) 2 24 true _ A5.out).mono ?_
     rintro e w' ⟨rfl, ⟨nd, rfl⟩⟩
     refine ⟨_, rfl, ?_⟩
     refine hK.out _ _ ⟨(blk_cell BK177.out 0).trans rfl, (blk_cell BK177.out 1).trans rfl, (blk_cell BK177.out 2).trans rfl, (blk_cell BK177.out 3).trans rfl⟩ (fun hHeld => ?_)
     clear hK K
     refine norm_ (a' := ?_) ?_ ?_
     rotate_left
     ·
      show Act.put _ (some 11) _ = _
      simp only [Act.put, List.setIfInBounds_toArray, List.set_cons_zero, List.set_cons_succ, i64_w, i32_w]
      rfl
     refine pureS 2 12 HT_.out ?_
     refine pureS 3 13 HT_.out ?_
     refine pureS 4 14 HT_.out ?_
     refine takeS 5 15 HT_.out HW_.out hHeld (hr := by rintro w' ⟨s0, s1, s2, s3⟩; go_simp; with_reducible rfl) (h := ?_)
     refine one_ (i := 6) (N := some 16) #[true, true, true, true, true, true, true, false, false, false, false, false, false, false, false, false, false, false, false, false, false, false, false, false, false, false, false, false, false, false, false, false] rfl rfl (one_of HT_.out (by kernel_rfl)) (by decide) (fun K hK => ?_)
     refine goes_ Tryd.func58 (by kernel_rfl) rfl #[.int .i64 a0_1, .int .i64 0, .int .i64 10000000] (by rfl) rfl rfl (by (try simp only [List.map_toArray, List.map_cons, List.map_nil]); first | done | rfl | (simp only [List.length_drop, List.length_take]; rfl)) ?_
     with_reducible refine (impl_within.calls a0_1 0 10000000 true _ A7.out).mono ?_
     rintro e w' ⟨rfl, ⟨nd, rfl⟩⟩
     refine ⟨_, rfl, ?_⟩
     refine hK.out _ _ ⟨(blk_cell BK177.out 0).trans rfl, (blk_cell BK177.out 1).trans rfl, (blk_cell BK177.out 2).trans rfl, (blk_cell BK177.out 3).trans rfl⟩ (fun hHeld => ?_)
     clear hK K
     refine norm_ (a' := ?_) ?_ ?_
     rotate_left
     ·
      show Act.put _ (some 16) _ = _
      simp only [Act.put, List.setIfInBounds_toArray, List.set_cons_zero, List.set_cons_succ, i64_w, i32_w]
      rfl
     refine pureS 7 17 HT_.out ?_
     refine pureS 8 18 HT_.out ?_
     refine pureS 9 19 HT_.out ?_
     refine pureS 10 20 HT_.out ?_
     refine pureS 12 22 HT_.out ?_
     refine pureS 14 24 HT_.out ?_
     refine pureS 17 27 HT_.out ?_
     refine takeS 11 21 HT_.out HW_.out hHeld (hr := by rintro w' ⟨s0, s1, s2, s3⟩; go_simp; with_reducible rfl) (h := ?_)
     refine takeS 13 23 HT_.out HW_.out hHeld (hr := by rintro w' ⟨s0, s1, s2, s3⟩; go_simp; with_reducible rfl) (h := ?_)
     refine pureS 15 25 HT_.out ?_
     refine pureS 16 26 HT_.out ?_
     refine takeS 18 28 HT_.out HW_.out hHeld (hr := by rintro w' ⟨s0, s1, s2, s3⟩; go_simp; with_reducible rfl) (h := ?_)
     refine one_ (i := 19) (N := some 29) #[true, true, true, true, true, true, true, true, true, true, true, true, true, true, true, true, true, true, true, true, false, false, false, false, false, false, false, false, false, false, false, false] rfl rfl (one_of HT_.out (by kernel_rfl)) (by decide) (fun K hK => ?_)
     refine goes_ Tryd.func58 (by kernel_rfl) rfl #[.int .i64 a0_3, .int .i64 ji9, .int .i64 a0_1] (by rfl) rfl rfl (by (try simp only [List.map_toArray, List.map_cons, List.map_nil]); first | done | (simp only [hji9]; rfl) | rfl | (simp only [List.length_drop, List.length_take]; rfl)) ?_
     with_reducible refine (impl_within.calls a0_3 ji9 a0_1 false _ A10.out).mono ?_
     rintro e w' ⟨rfl, ⟨nd, rfl⟩⟩
     refine ⟨_, rfl, ?_⟩
     refine hK.out _ _ ⟨(blk_cell BK177.out 0).trans rfl, (blk_cell BK177.out 1).trans rfl, (blk_cell BK177.out 2).trans rfl, (blk_cell BK177.out 3).trans rfl⟩ (fun hHeld => ?_)
     clear hK K
     refine norm_ (a' := ?_) ?_ ?_
     rotate_left
     ·
      show Act.put _ (some 29) _ = _
      simp only [Act.put, List.setIfInBounds_toArray, List.set_cons_zero, List.set_cons_succ, i64_w, i32_w]
      rfl
     refine pureS 20 30 HT_.out ?_
     refine pureS 21 31 HT_.out ?_
     refine pureS 22 32 HT_.out ?_
     refine pureU 23 33 HT_.out ?_
     refine pureU 24 34 HT_.out ?_
     refine pureU 25 35 HT_.out ?_
     refine pureU 26 36 HT_.out ?_
     refine pureU 27 37 HT_.out ?_
     refine pureU 28 38 HT_.out ?_
     refine pureU 29 39 HT_.out ?_
     refine pureU 30 40 HT_.out ?_
     refine pureS 31 41 HT_.out ?_
     refine done_ (done_of HT_.out (by kernel_rfl)) ?_
     try go_wp2
     go_meet
     case rel => exact ⟨_, (true), (by first | rfl | (simp; done) | (simp [*]; done)), H', ⟨by first | omega | exact Nat.le_refl _⟩, ⟨bk BK177⟩, ⟨bs1 HB GE177⟩⟩
   ·
    replace c8 := Bool.eq_false_iff.mpr c8
    subst c8
    rw [if_neg (show ¬ (false = true) by decide)] at H
    have H' := Aside0.mk H
    clear H
    try go_wp2
    have n0_ := Aside0.mk (blk_drew BK177.out)
    have n1_ := Aside0.mk (below_drew1 HB.out)
    clear BK177
    clear HB
    have BK177 := n0_
    have HB := n1_
    clear n0_ n1_
    refine start_ (n := 32) (S := fun w' => w'.cell? ⟨gb177, 0, none⟩ = some (.slice A0_0 l0_0.length c0_0) ∧ w'.cell? ⟨gb177, 1, none⟩ = some (.int .i64 a0_1) ∧ w'.cell? ⟨gb177, 2, none⟩ = some (.int .i64 a0_2) ∧ w'.cell? ⟨gb177, 3, none⟩ = some (.int .i64 a0_3)) (ds := []) #[false, false, false, false, false, false, false, false, false, false, false, false, false, false, false, false, false, false, false, false, false, false, false, false, false, false, false, false, false, false, false, false] (by kernel_rfl) rfl rfl ⟨(blk_cell BK177.out 0).trans rfl, (blk_cell BK177.out 1).trans rfl, (blk_cell BK177.out 2).trans rfl, (blk_cell BK177.out 3).trans rfl⟩ (fun hHeld => ?_); refine with_tabW impl_GoodRing.tab2 impl_GoodRing.bits2 (fun HT_ HW_ => ?_)
    generalize w3.drew = w15 at BK177 HB hHeld ⊢
    refine pureS 0 10 HT_.out ?_
    refine one_ (i := 1) (N := some 11) #[true, true, false, false, false, false, false, false, false, false, false, false, false, false, false, false, false, false, false, false, false, false, false, false, false, false, false, false, false, false, false, false] rfl rfl (one_of HT_.out (by kernel_rfl)) (by decide) (fun K hK => ?_)
    refine goes_ Tryd.func58 (by kernel_rfl) rfl #[.int .i64 (l0_0.length : Int), .int .i64 2, .int .i64 24] (by rfl) rfl rfl (by (try simp only [List.map_toArray, List.map_cons, List.map_nil]); first | done | rfl | (simp only [List.length_drop, List.length_take]; rfl)) ?_
    with_reducible refine (impl_within.calls (l0_0.length : Int) 2 24 true _ A5.out).mono ?_
    rintro e w' ⟨rfl, ⟨nd, rfl⟩⟩
    refine ⟨_, rfl, ?_⟩
    refine hK.out _ _ ⟨(blk_cell BK177.out 0).trans rfl, (blk_cell BK177.out 1).trans rfl, (blk_cell BK177.out 2).trans rfl, (blk_cell BK177.out 3).trans rfl⟩ (fun hHeld => ?_)
    clear hK K
    refine norm_ (a' := ?_) ?_ ?_
    rotate_left
    ·
     show Act.put _ (some 11) _ = _
     simp only [Act.put, List.setIfInBounds_toArray, List.set_cons_zero, List.set_cons_succ, i64_w, i32_w]
     rfl
    refine pureS 2 12 HT_.out ?_
    refine pureS 3 13 HT_.out ?_
    refine pureS 4 14 HT_.out ?_
    refine takeS 5 15 HT_.out HW_.out hHeld (hr := by rintro w' ⟨s0, s1, s2, s3⟩; go_simp; with_reducible rfl) (h := ?_)
    refine one_ (i := 6) (N := some 16) #[true, true, true, true, true, true, true, false, false, false, false, false, false, false, false, false, false, false, false, false, false, false, false, false, false, false, false, false, false, false, false, false] rfl rfl (one_of HT_.out (by kernel_rfl)) (by decide) (fun K hK => ?_)
    refine goes_ Tryd.func58 (by kernel_rfl) rfl #[.int .i64 a0_1, .int .i64 0, .int .i64 10000000] (by rfl) rfl rfl (by (try simp only [List.map_toArray, List.map_cons, List.map_nil]); first | done | rfl | (simp only [List.length_drop, List.length_take]; rfl)) ?_
    with_reducible refine (impl_within.calls a0_1 0 10000000 false _ A7.out).mono ?_
    rintro e w' ⟨rfl, ⟨nd, rfl⟩⟩
    refine ⟨_, rfl, ?_⟩
    refine hK.out _ _ ⟨(blk_cell BK177.out 0).trans rfl, (blk_cell BK177.out 1).trans rfl, (blk_cell BK177.out 2).trans rfl, (blk_cell BK177.out 3).trans rfl⟩ (fun hHeld => ?_)
    clear hK K
    refine norm_ (a' := ?_) ?_ ?_
    rotate_left
    ·
     show Act.put _ (some 16) _ = _
     simp only [Act.put, List.setIfInBounds_toArray, List.set_cons_zero, List.set_cons_succ, i64_w, i32_w]
     rfl
    refine pureS 7 17 HT_.out ?_
    refine pureS 8 18 HT_.out ?_
    refine pureS 9 19 HT_.out ?_
    refine pureU 10 20 HT_.out ?_
    refine pureU 11 21 HT_.out ?_
    refine pureU 12 22 HT_.out ?_
    refine pureU 13 23 HT_.out ?_
    refine pureU 14 24 HT_.out ?_
    refine pureU 15 25 HT_.out ?_
    refine pureU 16 26 HT_.out ?_
    refine pureU 17 27 HT_.out ?_
    refine pureU 18 28 HT_.out ?_
    refine pureU 19 29 HT_.out ?_
    refine pureU 20 30 HT_.out ?_
    refine pureS 21 31 HT_.out ?_
    refine pureS 22 32 HT_.out ?_
    refine pureU 23 33 HT_.out ?_
    refine pureU 24 34 HT_.out ?_
    refine pureU 25 35 HT_.out ?_
    refine pureU 26 36 HT_.out ?_
    refine pureU 27 37 HT_.out ?_
    refine pureU 28 38 HT_.out ?_
    refine pureU 29 39 HT_.out ?_
    refine pureU 30 40 HT_.out ?_
    refine pureS 31 41 HT_.out ?_
    refine done_ (done_of HT_.out (by kernel_rfl)) ?_
    try go_wp2
    go_meet
    case rel => exact ⟨_, (true), (by first | rfl | (simp; done) | (simp [*]; done)), H', ⟨by first | omega | exact Nat.le_refl _⟩, ⟨bk BK177⟩, ⟨bs1 HB GE177⟩⟩
  ·
   replace c6 := Bool.eq_false_iff.mpr c6
   subst c6
   rw [if_neg (show ¬ (false = true) by decide)] at H
   have H' := Aside0.mk H
   clear H
   try go_wp2
   have n0_ := Aside0.mk (blk_drew BK177.out)
   have n1_ := Aside0.mk (below_drew1 HB.out)
   clear BK177
   clear HB
   have BK177 := n0_
   have HB := n1_
   clear n0_ n1_
   refine start_ (n := 32) (S := fun w' => True) (ds := []) #[false, false, false, false, false, false, false, false, false, false, false, false, false, false, false, false, false, false, false, false, false, false, false, false, false, false, false, false, false, false, false, false] (by kernel_rfl) rfl rfl trivial (fun hHeld => ?_); refine with_tabW impl_GoodRing.tab2 impl_GoodRing.bits2 (fun HT_ HW_ => ?_)
   generalize w3.drew = w16 at BK177 HB hHeld ⊢
   refine pureS 0 10 HT_.out ?_
   refine one_ (i := 1) (N := some 11) #[true, true, false, false, false, false, false, false, false, false, false, false, false, false, false, false, false, false, false, false, false, false, false, false, false, false, false, false, false, false, false, false] rfl rfl (one_of HT_.out (by kernel_rfl)) (by decide) (fun K hK => ?_)
   refine goes_ Tryd.func58 (by kernel_rfl) rfl #[.int .i64 (l0_0.length : Int), .int .i64 2, .int .i64 24] (by rfl) rfl rfl (by (try simp only [List.map_toArray, List.map_cons, List.map_nil]); first | done | rfl | (simp only [List.length_drop, List.length_take]; rfl)) ?_
   with_reducible refine (impl_within.calls (l0_0.length : Int) 2 24 false _ A5.out).mono ?_
   rintro e w' ⟨rfl, ⟨nd, rfl⟩⟩
   refine ⟨_, rfl, ?_⟩
   refine hK.out _ _ trivial (fun hHeld => ?_)
   clear hK K
   refine norm_ (a' := ?_) ?_ ?_
   rotate_left
   ·
    show Act.put _ (some 11) _ = _
    simp only [Act.put, List.setIfInBounds_toArray, List.set_cons_zero, List.set_cons_succ, i64_w, i32_w]
    rfl
   refine pureS 2 12 HT_.out ?_
   refine pureS 3 13 HT_.out ?_
   refine pureU 4 14 HT_.out ?_
   refine pureU 5 15 HT_.out ?_
   refine pureU 6 16 HT_.out ?_
   refine pureU 7 17 HT_.out ?_
   refine pureS 8 18 HT_.out ?_
   refine pureS 9 19 HT_.out ?_
   refine pureU 10 20 HT_.out ?_
   refine pureU 11 21 HT_.out ?_
   refine pureU 12 22 HT_.out ?_
   refine pureU 13 23 HT_.out ?_
   refine pureU 14 24 HT_.out ?_
   refine pureU 15 25 HT_.out ?_
   refine pureU 16 26 HT_.out ?_
   refine pureU 17 27 HT_.out ?_
   refine pureU 18 28 HT_.out ?_
   refine pureU 19 29 HT_.out ?_
   refine pureU 20 30 HT_.out ?_
   refine pureS 21 31 HT_.out ?_
   refine pureS 22 32 HT_.out ?_
   refine pureU 23 33 HT_.out ?_
   refine pureU 24 34 HT_.out ?_
   refine pureU 25 35 HT_.out ?_
   refine pureU 26 36 HT_.out ?_
   refine pureU 27 37 HT_.out ?_
   refine pureU 28 38 HT_.out ?_
   refine pureU 29 39 HT_.out ?_
   refine pureU 30 40 HT_.out ?_
   refine pureS 31 41 HT_.out ?_
   refine done_ (done_of HT_.out (by kernel_rfl)) ?_
   try go_wp2
   go_meet
   case rel => exact ⟨_, (true), (by first | rfl | (simp; done) | (simp [*]; done)), H', ⟨by first | omega | exact Nat.le_refl _⟩, ⟨bk BK177⟩, ⟨bs1 HB GE177⟩⟩
 case rest =>
  clear HC2
  try clear p2
  try clear c5
  try clear c6
  try clear c8
  obtain ⟨kq, x41_1, rfl, HA, HJ1, BK177, HB⟩ := hcut
  cases kq with
  | zero => exact absurd HA.out (by simp [impl_GoodRing.j0])
  | succ kj1 =>
   have H := HA.out
   clear HA
   simp only [impl_GoodRing.j0] at H
   by_cases c17 : x41_1 = true
   ·
    subst c17
    rw [if_pos rfl] at H
    obtain rfl := Option.some.inj H
    go_wp2
    go_ret
    exact ⟨by first | rfl | (simp [errW_none, errW_some] <;> rfl) | (simp [*, errW_none, errW_some] <;> rfl), bs1 HB GE177⟩
   ·
    replace c17 := Bool.eq_false_iff.mpr c17
    subst c17
    rw [if_neg (show ¬ (false = true) by decide)] at H
    have H' := Aside0.mk H
    clear H
    obtain ⟨hcz18_0, hcz18_1, hcz18_2, hcz18_3⟩ := cz4 BK177
    obtain ⟨hfz18_0, hfz18_1, hfz18_2, hfz18_3⟩ := fz4 BK177
    go_wp2
    go_loopg [4, 5] kj1 (fun kq v4 v5 w' => ∃ (x4_2 : Int) (x5_2 : Int), v4 = .int .i64 x4_2 ∧ v5 = .int .i64 x5_2 ∧ Aside0 (impl_GoodRing.l0 kq (l0_0.length : Int) x4_2 x5_2 l0_0 a0_1 a0_2 a0_3 = some r) ∧ Aside0 (kq ≤ kj1) ∧ Aside0 (w'.heap[gb177]? = some (.cells #[(.slice A0_0 l0_0.length c0_0), .int .i64 a0_1, .int .i64 a0_2, .int .i64 a0_3] 36 (0, 0))) ∧ Aside0 (Below w.heap.size w w'))
    case atStart => exact ⟨(0), (wrap64 (a0_1 - (l0_0.length : Int))), (by first | rfl | (simp; done) | (simp [*]; done)), (by first | rfl | (simp; done) | (simp [*]; done)), H', ⟨Nat.le_refl _⟩, ⟨bk BK177⟩, ⟨bs1 HB GE177⟩⟩
    case round =>
     clear H'
     try clear c1
     try clear p2
     try clear c5
     try clear c6
     try clear p6
     try clear c8
     try clear c17
     try clear hcz18_0 hcz18_1 hcz18_2 hcz18_3
     try clear hfz18_0 hfz18_1 hfz18_2 hfz18_3
     try clear p2
     obtain ⟨x4_2, x5_2, rfl, rfl, HA, HK2, BK177, HB⟩ := hrel
     cases gk with
     | zero => exact absurd HA.out (by simp [impl_GoodRing.l0])
     | succ k2 =>
      have H := HA.out
      clear HA
      simp only [impl_GoodRing.l0] at H
      by_cases c19 : x5_2 < a0_1
      ·
       rw [if_pos c19] at H
       have c19b0 : decide (x5_2 < a0_1) = true := decide_eq_true c19
       clear c19
       by_cases c20 : x5_2 < 0
       ·
        rw [if_pos c20] at H
        have c20b0 : decide (x5_2 < 0) = true := decide_eq_true c20
        clear c20
        obtain ⟨ji21, hji21⟩ : ∃ j_ : Int, (wrap64 (x5_2 + (l0_0.length : Int))) = j_ := ⟨_, rfl⟩
        replace H : (if 0 ≤ (ji21) then (if (ji21) < (l0_0.length : Int) then ((impl_zeroSlot.f k2).bind fun bt182 => (if (!(((rd_T26 l0_0 (ji21)).f0) == bt182.1) || (!(((rd_T26 l0_0 (ji21)).f1) == bt182.2.1) || (!((((rd_T26 l0_0 (ji21)).f2).toList) == bt182.2.2.1.toList) || (!(((rd_T26 l0_0 (ji21)).f3) == bt182.2.2.2))))) = true then (some false) else (impl_GoodRing.l0 k2 (l0_0.length : Int) x4_2 (wrap64 (x5_2 + 1)) l0_0 a0_1 a0_2 a0_3))) else (none)) else (none)) = some r := by first | (rw [hji21] at H; exact H) | (simp only [hji21] at H ⊢; exact H)
        have hji21w : (IntKind.i64.wrap (x5_2 + (l0_0.length : Int))) = ji21 := (i64_w _).trans hji21
        by_cases c22 : 0 ≤ (ji21)
        ·
         rw [if_pos c22] at H
         have c22b0 : decide (0 ≤ (ji21)) = true := decide_eq_true c22
         clear c22
         by_cases c23 : (ji21) < (l0_0.length : Int)
         ·
          rw [if_pos c23] at H
          have c23b0 : decide ((ji21) < (l0_0.length : Int)) = true := decide_eq_true c23
          clear c23
          replace H := Option.bind_eq_some_iff.mp H
          obtain ⟨⟨t182, t183, t184, t185⟩, A240, H⟩ := H
          replace H : (if (!(((rd_T26 l0_0 (ji21)).f0) == t182) || (!(((rd_T26 l0_0 (ji21)).f1) == t183) || (!((((rd_T26 l0_0 (ji21)).f2).toList) == t184.toList) || (!(((rd_T26 l0_0 (ji21)).f3) == t185))))) = true then (some false) else (impl_GoodRing.l0 k2 (l0_0.length : Int) x4_2 (wrap64 (x5_2 + 1)) l0_0 a0_1 a0_2 a0_3)) = some r := H
          have A24 := Aside0.mk A240
          clear A240
          by_cases c25 : (!(((rd_T26 l0_0 (ji21)).f0) == t182) || (!(((rd_T26 l0_0 (ji21)).f1) == t183) || (!((((rd_T26 l0_0 (ji21)).f2).toList) == t184.toList) || (!(((rd_T26 l0_0 (ji21)).f3) == t185))))) = true
          ·
           rw [if_pos c25] at H
           have c25b0 : (!(((rd_T26 l0_0 (ji21)).f0) == t182) || (!(((rd_T26 l0_0 (ji21)).f1) == t183) || (!((((rd_T26 l0_0 (ji21)).f2).toList) == t184.toList) || (!(((rd_T26 l0_0 (ji21)).f3) == t185))))) = true := c25
           clear c25
           obtain rfl := Option.some.inj H
           obtain ⟨hcz26_0, hcz26_1, hcz26_2, hcz26_3⟩ := cz4 BK177
           obtain ⟨hfz26_0, hfz26_1, hfz26_2, hfz26_3⟩ := fz4 BK177
           try go_wp2
           have n0_ := Aside0.mk (blk_drew BK177.out)
           have n1_ := Aside0.mk (below_drew1 HB.out)
           clear BK177
           clear HB
           have BK177 := n0_
           have HB := n1_
           clear n0_ n1_
           have p181 : 0 ≤ ((ji21) : Int) := of_decide_eq_true (by first | (with_reducible assumption) | assumption)
           have q181 : (ji21) < (l0_0.length : Int) := of_decide_eq_true (by first | (with_reducible assumption) | assumption)
           obtain ⟨ad181, e181, hx181_0, hx181_1, hx181_2, hx181_3⟩ := at_T26 HR0_0.out (ji21) p181 q181
           have hw181_3 := hx181_3
           have hw181_2 := hx181_2
           have hw181_1 := hx181_1
           have hw181_0 := hx181_0
           cases e181
           replace hx181_0 := (HB.out.cell (World.block_lt_of_cell? w _ hx181_0)).trans hx181_0
           replace hx181_1 := (HB.out.cell (World.block_lt_of_cell? w _ hx181_1)).trans hx181_1
           replace hx181_2 := (HB.out.cell (World.block_lt_of_cell? w _ hx181_2)).trans hx181_2
           replace hx181_3 := (HB.out.cell (World.block_lt_of_cell? w _ hx181_3)).trans hx181_3
           replace p181 := eq_true p181
           replace q181 := eq_true q181
           refine start_ (n := 9) (S := fun w' => w'.cell? ⟨gb177, 0, none⟩ = some (.slice (some ad181) l0_0.length c0_0) ∧ w'.cell? ⟨gb177, 1, none⟩ = some (.int .i64 a0_1) ∧ w'.cell? ⟨gb177, 2, none⟩ = some (.int .i64 a0_2) ∧ w'.cell? ⟨gb177, 3, none⟩ = some (.int .i64 a0_3) ∧ w'.cell? (ad181.add (((ji21)).toNat * 4)) = some (.int .i64 ((rd_T26 l0_0 (ji21)).f0)) ∧ w'.cell? ⟨(ad181.add (((ji21)).toNat * 4)).block, (ad181.add (((ji21)).toNat * 4)).off + 1, none⟩ = some (.int .i64 ((rd_T26 l0_0 (ji21)).f1)) ∧ w'.cell? ⟨(ad181.add (((ji21)).toNat * 4)).block, (ad181.add (((ji21)).toNat * 4)).off + 2, none⟩ = some (.string ((rd_T26 l0_0 (ji21)).f2)) ∧ w'.cell? ⟨(ad181.add (((ji21)).toNat * 4)).block, (ad181.add (((ji21)).toNat * 4)).off + 3, none⟩ = some (.int .i64 ((rd_T26 l0_0 (ji21)).f3))) (ds := []) #[false, false, false, false, false, false, false, false, false] (by kernel_rfl) rfl rfl ⟨(blk_cell BK177.out 0).trans rfl, (blk_cell BK177.out 1).trans rfl, (blk_cell BK177.out 2).trans rfl, (blk_cell BK177.out 3).trans rfl, ((HB.out.cell (World.block_lt_of_cell? w _ hw181_0)).trans hw181_0), ((HB.out.cell (World.block_lt_of_cell? w _ hw181_1)).trans hw181_1), ((HB.out.cell (World.block_lt_of_cell? w _ hw181_2)).trans hw181_2), ((HB.out.cell (World.block_lt_of_cell? w _ hw181_3)).trans hw181_3)⟩ (fun hHeld => ?_); refine with_tabW impl_GoodRing.tab9 impl_GoodRing.bits9 (fun HT_ HW_ => ?_)
           generalize wr.drew = w27 at BK177 HB hx181_0 hx181_1 hx181_2 hx181_3 hHeld ⊢
           refine pureS 0 54 HT_.out ?_
           refine pureS 2 56 HT_.out ?_
           refine pureS 3 57 HT_.out ?_
           refine pureS 4 58 HT_.out ?_
           refine takeS 1 55 HT_.out HW_.out hHeld (hr := by rintro w' ⟨s0, s1, s2, s3, s4, s5, s6, s7⟩; go_simp; with_reducible rfl) (h := ?_)
           refine pureS 5 59 HT_.out ?_
           refine takeS 6 60 HT_.out HW_.out hHeld (hr := by rintro w' ⟨s0, s1, s2, s3, s4, s5, s6, s7⟩; go_simp; with_reducible rfl) (h := ?_)
           refine one_ (i := 7) (N := some 61) #[true, true, true, true, true, true, true, true, false] rfl rfl (one_of HT_.out (by kernel_rfl)) (by decide) (fun K hK => ?_)
           refine goes_ Tryd.func59 (by kernel_rfl) rfl #[] (by rfl) rfl rfl (by (try simp only [List.map_toArray, List.map_cons, List.map_nil]); first | done | rfl | (simp only [List.length_drop, List.length_take]; rfl)) ?_
           with_reducible refine (impl_zeroSlot.calls k2  t182 t183 t184 t185 _ ?sideT A24.out).mono ?_
           case sideT => refine ⟨Ito.tabB hTab_.out ?_⟩; first | exact bs HB | exact st_below | (repeat (first | (with_reducible first | exact HB.out | apply below_alloc | apply pw_below_drewN | apply below_drew1 | refine below_set ?_ (Aside0.out (by assumption))) | exact HB.out))
           rintro e w28 ⟨rfl, hb⟩
           refine ⟨_, rfl, ?_⟩
           have n0_ := Aside0.mk (bb BK177 hb)
           have n1_ := Aside0.mk (below_step (bs1 HB GE177) hb)
           clear BK177
           clear HB
           have BK177 := n0_
           have HB := n1_
           clear n0_ n1_
           (try clear hb)
           (try clear hb2)
           (try clear hk)
           (try clear hi)
           refine hK.out _ _ ⟨(blk_cell BK177.out 0).trans rfl, (blk_cell BK177.out 1).trans rfl, (blk_cell BK177.out 2).trans rfl, (blk_cell BK177.out 3).trans rfl, ((HB.out.cell (World.block_lt_of_cell? w _ hw181_0)).trans hw181_0), ((HB.out.cell (World.block_lt_of_cell? w _ hw181_1)).trans hw181_1), ((HB.out.cell (World.block_lt_of_cell? w _ hw181_2)).trans hw181_2), ((HB.out.cell (World.block_lt_of_cell? w _ hw181_3)).trans hw181_3)⟩ (fun hHeld => ?_)
           clear hK K
           refine norm_ (a' := ?_) ?_ ?_
           rotate_left
           ·
            show Act.put _ (some 61) _ = _
            simp only [Act.put, List.setIfInBounds_toArray, List.set_cons_zero, List.set_cons_succ, i64_w, i32_w]
            rfl
           refine pureS 8 62 HT_.out ?_
           refine done_ (done_of HT_.out (by kernel_rfl)) ?_
           try go_wp2
           go_ret
           exact ⟨by first | rfl | (simp [errW_none, errW_some] <;> rfl) | (simp only [← hji21]; first | rfl | (simp [errW_none, errW_some] <;> rfl)) | (simp [*, errW_none, errW_some] <;> rfl), bs1 HB GE177⟩
          ·
           rw [if_neg c25] at H
           have c25b0 : (!(((rd_T26 l0_0 (ji21)).f0) == t182) || (!(((rd_T26 l0_0 (ji21)).f1) == t183) || (!((((rd_T26 l0_0 (ji21)).f2).toList) == t184.toList) || (!(((rd_T26 l0_0 (ji21)).f3) == t185))))) = false := by simpa using c25
           clear c25
           have H' := Aside0.mk H
           clear H
           obtain ⟨hcz29_0, hcz29_1, hcz29_2, hcz29_3⟩ := cz4 BK177
           obtain ⟨hfz29_0, hfz29_1, hfz29_2, hfz29_3⟩ := fz4 BK177
           try go_wp2
           have n0_ := Aside0.mk (blk_drew BK177.out)
           have n1_ := Aside0.mk (below_drew1 HB.out)
           clear BK177
           clear HB
           have BK177 := n0_
           have HB := n1_
           clear n0_ n1_
           have p181 : 0 ≤ ((ji21) : Int) := of_decide_eq_true (by first | (with_reducible assumption) | assumption)
           have q181 : (ji21) < (l0_0.length : Int) := of_decide_eq_true (by first | (with_reducible assumption) | assumption)
           obtain ⟨ad181, e181, hx181_0, hx181_1, hx181_2, hx181_3⟩ := at_T26 HR0_0.out (ji21) p181 q181
           have hw181_3 := hx181_3
           have hw181_2 := hx181_2
           have hw181_1 := hx181_1
           have hw181_0 := hx181_0
           cases e181
           replace hx181_0 := (HB.out.cell (World.block_lt_of_cell? w _ hx181_0)).trans hx181_0
           replace hx181_1 := (HB.out.cell (World.block_lt_of_cell? w _ hx181_1)).trans hx181_1
           replace hx181_2 := (HB.out.cell (World.block_lt_of_cell? w _ hx181_2)).trans hx181_2
           replace hx181_3 := (HB.out.cell (World.block_lt_of_cell? w _ hx181_3)).trans hx181_3
           replace p181 := eq_true p181
           replace q181 := eq_true q181
           refine start_ (n := 9) (S := fun w' => w'.cell? ⟨gb177, 0, none⟩ = some (.slice (some ad181) l0_0.length c0_0) ∧ w'.cell? ⟨gb177, 1, none⟩ = some (.int .i64 a0_1) ∧ w'.cell? ⟨gb177, 2, none⟩ = some (.int .i64 a0_2) ∧ w'.cell? ⟨gb177, 3, none⟩ = some (.int .i64 a0_3) ∧ w'.cell? (ad181.add (((ji21)).toNat * 4)) = some (.int .i64 ((rd_T26 l0_0 (ji21)).f0)) ∧ w'.cell? ⟨(ad181.add (((ji21)).toNat * 4)).block, (ad181.add (((ji21)).toNat * 4)).off + 1, none⟩ = some (.int .i64 ((rd_T26 l0_0 (ji21)).f1)) ∧ w'.cell? ⟨(ad181.add (((ji21)).toNat * 4)).block, (ad181.add (((ji21)).toNat * 4)).off + 2, none⟩ = some (.string ((rd_T26 l0_0 (ji21)).f2)) ∧ w'.cell? ⟨(ad181.add (((ji21)).toNat * 4)).block, (ad181.add (((ji21)).toNat * 4)).off + 3, none⟩ = some (.int .i64 ((rd_T26 l0_0 (ji21)).f3))) (ds := []) #[false, false, false, false, false, false, false, false, false] (by kernel_rfl) rfl rfl ⟨(blk_cell BK177.out 0).trans rfl, (blk_cell BK177.out 1).trans rfl, (blk_cell BK177.out 2).trans rfl, (blk_cell BK177.out 3).trans rfl, ((HB.out.cell (World.block_lt_of_cell? w _ hw181_0)).trans hw181_0), ((HB.out.cell (World.block_lt_of_cell? w _ hw181_1)).trans hw181_1), ((HB.out.cell (World.block_lt_of_cell? w _ hw181_2)).trans hw181_2), ((HB.out.cell (World.block_lt_of_cell? w _ hw181_3)).trans hw181_3)⟩ (fun hHeld => ?_); refine with_tabW impl_GoodRing.tab9 impl_GoodRing.bits9 (fun HT_ HW_ => ?_)
           generalize wr.drew = w30 at BK177 HB hx181_0 hx181_1 hx181_2 hx181_3 hHeld ⊢
           refine pureS 0 54 HT_.out ?_
           refine pureS 2 56 HT_.out ?_
           refine pureS 3 57 HT_.out ?_
           refine pureS 4 58 HT_.out ?_
           refine takeS 1 55 HT_.out HW_.out hHeld (hr := by rintro w' ⟨s0, s1, s2, s3, s4, s5, s6, s7⟩; go_simp; with_reducible rfl) (h := ?_)
           refine pureS 5 59 HT_.out ?_
           refine takeS 6 60 HT_.out HW_.out hHeld (hr := by rintro w' ⟨s0, s1, s2, s3, s4, s5, s6, s7⟩; go_simp; with_reducible rfl) (h := ?_)
           refine one_ (i := 7) (N := some 61) #[true, true, true, true, true, true, true, true, false] rfl rfl (one_of HT_.out (by kernel_rfl)) (by decide) (fun K hK => ?_)
           refine goes_ Tryd.func59 (by kernel_rfl) rfl #[] (by rfl) rfl rfl (by (try simp only [List.map_toArray, List.map_cons, List.map_nil]); first | done | rfl | (simp only [List.length_drop, List.length_take]; rfl)) ?_
           with_reducible refine (impl_zeroSlot.calls k2  t182 t183 t184 t185 _ ?sideT A24.out).mono ?_
           case sideT => refine ⟨Ito.tabB hTab_.out ?_⟩; first | exact bs HB | exact st_below | (repeat (first | (with_reducible first | exact HB.out | apply below_alloc | apply pw_below_drewN | apply below_drew1 | refine below_set ?_ (Aside0.out (by assumption))) | exact HB.out))
           rintro e w31 ⟨rfl, hb⟩
           refine ⟨_, rfl, ?_⟩
           have n0_ := Aside0.mk (bb BK177 hb)
           have n1_ := Aside0.mk (below_step (bs1 HB GE177) hb)
           clear BK177
           clear HB
           have BK177 := n0_
           have HB := n1_
           clear n0_ n1_
           (try clear hb)
           (try clear hb2)
           (try clear hk)
           (try clear hi)
           refine hK.out _ _ ⟨(blk_cell BK177.out 0).trans rfl, (blk_cell BK177.out 1).trans rfl, (blk_cell BK177.out 2).trans rfl, (blk_cell BK177.out 3).trans rfl, ((HB.out.cell (World.block_lt_of_cell? w _ hw181_0)).trans hw181_0), ((HB.out.cell (World.block_lt_of_cell? w _ hw181_1)).trans hw181_1), ((HB.out.cell (World.block_lt_of_cell? w _ hw181_2)).trans hw181_2), ((HB.out.cell (World.block_lt_of_cell? w _ hw181_3)).trans hw181_3)⟩ (fun hHeld => ?_)
           clear hK K
           refine norm_ (a' := ?_) ?_ ?_
           rotate_left
           ·
            show Act.put _ (some 61) _ = _
            simp only [Act.put, List.setIfInBounds_toArray, List.set_cons_zero, List.set_cons_succ, i64_w, i32_w]
            rfl
           refine pureS 8 62 HT_.out ?_
           refine done_ (done_of HT_.out (by kernel_rfl)) ?_
           try go_wp2
           go_roundg k2
           case measure => have := HJ1.out; have := HK2.out; omega
           case rel => exact ⟨(x4_2), (wrap64 (x5_2 + 1)), (by first | rfl | (simp; done) | (simp [*]; done)), (by first | rfl | (simp; done) | (simp [*]; done)), H', ⟨by have := HJ1.out; have := HK2.out; omega⟩, ⟨bk BK177⟩, ⟨bs1 HB GE177⟩⟩
         ·
          rw [if_neg c23] at H
          exact absurd H (by simp)
        ·
         rw [if_neg c22] at H
         exact absurd H (by simp)
       ·
        rw [if_neg c20] at H
        have c20b0 : decide (x5_2 < 0) = false := decide_eq_false c20
        clear c20
        by_cases c32 : (l0_0.length : Int) = 0
        ·
         rw [if_pos c32] at H
         exact absurd H (by simp)
        ·
         rw [if_neg c32] at H
         have c32b0 : ((l0_0.length : Int) == 0) = false := beq_eq_false_iff_ne.mpr c32
         have c32b1 : ((l0_0.length : Int) != 0) = true := bne_iff_ne.mpr c32
         have c32b2 : ¬ (l0_0 = []) := fun h_ => c32 (by rw [h_]; rfl)
         obtain ⟨ji33, hji33⟩ : ∃ j_ : Int, (Int.tmod x5_2 (l0_0.length : Int)) = j_ := ⟨_, rfl⟩
         replace H : (if 0 ≤ (ji33) then (if (ji33) < (l0_0.length : Int) then (if x5_2 < a0_3 then ((impl_zeroSlot.f k2).bind fun bt188 => (impl_GoodRing.j2 k2 (l0_0.length : Int) x4_2 x5_2 (((rd_T26 l0_0 (ji33)).f0) == bt188.1 && (((rd_T26 l0_0 (ji33)).f1) == bt188.2.1 && ((((rd_T26 l0_0 (ji33)).f2).toList) == bt188.2.2.1.toList && (((rd_T26 l0_0 (ji33)).f3) == bt188.2.2.2)))) l0_0 a0_1 a0_2 a0_3 ((rd_T26 l0_0 (ji33)).f0) ((rd_T26 l0_0 (ji33)).f1) ((rd_T26 l0_0 (ji33)).f2) ((rd_T26 l0_0 (ji33)).f3))) else (impl_GoodRing.j2 k2 (l0_0.length : Int) x4_2 x5_2 false l0_0 a0_1 a0_2 a0_3 ((rd_T26 l0_0 (ji33)).f0) ((rd_T26 l0_0 (ji33)).f1) ((rd_T26 l0_0 (ji33)).f2) ((rd_T26 l0_0 (ji33)).f3))) else (none)) else (none)) = some r := by first | (rw [hji33] at H; exact H) | (simp only [hji33] at H ⊢; exact H)
         by_cases c34 : 0 ≤ (ji33)
         ·
          rw [if_pos c34] at H
          have c34b0 : decide (0 ≤ (ji33)) = true := decide_eq_true c34
          clear c34
          by_cases c35 : (ji33) < (l0_0.length : Int)
          ·
           rw [if_pos c35] at H
           have c35b0 : decide ((ji33) < (l0_0.length : Int)) = true := decide_eq_true c35
           clear c35
           have HC36 := Aside0.mk H
           clear H
           obtain ⟨hcz37_0, hcz37_1, hcz37_2, hcz37_3⟩ := cz4 BK177
           obtain ⟨hfz37_0, hfz37_1, hfz37_2, hfz37_3⟩ := fz4 BK177
           try go_wp2
           have n0_ := Aside0.mk (blk_drew BK177.out)
           have n1_ := Aside0.mk (below_drew1 HB.out)
           clear BK177
           clear HB
           have BK177 := n0_
           have HB := n1_
           clear n0_ n1_
           have p186 : 0 ≤ ((ji33) : Int) := of_decide_eq_true (by first | (with_reducible assumption) | assumption)
           have q186 : (ji33) < (l0_0.length : Int) := of_decide_eq_true (by first | (with_reducible assumption) | assumption)
           obtain ⟨ad186, e186, hx186_0, hx186_1, hx186_2, hx186_3⟩ := at_T26 HR0_0.out (ji33) p186 q186
           have hw186_3 := hx186_3
           have hw186_2 := hx186_2
           have hw186_1 := hx186_1
           have hw186_0 := hx186_0
           cases e186
           replace hx186_0 := (HB.out.cell (World.block_lt_of_cell? w _ hx186_0)).trans hx186_0
           replace hx186_1 := (HB.out.cell (World.block_lt_of_cell? w _ hx186_1)).trans hx186_1
           replace hx186_2 := (HB.out.cell (World.block_lt_of_cell? w _ hx186_2)).trans hx186_2
           replace hx186_3 := (HB.out.cell (World.block_lt_of_cell? w _ hx186_3)).trans hx186_3
           replace p186 := eq_true p186
           replace q186 := eq_true q186
           refine start_ (n := 9) (S := fun w' => w'.cell? ⟨gb177, 0, none⟩ = some (.slice (some ad186) l0_0.length c0_0) ∧ w'.cell? ⟨gb177, 1, none⟩ = some (.int .i64 a0_1) ∧ w'.cell? ⟨gb177, 2, none⟩ = some (.int .i64 a0_2) ∧ w'.cell? ⟨gb177, 3, none⟩ = some (.int .i64 a0_3) ∧ w'.cell? (ad186.add (((ji33)).toNat * 4)) = some (.int .i64 ((rd_T26 l0_0 (ji33)).f0)) ∧ w'.cell? ⟨(ad186.add (((ji33)).toNat * 4)).block, (ad186.add (((ji33)).toNat * 4)).off + 1, none⟩ = some (.int .i64 ((rd_T26 l0_0 (ji33)).f1)) ∧ w'.cell? ⟨(ad186.add (((ji33)).toNat * 4)).block, (ad186.add (((ji33)).toNat * 4)).off + 2, none⟩ = some (.string ((rd_T26 l0_0 (ji33)).f2)) ∧ w'.cell? ⟨(ad186.add (((ji33)).toNat * 4)).block, (ad186.add (((ji33)).toNat * 4)).off + 3, none⟩ = some (.int .i64 ((rd_T26 l0_0 (ji33)).f3))) (ds := []) #[false, false, false, false, false, false, false, false, false] (by kernel_rfl) rfl rfl ⟨(blk_cell BK177.out 0).trans rfl, (blk_cell BK177.out 1).trans rfl, (blk_cell BK177.out 2).trans rfl, (blk_cell BK177.out 3).trans rfl, ((HB.out.cell (World.block_lt_of_cell? w _ hw186_0)).trans hw186_0), ((HB.out.cell (World.block_lt_of_cell? w _ hw186_1)).trans hw186_1), ((HB.out.cell (World.block_lt_of_cell? w _ hw186_2)).trans hw186_2), ((HB.out.cell (World.block_lt_of_cell? w _ hw186_3)).trans hw186_3)⟩ (fun hHeld => ?_); refine with_tabW impl_GoodRing.tab11 impl_GoodRing.bits11 (fun HT_ HW_ => ?_)
           generalize wr.drew = w38 at BK177 HB hx186_0 hx186_1 hx186_2 hx186_3 hHeld ⊢
           refine pureS 0 63 HT_.out ?_
           refine pureS 2 65 HT_.out ?_
           refine pureS 3 66 HT_.out ?_
           refine pureS 4 67 HT_.out ?_
           refine takeS 1 64 HT_.out HW_.out hHeld (hr := by rintro w' ⟨s0, s1, s2, s3, s4, s5, s6, s7⟩; go_simp; with_reducible rfl) (h := ?_)
           refine pureS 5 68 HT_.out ?_
           refine takeS 6 69 HT_.out HW_.out hHeld (hr := by rintro w' ⟨s0, s1, s2, s3, s4, s5, s6, s7⟩; go_simp; with_reducible rfl) (h := ?_)
           refine one_ (i := 7) (N := some 6) #[true, true, true, true, true, true, true, true, false] rfl rfl (one_of HT_.out (by kernel_rfl)) (by decide) (fun K hK => ?_)
           refine box_step ?hg (N := 6) ?hd (cs := #[.int .i64 0, .int .i64 0, .string (⟨#[]⟩ : ByteArray), .int .i64 0]) (t := 26) ?hr ?_; (case hd => rfl); (case hg => rfl); (case hr => first | (go_simp; done) | (go_simp; rfl))
           intro gb187 hg w39 hbox hb
           have n0_ := Aside0.mk (bb BK177 hb)
           have n1_ := Aside0.mk (below_step (bs1 HB GE177) hb)
           have n2_ := Aside0.mk (hbox)
           have n3_ := Aside0.mk ((by rw [hg]; exact (below_size (bs1 HB GE177)) : w.heap.size ≤ gb187))
           have n4_ := Aside0.mk ((by rw [hg]; exact (below_size (bs1 HB GE177)) : w.heap.size ≤ gb187))
           have n5_ := Aside0.mk ((bn BK177 hg : gb177 ≠ gb187))
           have n6_ := Aside0.mk ((bm BK177 hg : gb187 ≠ gb177))
           clear BK177
           clear HB
           have BK177 := n0_
           have HB := n1_
           have BK187 := n2_
           have GW187 := n3_
           have GE187 := n4_
           have NB177_187 := n5_
           have NB187_177 := n6_
           clear n0_ n1_ n2_ n3_ n4_ n5_ n6_
           clear hb hbox hg
           refine hK.out _ _ ⟨(blk_cell BK177.out 0).trans rfl, (blk_cell BK177.out 1).trans rfl, (blk_cell BK177.out 2).trans rfl, (blk_cell BK177.out 3).trans rfl, ((HB.out.cell (World.block_lt_of_cell? w _ hw186_0)).trans hw186_0), ((HB.out.cell (World.block_lt_of_cell? w _ hw186_1)).trans hw186_1), ((HB.out.cell (World.block_lt_of_cell? w _ hw186_2)).trans hw186_2), ((HB.out.cell (World.block_lt_of_cell? w _ hw186_3)).trans hw186_3)⟩ (fun hHeld => ?_)
           clear hK K
           refine norm_ (a' := ?_) ?_ ?_
           rotate_left
           ·
            show Act.put _ (some 6) _ = _
            simp only [Act.put, List.setIfInBounds_toArray, List.set_cons_zero, List.set_cons_succ, i64_w, i32_w]
            rfl
           refine one_ (i := 8) (N := none) #[true, true, true, true, true, true, true, true, true] rfl rfl (one_of HT_.out (by kernel_rfl)) (by decide) (fun K hK => ?_)
           have hs40 : w39.cell? ⟨gb187, 0, none⟩ = some (.int .i64 0) := (blk_cell BK187.out 0).trans rfl
           have hfs40 := blk_frozen BK187.out 0
           have hns40_0 := NB177_187.out
           have hms40_0 := NB187_177.out
           have hs41 : w39.cell? ⟨gb187, 1, none⟩ = some (.int .i64 0) := (blk_cell BK187.out 1).trans rfl
           have hfs41 := blk_frozen BK187.out 1
           have hns41_0 := NB177_187.out
           have hms41_0 := NB187_177.out
           have hs42 : w39.cell? ⟨gb187, 2, none⟩ = some (.string (⟨#[]⟩ : ByteArray)) := (blk_cell BK187.out 2).trans rfl
           have hfs42 := blk_frozen BK187.out 2
           have hns42_0 := NB177_187.out
           have hms42_0 := NB187_177.out
           have hs43 : w39.cell? ⟨gb187, 3, none⟩ = some (.int .i64 0) := (blk_cell BK187.out 3).trans rfl
           have hfs43 := blk_frozen BK187.out 3
           have hns43_0 := NB177_187.out
           have hms43_0 := NB187_177.out
           refine skip_ (w1 := ?_) (by rfl) rfl ?_ ?_
           rotate_left
           ·
            go_simp
            rfl
           refine hK.out _ _ ⟨((cell_far (p := ⟨gb187, _, none⟩) NB177_187.out _).trans (((cell_far (p := ⟨gb187, _, none⟩) NB177_187.out _).trans (((cell_far (p := ⟨gb187, _, none⟩) NB177_187.out _).trans (((cell_far (p := ⟨gb187, _, none⟩) NB177_187.out _).trans (hHeld.1)))))))), ((cell_far (p := ⟨gb187, _, none⟩) NB177_187.out _).trans (((cell_far (p := ⟨gb187, _, none⟩) NB177_187.out _).trans (((cell_far (p := ⟨gb187, _, none⟩) NB177_187.out _).trans (((cell_far (p := ⟨gb187, _, none⟩) NB177_187.out _).trans (hHeld.2.1)))))))), ((cell_far (p := ⟨gb187, _, none⟩) NB177_187.out _).trans (((cell_far (p := ⟨gb187, _, none⟩) NB177_187.out _).trans (((cell_far (p := ⟨gb187, _, none⟩) NB177_187.out _).trans (((cell_far (p := ⟨gb187, _, none⟩) NB177_187.out _).trans (hHeld.2.2.1)))))))), ((cell_far (p := ⟨gb187, _, none⟩) NB177_187.out _).trans (((cell_far (p := ⟨gb187, _, none⟩) NB177_187.out _).trans (((cell_far (p := ⟨gb187, _, none⟩) NB177_187.out _).trans (((cell_far (p := ⟨gb187, _, none⟩) NB177_187.out _).trans (hHeld.2.2.2.1)))))))), ((cell_far (p := ⟨gb187, _, none⟩) (by first | exact Nat.ne_of_lt (Nat.lt_of_lt_of_le (by have := World.block_lt_of_cell? _ _ hw186_0; first | rwa [add_block] at this | exact this) GW187.out) | (rw [add_block]; exact Nat.ne_of_lt (Nat.lt_of_lt_of_le (by have := World.block_lt_of_cell? _ _ hw186_0; first | rwa [add_block] at this | exact this) GW187.out)) | (show (Addr.add _ _).block ≠ _; rw [add_block]; exact Nat.ne_of_lt (Nat.lt_of_lt_of_le (by have := World.block_lt_of_cell? _ _ hw186_0; first | rwa [add_block] at this | exact this) GW187.out)) | (dsimp only; exact Nat.ne_of_lt (Nat.lt_of_lt_of_le (by have := World.block_lt_of_cell? _ _ hw186_0; first | rwa [add_block] at this | exact this) GW187.out))) _).trans (((cell_far (p := ⟨gb187, _, none⟩) (by first | exact Nat.ne_of_lt (Nat.lt_of_lt_of_le (by have := World.block_lt_of_cell? _ _ hw186_0; first | rwa [add_block] at this | exact this) GW187.out) | (rw [add_block]; exact Nat.ne_of_lt (Nat.lt_of_lt_of_le (by have := World.block_lt_of_cell? _ _ hw186_0; first | rwa [add_block] at this | exact this) GW187.out)) | (show (Addr.add _ _).block ≠ _; rw [add_block]; exact Nat.ne_of_lt (Nat.lt_of_lt_of_le (by have := World.block_lt_of_cell? _ _ hw186_0; first | rwa [add_block] at this | exact this) GW187.out)) | (dsimp only; exact Nat.ne_of_lt (Nat.lt_of_lt_of_le (by have := World.block_lt_of_cell? _ _ hw186_0; first | rwa [add_block] at this | exact this) GW187.out))) _).trans (((cell_far (p := ⟨gb187, _, none⟩) (by first | exact Nat.ne_of_lt (Nat.lt_of_lt_of_le (by have := World.block_lt_of_cell? _ _ hw186_0; first | rwa [add_block] at this | exact this) GW187.out) | (rw [add_block]; exact Nat.ne_of_lt (Nat.lt_of_lt_of_le (by have := World.block_lt_of_cell? _ _ hw186_0; first | rwa [add_block] at this | exact this) GW187.out)) | (show (Addr.add _ _).block ≠ _; rw [add_block]; exact Nat.ne_of_lt (Nat.lt_of_lt_of_le (by have := World.block_lt_of_cell? _ _ hw186_0; first | rwa [add_block] at this | exact this) GW187.out)) | (dsimp only; exact Nat.ne_of_lt (Nat.lt_of_lt_of_le (by have := World.block_lt_of_cell? _ _ hw186_0; first | rwa [add_block] at this | exact this) GW187.out))) _).trans (((cell_far (p := ⟨gb187, _, none⟩) (by first | exact Nat.ne_of_lt (Nat.lt_of_lt_of_le (by have := World.block_lt_of_cell? _ _ hw186_0; first | rwa [add_block] at this | exact this) GW187.out) | (rw [add_block]; exact Nat.ne_of_lt (Nat.lt_of_lt_of_le (by have := World.block_lt_of_cell? _ _ hw186_0; first | rwa [add_block] at this | exact this) GW187.out)) | (show (Addr.add _ _).block ≠ _; rw [add_block]; exact Nat.ne_of_lt (Nat.lt_of_lt_of_le (by have := World.block_lt_of_cell? _ _ hw186_0; first | rwa [add_block] at this | exact this) GW187.out)) | (dsimp only; exact Nat.ne_of_lt (Nat.lt_of_lt_of_le (by have := World.block_lt_of_cell? _ _ hw186_0; first | rwa [add_block] at this | exact this) GW187.out))) _).trans (hHeld.2.2.2.2.1)))))))), ((cell_far (p := ⟨gb187, _, none⟩) (by first | exact Nat.ne_of_lt (Nat.lt_of_lt_of_le (by have := World.block_lt_of_cell? _ _ hw186_1; first | rwa [add_block] at this | exact this) GW187.out) | (rw [add_block]; exact Nat.ne_of_lt (Nat.lt_of_lt_of_le (by have := World.block_lt_of_cell? _ _ hw186_1; first | rwa [add_block] at this | exact this) GW187.out)) | (show (Addr.add _ _).block ≠ _; rw [add_block]; exact Nat.ne_of_lt (Nat.lt_of_lt_of_le (by have := World.block_lt_of_cell? _ _ hw186_1; first | rwa [add_block] at this | exact this) GW187.out)) | (dsimp only; exact Nat.ne_of_lt (Nat.lt_of_lt_of_le (by have := World.block_lt_of_cell? _ _ hw186_1; first | rwa [add_block] at this | exact this) GW187.out))) _).trans (((cell_far (p := ⟨gb187, _, none⟩) (by first | exact Nat.ne_of_lt (Nat.lt_of_lt_of_le (by have := World.block_lt_of_cell? _ _ hw186_1; first | rwa [add_block] at this | exact this) GW187.out) | (rw [add_block]; exact Nat.ne_of_lt (Nat.lt_of_lt_of_le (by have := World.block_lt_of_cell? _ _ hw186_1; first | rwa [add_block] at this | exact this) GW187.out)) | (show (Addr.add _ _).block ≠ _; rw [add_block]; exact Nat.ne_of_lt (Nat.lt_of_lt_of_le (by have := World.block_lt_of_cell? _ _ hw186_1; first | rwa [add_block] at this | exact this) GW187.out)) | (dsimp only; exact Nat.ne_of_lt (Nat.lt_of_lt_of_le (by have := World.block_lt_of_cell? _ _ hw186_1; first | rwa [add_block] at this | exact this) GW187.out))) _).trans (((cell_far (p := ⟨gb187, _, none⟩) (by first | exact Nat.ne_of_lt (Nat.lt_of_lt_of_le (by have := World.block_lt_of_cell? _ _ hw186_1; first | rwa [add_block] at this | exact this) GW187.out) | (rw [add_block]; exact Nat.ne_of_lt (Nat.lt_of_lt_of_le (by have := World.block_lt_of_cell? _ _ hw186_1; first | rwa [add_block] at this | exact this) GW187.out)) | (show (Addr.add _ _).block ≠ _; rw [add_block]; exact Nat.ne_of_lt (Nat.lt_of_lt_of_le (by have := World.block_lt_of_cell? _ _ hw186_1; first | rwa [add_block] at this | exact this) GW187.out)) | (dsimp only; exact Nat.ne_of_lt (Nat.lt_of_lt_of_le (by have := World.block_lt_of_cell? _ _ hw186_1; first | rwa [add_block] at this | exact this) GW187.out))) _).trans (((cell_far (p := ⟨gb187, _, none⟩) (by first | exact Nat.ne_of_lt (Nat.lt_of_lt_of_le (by have := World.block_lt_of_cell? _ _ hw186_1; first | rwa [add_block] at this | exact this) GW187.out) | (rw [add_block]; exact Nat.ne_of_lt (Nat.lt_of_lt_of_le (by have := World.block_lt_of_cell? _ _ hw186_1; first | rwa [add_block] at this | exact this) GW187.out)) | (show (Addr.add _ _).block ≠ _; rw [add_block]; exact Nat.ne_of_lt (Nat.lt_of_lt_of_le (by have := World.block_lt_of_cell? _ _ hw186_1; first | rwa [add_block] at this | exact this) GW187.out)) | (dsimp only; exact Nat.ne_of_lt (Nat.lt_of_lt_of_le (by have := World.block_lt_of_cell? _ _ hw186_1; first | rwa [add_block] at this | exact this) GW187.out))) _).trans (hHeld.2.2.2.2.2.1)))))))), ((cell_far (p := ⟨gb187, _, none⟩) (by first | exact Nat.ne_of_lt (Nat.lt_of_lt_of_le (by have := World.block_lt_of_cell? _ _ hw186_2; first | rwa [add_block] at this | exact this) GW187.out) | (rw [add_block]; exact Nat.ne_of_lt (Nat.lt_of_lt_of_le (by have := World.block_lt_of_cell? _ _ hw186_2; first | rwa [add_block] at this | exact this) GW187.out)) | (show (Addr.add _ _).block ≠ _; rw [add_block]; exact Nat.ne_of_lt (Nat.lt_of_lt_of_le (by have := World.block_lt_of_cell? _ _ hw186_2; first | rwa [add_block] at this | exact this) GW187.out)) | (dsimp only; exact Nat.ne_of_lt (Nat.lt_of_lt_of_le (by have := World.block_lt_of_cell? _ _ hw186_2; first | rwa [add_block] at this | exact this) GW187.out))) _).trans (((cell_far (p := ⟨gb187, _, none⟩) (by first | exact Nat.ne_of_lt (Nat.lt_of_lt_of_le (by have := World.block_lt_of_cell? _ _ hw186_2; first | rwa [add_block] at this | exact this) GW187.out) | (rw [add_block]; exact Nat.ne_of_lt (Nat.lt_of_lt_of_le (by have := World.block_lt_of_cell? _ _ hw186_2; first | rwa [add_block] at this | exact this) GW187.out)) | (show (Addr.add _ _).block ≠ _; rw [add_block]; exact Nat.ne_of_lt (Nat.lt_of_lt_of_le (by have := World.block_lt_of_cell? _ _ hw186_2; first | rwa [add_block] at this | exact this) GW187.out)) | (dsimp only; exact Nat.ne_of_lt (Nat.lt_of_lt_of_le (by have := World.block_lt_of_cell? _ _ hw186_2; first | rwa [add_block] at this | exact this) GW187.out))) _).trans (((cell_far (p := ⟨gb187, _, none⟩) (by first | exact Nat.ne_of_lt (Nat.lt_of_lt_of_le (by have := World.block_lt_of_cell? _ _ hw186_2; first | rwa [add_block] at this | exact this) GW187.out) | (rw [add_block]; exact Nat.ne_of_lt (Nat.lt_of_lt_of_le (by have := World.block_lt_of_cell? _ _ hw186_2; first | rwa [add_block] at this | exact this) GW187.out)) | (show (Addr.add _ _).block ≠ _; rw [add_block]; exact Nat.ne_of_lt (Nat.lt_of_lt_of_le (by have := World.block_lt_of_cell? _ _ hw186_2; first | rwa [add_block] at this | exact this) GW187.out)) | (dsimp only; exact Nat.ne_of_lt (Nat.lt_of_lt_of_le (by have := World.block_lt_of_cell? _ _ hw186_2; first | rwa [add_block] at this | exact this) GW187.out))) _).trans (((cell_far (p := ⟨gb187, _, none⟩) (by first | exact Nat.ne_of_lt (Nat.lt_of_lt_of_le (by have := World.block_lt_of_cell? _ _ hw186_2; first | rwa [add_block] at this | exact this) GW187.out) | (rw [add_block]; exact Nat.ne_of_lt (Nat.lt_of_lt_of_le (by have := World.block_lt_of_cell? _ _ hw186_2; first | rwa [add_block] at this | exact this) GW187.out)) | (show (Addr.add _ _).block ≠ _; rw [add_block]; exact Nat.ne_of_lt (Nat.lt_of_lt_of_le (by have := World.block_lt_of_cell? _ _ hw186_2; first | rwa [add_block] at this | exact this) GW187.out)) | (dsimp only; exact Nat.ne_of_lt (Nat.lt_of_lt_of_le (by have := World.block_lt_of_cell? _ _ hw186_2; first | rwa [add_block] at this | exact this) GW187.out))) _).trans (hHeld.2.2.2.2.2.2.1)))))))), ((cell_far (p := ⟨gb187, _, none⟩) (by first | exact Nat.ne_of_lt (Nat.lt_of_lt_of_le (by have := World.block_lt_of_cell? _ _ hw186_3; first | rwa [add_block] at this | exact this) GW187.out) | (rw [add_block]; exact Nat.ne_of_lt (Nat.lt_of_lt_of_le (by have := World.block_lt_of_cell? _ _ hw186_3; first | rwa [add_block] at this | exact this) GW187.out)) | (show (Addr.add _ _).block ≠ _; rw [add_block]; exact Nat.ne_of_lt (Nat.lt_of_lt_of_le (by have := World.block_lt_of_cell? _ _ hw186_3; first | rwa [add_block] at this | exact this) GW187.out)) | (dsimp only; exact Nat.ne_of_lt (Nat.lt_of_lt_of_le (by have := World.block_lt_of_cell? _ _ hw186_3; first | rwa [add_block] at this | exact this) GW187.out))) _).trans (((cell_far (p := ⟨gb187, _, none⟩) (by first | exact Nat.ne_of_lt (Nat.lt_of_lt_of_le (by have := World.block_lt_of_cell? _ _ hw186_3; first | rwa [add_block] at this | exact this) GW187.out) | (rw [add_block]; exact Nat.ne_of_lt (Nat.lt_of_lt_of_le (by have := World.block_lt_of_cell? _ _ hw186_3; first | rwa [add_block] at this | exact this) GW187.out)) | (show (Addr.add _ _).block ≠ _; rw [add_block]; exact Nat.ne_of_lt (Nat.lt_of_lt_of_le (by have := World.block_lt_of_cell? _ _ hw186_3; first | rwa [add_block] at this | exact this) GW187.out)) | (dsimp only; exact Nat.ne_of_lt (Nat.lt_of_lt_of_le (by have := World.block_lt_of_cell? _ _ hw186_3; first | rwa [add_block] at this | exact this) GW187.out))) _).trans (((cell_far (p := ⟨gb187, _, none⟩) (by first | exact Nat.ne_of_lt (Nat.lt_of_lt_of_le (by have := World.block_lt_of_cell? _ _ hw186_3; first | rwa [add_block] at this | exact this) GW187.out) | (rw [add_block]; exact Nat.ne_of_lt (Nat.lt_of_lt_of_le (by have := World.block_lt_of_cell? _ _ hw186_3; first | rwa [add_block] at this | exact this) GW187.out)) | (show (Addr.add _ _).block ≠ _; rw [add_block]; exact Nat.ne_of_lt (Nat.lt_of_lt_of_le (by have := World.block_lt_of_cell? _ _ hw186_3; first | rwa [add_block] at this | exact this) GW187.out)) | (dsimp only; exact Nat.ne_of_lt (Nat.lt_of_lt_of_le (by have := World.block_lt_of_cell? _ _ hw186_3; first | rwa [add_block] at this | exact this) GW187.out))) _).trans (((cell_far (p := ⟨gb187, _, none⟩) (by first | exact Nat.ne_of_lt (Nat.lt_of_lt_of_le (by have := World.block_lt_of_cell? _ _ hw186_3; first | rwa [add_block] at this | exact this) GW187.out) | (rw [add_block]; exact Nat.ne_of_lt (Nat.lt_of_lt_of_le (by have := World.block_lt_of_cell? _ _ hw186_3; first | rwa [add_block] at this | exact this) GW187.out)) | (show (Addr.add _ _).block ≠ _; rw [add_block]; exact Nat.ne_of_lt (Nat.lt_of_lt_of_le (by have := World.block_lt_of_cell? _ _ hw186_3; first | rwa [add_block] at this | exact this) GW187.out)) | (dsimp only; exact Nat.ne_of_lt (Nat.lt_of_lt_of_le (by have := World.block_lt_of_cell? _ _ hw186_3; first | rwa [add_block] at this | exact this) GW187.out))) _).trans (hHeld.2.2.2.2.2.2.2))))))))⟩ (fun hHeld => ?_)
           clear hK K
           refine done_ (done_of HT_.out (by kernel_rfl)) ?_
           go_upto_region 12 with (fail)
           go_cut [78] (fun v78 wc => ∃ (kq : Nat) (x78_35 : Bool), v78 = .bool x78_35 ∧ Aside0 (impl_GoodRing.j2 kq (l0_0.length : Int) x4_2 x5_2 x78_35 l0_0 a0_1 a0_2 a0_3 ((rd_T26 l0_0 (ji33)).f0) ((rd_T26 l0_0 (ji33)).f1) ((rd_T26 l0_0 (ji33)).f2) ((rd_T26 l0_0 (ji33)).f3) = some r) ∧ Aside0 (kq ≤ k2) ∧ Aside0 (wc.heap[gb177]? = some (.cells #[(.slice (some ad186) l0_0.length c0_0), .int .i64 a0_1, .int .i64 a0_2, .int .i64 a0_3] 36 (0, 0))) ∧ Aside0 (wc.heap[gb187]? = some (.cells #[.int .i64 ((rd_T26 l0_0 (ji33)).f0), .int .i64 ((rd_T26 l0_0 (ji33)).f1), .string ((rd_T26 l0_0 (ji33)).f2), .int .i64 ((rd_T26 l0_0 (ji33)).f3)] 26 (0, 0))) ∧ Aside0 (Below w.heap.size w wc))
           case first =>
            have H := HC36.out
            clear HC36
            by_cases c44 : x5_2 < a0_3
            ·
             rw [if_pos c44] at H
             have c44b0 : decide (x5_2 < a0_3) = true := decide_eq_true c44
             clear c44
             (first | rw [c44b0] | (simp only [i64_w, i32_w]; rw [c44b0]) | (simp only [c44b2, Bool.not_false, Bool.not_true]) | skip)
             replace H := Option.bind_eq_some_iff.mp H
             obtain ⟨⟨t188, t189, t190, t191⟩, A450, H⟩ := H
             replace H : (impl_GoodRing.j2 k2 (l0_0.length : Int) x4_2 x5_2 (((rd_T26 l0_0 (ji33)).f0) == t188 && (((rd_T26 l0_0 (ji33)).f1) == t189 && ((((rd_T26 l0_0 (ji33)).f2).toList) == t190.toList && (((rd_T26 l0_0 (ji33)).f3) == t191)))) l0_0 a0_1 a0_2 a0_3 ((rd_T26 l0_0 (ji33)).f0) ((rd_T26 l0_0 (ji33)).f1) ((rd_T26 l0_0 (ji33)).f2) ((rd_T26 l0_0 (ji33)).f3)) = some r := H
             have A45 := Aside0.mk A450
             clear A450
             have H' := Aside0.mk H
             clear H
             try go_wp2
             have n0_ : Aside0 (((((w39.setCell ⟨gb187, 0, none⟩ (.int .i64 ((rd_T26 l0_0 (ji33)).f0))).setCell ⟨gb187, 1, none⟩ (.int .i64 ((rd_T26 l0_0 (ji33)).f1))).setCell ⟨gb187, 2, none⟩ (.string ((rd_T26 l0_0 (ji33)).f2))).setCell ⟨gb187, 3, none⟩ (.int .i64 ((rd_T26 l0_0 (ji33)).f3))).heap[gb177]? = some (.cells #[.slice (some ad186) l0_0.length c0_0, .int .i64 a0_1, .int .i64 a0_2, .int .i64 a0_3] 36 (0, 0))) := ⟨bf BK177 NB177_187⟩
             have n1_ : Aside0 (((((w39.setCell ⟨gb187, 0, none⟩ (.int .i64 ((rd_T26 l0_0 (ji33)).f0))).setCell ⟨gb187, 1, none⟩ (.int .i64 ((rd_T26 l0_0 (ji33)).f1))).setCell ⟨gb187, 2, none⟩ (.string ((rd_T26 l0_0 (ji33)).f2))).setCell ⟨gb187, 3, none⟩ (.int .i64 ((rd_T26 l0_0 (ji33)).f3))).heap[gb187]? = some (.cells #[.int .i64 ((rd_T26 l0_0 (ji33)).f0), .int .i64 ((rd_T26 l0_0 (ji33)).f1), .string ((rd_T26 l0_0 (ji33)).f2), .int .i64 ((rd_T26 l0_0 (ji33)).f3)] 26 (0, 0))) := ⟨by (with_reducible repeat (first | refine blk_drewN ?_ _ | refine blk_drew ?_ | refine blk_alloc ?_ _)); refine blk_put (cs := #[.int .i64 ((rd_T26 l0_0 (ji33)).f0), .int .i64 ((rd_T26 l0_0 (ji33)).f1), .string ((rd_T26 l0_0 (ji33)).f2), .int .i64 0]) ?_ 3 _ rfl; (with_reducible repeat (first | refine blk_drewN ?_ _ | refine blk_drew ?_ | refine blk_alloc ?_ _)); refine blk_put (cs := #[.int .i64 ((rd_T26 l0_0 (ji33)).f0), .int .i64 ((rd_T26 l0_0 (ji33)).f1), .string (⟨#[]⟩ : ByteArray), .int .i64 0]) ?_ 2 _ rfl; (with_reducible repeat (first | refine blk_drewN ?_ _ | refine blk_drew ?_ | refine blk_alloc ?_ _)); refine blk_put (cs := #[.int .i64 ((rd_T26 l0_0 (ji33)).f0), .int .i64 0, .string (⟨#[]⟩ : ByteArray), .int .i64 0]) ?_ 1 _ rfl; (with_reducible repeat (first | refine blk_drewN ?_ _ | refine blk_drew ?_ | refine blk_alloc ?_ _)); refine blk_put (cs := #[.int .i64 0, .int .i64 0, .string (⟨#[]⟩ : ByteArray), .int .i64 0]) ?_ 0 _ rfl; (with_reducible repeat (first | refine blk_drewN ?_ _ | refine blk_drew ?_ | refine blk_alloc ?_ _)); exact BK187.out⟩
             have n2_ : Aside0 (Below w.heap.size w ((((w39.setCell ⟨gb187, 0, none⟩ (.int .i64 ((rd_T26 l0_0 (ji33)).f0))).setCell ⟨gb187, 1, none⟩ (.int .i64 ((rd_T26 l0_0 (ji33)).f1))).setCell ⟨gb187, 2, none⟩ (.string ((rd_T26 l0_0 (ji33)).f2))).setCell ⟨gb187, 3, none⟩ (.int .i64 ((rd_T26 l0_0 (ji33)).f3)))) := ⟨bs2 HB GE177 GE187⟩
             (try clear BK177)
             (try clear BK187)
             (try clear HB)
             generalize ((((w39.setCell ⟨gb187, 0, none⟩ (.int .i64 ((rd_T26 l0_0 (ji33)).f0))).setCell ⟨gb187, 1, none⟩ (.int .i64 ((rd_T26 l0_0 (ji33)).f1))).setCell ⟨gb187, 2, none⟩ (.string ((rd_T26 l0_0 (ji33)).f2))).setCell ⟨gb187, 3, none⟩ (.int .i64 ((rd_T26 l0_0 (ji33)).f3))) = w46 at n0_ n1_ n2_ ⊢
             have BK177 := n0_
             have BK187 := n1_
             have HB := n2_
             clear n0_ n1_ n2_
             have n0_ := Aside0.mk (blk_drew BK177.out)
             have n1_ := Aside0.mk (blk_drew BK187.out)
             have n2_ := Aside0.mk (below_drew1 HB.out)
             clear BK177
             clear BK187
             clear HB
             have BK177 := n0_
             have BK187 := n1_
             have HB := n2_
             clear n0_ n1_ n2_
             refine start_ (n := 9) (S := fun w' => w'.cell? ⟨gb177, 0, none⟩ = some (.slice (some ad186) l0_0.length c0_0) ∧ w'.cell? ⟨gb177, 1, none⟩ = some (.int .i64 a0_1) ∧ w'.cell? ⟨gb177, 2, none⟩ = some (.int .i64 a0_2) ∧ w'.cell? ⟨gb177, 3, none⟩ = some (.int .i64 a0_3) ∧ w'.cell? ⟨gb187, 0, none⟩ = some (.int .i64 ((rd_T26 l0_0 (ji33)).f0)) ∧ w'.cell? ⟨gb187, 1, none⟩ = some (.int .i64 ((rd_T26 l0_0 (ji33)).f1)) ∧ w'.cell? ⟨gb187, 2, none⟩ = some (.string ((rd_T26 l0_0 (ji33)).f2)) ∧ w'.cell? ⟨gb187, 3, none⟩ = some (.int .i64 ((rd_T26 l0_0 (ji33)).f3))) (ds := []) #[false, false, false, false, false, false, false, false, false] (by kernel_rfl) rfl rfl ⟨(blk_cell BK177.out 0).trans rfl, (blk_cell BK177.out 1).trans rfl, (blk_cell BK177.out 2).trans rfl, (blk_cell BK177.out 3).trans rfl, (blk_cell BK187.out 0).trans rfl, (blk_cell BK187.out 1).trans rfl, (blk_cell BK187.out 2).trans rfl, (blk_cell BK187.out 3).trans rfl⟩ (fun hHeld => ?_); refine with_tabW impl_GoodRing.tab12 impl_GoodRing.bits12 (fun HT_ HW_ => ?_)
             generalize w46.drew = w47 at BK177 BK187 HB hHeld ⊢
             refine pureS 0 70 HT_.out ?_
             refine pureS 1 71 HT_.out ?_
             refine takeS 2 72 HT_.out HW_.out hHeld (hr := by rintro w' ⟨s0, s1, s2, s3, s4, s5, s6, s7⟩; go_simp; with_reducible rfl) (h := ?_)
             refine pureS 3 73 HT_.out ?_
             refine pureS 4 74 HT_.out ?_
             refine takeS 5 75 HT_.out HW_.out hHeld (hr := by rintro w' ⟨s0, s1, s2, s3, s4, s5, s6, s7⟩; go_simp; with_reducible rfl) (h := ?_)
             refine one_ (i := 6) (N := some 76) #[true, true, true, true, true, true, true, false, false] rfl rfl (one_of HT_.out (by kernel_rfl)) (by decide) (fun K hK => ?_)
             refine goes_ Tryd.func59 (by kernel_rfl) rfl #[] (by rfl) rfl rfl (by (try simp only [List.map_toArray, List.map_cons, List.map_nil]); first | done | rfl | (simp only [List.length_drop, List.length_take]; rfl)) ?_
             with_reducible refine (impl_zeroSlot.calls k2  t188 t189 t190 t191 _ ?sideT A45.out).mono ?_
             case sideT => refine ⟨Ito.tabB hTab_.out ?_⟩; first | exact bs HB | exact st_below | (repeat (first | (with_reducible first | exact HB.out | apply below_alloc | apply pw_below_drewN | apply below_drew1 | refine below_set ?_ (Aside0.out (by assumption))) | exact HB.out))
             rintro e w48 ⟨rfl, hb⟩
             refine ⟨_, rfl, ?_⟩
             have n0_ := Aside0.mk (bb BK177 hb)
             have n1_ := Aside0.mk (bb BK187 hb)
             have n2_ := Aside0.mk (below_step (bs2 HB GE177 GE187) hb)
             clear BK177
             clear BK187
             clear HB
             have BK177 := n0_
             have BK187 := n1_
             have HB := n2_
             clear n0_ n1_ n2_
             (try clear hb)
             (try clear hb2)
             (try clear hk)
             (try clear hi)
             refine hK.out _ _ ⟨(blk_cell BK177.out 0).trans rfl, (blk_cell BK177.out 1).trans rfl, (blk_cell BK177.out 2).trans rfl, (blk_cell BK177.out 3).trans rfl, (blk_cell BK187.out 0).trans rfl, (blk_cell BK187.out 1).trans rfl, (blk_cell BK187.out 2).trans rfl, (blk_cell BK187.out 3).trans rfl⟩ (fun hHeld => ?_)
             clear hK K
             refine norm_ (a' := ?_) ?_ ?_
             rotate_left
             ·
              show Act.put _ (some 76) _ = _
              simp only [Act.put, List.setIfInBounds_toArray, List.set_cons_zero, List.set_cons_succ, i64_w, i32_w]
              rfl
             refine pureS 7 77 HT_.out ?_
             refine pureS 8 78 HT_.out ?_
             refine done_ (done_of HT_.out (by kernel_rfl)) ?_
             try go_wp2
             go_meet
             case rel => exact ⟨_, ((((rd_T26 l0_0 (ji33)).f0) == t188 && (((rd_T26 l0_0 (ji33)).f1) == t189 && ((((rd_T26 l0_0 (ji33)).f2).toList) == t190.toList && (((rd_T26 l0_0 (ji33)).f3) == t191))))), (by first | rfl | (simp; done) | (simp only [← hji33] <;> (first | rfl | simp)) | (simp [*]; done)), H', ⟨by have := HJ1.out; have := HK2.out; first | omega | exact Nat.le_refl _⟩, ⟨bk BK177⟩, ⟨bk BK187⟩, ⟨bs2 HB GE177 GE187⟩⟩
            ·
             rw [if_neg c44] at H
             have c44b0 : decide (x5_2 < a0_3) = false := decide_eq_false c44
             clear c44
             (first | rw [c44b0] | (simp only [i64_w, i32_w]; rw [c44b0]) | (simp only [c44b2, Bool.not_false, Bool.not_true]) | skip)
             have H' := Aside0.mk H
             clear H
             try go_wp2
             have n0_ : Aside0 (((((w39.setCell ⟨gb187, 0, none⟩ (.int .i64 ((rd_T26 l0_0 (ji33)).f0))).setCell ⟨gb187, 1, none⟩ (.int .i64 ((rd_T26 l0_0 (ji33)).f1))).setCell ⟨gb187, 2, none⟩ (.string ((rd_T26 l0_0 (ji33)).f2))).setCell ⟨gb187, 3, none⟩ (.int .i64 ((rd_T26 l0_0 (ji33)).f3))).heap[gb177]? = some (.cells #[.slice (some ad186) l0_0.length c0_0, .int .i64 a0_1, .int .i64 a0_2, .int .i64 a0_3] 36 (0, 0))) := ⟨bf BK177 NB177_187⟩
             have n1_ : Aside0 (((((w39.setCell ⟨gb187, 0, none⟩ (.int .i64 ((rd_T26 l0_0 (ji33)).f0))).setCell ⟨gb187, 1, none⟩ (.int .i64 ((rd_T26 l0_0 (ji33)).f1))).setCell ⟨gb187, 2, none⟩ (.string ((rd_T26 l0_0 (ji33)).f2))).setCell ⟨gb187, 3, none⟩ (.int .i64 ((rd_T26 l0_0 (ji33)).f3))).heap[gb187]? = some (.cells #[.int .i64 ((rd_T26 l0_0 (ji33)).f0), .int .i64 ((rd_T26 l0_0 (ji33)).f1), .string ((rd_T26 l0_0 (ji33)).f2), .int .i64 ((rd_T26 l0_0 (ji33)).f3)] 26 (0, 0))) := ⟨by (with_reducible repeat (first | refine blk_drewN ?_ _ | refine blk_drew ?_ | refine blk_alloc ?_ _)); refine blk_put (cs := #[.int .i64 ((rd_T26 l0_0 (ji33)).f0), .int .i64 ((rd_T26 l0_0 (ji33)).f1), .string ((rd_T26 l0_0 (ji33)).f2), .int .i64 0]) ?_ 3 _ rfl; (with_reducible repeat (first | refine blk_drewN ?_ _ | refine blk_drew ?_ | refine blk_alloc ?_ _)); refine blk_put (cs := #[.int .i64 ((rd_T26 l0_0 (ji33)).f0), .int .i64 ((rd_T26 l0_0 (ji33)).f1), .string (⟨#[]⟩ : ByteArray), .int .i64 0]) ?_ 2 _ rfl; (with_reducible repeat (first | refine blk_drewN ?_ _ | refine blk_drew ?_ | refine blk_alloc ?_ _)); refine blk_put (cs := #[.int .i64 ((rd_T26 l0_0 (ji33)).f0), .int .i64 0, .string (⟨#[]⟩ : ByteArray), .int .i64 0]) ?_ 1 _ rfl; (with_reducible repeat (first | refine blk_drewN ?_ _ | refine blk_drew ?_ | refine blk_alloc ?_ _)); refine blk_put (cs := #[.int .i64 0, .int .i64 0, .string (⟨#[]⟩ : ByteArray), .int .i64 0]) ?_ 0 _ rfl; (with_reducible repeat (first | refine blk_drewN ?_ _ | refine blk_drew ?_ | refine blk_alloc ?_ _)); exact BK187.out⟩
             have n2_ : Aside0 (Below w.heap.size w ((((w39.setCell ⟨gb187, 0, none⟩ (.int .i64 ((rd_T26 l0_0 (ji33)).f0))).setCell ⟨gb187, 1, none⟩ (.int .i64 ((rd_T26 l0_0 (ji33)).f1))).setCell ⟨gb187, 2, none⟩ (.string ((rd_T26 l0_0 (ji33)).f2))).setCell ⟨gb187, 3, none⟩ (.int .i64 ((rd_T26 l0_0 (ji33)).f3)))) := ⟨bs2 HB GE177 GE187⟩
             (try clear BK177)
             (try clear BK187)
             (try clear HB)
             generalize ((((w39.setCell ⟨gb187, 0, none⟩ (.int .i64 ((rd_T26 l0_0 (ji33)).f0))).setCell ⟨gb187, 1, none⟩ (.int .i64 ((rd_T26 l0_0 (ji33)).f1))).setCell ⟨gb187, 2, none⟩ (.string ((rd_T26 l0_0 (ji33)).f2))).setCell ⟨gb187, 3, none⟩ (.int .i64 ((rd_T26 l0_0 (ji33)).f3))) = w49 at n0_ n1_ n2_ ⊢
             have BK177 := n0_
             have BK187 := n1_
             have HB := n2_
             clear n0_ n1_ n2_
             have n0_ := Aside0.mk (blk_drew BK177.out)
             have n1_ := Aside0.mk (blk_drew BK187.out)
             have n2_ := Aside0.mk (below_drew1 HB.out)
             clear BK177
             clear BK187
             clear HB
             have BK177 := n0_
             have BK187 := n1_
             have HB := n2_
             clear n0_ n1_ n2_
             refine start_ (n := 9) (S := fun w' => w'.cell? ⟨gb177, 0, none⟩ = some (.slice (some ad186) l0_0.length c0_0) ∧ w'.cell? ⟨gb177, 1, none⟩ = some (.int .i64 a0_1) ∧ w'.cell? ⟨gb177, 2, none⟩ = some (.int .i64 a0_2) ∧ w'.cell? ⟨gb177, 3, none⟩ = some (.int .i64 a0_3)) (ds := []) #[false, false, false, false, false, false, false, false, false] (by kernel_rfl) rfl rfl ⟨(blk_cell BK177.out 0).trans rfl, (blk_cell BK177.out 1).trans rfl, (blk_cell BK177.out 2).trans rfl, (blk_cell BK177.out 3).trans rfl⟩ (fun hHeld => ?_); refine with_tabW impl_GoodRing.tab12 impl_GoodRing.bits12 (fun HT_ HW_ => ?_)
             generalize w49.drew = w50 at BK177 BK187 HB hHeld ⊢
             refine pureS 0 70 HT_.out ?_
             refine pureS 1 71 HT_.out ?_
             refine takeS 2 72 HT_.out HW_.out hHeld (hr := by rintro w' ⟨s0, s1, s2, s3⟩; go_simp; with_reducible rfl) (h := ?_)
             refine pureS 3 73 HT_.out ?_
             refine pureS 4 74 HT_.out ?_
             refine pureU 5 75 HT_.out ?_
             refine pureU 6 76 HT_.out ?_
             refine pureU 7 77 HT_.out ?_
             refine pureS 8 78 HT_.out ?_
             refine done_ (done_of HT_.out (by kernel_rfl)) ?_
             try go_wp2
             go_meet
             case rel => exact ⟨_, (false), (by first | rfl | (simp; done) | (simp [*]; done)), H', ⟨by have := HJ1.out; have := HK2.out; first | omega | exact Nat.le_refl _⟩, ⟨bk BK177⟩, ⟨bk BK187⟩, ⟨bs2 HB GE177 GE187⟩⟩
           case rest =>
            clear HC36
            try clear p1
            try clear q1
            try clear hx1
            try clear c2
            try clear p2
            try clear c3
            try clear c4
            try clear c5
            try clear p6
            try clear p18
            try clear q18
            try clear hx18
            try clear c20
            try clear c20b0
            try clear c22
            try clear c23
            try clear c25
            try clear c25b0
            try clear c32
            try clear c32b0
            try clear c32b1
            try clear c32b2
            try clear c34
            try clear c34b0
            try clear c35
            try clear c35b0
            try clear c44
            try clear c44b0
            try clear hcz29_0 hcz29_1 hcz29_2 hcz29_3
            try clear hcz37_0 hcz37_1 hcz37_2 hcz37_3
            try clear hfz29_0 hfz29_1 hfz29_2 hfz29_3
            try clear hfz37_0 hfz37_1 hfz37_2 hfz37_3
            try clear hx181_0
            try clear hx181_1
            try clear hx181_2
            try clear hx181_3
            try clear hx186_0
            try clear hx186_1
            try clear hx186_2
            try clear hx186_3
            try clear p181
            try clear p186
            try clear q181
            try clear q186
            obtain ⟨kq, x78_35, rfl, HA, HJ35, BK177, BK187, HB⟩ := hcut
            cases kq with
            | zero => exact absurd HA.out (by simp [impl_GoodRing.j2])
            | succ kj35 =>
             have H := HA.out
             clear HA
             simp only [impl_GoodRing.j2] at H
             by_cases c51 : x78_35 = true
             ·
              subst c51
              rw [if_pos rfl] at H
              have H' := Aside0.mk H
              clear H
              go_wp2
              go_roundg kj35
              case measure => have := HJ1.out; have := HK2.out; have := HJ35.out; omega
              case rel => exact ⟨(x4_2), (wrap64 (x5_2 + 1)), (by first | rfl | (simp; done) | (simp [*]; done)), (by first | rfl | (simp; done) | (simp [*]; done)), H', ⟨by have := HJ1.out; have := HK2.out; have := HJ35.out; omega⟩, ⟨bk BK177⟩, ⟨bs2 HB GE177 GE187⟩⟩
             ·
              replace c51 := Bool.eq_false_iff.mpr c51
              subst c51
              rw [if_neg (show ¬ (false = true) by decide)] at H
              replace H := Option.bind_eq_some_iff.mp H
              obtain ⟨t192, A520, H⟩ := H
              replace H : (if t192 = true then (if (l0_0.length : Int) = 0 then (none) else (if ((rd_T26 l0_0 (ji33)).f0) = (wrap64 ((wrap64 (Int.tdiv x5_2 (l0_0.length : Int))) + 1)) then (if ((rd_T26 l0_0 (ji33)).f1) > x5_2 then (some false) else (if ((rd_T26 l0_0 (ji33)).f1) > a0_3 then (some false) else (if ((rd_T26 l0_0 (ji33)).f1) < x4_2 then (some false) else (impl_GoodRing.l0 kj35 (l0_0.length : Int) ((rd_T26 l0_0 (ji33)).f1) (wrap64 (x5_2 + 1)) l0_0 a0_1 a0_2 a0_3)))) else (some false))) else (some false)) = some r := H
              have A52 := Aside0.mk A520
              clear A520
              by_cases c53 : t192 = true
              ·
               subst c53
               rw [if_pos rfl] at H
               by_cases c54 : (l0_0.length : Int) = 0
               ·
                rw [if_pos c54] at H
                exact absurd H (by simp)
               ·
                rw [if_neg c54] at H
                have c54b0 : ((l0_0.length : Int) == 0) = false := beq_eq_false_iff_ne.mpr c54
                have c54b1 : ((l0_0.length : Int) != 0) = true := bne_iff_ne.mpr c54
                have c54b2 : ¬ (l0_0 = []) := fun h_ => c54 (by rw [h_]; rfl)
                by_cases c55 : ((rd_T26 l0_0 (ji33)).f0) = (wrap64 ((wrap64 (Int.tdiv x5_2 (l0_0.length : Int))) + 1))
                ·
                 rw [if_pos c55] at H
                 have c55b0 : (((rd_T26 l0_0 (ji33)).f0) == (wrap64 ((wrap64 (Int.tdiv x5_2 (l0_0.length : Int))) + 1))) = true := beq_iff_eq.mpr c55
                 have c55b1 : (((rd_T26 l0_0 (ji33)).f0) != (wrap64 ((wrap64 (Int.tdiv x5_2 (l0_0.length : Int))) + 1))) = false := bne_eq_false_iff_eq.mpr c55
                 clear c55
                 by_cases c56 : ((rd_T26 l0_0 (ji33)).f1) > x5_2
                 ·
                  rw [if_pos c56] at H
                  have c56b0 : decide (x5_2 < ((rd_T26 l0_0 (ji33)).f1)) = true := decide_eq_true c56
                  clear c56
                  obtain rfl := Option.some.inj H
                  try go_wp2
                  have n0_ := Aside0.mk (blk_drew BK177.out)
                  have n1_ := Aside0.mk (blk_drew BK187.out)
                  have n2_ := Aside0.mk (below_drew1 HB.out)
                  clear BK177
                  clear BK187
                  clear HB
                  have BK177 := n0_
                  have BK187 := n1_
                  have HB := n2_
                  clear n0_ n1_ n2_
                  refine start_ (n := 31) (S := fun w' => w'.cell? ⟨gb187, 0, none⟩ = some (.int .i64 ((rd_T26 l0_0 (ji33)).f0)) ∧ w'.cell? ⟨gb187, 1, none⟩ = some (.int .i64 ((rd_T26 l0_0 (ji33)).f1)) ∧ w'.cell? ⟨gb187, 2, none⟩ = some (.string ((rd_T26 l0_0 (ji33)).f2)) ∧ w'.cell? ⟨gb187, 3, none⟩ = some (.int .i64 ((rd_T26 l0_0 (ji33)).f3))) (ds := []) #[false, false, false, false, false, false, false, false, false, false, false, false, false, false, false, false, false, false, false, false, false, false, false, false, false, false, false, false, false, false, false] (by kernel_rfl) rfl rfl ⟨(blk_cell BK187.out 0).trans rfl, (blk_cell BK187.out 1).trans rfl, (blk_cell BK187.out 2).trans rfl, (blk_cell BK187.out 3).trans rfl⟩ (fun hHeld => ?_); refine with_tabW impl_GoodRing.tab13 impl_GoodRing.bits13 (fun HT_ HW_ => ?_)
                  generalize wc.drew = w57 at BK177 BK187 HB hHeld ⊢
                  refine takeS 0 79 HT_.out HW_.out hHeld (hr := by rintro w' ⟨s0, s1, s2, s3⟩; go_simp; with_reducible rfl) (h := ?_)
                  refine one_ (i := 1) (N := some 80) #[true, true, false, false, false, false, false, false, false, false, false, false, false, false, false, false, false, false, false, false, false, false, false, false, false, false, false, false, false, false, false] rfl rfl (one_of HT_.out (by kernel_rfl)) (by decide) (fun K hK => ?_)
                  refine goes_ Tryd.func60 (by kernel_rfl) rfl #[.agg #[.int .i64 ((rd_T26 l0_0 (ji33)).f0), .int .i64 ((rd_T26 l0_0 (ji33)).f1), .string ((rd_T26 l0_0 (ji33)).f2), .int .i64 ((rd_T26 l0_0 (ji33)).f3)]] (by rfl) rfl rfl (by (try simp only [List.map_toArray, List.map_cons, List.map_nil]); first | done | (simp only [hji33]; rfl) | rfl | (simp only [List.length_drop, List.length_take]; rfl)) ?_
                  with_reducible refine (impl_isIntact.calls kj35 ((rd_T26 l0_0 (ji33)).f0) ((rd_T26 l0_0 (ji33)).f1) ((rd_T26 l0_0 (ji33)).f2) ((rd_T26 l0_0 (ji33)).f3) true _ ?sideT A52.out).mono ?_
                  case sideT => refine ⟨Ito.tabB hTab_.out ?_⟩; first | exact bs HB | exact st_below | (repeat (first | (with_reducible first | exact HB.out | apply below_alloc | apply pw_below_drewN | apply below_drew1 | refine below_set ?_ (Aside0.out (by assumption))) | exact HB.out))
                  rintro e w58 ⟨rfl, hb⟩
                  refine ⟨_, rfl, ?_⟩
                  have n0_ := Aside0.mk (bb BK177 hb)
                  have n1_ := Aside0.mk (bb BK187 hb)
                  have n2_ := Aside0.mk (below_step (bs2 HB GE177 GE187) hb)
                  clear BK177
                  clear BK187
                  clear HB
                  have BK177 := n0_
                  have BK187 := n1_
                  have HB := n2_
                  clear n0_ n1_ n2_
                  (try clear hb)
                  (try clear hb2)
                  (try clear hk)
                  (try clear hi)
                  refine hK.out _ _ ⟨(blk_cell BK187.out 0).trans rfl, (blk_cell BK187.out 1).trans rfl, (blk_cell BK187.out 2).trans rfl, (blk_cell BK187.out 3).trans rfl⟩ (fun hHeld => ?_)
                  clear hK K
                  refine norm_ (a' := ?_) ?_ ?_
                  rotate_left
                  ·
                   show Act.put _ (some 80) _ = _
                   simp only [Act.put, List.setIfInBounds_toArray, List.set_cons_zero, List.set_cons_succ, i64_w, i32_w]
                   rfl
                  refine pureS 2 81 HT_.out ?_
                  refine pureS 3 82 HT_.out ?_
                  refine pureS 4 83 HT_.out ?_
                  refine pureS 6 85 HT_.out ?_
                  refine pureS 7 86 HT_.out ?_
                  refine pureS 8 87 HT_.out ?_
                  refine pureS 9 88 HT_.out ?_
                  refine takeS 5 84 HT_.out HW_.out hHeld (hr := by rintro w' ⟨s0, s1, s2, s3⟩; go_simp; with_reducible rfl) (h := ?_)
                  refine pureS 10 89 HT_.out ?_
                  refine pureS 11 90 HT_.out ?_
                  refine pureS 12 91 HT_.out ?_
                  refine pureS 13 92 HT_.out ?_
                  refine pureS 15 94 HT_.out ?_
                  refine takeS 14 93 HT_.out HW_.out hHeld (hr := by rintro w' ⟨s0, s1, s2, s3⟩; go_simp; with_reducible rfl) (h := ?_)
                  refine pureS 16 95 HT_.out ?_
                  refine pureS 17 96 HT_.out ?_
                  refine pureS 18 97 HT_.out ?_
                  refine pureU 19 98 HT_.out ?_
                  refine pureU 20 99 HT_.out ?_
                  refine pureU 21 100 HT_.out ?_
                  refine pureU 22 101 HT_.out ?_
                  refine pureU 23 102 HT_.out ?_
                  refine pureS 24 103 HT_.out ?_
                  refine pureS 25 104 HT_.out ?_
                  refine pureU 26 105 HT_.out ?_
                  refine pureU 27 106 HT_.out ?_
                  refine pureU 28 107 HT_.out ?_
                  refine pureU 29 108 HT_.out ?_
                  refine pureS 30 109 HT_.out ?_
                  refine done_ (done_of HT_.out (by kernel_rfl)) ?_
                  try go_wp2
                  go_ret
                  exact ⟨by first | rfl | (simp [errW_none, errW_some] <;> rfl) | (simp only [← hji33]; first | rfl | (simp [errW_none, errW_some] <;> rfl)) | (simp [*, errW_none, errW_some] <;> rfl), bs2 HB GE177 GE187⟩
                 ·
                  rw [if_neg c56] at H
                  have c56b0 : decide (x5_2 < ((rd_T26 l0_0 (ji33)).f1)) = false := decide_eq_false c56
                  clear c56
                  by_cases c59 : ((rd_T26 l0_0 (ji33)).f1) > a0_3
                  ·
                   rw [if_pos c59] at H
                   have c59b0 : decide (a0_3 < ((rd_T26 l0_0 (ji33)).f1)) = true := decide_eq_true c59
                   clear c59
                   obtain rfl := Option.some.inj H
                   try go_wp2
                   have n0_ := Aside0.mk (blk_drew BK177.out)
                   have n1_ := Aside0.mk (blk_drew BK187.out)
                   have n2_ := Aside0.mk (below_drew1 HB.out)
                   clear BK177
                   clear BK187
                   clear HB
                   have BK177 := n0_
                   have BK187 := n1_
                   have HB := n2_
                   clear n0_ n1_ n2_
                   refine start_ (n := 31) (S := fun w' => w'.cell? ⟨gb187, 0, none⟩ = some (.int .i64 ((rd_T26 l0_0 (ji33)).f0)) ∧ w'.cell? ⟨gb187, 1, none⟩ = some (.int .i64 ((rd_T26 l0_0 (ji33)).f1)) ∧ w'.cell? ⟨gb187, 2, none⟩ = some (.string ((rd_T26 l0_0 (ji33)).f2)) ∧ w'.cell? ⟨gb187, 3, none⟩ = some (.int .i64 ((rd_T26 l0_0 (ji33)).f3)) ∧ w'.cell? ⟨gb177, 0, none⟩ = some (.slice (some ad186) l0_0.length c0_0) ∧ w'.cell? ⟨gb177, 1, none⟩ = some (.int .i64 a0_1) ∧ w'.cell? ⟨gb177, 2, none⟩ = some (.int .i64 a0_2) ∧ w'.cell? ⟨gb177, 3, none⟩ = some (.int .i64 a0_3)) (ds := []) #[false, false, false, false, false, false, false, false, false, false, false, false, false, false, false, false, false, false, false, false, false, false, false, false, false, false, false, false, false, false, false] (by kernel_rfl) rfl rfl ⟨(blk_cell BK187.out 0).trans rfl, (blk_cell BK187.out 1).trans rfl, (blk_cell BK187.out 2).trans rfl, (blk_cell BK187.out 3).trans rfl, (blk_cell BK177.out 0).trans rfl, (blk_cell BK177.out 1).trans rfl, (blk_cell BK177.out 2).trans rfl, (blk_cell BK177.out 3).trans rfl⟩ (fun hHeld => ?_); refine with_tabW impl_GoodRing.tab13 impl_GoodRing.bits13 (fun HT_ HW_ => ?_)
                   generalize wc.drew = w60 at BK177 BK187 HB hHeld ⊢
                   refine takeS 0 79 HT_.out HW_.out hHeld (hr := by rintro w' ⟨s0, s1, s2, s3, s4, s5, s6, s7⟩; go_simp; with_reducible rfl) (h := ?_)
                   refine one_ (i := 1) (N := some 80) #[true, true, false, false, false, false, false, false, false, false, false, false, false, false, false, false, false, false, false, false, false, false, false, false, false, false, false, false, false, false, false] rfl rfl (one_of HT_.out (by kernel_rfl)) (by decide) (fun K hK => ?_)
                   refine goes_ Tryd.func60 (by kernel_rfl) rfl #[.agg #[.int .i64 ((rd_T26 l0_0 (ji33)).f0), .int .i64 ((rd_T26 l0_0 (ji33)).f1), .string ((rd_T26 l0_0 (ji33)).f2), .int .i64 ((rd_T26 l0_0 (ji33)).f3)]] (by rfl) rfl rfl (by (try simp only [List.map_toArray, List.map_cons, List.map_nil]); first | done | (simp only [hji33]; rfl) | rfl | (simp only [List.length_drop, List.length_take]; rfl)) ?_
                   with_reducible refine (impl_isIntact.calls kj35 ((rd_T26 l0_0 (ji33)).f0) ((rd_T26 l0_0 (ji33)).f1) ((rd_T26 l0_0 (ji33)).f2) ((rd_T26 l0_0 (ji33)).f3) true _ ?sideT A52.out).mono ?_
                   case sideT => refine ⟨Ito.tabB hTab_.out ?_⟩; first | exact bs HB | exact st_below | (repeat (first | (with_reducible first | exact HB.out | apply below_alloc | apply pw_below_drewN | apply below_drew1 | refine below_set ?_ (Aside0.out (by assumption))) | exact HB.out))
                   rintro e w61 ⟨rfl, hb⟩
                   refine ⟨_, rfl, ?_⟩
                   have n0_ := Aside0.mk (bb BK177 hb)
                   have n1_ := Aside0.mk (bb BK187 hb)
                   have n2_ := Aside0.mk (below_step (bs2 HB GE177 GE187) hb)
                   clear BK177
                   clear BK187
                   clear HB
                   have BK177 := n0_
                   have BK187 := n1_
                   have HB := n2_
                   clear n0_ n1_ n2_
                   (try clear hb)
                   (try clear hb2)
                   (try clear hk)
                   (try clear hi)
                   refine hK.out _ _ ⟨(blk_cell BK187.out 0).trans rfl, (blk_cell BK187.out 1).trans rfl, (blk_cell BK187.out 2).trans rfl, (blk_cell BK187.out 3).trans rfl, (blk_cell BK177.out 0).trans rfl, (blk_cell BK177.out 1).trans rfl, (blk_cell BK177.out 2).trans rfl, (blk_cell BK177.out 3).trans rfl⟩ (fun hHeld => ?_)
                   clear hK K
                   refine norm_ (a' := ?_) ?_ ?_
                   rotate_left
                   ·
                    show Act.put _ (some 80) _ = _
                    simp only [Act.put, List.setIfInBounds_toArray, List.set_cons_zero, List.set_cons_succ, i64_w, i32_w]
                    rfl
                   refine pureS 2 81 HT_.out ?_
                   refine pureS 3 82 HT_.out ?_
                   refine pureS 4 83 HT_.out ?_
                   refine pureS 6 85 HT_.out ?_
                   refine pureS 7 86 HT_.out ?_
                   refine pureS 8 87 HT_.out ?_
                   refine pureS 9 88 HT_.out ?_
                   refine takeS 5 84 HT_.out HW_.out hHeld (hr := by rintro w' ⟨s0, s1, s2, s3, s4, s5, s6, s7⟩; go_simp; with_reducible rfl) (h := ?_)
                   refine pureS 10 89 HT_.out ?_
                   refine pureS 11 90 HT_.out ?_
                   refine pureS 12 91 HT_.out ?_
                   refine pureS 13 92 HT_.out ?_
                   refine pureS 15 94 HT_.out ?_
                   refine takeS 14 93 HT_.out HW_.out hHeld (hr := by rintro w' ⟨s0, s1, s2, s3, s4, s5, s6, s7⟩; go_simp; with_reducible rfl) (h := ?_)
                   refine pureS 16 95 HT_.out ?_
                   refine pureS 17 96 HT_.out ?_
                   refine pureS 18 97 HT_.out ?_
                   refine pureS 19 98 HT_.out ?_
                   refine pureS 21 100 HT_.out ?_
                   refine takeS 20 99 HT_.out HW_.out hHeld (hr := by rintro w' ⟨s0, s1, s2, s3, s4, s5, s6, s7⟩; go_simp; with_reducible rfl) (h := ?_)
                   refine takeS 22 101 HT_.out HW_.out hHeld (hr := by rintro w' ⟨s0, s1, s2, s3, s4, s5, s6, s7⟩; go_simp; with_reducible rfl) (h := ?_)
                   refine pureS 23 102 HT_.out ?_
                   refine pureS 24 103 HT_.out ?_
                   refine pureS 25 104 HT_.out ?_
                   refine pureU 26 105 HT_.out ?_
                   refine pureU 27 106 HT_.out ?_
                   refine pureU 28 107 HT_.out ?_
                   refine pureU 29 108 HT_.out ?_
                   refine pureS 30 109 HT_.out ?_
                   refine done_ (done_of HT_.out (by kernel_rfl)) ?_
                   try go_wp2
                   go_ret
                   exact ⟨by first | rfl | (simp [errW_none, errW_some] <;> rfl) | (simp only [← hji33]; first | rfl | (simp [errW_none, errW_some] <;> rfl)) | (simp [*, errW_none, errW_some] <;> rfl), bs2 HB GE177 GE187⟩
                  ·
                   rw [if_neg c59] at H
                   have c59b0 : decide (a0_3 < ((rd_T26 l0_0 (ji33)).f1)) = false := decide_eq_false c59
                   clear c59
                   by_cases c62 : ((rd_T26 l0_0 (ji33)).f1) < x4_2
                   ·
                    rw [if_pos c62] at H
                    have c62b0 : decide (((rd_T26 l0_0 (ji33)).f1) < x4_2) = true := decide_eq_true c62
                    clear c62
                    obtain rfl := Option.some.inj H
                    try go_wp2
                    have n0_ := Aside0.mk (blk_drew BK177.out)
                    have n1_ := Aside0.mk (blk_drew BK187.out)
                    have n2_ := Aside0.mk (below_drew1 HB.out)
                    clear BK177
                    clear BK187
                    clear HB
                    have BK177 := n0_
                    have BK187 := n1_
                    have HB := n2_
                    clear n0_ n1_ n2_
                    refine start_ (n := 31) (S := fun w' => w'.cell? ⟨gb187, 0, none⟩ = some (.int .i64 ((rd_T26 l0_0 (ji33)).f0)) ∧ w'.cell? ⟨gb187, 1, none⟩ = some (.int .i64 ((rd_T26 l0_0 (ji33)).f1)) ∧ w'.cell? ⟨gb187, 2, none⟩ = some (.string ((rd_T26 l0_0 (ji33)).f2)) ∧ w'.cell? ⟨gb187, 3, none⟩ = some (.int .i64 ((rd_T26 l0_0 (ji33)).f3)) ∧ w'.cell? ⟨gb177, 0, none⟩ = some (.slice (some ad186) l0_0.length c0_0) ∧ w'.cell? ⟨gb177, 1, none⟩ = some (.int .i64 a0_1) ∧ w'.cell? ⟨gb177, 2, none⟩ = some (.int .i64 a0_2) ∧ w'.cell? ⟨gb177, 3, none⟩ = some (.int .i64 a0_3)) (ds := []) #[false, false, false, false, false, false, false, false, false, false, false, false, false, false, false, false, false, false, false, false, false, false, false, false, false, false, false, false, false, false, false] (by kernel_rfl) rfl rfl ⟨(blk_cell BK187.out 0).trans rfl, (blk_cell BK187.out 1).trans rfl, (blk_cell BK187.out 2).trans rfl, (blk_cell BK187.out 3).trans rfl, (blk_cell BK177.out 0).trans rfl, (blk_cell BK177.out 1).trans rfl, (blk_cell BK177.out 2).trans rfl, (blk_cell BK177.out 3).trans rfl⟩ (fun hHeld => ?_); refine with_tabW impl_GoodRing.tab13 impl_GoodRing.bits13 (fun HT_ HW_ => ?_)
                    generalize wc.drew = w63 at BK177 BK187 HB hHeld ⊢
                    refine takeS 0 79 HT_.out HW_.out hHeld (hr := by rintro w' ⟨s0, s1, s2, s3, s4, s5, s6, s7⟩; go_simp; with_reducible rfl) (h := ?_)
                    refine one_ (i := 1) (N := some 80) #[true, true, false, false, false, false, false, false, false, false, false, false, false, false, false, false, false, false, false, false, false, false, false, false, false, false, false, false, false, false, false] rfl rfl (one_of HT_.out (by kernel_rfl)) (by decide) (fun K hK => ?_)
                    refine goes_ Tryd.func60 (by kernel_rfl) rfl #[.agg #[.int .i64 ((rd_T26 l0_0 (ji33)).f0), .int .i64 ((rd_T26 l0_0 (ji33)).f1), .string ((rd_T26 l0_0 (ji33)).f2), .int .i64 ((rd_T26 l0_0 (ji33)).f3)]] (by rfl) rfl rfl (by (try simp only [List.map_toArray, List.map_cons, List.map_nil]); first | done | (simp only [hji33]; rfl) | rfl | (simp only [List.length_drop, List.length_take]; rfl)) ?_
                    with_reducible refine (impl_isIntact.calls kj35 ((rd_T26 l0_0 (ji33)).f0) ((rd_T26 l0_0 (ji33)).f1) ((rd_T26 l0_0 (ji33)).f2) ((rd_T26 l0_0 (ji33)).f3) true _ ?sideT A52.out).mono ?_
                    case sideT => refine ⟨Ito.tabB hTab_.out ?_⟩; first | exact bs HB | exact st_below | (repeat (first | (with_reducible first | exact HB.out | apply below_alloc | apply pw_below_drewN | apply below_drew1 | refine below_set ?_ (Aside0.out (by assumption))) | exact HB.out))
                    rintro e w64 ⟨rfl, hb⟩
                    refine ⟨_, rfl, ?_⟩
                    have n0_ := Aside0.mk (bb BK177 hb)
                    have n1_ := Aside0.mk (bb BK187 hb)
                    have n2_ := Aside0.mk (below_step (bs2 HB GE177 GE187) hb)
                    clear BK177
                    clear BK187
                    clear HB
                    have BK177 := n0_
                    have BK187 := n1_
                    have HB := n2_
                    clear n0_ n1_ n2_
                    (try clear hb)
                    (try clear hb2)
                    (try clear hk)
                    (try clear hi)
                    refine hK.out _ _ ⟨(blk_cell BK187.out 0).trans rfl, (blk_cell BK187.out 1).trans rfl, (blk_cell BK187.out 2).trans rfl, (blk_cell BK187.out 3).trans rfl, (blk_cell BK177.out 0).trans rfl, (blk_cell BK177.out 1).trans rfl, (blk_cell BK177.out 2).trans rfl, (blk_cell BK177.out 3).trans rfl⟩ (fun hHeld => ?_)
                    clear hK K
                    refine norm_ (a' := ?_) ?_ ?_
                    rotate_left
                    ·
                     show Act.put _ (some 80) _ = _
                     simp only [Act.put, List.setIfInBounds_toArray, List.set_cons_zero, List.set_cons_succ, i64_w, i32_w]
                     rfl
                    refine pureS 2 81 HT_.out ?_
                    refine pureS 3 82 HT_.out ?_
                    refine pureS 4 83 HT_.out ?_
                    refine pureS 6 85 HT_.out ?_
                    refine pureS 7 86 HT_.out ?_
                    refine pureS 8 87 HT_.out ?_
                    refine pureS 9 88 HT_.out ?_
                    refine takeS 5 84 HT_.out HW_.out hHeld (hr := by rintro w' ⟨s0, s1, s2, s3, s4, s5, s6, s7⟩; go_simp; with_reducible rfl) (h := ?_)
                    refine pureS 10 89 HT_.out ?_
                    refine pureS 11 90 HT_.out ?_
                    refine pureS 12 91 HT_.out ?_
                    refine pureS 13 92 HT_.out ?_
                    refine pureS 15 94 HT_.out ?_
                    refine takeS 14 93 HT_.out HW_.out hHeld (hr := by rintro w' ⟨s0, s1, s2, s3, s4, s5, s6, s7⟩; go_simp; with_reducible rfl) (h := ?_)
                    refine pureS 16 95 HT_.out ?_
                    refine pureS 17 96 HT_.out ?_
                    refine pureS 18 97 HT_.out ?_
                    refine pureS 19 98 HT_.out ?_
                    refine pureS 21 100 HT_.out ?_
                    refine takeS 20 99 HT_.out HW_.out hHeld (hr := by rintro w' ⟨s0, s1, s2, s3, s4, s5, s6, s7⟩; go_simp; with_reducible rfl) (h := ?_)
                    refine takeS 22 101 HT_.out HW_.out hHeld (hr := by rintro w' ⟨s0, s1, s2, s3, s4, s5, s6, s7⟩; go_simp; with_reducible rfl) (h := ?_)
                    refine pureS 23 102 HT_.out ?_
                    refine pureS 24 103 HT_.out ?_
                    refine pureS 25 104 HT_.out ?_
                    refine pureS 26 105 HT_.out ?_
                    refine pureS 28 107 HT_.out ?_
                    refine takeS 27 106 HT_.out HW_.out hHeld (hr := by rintro w' ⟨s0, s1, s2, s3, s4, s5, s6, s7⟩; go_simp; with_reducible rfl) (h := ?_)
                    refine pureS 29 108 HT_.out ?_
                    refine pureS 30 109 HT_.out ?_
                    refine done_ (done_of HT_.out (by kernel_rfl)) ?_
                    try go_wp2
                    go_ret
                    exact ⟨by first | rfl | (simp [errW_none, errW_some] <;> rfl) | (simp only [← hji33]; first | rfl | (simp [errW_none, errW_some] <;> rfl)) | (simp [*, errW_none, errW_some] <;> rfl), bs2 HB GE177 GE187⟩
                   ·
                    rw [if_neg c62] at H
                    have c62b0 : decide (((rd_T26 l0_0 (ji33)).f1) < x4_2) = false := decide_eq_false c62
                    clear c62
                    have H' := Aside0.mk H
                    clear H
                    try go_wp2
                    have n0_ := Aside0.mk (blk_drew BK177.out)
                    have n1_ := Aside0.mk (blk_drew BK187.out)
                    have n2_ := Aside0.mk (below_drew1 HB.out)
                    clear BK177
                    clear BK187
                    clear HB
                    have BK177 := n0_
                    have BK187 := n1_
                    have HB := n2_
                    clear n0_ n1_ n2_
                    refine start_ (n := 31) (S := fun w' => w'.cell? ⟨gb187, 0, none⟩ = some (.int .i64 ((rd_T26 l0_0 (ji33)).f0)) ∧ w'.cell? ⟨gb187, 1, none⟩ = some (.int .i64 ((rd_T26 l0_0 (ji33)).f1)) ∧ w'.cell? ⟨gb187, 2, none⟩ = some (.string ((rd_T26 l0_0 (ji33)).f2)) ∧ w'.cell? ⟨gb187, 3, none⟩ = some (.int .i64 ((rd_T26 l0_0 (ji33)).f3)) ∧ w'.cell? ⟨gb177, 0, none⟩ = some (.slice (some ad186) l0_0.length c0_0) ∧ w'.cell? ⟨gb177, 1, none⟩ = some (.int .i64 a0_1) ∧ w'.cell? ⟨gb177, 2, none⟩ = some (.int .i64 a0_2) ∧ w'.cell? ⟨gb177, 3, none⟩ = some (.int .i64 a0_3)) (ds := []) #[false, false, false, false, false, false, false, false, false, false, false, false, false, false, false, false, false, false, false, false, false, false, false, false, false, false, false, false, false, false, false] (by kernel_rfl) rfl rfl ⟨(blk_cell BK187.out 0).trans rfl, (blk_cell BK187.out 1).trans rfl, (blk_cell BK187.out 2).trans rfl, (blk_cell BK187.out 3).trans rfl, (blk_cell BK177.out 0).trans rfl, (blk_cell BK177.out 1).trans rfl, (blk_cell BK177.out 2).trans rfl, (blk_cell BK177.out 3).trans rfl⟩ (fun hHeld => ?_); refine with_tabW impl_GoodRing.tab13 impl_GoodRing.bits13 (fun HT_ HW_ => ?_)
                    generalize wc.drew = w65 at BK177 BK187 HB hHeld ⊢
                    refine takeS 0 79 HT_.out HW_.out hHeld (hr := by rintro w' ⟨s0, s1, s2, s3, s4, s5, s6, s7⟩; go_simp; with_reducible rfl) (h := ?_)
                    refine one_ (i := 1) (N := some 80) #[true, true, false, false, false, false, false, false, false, false, false, false, false, false, false, false, false, false, false, false, false, false, false, false, false, false, false, false, false, false, false] rfl rfl (one_of HT_.out (by kernel_rfl)) (by decide) (fun K hK => ?_)
                    refine goes_ Tryd.func60 (by kernel_rfl) rfl #[.agg #[.int .i64 ((rd_T26 l0_0 (ji33)).f0), .int .i64 ((rd_T26 l0_0 (ji33)).f1), .string ((rd_T26 l0_0 (ji33)).f2), .int .i64 ((rd_T26 l0_0 (ji33)).f3)]] (by rfl) rfl rfl (by (try simp only [List.map_toArray, List.map_cons, List.map_nil]); first | done | (simp only [hji33]; rfl) | rfl | (simp only [List.length_drop, List.length_take]; rfl)) ?_
                    with_reducible refine (impl_isIntact.calls kj35 ((rd_T26 l0_0 (ji33)).f0) ((rd_T26 l0_0 (ji33)).f1) ((rd_T26 l0_0 (ji33)).f2) ((rd_T26 l0_0 (ji33)).f3) true _ ?sideT A52.out).mono ?_
                    case sideT => refine ⟨Ito.tabB hTab_.out ?_⟩; first | exact bs HB | exact st_below | (repeat (first | (with_reducible first | exact HB.out | apply below_alloc | apply pw_below_drewN | apply below_drew1 | refine below_set ?_ (Aside0.out (by assumption))) | exact HB.out))
                    rintro e w66 ⟨rfl, hb⟩
                    refine ⟨_, rfl, ?_⟩
                    have n0_ := Aside0.mk (bb BK177 hb)
                    have n1_ := Aside0.mk (bb BK187 hb)
                    have n2_ := Aside0.mk (below_step (bs2 HB GE177 GE187) hb)
                    clear BK177
                    clear BK187
                    clear HB
                    have BK177 := n0_
                    have BK187 := n1_
                    have HB := n2_
                    clear n0_ n1_ n2_
                    (try clear hb)
                    (try clear hb2)
                    (try clear hk)
                    (try clear hi)
                    refine hK.out _ _ ⟨(blk_cell BK187.out 0).trans rfl, (blk_cell BK187.out 1).trans rfl, (blk_cell BK187.out 2).trans rfl, (blk_cell BK187.out 3).trans rfl, (blk_cell BK177.out 0).trans rfl, (blk_cell BK177.out 1).trans rfl, (blk_cell BK177.out 2).trans rfl, (blk_cell BK177.out 3).trans rfl⟩ (fun hHeld => ?_)
                    clear hK K
                    refine norm_ (a' := ?_) ?_ ?_
                    rotate_left
                    ·
                     show Act.put _ (some 80) _ = _
                     simp only [Act.put, List.setIfInBounds_toArray, List.set_cons_zero, List.set_cons_succ, i64_w, i32_w]
                     rfl
                    refine pureS 2 81 HT_.out ?_
                    refine pureS 3 82 HT_.out ?_
                    refine pureS 4 83 HT_.out ?_
                    refine pureS 6 85 HT_.out ?_
                    refine pureS 7 86 HT_.out ?_
                    refine pureS 8 87 HT_.out ?_
                    refine pureS 9 88 HT_.out ?_
                    refine takeS 5 84 HT_.out HW_.out hHeld (hr := by rintro w' ⟨s0, s1, s2, s3, s4, s5, s6, s7⟩; go_simp; with_reducible rfl) (h := ?_)
                    refine pureS 10 89 HT_.out ?_
                    refine pureS 11 90 HT_.out ?_
                    refine pureS 12 91 HT_.out ?_
                    refine pureS 13 92 HT_.out ?_
                    refine pureS 15 94 HT_.out ?_
                    refine takeS 14 93 HT_.out HW_.out hHeld (hr := by rintro w' ⟨s0, s1, s2, s3, s4, s5, s6, s7⟩; go_simp; with_reducible rfl) (h := ?_)
                    refine pureS 16 95 HT_.out ?_
                    refine pureS 17 96 HT_.out ?_
                    refine pureS 18 97 HT_.out ?_
                    refine pureS 19 98 HT_.out ?_
                    refine pureS 21 100 HT_.out ?_
                    refine takeS 20 99 HT_.out HW_.out hHeld (hr := by rintro w' ⟨s0, s1, s2, s3, s4, s5, s6, s7⟩; go_simp; with_reducible rfl) (h := ?_)
                    refine takeS 22 101 HT_.out HW_.out hHeld (hr := by rintro w' ⟨s0, s1, s2, s3, s4, s5, s6, s7⟩; go_simp; with_reducible rfl) (h := ?_)
                    refine pureS 23 102 HT_.out ?_
                    refine pureS 24 103 HT_.out ?_
                    refine pureS 25 104 HT_.out ?_
                    refine pureS 26 105 HT_.out ?_
                    refine pureS 28 107 HT_.out ?_
                    refine takeS 27 106 HT_.out HW_.out hHeld (hr := by rintro w' ⟨s0, s1, s2, s3, s4, s5, s6, s7⟩; go_simp; with_reducible rfl) (h := ?_)
                    refine pureS 29 108 HT_.out ?_
                    refine pureS 30 109 HT_.out ?_
                    refine done_ (done_of HT_.out (by kernel_rfl)) ?_
                    have hnb67 := NB187_177.out
                    have hnc67 := NB177_187.out
                    obtain ⟨hcz68_0, hcz68_1, hcz68_2, hcz68_3⟩ := cz4 BK187
                    obtain ⟨hfz68_0, hfz68_1, hfz68_2, hfz68_3⟩ := fz4 BK187
                    try go_wp2
                    go_roundg kj35
                    case measure => have := HJ1.out; have := HK2.out; have := HJ35.out; omega
                    case rel => exact ⟨(((rd_T26 l0_0 (ji33)).f1)), (wrap64 (x5_2 + 1)), (by first | rfl | (simp; done) | (simp only [← hji33] <;> (first | rfl | simp)) | (simp [*]; done)), (by first | rfl | (simp; done) | (simp [*]; done)), H', ⟨by have := HJ1.out; have := HK2.out; have := HJ35.out; omega⟩, ⟨bk BK177⟩, ⟨bs2 HB GE177 GE187⟩⟩
                ·
                 rw [if_neg c55] at H
                 have c55b0 : (((rd_T26 l0_0 (ji33)).f0) == (wrap64 ((wrap64 (Int.tdiv x5_2 (l0_0.length : Int))) + 1))) = false := beq_eq_false_iff_ne.mpr c55
                 have c55b1 : (((rd_T26 l0_0 (ji33)).f0) != (wrap64 ((wrap64 (Int.tdiv x5_2 (l0_0.length : Int))) + 1))) = true := bne_iff_ne.mpr c55
                 obtain rfl := Option.some.inj H
                 try go_wp2
                 have n0_ := Aside0.mk (blk_drew BK177.out)
                 have n1_ := Aside0.mk (blk_drew BK187.out)
                 have n2_ := Aside0.mk (below_drew1 HB.out)
                 clear BK177
                 clear BK187
                 clear HB
                 have BK177 := n0_
                 have BK187 := n1_
                 have HB := n2_
                 clear n0_ n1_ n2_
                 refine start_ (n := 31) (S := fun w' => w'.cell? ⟨gb187, 0, none⟩ = some (.int .i64 ((rd_T26 l0_0 (ji33)).f0)) ∧ w'.cell? ⟨gb187, 1, none⟩ = some (.int .i64 ((rd_T26 l0_0 (ji33)).f1)) ∧ w'.cell? ⟨gb187, 2, none⟩ = some (.string ((rd_T26 l0_0 (ji33)).f2)) ∧ w'.cell? ⟨gb187, 3, none⟩ = some (.int .i64 ((rd_T26 l0_0 (ji33)).f3))) (ds := []) #[false, false, false, false, false, false, false, false, false, false, false, false, false, false, false, false, false, false, false, false, false, false, false, false, false, false, false, false, false, false, false] (by kernel_rfl) rfl rfl ⟨(blk_cell BK187.out 0).trans rfl, (blk_cell BK187.out 1).trans rfl, (blk_cell BK187.out 2).trans rfl, (blk_cell BK187.out 3).trans rfl⟩ (fun hHeld => ?_); refine with_tabW impl_GoodRing.tab13 impl_GoodRing.bits13 (fun HT_ HW_ => ?_)
                 generalize wc.drew = w69 at BK177 BK187 HB hHeld ⊢
                 refine takeS 0 79 HT_.out HW_.out hHeld (hr := by rintro w' ⟨s0, s1, s2, s3⟩; go_simp; with_reducible rfl) (h := ?_)
                 refine one_ (i := 1) (N := some 80) #[true, true, false, false, false, false, false, false, false, false, false, false, false, false, false, false, false, false, false, false, false, false, false, false, false, false, false, false, false, false, false] rfl rfl (one_of HT_.out (by kernel_rfl)) (by decide) (fun K hK => ?_)
                 refine goes_ Tryd.func60 (by kernel_rfl) rfl #[.agg #[.int .i64 ((rd_T26 l0_0 (ji33)).f0), .int .i64 ((rd_T26 l0_0 (ji33)).f1), .string ((rd_T26 l0_0 (ji33)).f2), .int .i64 ((rd_T26 l0_0 (ji33)).f3)]] (by rfl) rfl rfl (by (try simp only [List.map_toArray, List.map_cons, List.map_nil]); first | done | (simp only [hji33]; rfl) | rfl | (simp only [List.length_drop, List.length_take]; rfl)) ?_
                 with_reducible refine (impl_isIntact.calls kj35 ((rd_T26 l0_0 (ji33)).f0) ((rd_T26 l0_0 (ji33)).f1) ((rd_T26 l0_0 (ji33)).f2) ((rd_T26 l0_0 (ji33)).f3) true _ ?sideT A52.out).mono ?_
                 case sideT => refine ⟨Ito.tabB hTab_.out ?_⟩; first | exact bs HB | exact st_below | (repeat (first | (with_reducible first | exact HB.out | apply below_alloc | apply pw_below_drewN | apply below_drew1 | refine below_set ?_ (Aside0.out (by assumption))) | exact HB.out))
                 rintro e w70 ⟨rfl, hb⟩
                 refine ⟨_, rfl, ?_⟩
                 have n0_ := Aside0.mk (bb BK177 hb)
                 have n1_ := Aside0.mk (bb BK187 hb)
                 have n2_ := Aside0.mk (below_step (bs2 HB GE177 GE187) hb)
                 clear BK177
                 clear BK187
                 clear HB
                 have BK177 := n0_
                 have BK187 := n1_
                 have HB := n2_
                 clear n0_ n1_ n2_
                 (try clear hb)
                 (try clear hb2)
                 (try clear hk)
                 (try clear hi)
                 refine hK.out _ _ ⟨(blk_cell BK187.out 0).trans rfl, (blk_cell BK187.out 1).trans rfl, (blk_cell BK187.out 2).trans rfl, (blk_cell BK187.out 3).trans rfl⟩ (fun hHeld => ?_)
                 clear hK K
                 refine norm_ (a' := ?_) ?_ ?_
                 rotate_left
                 ·
                  show Act.put _ (some 80) _ = _
                  simp only [Act.put, List.setIfInBounds_toArray, List.set_cons_zero, List.set_cons_succ, i64_w, i32_w]
                  rfl
                 refine pureS 2 81 HT_.out ?_
                 refine pureS 3 82 HT_.out ?_
                 refine pureS 4 83 HT_.out ?_
                 refine pureS 6 85 HT_.out ?_
                 refine pureS 7 86 HT_.out ?_
                 refine pureS 8 87 HT_.out ?_
                 refine pureS 9 88 HT_.out ?_
                 refine takeS 5 84 HT_.out HW_.out hHeld (hr := by rintro w' ⟨s0, s1, s2, s3⟩; go_simp; with_reducible rfl) (h := ?_)
                 refine pureS 10 89 HT_.out ?_
                 refine pureS 11 90 HT_.out ?_
                 refine pureS 12 91 HT_.out ?_
                 refine pureU 13 92 HT_.out ?_
                 refine pureU 14 93 HT_.out ?_
                 refine pureU 15 94 HT_.out ?_
                 refine pureU 16 95 HT_.out ?_
                 refine pureS 17 96 HT_.out ?_
                 refine pureS 18 97 HT_.out ?_
                 refine pureU 19 98 HT_.out ?_
                 refine pureU 20 99 HT_.out ?_
                 refine pureU 21 100 HT_.out ?_
                 refine pureU 22 101 HT_.out ?_
                 refine pureU 23 102 HT_.out ?_
                 refine pureS 24 103 HT_.out ?_
                 refine pureS 25 104 HT_.out ?_
                 refine pureU 26 105 HT_.out ?_
                 refine pureU 27 106 HT_.out ?_
                 refine pureU 28 107 HT_.out ?_
                 refine pureU 29 108 HT_.out ?_
                 refine pureS 30 109 HT_.out ?_
                 refine done_ (done_of HT_.out (by kernel_rfl)) ?_
                 try go_wp2
                 go_ret
                 exact ⟨by first | rfl | (simp [errW_none, errW_some] <;> rfl) | (simp only [← hji33]; first | rfl | (simp [errW_none, errW_some] <;> rfl)) | (simp [*, errW_none, errW_some] <;> rfl), bs2 HB GE177 GE187⟩
              ·
               replace c53 := Bool.eq_false_iff.mpr c53
               subst c53
               rw [if_neg (show ¬ (false = true) by decide)] at H
               obtain rfl := Option.some.inj H
               try go_wp2
               have n0_ := Aside0.mk (blk_drew BK177.out)
               have n1_ := Aside0.mk (blk_drew BK187.out)
               have n2_ := Aside0.mk (below_drew1 HB.out)
               clear BK177
               clear BK187
               clear HB
               have BK177 := n0_
               have BK187 := n1_
               have HB := n2_
               clear n0_ n1_ n2_
               refine start_ (n := 31) (S := fun w' => w'.cell? ⟨gb187, 0, none⟩ = some (.int .i64 ((rd_T26 l0_0 (ji33)).f0)) ∧ w'.cell? ⟨gb187, 1, none⟩ = some (.int .i64 ((rd_T26 l0_0 (ji33)).f1)) ∧ w'.cell? ⟨gb187, 2, none⟩ = some (.string ((rd_T26 l0_0 (ji33)).f2)) ∧ w'.cell? ⟨gb187, 3, none⟩ = some (.int .i64 ((rd_T26 l0_0 (ji33)).f3))) (ds := []) #[false, false, false, false, false, false, false, false, false, false, false, false, false, false, false, false, false, false, false, false, false, false, false, false, false, false, false, false, false, false, false] (by kernel_rfl) rfl rfl ⟨(blk_cell BK187.out 0).trans rfl, (blk_cell BK187.out 1).trans rfl, (blk_cell BK187.out 2).trans rfl, (blk_cell BK187.out 3).trans rfl⟩ (fun hHeld => ?_); refine with_tabW impl_GoodRing.tab13 impl_GoodRing.bits13 (fun HT_ HW_ => ?_)
               generalize wc.drew = w71 at BK177 BK187 HB hHeld ⊢
               refine takeS 0 79 HT_.out HW_.out hHeld (hr := by rintro w' ⟨s0, s1, s2, s3⟩; go_simp; with_reducible rfl) (h := ?_)
               refine one_ (i := 1) (N := some 80) #[true, true, false, false, false, false, false, false, false, false, false, false, false, false, false, false, false, false, false, false, false, false, false, false, false, false, false, false, false, false, false] rfl rfl (one_of HT_.out (by kernel_rfl)) (by decide) (fun K hK => ?_)
               refine goes_ Tryd.func60 (by kernel_rfl) rfl #[.agg #[.int .i64 ((rd_T26 l0_0 (ji33)).f0), .int .i64 ((rd_T26 l0_0 (ji33)).f1), .string ((rd_T26 l0_0 (ji33)).f2), .int .i64 ((rd_T26 l0_0 (ji33)).f3)]] (by rfl) rfl rfl (by (try simp only [List.map_toArray, List.map_cons, List.map_nil]); first | done | (simp only [hji33]; rfl) | rfl | (simp only [List.length_drop, List.length_take]; rfl)) ?_
               with_reducible refine (impl_isIntact.calls kj35 ((rd_T26 l0_0 (ji33)).f0) ((rd_T26 l0_0 (ji33)).f1) ((rd_T26 l0_0 (ji33)).f2) ((rd_T26 l0_0 (ji33)).f3) false _ ?sideT A52.out).mono ?_
               case sideT => refine ⟨Ito.tabB hTab_.out ?_⟩; first | exact bs HB | exact st_below | (repeat (first | (with_reducible first | exact HB.out | apply below_alloc | apply pw_below_drewN | apply below_drew1 | refine below_set ?_ (Aside0.out (by assumption))) | exact HB.out))
               rintro e w72 ⟨rfl, hb⟩
               refine ⟨_, rfl, ?_⟩
               have n0_ := Aside0.mk (bb BK177 hb)
               have n1_ := Aside0.mk (bb BK187 hb)
               have n2_ := Aside0.mk (below_step (bs2 HB GE177 GE187) hb)
               clear BK177
               clear BK187
               clear HB
               have BK177 := n0_
               have BK187 := n1_
               have HB := n2_
               clear n0_ n1_ n2_
               (try clear hb)
               (try clear hb2)
               (try clear hk)
               (try clear hi)
               refine hK.out _ _ ⟨(blk_cell BK187.out 0).trans rfl, (blk_cell BK187.out 1).trans rfl, (blk_cell BK187.out 2).trans rfl, (blk_cell BK187.out 3).trans rfl⟩ (fun hHeld => ?_)
               clear hK K
               refine norm_ (a' := ?_) ?_ ?_
               rotate_left
               ·
                show Act.put _ (some 80) _ = _
                simp only [Act.put, List.setIfInBounds_toArray, List.set_cons_zero, List.set_cons_succ, i64_w, i32_w]
                rfl
               refine pureS 2 81 HT_.out ?_
               refine pureS 3 82 HT_.out ?_
               refine pureU 4 83 HT_.out ?_
               refine pureU 5 84 HT_.out ?_
               refine pureU 6 85 HT_.out ?_
               refine pureU 7 86 HT_.out ?_
               refine pureU 8 87 HT_.out ?_
               refine pureU 9 88 HT_.out ?_
               refine pureU 10 89 HT_.out ?_
               refine pureS 11 90 HT_.out ?_
               refine pureS 12 91 HT_.out ?_
               refine pureU 13 92 HT_.out ?_
               refine pureU 14 93 HT_.out ?_
               refine pureU 15 94 HT_.out ?_
               refine pureU 16 95 HT_.out ?_
               refine pureS 17 96 HT_.out ?_
               refine pureS 18 97 HT_.out ?_
               refine pureU 19 98 HT_.out ?_
               refine pureU 20 99 HT_.out ?_
               refine pureU 21 100 HT_.out ?_
               refine pureU 22 101 HT_.out ?_
               refine pureU 23 102 HT_.out ?_
               refine pureS 24 103 HT_.out ?_
               refine pureS 25 104 HT_.out ?_
               refine pureU 26 105 HT_.out ?_
               refine pureU 27 106 HT_.out ?_
               refine pureU 28 107 HT_.out ?_
               refine pureU 29 108 HT_.out ?_
               refine pureS 30 109 HT_.out ?_
               refine done_ (done_of HT_.out (by kernel_rfl)) ?_
               try go_wp2
               go_ret
               exact ⟨by first | rfl | (simp [errW_none, errW_some] <;> rfl) | (simp only [← hji33]; first | rfl | (simp [errW_none, errW_some] <;> rfl)) | (simp [*, errW_none, errW_some] <;> rfl), bs2 HB GE177 GE187⟩
          ·
           rw [if_neg c35] at H
           exact absurd H (by simp)
         ·
          rw [if_neg c34] at H
          exact absurd H (by simp)
      ·
       rw [if_neg c19] at H
       have c19b0 : decide (x5_2 < a0_1) = false := decide_eq_false c19
       clear c19
       obtain rfl := Option.some.inj H
       obtain ⟨hcz73_0, hcz73_1, hcz73_2, hcz73_3⟩ := cz4 BK177
       obtain ⟨hfz73_0, hfz73_1, hfz73_2, hfz73_3⟩ := fz4 BK177
       go_wp2
       go_ret
       exact ⟨by first | rfl | (simp [errW_none, errW_some] <;> rfl) | (simp [*, errW_none, errW_some] <;> rfl), bs1 HB GE177⟩

/-! ### laws_eqSlot: function 69 -/
def laws_eqSlot.f (a0_0 : Int) (a0_1 : Int) (a0_2 : ByteArray) (a0_3 : Int) (a1_0 : Int) (a1_1 : Int) (a1_2 : ByteArray) (a1_3 : Int) : Option (Bool) := if a0_0 = a1_0 then (if a0_1 = a1_1 then (if a0_2.toList = a1_2.toList then (if a0_3 = a1_3 then (some true) else (some false)) else (some false)) else (some false)) else (some false)
set_option maxHeartbeats 8000000 in
set_option maxRecDepth 100000 in
theorem laws_eqSlot.calls (a0_0 : Int) (a0_1 : Int) (a0_2 : ByteArray) (a0_3 : Int) (a1_0 : Int) (a1_1 : Int) (a1_2 : ByteArray) (a1_3 : Int) (r : Bool) (w : World) (h : laws_eqSlot.f a0_0 a0_1 a0_2 a0_3 a1_0 a1_1 a1_2 a1_3 = some r) :
  Calls Tryd.prog 69 #[.agg #[.int .i64 a0_0, .int .i64 a0_1, .string a0_2, .int .i64 a0_3], .agg #[.int .i64 a1_0, .int .i64 a1_1, .string a1_2, .int .i64 a1_3]] w fun e w' => e = .returned (.bool r) ∧ Below w.heap.size w w' := by
 have hu26 := Tryd.underlying26
 have HB := Aside0.mk (Below.refl w.heap.size w)
 have H : (if a0_0 = a1_0 then (if a0_1 = a1_1 then (if a0_2.toList = a1_2.toList then (if a0_3 = a1_3 then (some true) else (some false)) else (some false)) else (some false)) else (some false)) = some r := h
 clear h
 by_cases c3 : a0_0 = a1_0
 ·
  rw [if_pos c3] at H
  have c3b0 : (a0_0 == a1_0) = true := beq_iff_eq.mpr c3
  have c3b1 : (a0_0 != a1_0) = false := bne_eq_false_iff_eq.mpr c3
  clear c3
  by_cases c4 : a0_1 = a1_1
  ·
   rw [if_pos c4] at H
   have c4b0 : (a0_1 == a1_1) = true := beq_iff_eq.mpr c4
   have c4b1 : (a0_1 != a1_1) = false := bne_eq_false_iff_eq.mpr c4
   clear c4
   by_cases c5 : a0_2.toList = a1_2.toList
   ·
    rw [if_pos c5] at H
    have c5b0 : (a0_2.toList == a1_2.toList) = true := beq_iff_eq.mpr c5
    have c5b1 : (a0_2.toList != a1_2.toList) = false := bne_eq_false_iff_eq.mpr c5
    clear c5
    by_cases c6 : a0_3 = a1_3
    ·
     rw [if_pos c6] at H
     have c6b0 : (a0_3 == a1_3) = true := beq_iff_eq.mpr c6
     have c6b1 : (a0_3 != a1_3) = false := bne_eq_false_iff_eq.mpr c6
     clear c6
     obtain rfl := Option.some.inj H
     go_enter Tryd.func69, Tryd.ntmps69
     go_wp2_with (first | ((with_reducible refine gate_dst (N := 2) rfl ?_); refine box_event ?hg (N := 2) ?hd (cs := #[.int .i64 a0_0, .int .i64 a0_1, .string a0_2, .int .i64 a0_3]) (t := 26) ?hr ?_; (case hd => rfl); (case hg => rfl); (case hr => first | (go_simp; done) | (go_simp; rfl)); intro gb193 hg w7 hbox hb; have BK193 := Aside0.mk (hbox); have GW193 := Aside0.mk ((by rw [hg]; exact (below_size (bs HB)) : w.heap.size ≤ gb193)); have GE193 := Aside0.mk ((by rw [hg]; exact (below_size (bs HB)) : w.heap.size ≤ gb193)); replace HB := Aside0.mk (below_step (bs HB) hb); clear hb hbox hg) | ((with_reducible refine gate_dst (N := 3) rfl ?_); refine box_event ?hg (N := 3) ?hd (cs := #[.int .i64 a1_0, .int .i64 a1_1, .string a1_2, .int .i64 a1_3]) (t := 26) ?hr ?_; (case hd => rfl); (case hg => rfl); (case hr => first | (go_simp; done) | (go_simp; rfl)); intro gb194 hg w8 hbox hb; have BK194 := Aside0.mk (hbox); have GW194 := Aside0.mk ((by rw [hg]; exact (below_size (bs1 HB GE193)) : w.heap.size ≤ gb194)); have GE194 := Aside0.mk ((by rw [hg]; exact (below_size (bs1 HB GE193)) : w.heap.size ≤ gb194)); replace HB := Aside0.mk (below_step (bs1 HB GE193) hb); have NB193_194 := Aside0.mk ((bn BK193 hg : gb193 ≠ gb194)); have NB194_193 := Aside0.mk ((bm BK193 hg : gb194 ≠ gb193)); replace BK193 := nb BK193 hb; clear hb hbox hg; have hnb9 := NB193_194.out; have hnc9 := NB194_193.out; obtain ⟨hcz10_0, hcz10_1, hcz10_2, hcz10_3⟩ := cz4 BK193; obtain ⟨hfz10_0, hfz10_1, hfz10_2, hfz10_3⟩ := fz4 BK193; obtain ⟨hcz11_0, hcz11_1, hcz11_2, hcz11_3⟩ := cz4 BK194; obtain ⟨hfz11_0, hfz11_1, hfz11_2, hfz11_3⟩ := fz4 BK194))
     go_ret
     exact ⟨by first | rfl | (simp [errW_none, errW_some] <;> rfl) | (simp [*, errW_none, errW_some] <;> rfl), bs2 HB GE193 GE194⟩
    ·
     rw [if_neg c6] at H
     have c6b0 : (a0_3 == a1_3) = false := beq_eq_false_iff_ne.mpr c6
     have c6b1 : (a0_3 != a1_3) = true := bne_iff_ne.mpr c6
     obtain rfl := Option.some.inj H
     go_enter Tryd.func69, Tryd.ntmps69
     go_wp2_with (first | ((with_reducible refine gate_dst (N := 2) rfl ?_); refine box_event ?hg (N := 2) ?hd (cs := #[.int .i64 a0_0, .int .i64 a0_1, .string a0_2, .int .i64 a0_3]) (t := 26) ?hr ?_; (case hd => rfl); (case hg => rfl); (case hr => first | (go_simp; done) | (go_simp; rfl)); intro gb193 hg w12 hbox hb; have BK193 := Aside0.mk (hbox); have GW193 := Aside0.mk ((by rw [hg]; exact (below_size (bs HB)) : w.heap.size ≤ gb193)); have GE193 := Aside0.mk ((by rw [hg]; exact (below_size (bs HB)) : w.heap.size ≤ gb193)); replace HB := Aside0.mk (below_step (bs HB) hb); clear hb hbox hg) | ((with_reducible refine gate_dst (N := 3) rfl ?_); refine box_event ?hg (N := 3) ?hd (cs := #[.int .i64 a1_0, .int .i64 a1_1, .string a1_2, .int .i64 a1_3]) (t := 26) ?hr ?_; (case hd => rfl); (case hg => rfl); (case hr => first | (go_simp; done) | (go_simp; rfl)); intro gb194 hg w13 hbox hb; have BK194 := Aside0.mk (hbox); have GW194 := Aside0.mk ((by rw [hg]; exact (below_size (bs1 HB GE193)) : w.heap.size ≤ gb194)); have GE194 := Aside0.mk ((by rw [hg]; exact (below_size (bs1 HB GE193)) : w.heap.size ≤ gb194)); replace HB := Aside0.mk (below_step (bs1 HB GE193) hb); have NB193_194 := Aside0.mk ((bn BK193 hg : gb193 ≠ gb194)); have NB194_193 := Aside0.mk ((bm BK193 hg : gb194 ≠ gb193)); replace BK193 := nb BK193 hb; clear hb hbox hg; have hnb14 := NB193_194.out; have hnc14 := NB194_193.out; obtain ⟨hcz15_0, hcz15_1, hcz15_2, hcz15_3⟩ := cz4 BK193; obtain ⟨hfz15_0, hfz15_1, hfz15_2, hfz15_3⟩ := fz4 BK193; obtain ⟨hcz16_0, hcz16_1, hcz16_2, hcz16_3⟩ := cz4 BK194; obtain ⟨hfz16_0, hfz16_1, hfz16_2, hfz16_3⟩ := fz4 BK194))
     go_ret
     exact ⟨by first | rfl | (simp [errW_none, errW_some] <;> rfl) | (simp [*, errW_none, errW_some] <;> rfl), bs2 HB GE193 GE194⟩
   ·
    rw [if_neg c5] at H
    have c5b0 : (a0_2.toList == a1_2.toList) = false := beq_eq_false_iff_ne.mpr c5
    have c5b1 : (a0_2.toList != a1_2.toList) = true := bne_iff_ne.mpr c5
    obtain rfl := Option.some.inj H
    go_enter Tryd.func69, Tryd.ntmps69
    go_wp2_with (first | ((with_reducible refine gate_dst (N := 2) rfl ?_); refine box_event ?hg (N := 2) ?hd (cs := #[.int .i64 a0_0, .int .i64 a0_1, .string a0_2, .int .i64 a0_3]) (t := 26) ?hr ?_; (case hd => rfl); (case hg => rfl); (case hr => first | (go_simp; done) | (go_simp; rfl)); intro gb193 hg w17 hbox hb; have BK193 := Aside0.mk (hbox); have GW193 := Aside0.mk ((by rw [hg]; exact (below_size (bs HB)) : w.heap.size ≤ gb193)); have GE193 := Aside0.mk ((by rw [hg]; exact (below_size (bs HB)) : w.heap.size ≤ gb193)); replace HB := Aside0.mk (below_step (bs HB) hb); clear hb hbox hg) | ((with_reducible refine gate_dst (N := 3) rfl ?_); refine box_event ?hg (N := 3) ?hd (cs := #[.int .i64 a1_0, .int .i64 a1_1, .string a1_2, .int .i64 a1_3]) (t := 26) ?hr ?_; (case hd => rfl); (case hg => rfl); (case hr => first | (go_simp; done) | (go_simp; rfl)); intro gb194 hg w18 hbox hb; have BK194 := Aside0.mk (hbox); have GW194 := Aside0.mk ((by rw [hg]; exact (below_size (bs1 HB GE193)) : w.heap.size ≤ gb194)); have GE194 := Aside0.mk ((by rw [hg]; exact (below_size (bs1 HB GE193)) : w.heap.size ≤ gb194)); replace HB := Aside0.mk (below_step (bs1 HB GE193) hb); have NB193_194 := Aside0.mk ((bn BK193 hg : gb193 ≠ gb194)); have NB194_193 := Aside0.mk ((bm BK193 hg : gb194 ≠ gb193)); replace BK193 := nb BK193 hb; clear hb hbox hg; have hnb19 := NB193_194.out; have hnc19 := NB194_193.out; obtain ⟨hcz20_0, hcz20_1, hcz20_2, hcz20_3⟩ := cz4 BK193; obtain ⟨hfz20_0, hfz20_1, hfz20_2, hfz20_3⟩ := fz4 BK193; obtain ⟨hcz21_0, hcz21_1, hcz21_2, hcz21_3⟩ := cz4 BK194; obtain ⟨hfz21_0, hfz21_1, hfz21_2, hfz21_3⟩ := fz4 BK194))
    go_ret
    exact ⟨by first | rfl | (simp [errW_none, errW_some] <;> rfl) | (simp [*, errW_none, errW_some] <;> rfl), bs2 HB GE193 GE194⟩
  ·
   rw [if_neg c4] at H
   have c4b0 : (a0_1 == a1_1) = false := beq_eq_false_iff_ne.mpr c4
   have c4b1 : (a0_1 != a1_1) = true := bne_iff_ne.mpr c4
   obtain rfl := Option.some.inj H
   go_enter Tryd.func69, Tryd.ntmps69
   go_wp2_with (first | ((with_reducible refine gate_dst (N := 2) rfl ?_); refine box_event ?hg (N := 2) ?hd (cs := #[.int .i64 a0_0, .int .i64 a0_1, .string a0_2, .int .i64 a0_3]) (t := 26) ?hr ?_; (case hd => rfl); (case hg => rfl); (case hr => first | (go_simp; done) | (go_simp; rfl)); intro gb193 hg w22 hbox hb; have BK193 := Aside0.mk (hbox); have GW193 := Aside0.mk ((by rw [hg]; exact (below_size (bs HB)) : w.heap.size ≤ gb193)); have GE193 := Aside0.mk ((by rw [hg]; exact (below_size (bs HB)) : w.heap.size ≤ gb193)); replace HB := Aside0.mk (below_step (bs HB) hb); clear hb hbox hg) | ((with_reducible refine gate_dst (N := 3) rfl ?_); refine box_event ?hg (N := 3) ?hd (cs := #[.int .i64 a1_0, .int .i64 a1_1, .string a1_2, .int .i64 a1_3]) (t := 26) ?hr ?_; (case hd => rfl); (case hg => rfl); (case hr => first | (go_simp; done) | (go_simp; rfl)); intro gb194 hg w23 hbox hb; have BK194 := Aside0.mk (hbox); have GW194 := Aside0.mk ((by rw [hg]; exact (below_size (bs1 HB GE193)) : w.heap.size ≤ gb194)); have GE194 := Aside0.mk ((by rw [hg]; exact (below_size (bs1 HB GE193)) : w.heap.size ≤ gb194)); replace HB := Aside0.mk (below_step (bs1 HB GE193) hb); have NB193_194 := Aside0.mk ((bn BK193 hg : gb193 ≠ gb194)); have NB194_193 := Aside0.mk ((bm BK193 hg : gb194 ≠ gb193)); replace BK193 := nb BK193 hb; clear hb hbox hg; have hnb24 := NB193_194.out; have hnc24 := NB194_193.out; obtain ⟨hcz25_0, hcz25_1, hcz25_2, hcz25_3⟩ := cz4 BK193; obtain ⟨hfz25_0, hfz25_1, hfz25_2, hfz25_3⟩ := fz4 BK193; obtain ⟨hcz26_0, hcz26_1, hcz26_2, hcz26_3⟩ := cz4 BK194; obtain ⟨hfz26_0, hfz26_1, hfz26_2, hfz26_3⟩ := fz4 BK194))
   go_ret
   exact ⟨by first | rfl | (simp [errW_none, errW_some] <;> rfl) | (simp [*, errW_none, errW_some] <;> rfl), bs2 HB GE193 GE194⟩
 ·
  rw [if_neg c3] at H
  have c3b0 : (a0_0 == a1_0) = false := beq_eq_false_iff_ne.mpr c3
  have c3b1 : (a0_0 != a1_0) = true := bne_iff_ne.mpr c3
  obtain rfl := Option.some.inj H
  go_enter Tryd.func69, Tryd.ntmps69
  go_wp2_with (first | ((with_reducible refine gate_dst (N := 2) rfl ?_); refine box_event ?hg (N := 2) ?hd (cs := #[.int .i64 a0_0, .int .i64 a0_1, .string a0_2, .int .i64 a0_3]) (t := 26) ?hr ?_; (case hd => rfl); (case hg => rfl); (case hr => first | (go_simp; done) | (go_simp; rfl)); intro gb193 hg w27 hbox hb; have BK193 := Aside0.mk (hbox); have GW193 := Aside0.mk ((by rw [hg]; exact (below_size (bs HB)) : w.heap.size ≤ gb193)); have GE193 := Aside0.mk ((by rw [hg]; exact (below_size (bs HB)) : w.heap.size ≤ gb193)); replace HB := Aside0.mk (below_step (bs HB) hb); clear hb hbox hg) | ((with_reducible refine gate_dst (N := 3) rfl ?_); refine box_event ?hg (N := 3) ?hd (cs := #[.int .i64 a1_0, .int .i64 a1_1, .string a1_2, .int .i64 a1_3]) (t := 26) ?hr ?_; (case hd => rfl); (case hg => rfl); (case hr => first | (go_simp; done) | (go_simp; rfl)); intro gb194 hg w28 hbox hb; have BK194 := Aside0.mk (hbox); have GW194 := Aside0.mk ((by rw [hg]; exact (below_size (bs1 HB GE193)) : w.heap.size ≤ gb194)); have GE194 := Aside0.mk ((by rw [hg]; exact (below_size (bs1 HB GE193)) : w.heap.size ≤ gb194)); replace HB := Aside0.mk (below_step (bs1 HB GE193) hb); have NB193_194 := Aside0.mk ((bn BK193 hg : gb193 ≠ gb194)); have NB194_193 := Aside0.mk ((bm BK193 hg : gb194 ≠ gb193)); replace BK193 := nb BK193 hb; clear hb hbox hg; have hnb29 := NB193_194.out; have hnc29 := NB194_193.out; obtain ⟨hcz30_0, hcz30_1, hcz30_2, hcz30_3⟩ := cz4 BK193; obtain ⟨hfz30_0, hfz30_1, hfz30_2, hfz30_3⟩ := fz4 BK193; obtain ⟨hcz31_0, hcz31_1, hcz31_2, hcz31_3⟩ := cz4 BK194; obtain ⟨hfz31_0, hfz31_1, hfz31_2, hfz31_3⟩ := fz4 BK194))
  go_ret
  exact ⟨by first | rfl | (simp [errW_none, errW_some] <;> rfl) | (simp [*, errW_none, errW_some] <;> rfl), bs2 HB GE193 GE194⟩

/-! ### laws_eqSlotS: function 45 -/
def laws_eqSlotS.l0 : Nat → List (S26) → List (S26) → Int → Option (Bool)
 | 0, _, _, _ => none
 | k + 1, x0, x1, x5 => if x5 < (x0.length : Int) then (if 0 ≤ x5 then (if x5 < (x1.length : Int) then ((laws_eqSlot.f ((rd_T26 x0 x5).f0) ((rd_T26 x0 x5).f1) ((rd_T26 x0 x5).f2) ((rd_T26 x0 x5).f3) ((rd_T26 x1 x5).f0) ((rd_T26 x1 x5).f1) ((rd_T26 x1 x5).f2) ((rd_T26 x1 x5).f3)).bind fun t197 => (if t197 = true then (laws_eqSlotS.l0 k x0 x1 (wrap64 (x5 + 1))) else (some false))) else (none)) else (none)) else (some true)
def laws_eqSlotS.f (k : Nat) (l0 : List (S26)) (l1 : List (S26)) : Option (Bool) := if (l0.length : Int) = (l1.length : Int) then (laws_eqSlotS.l0 k l0 l1 0) else (some false)
theorem laws_eqSlotS.mono_l : ∀ k, (∀ y0 y1 y2, LeO (laws_eqSlotS.l0 k y0 y1 y2) (laws_eqSlotS.l0 (k + 1) y0 y1 y2))
 | 0 => fun _ _ _ r h => by simp [laws_eqSlotS.l0] at h
 | k + 1 => by
  have ih0 := laws_eqSlotS.mono_l k
  ·
   intro y0 y1 y2
   unfold laws_eqSlotS.l0
   repeat' first
   | (with_reducible exact ih0 _ _ _)
   | (with_reducible exact LeO.refl _)
   | (with_reducible exact LeO.none _)
   | (with_reducible refine LeO.ite ?_ ?_)
   | (with_reducible refine LeO.bind ?_ (fun _ => ?_))
   | exact ih0 _ _ _
   | exact LeO.none _
   | refine LeO.ite ?_ ?_
   | refine LeO.bind ?_ (fun _ => ?_)
theorem laws_eqSlotS.mono : ∀ a0 a1 k, LeO (laws_eqSlotS.f k a0 a1) (laws_eqSlotS.f (k + 1) a0 a1) := by
 intro a0 a1 k
 have ih0 := laws_eqSlotS.mono_l k
 unfold laws_eqSlotS.f
 repeat' first
   | (with_reducible exact ih0 _ _ _)
   | (with_reducible exact LeO.refl _)
   | (with_reducible exact LeO.none _)
   | (with_reducible refine LeO.ite ?_ ?_)
   | (with_reducible refine LeO.bind ?_ (fun _ => ?_))
   | exact ih0 _ _ _
   | exact LeO.none _
   | refine LeO.ite ?_ ?_
   | refine LeO.bind ?_ (fun _ => ?_)
def laws_eqSlotS.T6 : Bool × List (List Nat × List Nat) := (true, [([], []), ([], []), ([0, 1], [0, 1]), ([2], [2]), ([], []), ([], []), ([4, 5], [4, 5]), ([6], [6]), ([3, 7], [3, 7]), ([8], [8])])
def laws_eqSlotS.B6 : List Nat := [0, 0, 3, 7, 0, 0, 48, 112, 255, 511]
theorem laws_eqSlotS.tab6 : rtab .any (opsOf Tryd.f45 6) = laws_eqSlotS.T6 := by kernel_rfl
theorem laws_eqSlotS.bits6 : waitsOk laws_eqSlotS.T6.2 laws_eqSlotS.B6 = true := by kernel_rfl
set_option maxHeartbeats 8000000 in
set_option maxRecDepth 100000 in
theorem laws_eqSlotS.calls (k : Nat) (A0 : Option Addr) (c0 : Nat) (l0 : List (S26)) (A1 : Option Addr) (c1 : Nat) (l1 : List (S26)) (r : Bool) (w : World) (hr0 : Kd.C k26 w A0 l0.length l0) (hc0 : l0.length ≤ c0) (hr1 : Kd.C k26 w A1 l1.length l1) (hc1 : l1.length ≤ c1) (h : laws_eqSlotS.f k l0 l1 = some r) :
  Calls Tryd.prog 45 #[.slice A0 l0.length c0, .slice A1 l1.length c1] w fun e w' => e = .returned (.bool r) ∧ Below w.heap.size w w' := by
 have hu26 := Tryd.underlying26
 have HR0 := Aside0.mk hr0
 have HC0 := Aside0.mk hc0
 clear hr0 hc0
 have HR1 := Aside0.mk hr1
 have HC1 := Aside0.mk hc1
 clear hr1 hc1
 have HB := Aside0.mk (Below.refl w.heap.size w)
 have H : (if (l0.length : Int) = (l1.length : Int) then (laws_eqSlotS.l0 k l0 l1 0) else (some false)) = some r := h
 clear h
 by_cases c3 : (l0.length : Int) = (l1.length : Int)
 ·
  rw [if_pos c3] at H
  have c3b0 : ((l0.length : Int) == (l1.length : Int)) = true := beq_iff_eq.mpr c3
  have c3b1 : ((l0.length : Int) != (l1.length : Int)) = false := bne_eq_false_iff_eq.mpr c3
  have c3b2 : (l0.length == l1.length) = true := by first | simpa using c3 | (simp at c3 ⊢; omega)
  clear c3
  have H' := Aside0.mk H
  clear H
  go_enter Tryd.func45, Tryd.ntmps45
  go_wp2
  go_loopg [5] k (fun kq v5 w' => ∃ (x5_1 : Int), v5 = .int .i64 x5_1 ∧ Aside0 (laws_eqSlotS.l0 kq l0 l1 x5_1 = some r) ∧ Aside0 (kq ≤ k) ∧ Aside0 (Below w.heap.size w w'))
  case atStart => exact ⟨(0), (by first | rfl | (simp; done) | (simp [*]; done)), H', ⟨Nat.le_refl _⟩, ⟨bs HB⟩⟩
  case round =>
   clear H'
   try clear c1
   try clear p2
   try clear c3
   try clear c3b0
   try clear c3b1
   try clear c3b2
   obtain ⟨x5_1, rfl, HA, HK1, HB⟩ := hrel
   cases gk with
   | zero => exact absurd HA.out (by simp [laws_eqSlotS.l0])
   | succ k1 =>
    have H := HA.out
    clear HA
    simp only [laws_eqSlotS.l0] at H
    by_cases c4 : x5_1 < (l0.length : Int)
    ·
     rw [if_pos c4] at H
     have c4b0 : decide (x5_1 < (l0.length : Int)) = true := decide_eq_true c4
     clear c4
     by_cases c5 : 0 ≤ x5_1
     ·
      rw [if_pos c5] at H
      have c5b0 : decide (0 ≤ x5_1) = true := decide_eq_true c5
      clear c5
      by_cases c6 : x5_1 < (l1.length : Int)
      ·
       rw [if_pos c6] at H
       have c6b0 : decide (x5_1 < (l1.length : Int)) = true := decide_eq_true c6
       clear c6
       replace H := Option.bind_eq_some_iff.mp H
       obtain ⟨t197, A70, H⟩ := H
       replace H : (if t197 = true then (laws_eqSlotS.l0 k1 l0 l1 (wrap64 (x5_1 + 1))) else (some false)) = some r := H
       have A7 := Aside0.mk A70
       clear A70
       by_cases c8 : t197 = true
       ·
        subst c8
        rw [if_pos rfl] at H
        have H' := Aside0.mk H
        clear H
        try go_wp2
        have n0_ := Aside0.mk (below_drew1 HB.out)
        clear HB
        have HB := n0_
        clear n0_
        have p195 : 0 ≤ (x5_1 : Int) := of_decide_eq_true (by first | (with_reducible assumption) | assumption)
        have q195 : x5_1 < (l0.length : Int) := of_decide_eq_true (by first | (with_reducible assumption) | assumption)
        obtain ⟨ad195, e195, hx195_0, hx195_1, hx195_2, hx195_3⟩ := at_T26 HR0.out x5_1 p195 q195
        have hw195_3 := hx195_3
        have hw195_2 := hx195_2
        have hw195_1 := hx195_1
        have hw195_0 := hx195_0
        cases e195
        replace hx195_0 := (HB.out.cell (World.block_lt_of_cell? w _ hx195_0)).trans hx195_0
        replace hx195_1 := (HB.out.cell (World.block_lt_of_cell? w _ hx195_1)).trans hx195_1
        replace hx195_2 := (HB.out.cell (World.block_lt_of_cell? w _ hx195_2)).trans hx195_2
        replace hx195_3 := (HB.out.cell (World.block_lt_of_cell? w _ hx195_3)).trans hx195_3
        replace p195 := eq_true p195
        replace q195 := eq_true q195
        have p196 : 0 ≤ (x5_1 : Int) := of_decide_eq_true (by first | (with_reducible assumption) | assumption)
        have q196 : x5_1 < (l1.length : Int) := of_decide_eq_true (by first | (with_reducible assumption) | assumption)
        obtain ⟨ad196, e196, hx196_0, hx196_1, hx196_2, hx196_3⟩ := at_T26 HR1.out x5_1 p196 q196
        have hw196_3 := hx196_3
        have hw196_2 := hx196_2
        have hw196_1 := hx196_1
        have hw196_0 := hx196_0
        cases e196
        replace hx196_0 := (HB.out.cell (World.block_lt_of_cell? w _ hx196_0)).trans hx196_0
        replace hx196_1 := (HB.out.cell (World.block_lt_of_cell? w _ hx196_1)).trans hx196_1
        replace hx196_2 := (HB.out.cell (World.block_lt_of_cell? w _ hx196_2)).trans hx196_2
        replace hx196_3 := (HB.out.cell (World.block_lt_of_cell? w _ hx196_3)).trans hx196_3
        replace p196 := eq_true p196
        replace q196 := eq_true q196
        refine start_ (n := 10) (S := fun w' => w'.cell? (ad195.add ((x5_1).toNat * 4)) = some (.int .i64 ((rd_T26 l0 x5_1).f0)) ∧ w'.cell? ⟨(ad195.add ((x5_1).toNat * 4)).block, (ad195.add ((x5_1).toNat * 4)).off + 1, none⟩ = some (.int .i64 ((rd_T26 l0 x5_1).f1)) ∧ w'.cell? ⟨(ad195.add ((x5_1).toNat * 4)).block, (ad195.add ((x5_1).toNat * 4)).off + 2, none⟩ = some (.string ((rd_T26 l0 x5_1).f2)) ∧ w'.cell? ⟨(ad195.add ((x5_1).toNat * 4)).block, (ad195.add ((x5_1).toNat * 4)).off + 3, none⟩ = some (.int .i64 ((rd_T26 l0 x5_1).f3)) ∧ w'.cell? (ad196.add ((x5_1).toNat * 4)) = some (.int .i64 ((rd_T26 l1 x5_1).f0)) ∧ w'.cell? ⟨(ad196.add ((x5_1).toNat * 4)).block, (ad196.add ((x5_1).toNat * 4)).off + 1, none⟩ = some (.int .i64 ((rd_T26 l1 x5_1).f1)) ∧ w'.cell? ⟨(ad196.add ((x5_1).toNat * 4)).block, (ad196.add ((x5_1).toNat * 4)).off + 2, none⟩ = some (.string ((rd_T26 l1 x5_1).f2)) ∧ w'.cell? ⟨(ad196.add ((x5_1).toNat * 4)).block, (ad196.add ((x5_1).toNat * 4)).off + 3, none⟩ = some (.int .i64 ((rd_T26 l1 x5_1).f3))) (ds := []) #[false, false, false, false, false, false, false, false, false, false] (by kernel_rfl) rfl rfl ⟨((HB.out.cell (World.block_lt_of_cell? w _ hw195_0)).trans hw195_0), ((HB.out.cell (World.block_lt_of_cell? w _ hw195_1)).trans hw195_1), ((HB.out.cell (World.block_lt_of_cell? w _ hw195_2)).trans hw195_2), ((HB.out.cell (World.block_lt_of_cell? w _ hw195_3)).trans hw195_3), ((HB.out.cell (World.block_lt_of_cell? w _ hw196_0)).trans hw196_0), ((HB.out.cell (World.block_lt_of_cell? w _ hw196_1)).trans hw196_1), ((HB.out.cell (World.block_lt_of_cell? w _ hw196_2)).trans hw196_2), ((HB.out.cell (World.block_lt_of_cell? w _ hw196_3)).trans hw196_3)⟩ (fun hHeld => ?_); refine with_tabW laws_eqSlotS.tab6 laws_eqSlotS.bits6 (fun HT_ HW_ => ?_)
        generalize wr.drew = w9 at HB hx195_0 hx195_1 hx195_2 hx195_3 hx196_0 hx196_1 hx196_2 hx196_3 hHeld ⊢
        refine pureS 0 17 HT_.out ?_
        refine pureS 1 18 HT_.out ?_
        refine pureS 2 19 HT_.out ?_
        refine pureS 4 21 HT_.out ?_
        refine pureS 5 22 HT_.out ?_
        refine pureS 6 23 HT_.out ?_
        refine takeS 3 20 HT_.out HW_.out hHeld (hr := by rintro w' ⟨s0, s1, s2, s3, s4, s5, s6, s7⟩; go_simp; with_reducible rfl) (h := ?_)
        refine takeS 7 24 HT_.out HW_.out hHeld (hr := by rintro w' ⟨s0, s1, s2, s3, s4, s5, s6, s7⟩; go_simp; with_reducible rfl) (h := ?_)
        refine one_ (i := 8) (N := some 25) #[true, true, true, true, true, true, true, true, true, false] rfl rfl (one_of HT_.out (by kernel_rfl)) (by decide) (fun K hK => ?_)
        refine goes_ Tryd.func69 (by kernel_rfl) rfl #[.agg #[.int .i64 ((rd_T26 l0 x5_1).f0), .int .i64 ((rd_T26 l0 x5_1).f1), .string ((rd_T26 l0 x5_1).f2), .int .i64 ((rd_T26 l0 x5_1).f3)], .agg #[.int .i64 ((rd_T26 l1 x5_1).f0), .int .i64 ((rd_T26 l1 x5_1).f1), .string ((rd_T26 l1 x5_1).f2), .int .i64 ((rd_T26 l1 x5_1).f3)]] (by rfl) rfl rfl (by (try simp only [List.map_toArray, List.map_cons, List.map_nil]); first | done | rfl | (simp only [List.length_drop, List.length_take]; rfl)) ?_
        with_reducible refine (laws_eqSlot.calls ((rd_T26 l0 x5_1).f0) ((rd_T26 l0 x5_1).f1) ((rd_T26 l0 x5_1).f2) ((rd_T26 l0 x5_1).f3) ((rd_T26 l1 x5_1).f0) ((rd_T26 l1 x5_1).f1) ((rd_T26 l1 x5_1).f2) ((rd_T26 l1 x5_1).f3) true _ A7.out).mono ?_
        rintro e w10 ⟨rfl, hb⟩
        refine ⟨_, rfl, ?_⟩
        have n0_ := Aside0.mk (below_step (bs HB) hb)
        clear HB
        have HB := n0_
        clear n0_
        (try clear hb)
        (try clear hb2)
        (try clear hk)
        (try clear hi)
        refine hK.out _ _ ⟨((HB.out.cell (World.block_lt_of_cell? w _ hw195_0)).trans hw195_0), ((HB.out.cell (World.block_lt_of_cell? w _ hw195_1)).trans hw195_1), ((HB.out.cell (World.block_lt_of_cell? w _ hw195_2)).trans hw195_2), ((HB.out.cell (World.block_lt_of_cell? w _ hw195_3)).trans hw195_3), ((HB.out.cell (World.block_lt_of_cell? w _ hw196_0)).trans hw196_0), ((HB.out.cell (World.block_lt_of_cell? w _ hw196_1)).trans hw196_1), ((HB.out.cell (World.block_lt_of_cell? w _ hw196_2)).trans hw196_2), ((HB.out.cell (World.block_lt_of_cell? w _ hw196_3)).trans hw196_3)⟩ (fun hHeld => ?_)
        clear hK K
        refine norm_ (a' := ?_) ?_ ?_
        rotate_left
        ·
         show Act.put _ (some 25) _ = _
         simp only [Act.put, List.setIfInBounds_toArray, List.set_cons_zero, List.set_cons_succ, i64_w, i32_w]
         rfl
        refine pureS 9 26 HT_.out ?_
        refine done_ (done_of HT_.out (by kernel_rfl)) ?_
        try go_wp2
        go_roundg k1
        case measure => have := HK1.out; omega
        case rel => exact ⟨(wrap64 (x5_1 + 1)), (by first | rfl | (simp; done) | (simp [*]; done)), H', ⟨by have := HK1.out; omega⟩, ⟨bs HB⟩⟩
       ·
        replace c8 := Bool.eq_false_iff.mpr c8
        subst c8
        rw [if_neg (show ¬ (false = true) by decide)] at H
        obtain rfl := Option.some.inj H
        try go_wp2
        have n0_ := Aside0.mk (below_drew1 HB.out)
        clear HB
        have HB := n0_
        clear n0_
        have p195 : 0 ≤ (x5_1 : Int) := of_decide_eq_true (by first | (with_reducible assumption) | assumption)
        have q195 : x5_1 < (l0.length : Int) := of_decide_eq_true (by first | (with_reducible assumption) | assumption)
        obtain ⟨ad195, e195, hx195_0, hx195_1, hx195_2, hx195_3⟩ := at_T26 HR0.out x5_1 p195 q195
        have hw195_3 := hx195_3
        have hw195_2 := hx195_2
        have hw195_1 := hx195_1
        have hw195_0 := hx195_0
        cases e195
        replace hx195_0 := (HB.out.cell (World.block_lt_of_cell? w _ hx195_0)).trans hx195_0
        replace hx195_1 := (HB.out.cell (World.block_lt_of_cell? w _ hx195_1)).trans hx195_1
        replace hx195_2 := (HB.out.cell (World.block_lt_of_cell? w _ hx195_2)).trans hx195_2
        replace hx195_3 := (HB.out.cell (World.block_lt_of_cell? w _ hx195_3)).trans hx195_3
        replace p195 := eq_true p195
        replace q195 := eq_true q195
        have p196 : 0 ≤ (x5_1 : Int) := of_decide_eq_true (by first | (with_reducible assumption) | assumption)
        have q196 : x5_1 < (l1.length : Int) := of_decide_eq_true (by first | (with_reducible assumption) | assumption)
        obtain ⟨ad196, e196, hx196_0, hx196_1, hx196_2, hx196_3⟩ := at_T26 HR1.out x5_1 p196 q196
        have hw196_3 := hx196_3
        have hw196_2 := hx196_2
        have hw196_1 := hx196_1
        have hw196_0 := hx196_0
        cases e196
        replace hx196_0 := (HB.out.cell (World.block_lt_of_cell? w _ hx196_0)).trans hx196_0
        replace hx196_1 := (HB.out.cell (World.block_lt_of_cell? w _ hx196_1)).trans hx196_1
        replace hx196_2 := (HB.out.cell (World.block_lt_of_cell? w _ hx196_2)).trans hx196_2
        replace hx196_3 := (HB.out.cell (World.block_lt_of_cell? w _ hx196_3)).trans hx196_3
        replace p196 := eq_true p196
        replace q196 := eq_true q196
        refine start_ (n := 10) (S := fun w' => w'.cell? (ad195.add ((x5_1).toNat * 4)) = some (.int .i64 ((rd_T26 l0 x5_1).f0)) ∧ w'.cell? ⟨(ad195.add ((x5_1).toNat * 4)).block, (ad195.add ((x5_1).toNat * 4)).off + 1, none⟩ = some (.int .i64 ((rd_T26 l0 x5_1).f1)) ∧ w'.cell? ⟨(ad195.add ((x5_1).toNat * 4)).block, (ad195.add ((x5_1).toNat * 4)).off + 2, none⟩ = some (.string ((rd_T26 l0 x5_1).f2)) ∧ w'.cell? ⟨(ad195.add ((x5_1).toNat * 4)).block, (ad195.add ((x5_1).toNat * 4)).off + 3, none⟩ = some (.int .i64 ((rd_T26 l0 x5_1).f3)) ∧ w'.cell? (ad196.add ((x5_1).toNat * 4)) = some (.int .i64 ((rd_T26 l1 x5_1).f0)) ∧ w'.cell? ⟨(ad196.add ((x5_1).toNat * 4)).block, (ad196.add ((x5_1).toNat * 4)).off + 1, none⟩ = some (.int .i64 ((rd_T26 l1 x5_1).f1)) ∧ w'.cell? ⟨(ad196.add ((x5_1).toNat * 4)).block, (ad196.add ((x5_1).toNat * 4)).off + 2, none⟩ = some (.string ((rd_T26 l1 x5_1).f2)) ∧ w'.cell? ⟨(ad196.add ((x5_1).toNat * 4)).block, (ad196.add ((x5_1).toNat * 4)).off + 3, none⟩ = some (.int .i64 ((rd_T26 l1 x5_1).f3))) (ds := []) #[false, false, false, false, false, false, false, false, false, false] (by kernel_rfl) rfl rfl ⟨((HB.out.cell (World.block_lt_of_cell? w _ hw195_0)).trans hw195_0), ((HB.out.cell (World.block_lt_of_cell? w _ hw195_1)).trans hw195_1), ((HB.out.cell (World.block_lt_of_cell? w _ hw195_2)).trans hw195_2), ((HB.out.cell (World.block_lt_of_cell? w _ hw195_3)).trans hw195_3), ((HB.out.cell (World.block_lt_of_cell? w _ hw196_0)).trans hw196_0), ((HB.out.cell (World.block_lt_of_cell? w _ hw196_1)).trans hw196_1), ((HB.out.cell (World.block_lt_of_cell? w _ hw196_2)).trans hw196_2), ((HB.out.cell (World.block_lt_of_cell? w _ hw196_3)).trans hw196_3)⟩ (fun hHeld => ?_); refine with_tabW laws_eqSlotS.tab6 laws_eqSlotS.bits6 (fun HT_ HW_ => ?_)
        generalize wr.drew = w11 at HB hx195_0 hx195_1 hx195_2 hx195_3 hx196_0 hx196_1 hx196_2 hx196_3 hHeld ⊢
        refine pureS 0 17 HT_.out ?_
        refine pureS 1 18 HT_.out ?_
        refine pureS 2 19 HT_.out ?_
        refine pureS 4 21 HT_.out ?_
        refine pureS 5 22 HT_.out ?_
        refine pureS 6 23 HT_.out ?_
        refine takeS 3 20 HT_.out HW_.out hHeld (hr := by rintro w' ⟨s0, s1, s2, s3, s4, s5, s6, s7⟩; go_simp; with_reducible rfl) (h := ?_)
        refine takeS 7 24 HT_.out HW_.out hHeld (hr := by rintro w' ⟨s0, s1, s2, s3, s4, s5, s6, s7⟩; go_simp; with_reducible rfl) (h := ?_)
        refine one_ (i := 8) (N := some 25) #[true, true, true, true, true, true, true, true, true, false] rfl rfl (one_of HT_.out (by kernel_rfl)) (by decide) (fun K hK => ?_)
        refine goes_ Tryd.func69 (by kernel_rfl) rfl #[.agg #[.int .i64 ((rd_T26 l0 x5_1).f0), .int .i64 ((rd_T26 l0 x5_1).f1), .string ((rd_T26 l0 x5_1).f2), .int .i64 ((rd_T26 l0 x5_1).f3)], .agg #[.int .i64 ((rd_T26 l1 x5_1).f0), .int .i64 ((rd_T26 l1 x5_1).f1), .string ((rd_T26 l1 x5_1).f2), .int .i64 ((rd_T26 l1 x5_1).f3)]] (by rfl) rfl rfl (by (try simp only [List.map_toArray, List.map_cons, List.map_nil]); first | done | rfl | (simp only [List.length_drop, List.length_take]; rfl)) ?_
        with_reducible refine (laws_eqSlot.calls ((rd_T26 l0 x5_1).f0) ((rd_T26 l0 x5_1).f1) ((rd_T26 l0 x5_1).f2) ((rd_T26 l0 x5_1).f3) ((rd_T26 l1 x5_1).f0) ((rd_T26 l1 x5_1).f1) ((rd_T26 l1 x5_1).f2) ((rd_T26 l1 x5_1).f3) false _ A7.out).mono ?_
        rintro e w12 ⟨rfl, hb⟩
        refine ⟨_, rfl, ?_⟩
        have n0_ := Aside0.mk (below_step (bs HB) hb)
        clear HB
        have HB := n0_
        clear n0_
        (try clear hb)
        (try clear hb2)
        (try clear hk)
        (try clear hi)
        refine hK.out _ _ ⟨((HB.out.cell (World.block_lt_of_cell? w _ hw195_0)).trans hw195_0), ((HB.out.cell (World.block_lt_of_cell? w _ hw195_1)).trans hw195_1), ((HB.out.cell (World.block_lt_of_cell? w _ hw195_2)).trans hw195_2), ((HB.out.cell (World.block_lt_of_cell? w _ hw195_3)).trans hw195_3), ((HB.out.cell (World.block_lt_of_cell? w _ hw196_0)).trans hw196_0), ((HB.out.cell (World.block_lt_of_cell? w _ hw196_1)).trans hw196_1), ((HB.out.cell (World.block_lt_of_cell? w _ hw196_2)).trans hw196_2), ((HB.out.cell (World.block_lt_of_cell? w _ hw196_3)).trans hw196_3)⟩ (fun hHeld => ?_)
        clear hK K
        refine norm_ (a' := ?_) ?_ ?_
        rotate_left
        ·
         show Act.put _ (some 25) _ = _
         simp only [Act.put, List.setIfInBounds_toArray, List.set_cons_zero, List.set_cons_succ, i64_w, i32_w]
         rfl
        refine pureS 9 26 HT_.out ?_
        refine done_ (done_of HT_.out (by kernel_rfl)) ?_
        try go_wp2
        go_ret
        exact ⟨by first | rfl | (simp [errW_none, errW_some] <;> rfl) | (simp [*, errW_none, errW_some] <;> rfl), bs HB⟩
      ·
       rw [if_neg c6] at H
       exact absurd H (by simp)
     ·
      rw [if_neg c5] at H
      exact absurd H (by simp)
    ·
     rw [if_neg c4] at H
     have c4b0 : decide (x5_1 < (l0.length : Int)) = false := decide_eq_false c4
     clear c4
     obtain rfl := Option.some.inj H
     go_wp2
     go_ret
     exact ⟨by first | rfl | (simp [errW_none, errW_some] <;> rfl) | (simp [*, errW_none, errW_some] <;> rfl), bs HB⟩
 ·
  rw [if_neg c3] at H
  have c3b0 : ((l0.length : Int) == (l1.length : Int)) = false := beq_eq_false_iff_ne.mpr c3
  have c3b1 : ((l0.length : Int) != (l1.length : Int)) = true := bne_iff_ne.mpr c3
  have c3b2 : (l0.length == l1.length) = false := by first | simpa using c3 | (simp at c3 ⊢; omega)
  obtain rfl := Option.some.inj H
  go_enter Tryd.func45, Tryd.ntmps45
  go_wp2
  go_ret
  exact ⟨by first | rfl | (simp [errW_none, errW_some] <;> rfl) | (simp [*, errW_none, errW_some] <;> rfl), bs HB⟩

/-! ### laws_eqRing: function 21 -/
def laws_eqRing.f (k : Nat) (l0_0 : List (S26)) (a0_1 : Int) (a0_2 : Int) (a0_3 : Int) (l1_0 : List (S26)) (a1_1 : Int) (a1_2 : Int) (a1_3 : Int) : Option (Bool) := (laws_eqSlotS.f k l0_0 l1_0).bind fun t200 => (if t200 = true then (if a0_1 = a1_1 then (if a0_2 = a1_2 then (if a0_3 = a1_3 then (some true) else (some false)) else (some false)) else (some false)) else (some false))
theorem laws_eqRing.mono : ∀ a0 a1 a2 a3 a4 a5 a6 a7 k, LeO (laws_eqRing.f k a0 a1 a2 a3 a4 a5 a6 a7) (laws_eqRing.f (k + 1) a0 a1 a2 a3 a4 a5 a6 a7) := by
 intro a0 a1 a2 a3 a4 a5 a6 a7 k
 unfold laws_eqRing.f
 repeat' first
   | (with_reducible exact laws_eqSlotS.mono _ _ _)
   | (with_reducible exact LeO.refl _)
   | (with_reducible exact LeO.none _)
   | (with_reducible refine LeO.ite ?_ ?_)
   | (with_reducible refine LeO.bind ?_ (fun _ => ?_))
   | exact laws_eqSlotS.mono _ _ _
   | exact LeO.none _
   | refine LeO.ite ?_ ?_
   | refine LeO.bind ?_ (fun _ => ?_)
set_option maxHeartbeats 8000000 in
set_option maxRecDepth 100000 in
theorem laws_eqRing.calls (k : Nat) (A0_0 : Option Addr) (c0_0 : Nat) (l0_0 : List (S26)) (a0_1 : Int) (a0_2 : Int) (a0_3 : Int) (A1_0 : Option Addr) (c1_0 : Nat) (l1_0 : List (S26)) (a1_1 : Int) (a1_2 : Int) (a1_3 : Int) (r : Bool) (w : World) (hr0_0 : Kd.C k26 w A0_0 l0_0.length l0_0) (hc0_0 : l0_0.length ≤ c0_0) (hr1_0 : Kd.C k26 w A1_0 l1_0.length l1_0) (hc1_0 : l1_0.length ≤ c1_0) (h : laws_eqRing.f k l0_0 a0_1 a0_2 a0_3 l1_0 a1_1 a1_2 a1_3 = some r) :
  Calls Tryd.prog 21 #[.agg #[.slice A0_0 l0_0.length c0_0, .int .i64 a0_1, .int .i64 a0_2, .int .i64 a0_3], .agg #[.slice A1_0 l1_0.length c1_0, .int .i64 a1_1, .int .i64 a1_2, .int .i64 a1_3]] w fun e w' => e = .returned (.bool r) ∧ Below w.heap.size w w' := by
 have hu36 := Tryd.underlying36
 have HR0_0 := Aside0.mk hr0_0
 have HC0_0 := Aside0.mk hc0_0
 clear hr0_0 hc0_0
 have HR1_0 := Aside0.mk hr1_0
 have HC1_0 := Aside0.mk hc1_0
 clear hr1_0 hc1_0
 have HB := Aside0.mk (Below.refl w.heap.size w)
 have H : ((laws_eqSlotS.f k l0_0 l1_0).bind fun t200 => (if t200 = true then (if a0_1 = a1_1 then (if a0_2 = a1_2 then (if a0_3 = a1_3 then (some true) else (some false)) else (some false)) else (some false)) else (some false))) = some r := h
 clear h
 replace H := Option.bind_eq_some_iff.mp H
 obtain ⟨t200, A30, H⟩ := H
 replace H : (if t200 = true then (if a0_1 = a1_1 then (if a0_2 = a1_2 then (if a0_3 = a1_3 then (some true) else (some false)) else (some false)) else (some false)) else (some false)) = some r := H
 have A3 := Aside0.mk A30
 clear A30
 by_cases c4 : t200 = true
 ·
  subst c4
  rw [if_pos rfl] at H
  by_cases c5 : a0_1 = a1_1
  ·
   rw [if_pos c5] at H
   have c5b0 : (a0_1 == a1_1) = true := beq_iff_eq.mpr c5
   have c5b1 : (a0_1 != a1_1) = false := bne_eq_false_iff_eq.mpr c5
   clear c5
   by_cases c6 : a0_2 = a1_2
   ·
    rw [if_pos c6] at H
    have c6b0 : (a0_2 == a1_2) = true := beq_iff_eq.mpr c6
    have c6b1 : (a0_2 != a1_2) = false := bne_eq_false_iff_eq.mpr c6
    clear c6
    by_cases c7 : a0_3 = a1_3
    ·
     rw [if_pos c7] at H
     have c7b0 : (a0_3 == a1_3) = true := beq_iff_eq.mpr c7
     have c7b1 : (a0_3 != a1_3) = false := bne_eq_false_iff_eq.mpr c7
     clear c7
     obtain rfl := Option.some.inj H
     go_enter Tryd.func21, Tryd.ntmps21
     go_wp2_with (first | ((with_reducible refine gate_dst (N := 2) rfl ?_); refine box_event ?hg (N := 2) ?hd (cs := #[.slice A0_0 l0_0.length c0_0, .int .i64 a0_1, .int .i64 a0_2, .int .i64 a0_3]) (t := 36) ?hr ?_; (case hd => rfl); (case hg => rfl); (case hr => first | (go_simp; done) | (go_simp; rfl)); intro gb198 hg w8 hbox hb; have BK198 := Aside0.mk (hbox); have GW198 := Aside0.mk ((by rw [hg]; exact (below_size (bs HB)) : w.heap.size ≤ gb198)); have GE198 := Aside0.mk ((by rw [hg]; exact (below_size (bs HB)) : w.heap.size ≤ gb198)); replace HB := Aside0.mk (below_step (bs HB) hb); clear hb hbox hg) | ((with_reducible refine gate_dst (N := 3) rfl ?_); refine box_event ?hg (N := 3) ?hd (cs := #[.slice A1_0 l1_0.length c1_0, .int .i64 a1_1, .int .i64 a1_2, .int .i64 a1_3]) (t := 36) ?hr ?_; (case hd => rfl); (case hg => rfl); (case hr => first | (go_simp; done) | (go_simp; rfl)); intro gb199 hg w9 hbox hb; have BK199 := Aside0.mk (hbox); have GW199 := Aside0.mk ((by rw [hg]; exact (below_size (bs1 HB GE198)) : w.heap.size ≤ gb199)); have GE199 := Aside0.mk ((by rw [hg]; exact (below_size (bs1 HB GE198)) : w.heap.size ≤ gb199)); replace HB := Aside0.mk (below_step (bs1 HB GE198) hb); have NB198_199 := Aside0.mk ((bn BK198 hg : gb198 ≠ gb199)); have NB199_198 := Aside0.mk ((bm BK198 hg : gb199 ≠ gb198)); replace BK198 := nb BK198 hb; clear hb hbox hg; have hnb10 := NB198_199.out; have hnc10 := NB199_198.out; obtain ⟨hcz11_0, hcz11_1, hcz11_2, hcz11_3⟩ := cz4 BK198; obtain ⟨hfz11_0, hfz11_1, hfz11_2, hfz11_3⟩ := fz4 BK198; obtain ⟨hcz12_0, hcz12_1, hcz12_2, hcz12_3⟩ := cz4 BK199; obtain ⟨hfz12_0, hfz12_1, hfz12_2, hfz12_3⟩ := fz4 BK199) | ((with_reducible refine gate_callee (f := 45) rfl ?_); refine gL (some 9) rfl rfl Tryd.func45 (by kernel_rfl) rfl #[.slice A0_0 l0_0.length c0_0, .slice A1_0 l1_0.length c1_0] rfl ?_; (with_reducible refine (laws_eqSlotS.calls k _ _ l0_0 _ _ l1_0 true _ ?side1 ?side2 ?side3 ?side4 A3.out).mono ?_); (case side1 => exact cb HR0_0 HB); (case side2 => exact HC0_0.out); (case side3 => exact cb HR1_0 HB); (case side4 => exact HC1_0.out); rintro e w13 ⟨rfl, hb⟩; refine ⟨_, rfl, ?_⟩; replace BK198 := nb BK198 hb; replace BK199 := nb BK199 hb; replace HB := Aside0.mk (below_step (bs2 HB GE198 GE199) hb); (try clear hb); (try clear hb2); (try clear hk); (try clear hi); obtain ⟨hcz14_0, hcz14_1, hcz14_2, hcz14_3⟩ := cz4 BK198; obtain ⟨hfz14_0, hfz14_1, hfz14_2, hfz14_3⟩ := fz4 BK198; obtain ⟨hcz15_0, hcz15_1, hcz15_2, hcz15_3⟩ := cz4 BK199; obtain ⟨hfz15_0, hfz15_1, hfz15_2, hfz15_3⟩ := fz4 BK199))
     go_ret
     exact ⟨by first | rfl | (simp [errW_none, errW_some] <;> rfl) | (simp [*, errW_none, errW_some] <;> rfl), bs2 HB GE198 GE199⟩
    ·
     rw [if_neg c7] at H
     have c7b0 : (a0_3 == a1_3) = false := beq_eq_false_iff_ne.mpr c7
     have c7b1 : (a0_3 != a1_3) = true := bne_iff_ne.mpr c7
     obtain rfl := Option.some.inj H
     go_enter Tryd.func21, Tryd.ntmps21
     go_wp2_with (first | ((with_reducible refine gate_dst (N := 2) rfl ?_); refine box_event ?hg (N := 2) ?hd (cs := #[.slice A0_0 l0_0.length c0_0, .int .i64 a0_1, .int .i64 a0_2, .int .i64 a0_3]) (t := 36) ?hr ?_; (case hd => rfl); (case hg => rfl); (case hr => first | (go_simp; done) | (go_simp; rfl)); intro gb198 hg w16 hbox hb; have BK198 := Aside0.mk (hbox); have GW198 := Aside0.mk ((by rw [hg]; exact (below_size (bs HB)) : w.heap.size ≤ gb198)); have GE198 := Aside0.mk ((by rw [hg]; exact (below_size (bs HB)) : w.heap.size ≤ gb198)); replace HB := Aside0.mk (below_step (bs HB) hb); clear hb hbox hg) | ((with_reducible refine gate_dst (N := 3) rfl ?_); refine box_event ?hg (N := 3) ?hd (cs := #[.slice A1_0 l1_0.length c1_0, .int .i64 a1_1, .int .i64 a1_2, .int .i64 a1_3]) (t := 36) ?hr ?_; (case hd => rfl); (case hg => rfl); (case hr => first | (go_simp; done) | (go_simp; rfl)); intro gb199 hg w17 hbox hb; have BK199 := Aside0.mk (hbox); have GW199 := Aside0.mk ((by rw [hg]; exact (below_size (bs1 HB GE198)) : w.heap.size ≤ gb199)); have GE199 := Aside0.mk ((by rw [hg]; exact (below_size (bs1 HB GE198)) : w.heap.size ≤ gb199)); replace HB := Aside0.mk (below_step (bs1 HB GE198) hb); have NB198_199 := Aside0.mk ((bn BK198 hg : gb198 ≠ gb199)); have NB199_198 := Aside0.mk ((bm BK198 hg : gb199 ≠ gb198)); replace BK198 := nb BK198 hb; clear hb hbox hg; have hnb18 := NB198_199.out; have hnc18 := NB199_198.out; obtain ⟨hcz19_0, hcz19_1, hcz19_2, hcz19_3⟩ := cz4 BK198; obtain ⟨hfz19_0, hfz19_1, hfz19_2, hfz19_3⟩ := fz4 BK198; obtain ⟨hcz20_0, hcz20_1, hcz20_2, hcz20_3⟩ := cz4 BK199; obtain ⟨hfz20_0, hfz20_1, hfz20_2, hfz20_3⟩ := fz4 BK199) | ((with_reducible refine gate_callee (f := 45) rfl ?_); refine gL (some 9) rfl rfl Tryd.func45 (by kernel_rfl) rfl #[.slice A0_0 l0_0.length c0_0, .slice A1_0 l1_0.length c1_0] rfl ?_; (with_reducible refine (laws_eqSlotS.calls k _ _ l0_0 _ _ l1_0 true _ ?side1 ?side2 ?side3 ?side4 A3.out).mono ?_); (case side1 => exact cb HR0_0 HB); (case side2 => exact HC0_0.out); (case side3 => exact cb HR1_0 HB); (case side4 => exact HC1_0.out); rintro e w21 ⟨rfl, hb⟩; refine ⟨_, rfl, ?_⟩; replace BK198 := nb BK198 hb; replace BK199 := nb BK199 hb; replace HB := Aside0.mk (below_step (bs2 HB GE198 GE199) hb); (try clear hb); (try clear hb2); (try clear hk); (try clear hi); obtain ⟨hcz22_0, hcz22_1, hcz22_2, hcz22_3⟩ := cz4 BK198; obtain ⟨hfz22_0, hfz22_1, hfz22_2, hfz22_3⟩ := fz4 BK198; obtain ⟨hcz23_0, hcz23_1, hcz23_2, hcz23_3⟩ := cz4 BK199; obtain ⟨hfz23_0, hfz23_1, hfz23_2, hfz23_3⟩ := fz4 BK199))
     go_ret
     exact ⟨by first | rfl | (simp [errW_none, errW_some] <;> rfl) | (simp [*, errW_none, errW_some] <;> rfl), bs2 HB GE198 GE199⟩
   ·
    rw [if_neg c6] at H
    have c6b0 : (a0_2 == a1_2) = false := beq_eq_false_iff_ne.mpr c6
    have c6b1 : (a0_2 != a1_2) = true := bne_iff_ne.mpr c6
    obtain rfl := Option.some.inj H
    go_enter Tryd.func21, Tryd.ntmps21
    go_wp2_with (first | ((with_reducible refine gate_dst (N := 2) rfl ?_); refine box_event ?hg (N := 2) ?hd (cs := #[.slice A0_0 l0_0.length c0_0, .int .i64 a0_1, .int .i64 a0_2, .int .i64 a0_3]) (t := 36) ?hr ?_; (case hd => rfl); (case hg => rfl); (case hr => first | (go_simp; done) | (go_simp; rfl)); intro gb198 hg w24 hbox hb; have BK198 := Aside0.mk (hbox); have GW198 := Aside0.mk ((by rw [hg]; exact (below_size (bs HB)) : w.heap.size ≤ gb198)); have GE198 := Aside0.mk ((by rw [hg]; exact (below_size (bs HB)) : w.heap.size ≤ gb198)); replace HB := Aside0.mk (below_step (bs HB) hb); clear hb hbox hg) | ((with_reducible refine gate_dst (N := 3) rfl ?_); refine box_event ?hg (N := 3) ?hd (cs := #[.slice A1_0 l1_0.length c1_0, .int .i64 a1_1, .int .i64 a1_2, .int .i64 a1_3]) (t := 36) ?hr ?_; (case hd => rfl); (case hg => rfl); (case hr => first | (go_simp; done) | (go_simp; rfl)); intro gb199 hg w25 hbox hb; have BK199 := Aside0.mk (hbox); have GW199 := Aside0.mk ((by rw [hg]; exact (below_size (bs1 HB GE198)) : w.heap.size ≤ gb199)); have GE199 := Aside0.mk ((by rw [hg]; exact (below_size (bs1 HB GE198)) : w.heap.size ≤ gb199)); replace HB := Aside0.mk (below_step (bs1 HB GE198) hb); have NB198_199 := Aside0.mk ((bn BK198 hg : gb198 ≠ gb199)); have NB199_198 := Aside0.mk ((bm BK198 hg : gb199 ≠ gb198)); replace BK198 := nb BK198 hb; clear hb hbox hg; have hnb26 := NB198_199.out; have hnc26 := NB199_198.out; obtain ⟨hcz27_0, hcz27_1, hcz27_2, hcz27_3⟩ := cz4 BK198; obtain ⟨hfz27_0, hfz27_1, hfz27_2, hfz27_3⟩ := fz4 BK198; obtain ⟨hcz28_0, hcz28_1, hcz28_2, hcz28_3⟩ := cz4 BK199; obtain ⟨hfz28_0, hfz28_1, hfz28_2, hfz28_3⟩ := fz4 BK199) | ((with_reducible refine gate_callee (f := 45) rfl ?_); refine gL (some 9) rfl rfl Tryd.func45 (by kernel_rfl) rfl #[.slice A0_0 l0_0.length c0_0, .slice A1_0 l1_0.length c1_0] rfl ?_; (with_reducible refine (laws_eqSlotS.calls k _ _ l0_0 _ _ l1_0 true _ ?side1 ?side2 ?side3 ?side4 A3.out).mono ?_); (case side1 => exact cb HR0_0 HB); (case side2 => exact HC0_0.out); (case side3 => exact cb HR1_0 HB); (case side4 => exact HC1_0.out); rintro e w29 ⟨rfl, hb⟩; refine ⟨_, rfl, ?_⟩; replace BK198 := nb BK198 hb; replace BK199 := nb BK199 hb; replace HB := Aside0.mk (below_step (bs2 HB GE198 GE199) hb); (try clear hb); (try clear hb2); (try clear hk); (try clear hi); obtain ⟨hcz30_0, hcz30_1, hcz30_2, hcz30_3⟩ := cz4 BK198; obtain ⟨hfz30_0, hfz30_1, hfz30_2, hfz30_3⟩ := fz4 BK198; obtain ⟨hcz31_0, hcz31_1, hcz31_2, hcz31_3⟩ := cz4 BK199; obtain ⟨hfz31_0, hfz31_1, hfz31_2, hfz31_3⟩ := fz4 BK199))
    go_ret
    exact ⟨by first | rfl | (simp [errW_none, errW_some] <;> rfl) | (simp [*, errW_none, errW_some] <;> rfl), bs2 HB GE198 GE199⟩
  ·
   rw [if_neg c5] at H
   have c5b0 : (a0_1 == a1_1) = false := beq_eq_false_iff_ne.mpr c5
   have c5b1 : (a0_1 != a1_1) = true := bne_iff_ne.mpr c5
   obtain rfl := Option.some.inj H
   go_enter Tryd.func21, Tryd.ntmps21
   go_wp2_with (first | ((with_reducible refine gate_dst (N := 2) rfl ?_); refine box_event ?hg (N := 2) ?hd (cs := #[.slice A0_0 l0_0.length c0_0, .int .i64 a0_1, .int .i64 a0_2, .int .i64 a0_3]) (t := 36) ?hr ?_; (case hd => rfl); (case hg => rfl); (case hr => first | (go_simp; done) | (go_simp; rfl)); intro gb198 hg w32 hbox hb; have BK198 := Aside0.mk (hbox); have GW198 := Aside0.mk ((by rw [hg]; exact (below_size (bs HB)) : w.heap.size ≤ gb198)); have GE198 := Aside0.mk ((by rw [hg]; exact (below_size (bs HB)) : w.heap.size ≤ gb198)); replace HB := Aside0.mk (below_step (bs HB) hb); clear hb hbox hg) | ((with_reducible refine gate_dst (N := 3) rfl ?_); refine box_event ?hg (N := 3) ?hd (cs := #[.slice A1_0 l1_0.length c1_0, .int .i64 a1_1, .int .i64 a1_2, .int .i64 a1_3]) (t := 36) ?hr ?_; (case hd => rfl); (case hg => rfl); (case hr => first | (go_simp; done) | (go_simp; rfl)); intro gb199 hg w33 hbox hb; have BK199 := Aside0.mk (hbox); have GW199 := Aside0.mk ((by rw [hg]; exact (below_size (bs1 HB GE198)) : w.heap.size ≤ gb199)); have GE199 := Aside0.mk ((by rw [hg]; exact (below_size (bs1 HB GE198)) : w.heap.size ≤ gb199)); replace HB := Aside0.mk (below_step (bs1 HB GE198) hb); have NB198_199 := Aside0.mk ((bn BK198 hg : gb198 ≠ gb199)); have NB199_198 := Aside0.mk ((bm BK198 hg : gb199 ≠ gb198)); replace BK198 := nb BK198 hb; clear hb hbox hg; have hnb34 := NB198_199.out; have hnc34 := NB199_198.out; obtain ⟨hcz35_0, hcz35_1, hcz35_2, hcz35_3⟩ := cz4 BK198; obtain ⟨hfz35_0, hfz35_1, hfz35_2, hfz35_3⟩ := fz4 BK198; obtain ⟨hcz36_0, hcz36_1, hcz36_2, hcz36_3⟩ := cz4 BK199; obtain ⟨hfz36_0, hfz36_1, hfz36_2, hfz36_3⟩ := fz4 BK199) | ((with_reducible refine gate_callee (f := 45) rfl ?_); refine gL (some 9) rfl rfl Tryd.func45 (by kernel_rfl) rfl #[.slice A0_0 l0_0.length c0_0, .slice A1_0 l1_0.length c1_0] rfl ?_; (with_reducible refine (laws_eqSlotS.calls k _ _ l0_0 _ _ l1_0 true _ ?side1 ?side2 ?side3 ?side4 A3.out).mono ?_); (case side1 => exact cb HR0_0 HB); (case side2 => exact HC0_0.out); (case side3 => exact cb HR1_0 HB); (case side4 => exact HC1_0.out); rintro e w37 ⟨rfl, hb⟩; refine ⟨_, rfl, ?_⟩; replace BK198 := nb BK198 hb; replace BK199 := nb BK199 hb; replace HB := Aside0.mk (below_step (bs2 HB GE198 GE199) hb); (try clear hb); (try clear hb2); (try clear hk); (try clear hi); obtain ⟨hcz38_0, hcz38_1, hcz38_2, hcz38_3⟩ := cz4 BK198; obtain ⟨hfz38_0, hfz38_1, hfz38_2, hfz38_3⟩ := fz4 BK198; obtain ⟨hcz39_0, hcz39_1, hcz39_2, hcz39_3⟩ := cz4 BK199; obtain ⟨hfz39_0, hfz39_1, hfz39_2, hfz39_3⟩ := fz4 BK199))
   go_ret
   exact ⟨by first | rfl | (simp [errW_none, errW_some] <;> rfl) | (simp [*, errW_none, errW_some] <;> rfl), bs2 HB GE198 GE199⟩
 ·
  replace c4 := Bool.eq_false_iff.mpr c4
  subst c4
  rw [if_neg (show ¬ (false = true) by decide)] at H
  obtain rfl := Option.some.inj H
  go_enter Tryd.func21, Tryd.ntmps21
  go_wp2_with (first | ((with_reducible refine gate_dst (N := 2) rfl ?_); refine box_event ?hg (N := 2) ?hd (cs := #[.slice A0_0 l0_0.length c0_0, .int .i64 a0_1, .int .i64 a0_2, .int .i64 a0_3]) (t := 36) ?hr ?_; (case hd => rfl); (case hg => rfl); (case hr => first | (go_simp; done) | (go_simp; rfl)); intro gb198 hg w40 hbox hb; have BK198 := Aside0.mk (hbox); have GW198 := Aside0.mk ((by rw [hg]; exact (below_size (bs HB)) : w.heap.size ≤ gb198)); have GE198 := Aside0.mk ((by rw [hg]; exact (below_size (bs HB)) : w.heap.size ≤ gb198)); replace HB := Aside0.mk (below_step (bs HB) hb); clear hb hbox hg) | ((with_reducible refine gate_dst (N := 3) rfl ?_); refine box_event ?hg (N := 3) ?hd (cs := #[.slice A1_0 l1_0.length c1_0, .int .i64 a1_1, .int .i64 a1_2, .int .i64 a1_3]) (t := 36) ?hr ?_; (case hd => rfl); (case hg => rfl); (case hr => first | (go_simp; done) | (go_simp; rfl)); intro gb199 hg w41 hbox hb; have BK199 := Aside0.mk (hbox); have GW199 := Aside0.mk ((by rw [hg]; exact (below_size (bs1 HB GE198)) : w.heap.size ≤ gb199)); have GE199 := Aside0.mk ((by rw [hg]; exact (below_size (bs1 HB GE198)) : w.heap.size ≤ gb199)); replace HB := Aside0.mk (below_step (bs1 HB GE198) hb); have NB198_199 := Aside0.mk ((bn BK198 hg : gb198 ≠ gb199)); have NB199_198 := Aside0.mk ((bm BK198 hg : gb199 ≠ gb198)); replace BK198 := nb BK198 hb; clear hb hbox hg; have hnb42 := NB198_199.out; have hnc42 := NB199_198.out; obtain ⟨hcz43_0, hcz43_1, hcz43_2, hcz43_3⟩ := cz4 BK198; obtain ⟨hfz43_0, hfz43_1, hfz43_2, hfz43_3⟩ := fz4 BK198; obtain ⟨hcz44_0, hcz44_1, hcz44_2, hcz44_3⟩ := cz4 BK199; obtain ⟨hfz44_0, hfz44_1, hfz44_2, hfz44_3⟩ := fz4 BK199) | ((with_reducible refine gate_callee (f := 45) rfl ?_); refine gL (some 9) rfl rfl Tryd.func45 (by kernel_rfl) rfl #[.slice A0_0 l0_0.length c0_0, .slice A1_0 l1_0.length c1_0] rfl ?_; (with_reducible refine (laws_eqSlotS.calls k _ _ l0_0 _ _ l1_0 false _ ?side1 ?side2 ?side3 ?side4 A3.out).mono ?_); (case side1 => exact cb HR0_0 HB); (case side2 => exact HC0_0.out); (case side3 => exact cb HR1_0 HB); (case side4 => exact HC1_0.out); rintro e w45 ⟨rfl, hb⟩; refine ⟨_, rfl, ?_⟩; replace BK198 := nb BK198 hb; replace BK199 := nb BK199 hb; replace HB := Aside0.mk (below_step (bs2 HB GE198 GE199) hb); (try clear hb); (try clear hb2); (try clear hk); (try clear hi)))
  go_ret
  exact ⟨by first | rfl | (simp [errW_none, errW_some] <;> rfl) | (simp [*, errW_none, errW_some] <;> rfl), bs2 HB GE198 GE199⟩

/-! ### spec_NewRing: function 22 -/
def spec_NewRing.l0 : Nat → Int → Int → List (S26) → Int → Int → Int → Option ((List (S26)) × Int × Int × Int × Bool)
 | 0, _, _, _, _, _, _ => none
 | k + 1, x0, x5, x204000, x204001, x204002, x204003 => if x5 < x0 then ((spec_l10Zero.f k).bind fun bt204 => (if x204000.length < 3518437208883 then (spec_NewRing.l0 k x0 (wrap64 (x5 + 1)) (x204000 ++ [(⟨bt204.1, bt204.2.1, bt204.2.2.1, bt204.2.2.2⟩ : S26)]) x204001 x204002 x204003) else (none))) else (some (x204000, x204001, x204002, x204003, true))
def spec_NewRing.f (k : Nat) (a0 : Int) : Option ((List (S26)) × Int × Int × Int × Bool) := (spec_l1In.f a0 2 24).bind fun t202 => (if t202 = true then (spec_NewRing.l0 k a0 0 ([] : List (S26)) 0 1 0) else (some (([] : List (S26)), 0, 0, 0, false)))
theorem spec_NewRing.mono_l : ∀ k, (∀ y0 y1 y2 y3 y4 y5, LeO (spec_NewRing.l0 k y0 y1 y2 y3 y4 y5) (spec_NewRing.l0 (k + 1) y0 y1 y2 y3 y4 y5))
 | 0 => fun _ _ _ _ _ _ r h => by simp [spec_NewRing.l0] at h
 | k + 1 => by
  have ih0 := spec_NewRing.mono_l k
  ·
   intro y0 y1 y2 y3 y4 y5
   unfold spec_NewRing.l0
   repeat' first
   | (with_reducible exact ih0 _ _ _ _ _ _)
   | (with_reducible exact spec_l10Zero.mono _)
   | (with_reducible exact LeO.refl _)
   | (with_reducible exact LeO.none _)
   | (with_reducible refine LeO.ite ?_ ?_)
   | (with_reducible refine LeO.bind ?_ (fun _ => ?_))
   | exact ih0 _ _ _ _ _ _
   | exact spec_l10Zero.mono _
   | exact LeO.none _
   | refine LeO.ite ?_ ?_
   | refine LeO.bind ?_ (fun _ => ?_)
theorem spec_NewRing.mono : ∀ a0 k, LeO (spec_NewRing.f k a0) (spec_NewRing.f (k + 1) a0) := by
 intro a0 k
 have ih0 := spec_NewRing.mono_l k
 unfold spec_NewRing.f
 repeat' first
   | (with_reducible exact ih0 _ _ _ _ _ _)
   | (with_reducible exact spec_l10Zero.mono _)
   | (with_reducible exact LeO.refl _)
   | (with_reducible exact LeO.none _)
   | (with_reducible refine LeO.ite ?_ ?_)
   | (with_reducible refine LeO.bind ?_ (fun _ => ?_))
   | exact ih0 _ _ _ _ _ _
   | exact spec_l10Zero.mono _
   | exact LeO.none _
   | refine LeO.ite ?_ ?_
   | refine LeO.bind ?_ (fun _ => ?_)
set_option maxHeartbeats 8000000 in
set_option maxRecDepth 100000 in
theorem spec_NewRing.calls (k : Nat) (a0 : Int) (r1 : List (S26)) (r2 : Int) (r3 : Int) (r4 : Int) (r5 : Bool) (w : World) (h : spec_NewRing.f k a0 = some (r1, r2, r3, r4, r5)) :
  Calls Tryd.prog 22 #[.int .i64 a0] w fun e w' => ∃ v0_ : Value, e = .returned (.tuple #[.agg #[v0_, .int .i64 r2, .int .i64 r3, .int .i64 r4], .bool r5]) ∧ Kd.R k26 26 w' w.heap.size (fun _ => True) v0_ r1 ∧ Below w.heap.size w w' := by
 have hu36 := Tryd.underlying36
 have HB := Aside0.mk (Below.refl w.heap.size w)
 have H : ((spec_l1In.f a0 2 24).bind fun t202 => (if t202 = true then (spec_NewRing.l0 k a0 0 ([] : List (S26)) 0 1 0) else (some (([] : List (S26)), 0, 0, 0, false)))) = some (r1, r2, r3, r4, r5) := h
 clear h
 replace H := Option.bind_eq_some_iff.mp H
 obtain ⟨t202, A20, H⟩ := H
 replace H : (if t202 = true then (spec_NewRing.l0 k a0 0 ([] : List (S26)) 0 1 0) else (some (([] : List (S26)), 0, 0, 0, false))) = some (r1, r2, r3, r4, r5) := H
 have A2 := Aside0.mk A20
 clear A20
 by_cases c3 : t202 = true
 ·
  subst c3
  rw [if_pos rfl] at H
  have H' := Aside0.mk H
  clear H
  go_enter Tryd.func22, Tryd.ntmps22
  go_wp2_with (first | ((with_reducible refine gate_dst (N := 2) rfl ?_); refine box_event ?hg (N := 2) ?hd (cs := #[.slice none 0 0, .int .i64 0, .int .i64 0, .int .i64 0]) (t := 36) ?hr ?_; (case hd => rfl); (case hg => rfl); (case hr => first | (go_simp; done) | (go_simp; rfl)); intro gb201 hg w4 hbox hb; have BK201 := Aside0.mk (hbox); have GW201 := Aside0.mk ((by rw [hg]; exact (below_size (bs HB)) : w.heap.size ≤ gb201)); have GE201 := Aside0.mk ((by rw [hg]; exact (below_size (bs HB)) : w.heap.size ≤ gb201)); replace HB := Aside0.mk (below_step (bs HB) hb); clear hb hbox hg) | ((with_reducible refine gate_callee (f := 55) rfl ?_); refine gL (some 7) rfl rfl Tryd.func55 (by kernel_rfl) rfl #[.int .i64 a0, .int .i64 2, .int .i64 24] rfl ?_; (with_reducible refine (spec_l1In.calls a0 2 24 true _ A2.out).mono ?_); rintro e w' ⟨rfl, ⟨nd, rfl⟩⟩; refine ⟨_, rfl, ?_⟩; (try (rw [drewN_self w4]; generalize hq_ : World.drewN w4 _ = w4; have n0_ : Aside0 (w4.heap[gb201]? = some (.cells #[.slice none 0 0, .int .i64 0, .int .i64 0, .int .i64 0] 36 (0, 0))) := ⟨by rw [← hq_]; exact (bk BK201)⟩; have n1_ : Aside0 (Below w.heap.size w w4) := ⟨by rw [← hq_]; exact (bs1 HB GE201)⟩; clear BK201 HB hq_; have BK201 := n0_; have HB := n1_; clear n0_ n1_))) | ((with_reducible refine gate_dst (N := 4) rfl ?_); refine box_event ?hg (N := 4) ?hd (cs := #[.slice none 0 0, .int .i64 0, .int .i64 0, .int .i64 0]) (t := 36) ?hr ?_; (case hd => rfl); (case hg => rfl); (case hr => first | (go_simp; done) | (go_simp; rfl)); intro gb203 hg w5 hbox hb; have BK203 := Aside0.mk (hbox); have GW203 := Aside0.mk ((by rw [hg]; exact (below_size (bs1 HB GE201)) : w.heap.size ≤ gb203)); have GE203 := Aside0.mk ((by rw [hg]; exact (below_size (bs1 HB GE201)) : w.heap.size ≤ gb203)); replace HB := Aside0.mk (below_step (bs1 HB GE201) hb); have NB201_203 := Aside0.mk ((bn BK201 hg : gb201 ≠ gb203)); have NB203_201 := Aside0.mk ((bm BK201 hg : gb203 ≠ gb201)); replace BK201 := nb BK201 hb; clear hb hbox hg; have hnb6 := NB203_201.out; have hnc6 := NB201_203.out; obtain ⟨hcz7_0, hcz7_1, hcz7_2, hcz7_3⟩ := cz4 BK203; obtain ⟨hfz7_0, hfz7_1, hfz7_2, hfz7_3⟩ := fz4 BK203))
  go_loopg [5] k (fun kq v5 w' => ∃ (x5_1 : Int) (x204000_1 : List (S26)) (u204000 : Value), v5 = .int .i64 x5_1 ∧ Aside0 (spec_NewRing.l0 kq a0 x5_1 x204000_1 0 1 0 = some (r1, r2, r3, r4, r5)) ∧ Aside0 (kq ≤ k) ∧ Aside0 (Kd.R k26 26 w' w.heap.size (fun _ => True) u204000 x204000_1) ∧ Aside0 (w'.heap[gb201]? = some (.cells #[(.slice none 0 0), .int .i64 0, .int .i64 0, .int .i64 0] 36 (0, 0))) ∧ Aside0 (w'.heap[gb203]? = some (.cells #[u204000, .int .i64 0, .int .i64 1, .int .i64 0] 36 (0, 0))) ∧ Aside0 (Below w.heap.size w w'))
  case atStart => exact ⟨(0), (([] : List (S26))), (.slice none 0 0), (by first | rfl | (simp; done) | (simp [*]; done)), H', ⟨Nat.le_refl _⟩, ⟨by first | exact Kd.R_nil _ _ _ _ _ | exact Kd.N_nil _ _ _ _ _ | exact Kd.V_nil _ _ _ _ _ | exact Kd.Q_nil _ _ _ _ _ | exact Kd.S_nil _ _ _ _ _⟩, ⟨bf BK201 NB201_203⟩, ⟨by (with_reducible repeat (first | refine blk_drewN ?_ _ | refine blk_drew ?_ | refine blk_alloc ?_ _)); refine blk_put (cs := #[.slice none 0 0, .int .i64 0, .int .i64 1, .int .i64 0]) ?_ 3 _ rfl; (with_reducible repeat (first | refine blk_drewN ?_ _ | refine blk_drew ?_ | refine blk_alloc ?_ _)); refine blk_put (cs := #[.slice none 0 0, .int .i64 0, .int .i64 0, .int .i64 0]) ?_ 2 _ rfl; (with_reducible repeat (first | refine blk_drewN ?_ _ | refine blk_drew ?_ | refine blk_alloc ?_ _)); refine blk_put (cs := #[.slice none 0 0, .int .i64 0, .int .i64 0, .int .i64 0]) ?_ 1 _ rfl; (with_reducible repeat (first | refine blk_drewN ?_ _ | refine blk_drew ?_ | refine blk_alloc ?_ _)); refine blk_put (cs := #[.slice none 0 0, .int .i64 0, .int .i64 0, .int .i64 0]) ?_ 0 _ rfl; (with_reducible repeat (first | refine blk_drewN ?_ _ | refine blk_drew ?_ | refine blk_alloc ?_ _)); exact BK203.out⟩, ⟨bs2 HB GE201 GE203⟩⟩
  case round =>
   clear H'
   try clear c2
   try clear p2
   try clear c3
   try clear c5
   try clear c6
   try clear hcz7_0 hcz7_1 hcz7_2 hcz7_3
   try clear hfz7_0 hfz7_1 hfz7_2 hfz7_3
   obtain ⟨x5_1, x204000_1, u204000, rfl, HA, HK1, HO_204000, BK201, BK203, HB⟩ := hrel
   cases gk with
   | zero => exact absurd HA.out (by simp [spec_NewRing.l0])
   | succ k1 =>
    have H := HA.out
    clear HA
    simp only [spec_NewRing.l0] at H
    by_cases c8 : x5_1 < a0
    ·
     rw [if_pos c8] at H
     have c8b0 : decide (x5_1 < a0) = true := decide_eq_true c8
     clear c8
     replace H := Option.bind_eq_some_iff.mp H
     obtain ⟨⟨t204, t205, t206, t207⟩, A90, H⟩ := H
     replace H : (if x204000_1.length < 3518437208883 then (spec_NewRing.l0 k1 a0 (wrap64 (x5_1 + 1)) (x204000_1 ++ [(⟨t204, t205, t206, t207⟩ : S26)]) 0 1 0) else (none)) = some (r1, r2, r3, r4, r5) := H
     have A9 := Aside0.mk A90
     clear A90
     by_cases c10 : x204000_1.length < 3518437208883
     ·
      rw [if_pos c10] at H
      have LMc10 := Aside0.mk c10
      clear c10
      obtain ⟨y208, hy208⟩ : ∃ y_ : List (S26), y_ = (x204000_1 ++ [(⟨t204, t205, t206, t207⟩ : S26)]) := ⟨_, rfl⟩
      replace H : (spec_NewRing.l0 k1 a0 (wrap64 (x5_1 + 1)) y208 0 1 0) = some (r1, r2, r3, r4, r5) := by first | (rw [hy208]; with_reducible exact H) | (have H2_ := (Option.bind_some _ _).symm.trans H; rw [hy208]; with_reducible exact H2_) | (have H2_ := (Option.bind_some _ _).symm.trans H; with_reducible exact H2_) | with_reducible exact H | (rw [hy208]; exact H) | exact H
      have Ny208 := Aside0.mk hy208
      clear hy208
      have H' := Aside0.mk H
      clear H
      try go_wp2
      have n0_ := Aside0.mk (Kd.R_drew HO_204000.out)
      have n1_ := Aside0.mk (blk_drew BK201.out)
      have n2_ := Aside0.mk (blk_drew BK203.out)
      have n3_ := Aside0.mk (below_drew1 HB.out)
      clear HO_204000
      clear BK201
      clear BK203
      clear HB
      have HO_204000 := n0_
      have BK201 := n1_
      have BK203 := n2_
      have HB := n3_
      clear n0_ n1_ n2_ n3_
      refine start_ (n := 7) (S := fun w' => w'.cell? ⟨gb203, 0, none⟩ = some (u204000) ∧ w'.cell? ⟨gb203, 1, none⟩ = some (.int .i64 0) ∧ w'.cell? ⟨gb203, 2, none⟩ = some (.int .i64 1) ∧ w'.cell? ⟨gb203, 3, none⟩ = some (.int .i64 0)) (ds := [6]) #[false, false, false, false, false, false, false] (by kernel_rfl) rfl rfl ⟨(blk_cell BK203.out 0).trans rfl, (blk_cell BK203.out 1).trans rfl, (blk_cell BK203.out 2).trans rfl, (blk_cell BK203.out 3).trans rfl⟩ (fun hHeld => ?_)
      generalize wr.drew = w11 at HO_204000 BK201 BK203 HB hHeld ⊢
      refine pure_ (i := 0) (N := some 16) (v := ?_) (a' := ?_) #[true, false, false, false, false, false, false] rfl rfl (by kernel_rfl) (fun _ _ _ h => h) (Or.inl ⟨by rfl, ?_⟩) ?_ ?_
      rotate_left
      ·
       intro w'
       go_simp
       with_reducible rfl
      rotate_left
      ·
       simp only [Act.put, List.setIfInBounds_toArray, List.set_cons_zero, List.set_cons_succ, i64_w, i32_w]
       rfl
      refine take_ (i := 1) (N := some 17) (v := ?_) (a' := ?_) #[true, true, false, false, false, false, false] rfl rfl (by kernel_rfl) (fun _ _ _ h => h) (Or.inl ⟨by rfl, ?_⟩) hHeld ?_ ?_
      rotate_left
      ·
       rintro w' ⟨s0, s1, s2, s3⟩
       go_simp
       with_reducible rfl
      rotate_left
      ·
       simp only [Act.put, List.setIfInBounds_toArray, List.set_cons_zero, List.set_cons_succ, i64_w, i32_w]
       rfl
      refine one_ (i := 2) (N := some 18) #[true, true, true, false, false, false, false] rfl rfl (by kernel_rfl) (by decide) (fun K hK => ?_)
      refine goes_ Tryd.func56 (by kernel_rfl) rfl #[] (by rfl) rfl rfl (by (try simp only [List.map_toArray, List.map_cons, List.map_nil]); first | done | rfl | (simp only [List.length_drop, List.length_take]; rfl)) ?_
      with_reducible refine (spec_l10Zero.calls k1  t204 t205 t206 t207 _ A9.out).mono ?_
      rintro e w12 ⟨rfl, hb⟩
      refine ⟨_, rfl, ?_⟩
      have n0_ := Aside0.mk (Kd.R_below (rr HO_204000.out) hb)
      have n1_ := Aside0.mk (bb BK201 hb)
      have n2_ := Aside0.mk (bb BK203 hb)
      have n3_ := Aside0.mk (below_step (bs2 HB GE201 GE203) hb)
      clear HO_204000
      clear BK201
      clear BK203
      clear HB
      have HO_204000 := n0_
      have BK201 := n1_
      have BK203 := n2_
      have HB := n3_
      clear n0_ n1_ n2_ n3_
      (try clear hb)
      (try clear hb2)
      (try clear hk)
      (try clear hi)
      refine hK.out _ _ ⟨(blk_cell BK203.out 0).trans rfl, (blk_cell BK203.out 1).trans rfl, (blk_cell BK203.out 2).trans rfl, (blk_cell BK203.out 3).trans rfl⟩ (fun hHeld => ?_)
      clear hK K
      refine norm_ (a' := ?_) ?_ ?_
      rotate_left
      ·
       show Act.put _ (some 18) _ = _
       simp only [Act.put, List.setIfInBounds_toArray, List.set_cons_zero, List.set_cons_succ, i64_w, i32_w]
       rfl
      refine one_ (i := 3) (N := some 19) #[true, true, true, true, false, false, false] rfl rfl (by kernel_rfl) (by decide) (fun K hK => ?_)
      refine value_ (w1 := ?_) (v := ?_) (by rfl) rfl ?_ ?_
      rotate_left 2
      ·
       go_simp
       constructor
       ·
        rfl
       ·
        rfl
      refine hK.out _ _ ⟨(blk_cell (blk_alloc BK203.out _) 0).trans rfl, (blk_cell (blk_alloc BK203.out _) 1).trans rfl, (blk_cell (blk_alloc BK203.out _) 2).trans rfl, (blk_cell (blk_alloc BK203.out _) 3).trans rfl⟩ (fun hHeld => ?_)
      clear hK K
      refine norm_ (a' := ?_) ?_ ?_
      rotate_left
      ·
       show Act.put _ (some 19) _ = _
       simp only [Act.put, List.setIfInBounds_toArray, List.set_cons_zero, List.set_cons_succ, i64_w, i32_w]
       rfl
      refine one_ (i := 4) (N := some 20) #[true, true, true, true, true, false, false] rfl rfl (by kernel_rfl) (by decide) (fun K hK => ?_)
      refine Kd.R_append_step k26 (w0 := w) w.heap.size (by rfl) (.tmp 17) (.tmp 19) 34 26 (.agg #[(.int .i64 0), (.int .i64 0), (.string ⟨#[]⟩), (.int .i64 0)]) 40 rfl Tryd.underlying34 info26 rfl (by decide) (by omega) u204000 x204000_1 (⟨t204, t205, t206, t207⟩ : S26) [.int .i64 t204, .int .i64 t205, .string t206, .int .i64 t207] (fun _ => True) (fun _ => False) rfl rfl ?aP (fun _ hk => hk.elim) ?aF ?aO ?aB ?aS ?aL ?_
      (case aP => exact k26_mkM _ _ _ (⟨t204, t205, t206, t207⟩ : S26))
      (case aB => exact (bs2 HB GE201 GE203))
      (case aF => exact (fun _ _ => trivial))
      (case aO => exact (rr HO_204000.out))
      (case aS => exact (below_size (bs2 HB GE201 GE203)))
      (case aL => have := LMc10.out; omega)
      intro v209 w13 ho hb hg hat
      rw [← Ny208.out] at ho
      have n0_ := Aside0.mk (blk_grown (bk BK201) hg (Kd.R_ne HO_204000.out BK201.out (by decide)))
      have n1_ := Aside0.mk (blk_grown (bk BK203) hg (Kd.R_ne HO_204000.out BK203.out (by decide)))
      have n2_ := Aside0.mk (hb)
      have n3_ := Aside0.mk (ho)
      clear BK201
      clear BK203
      clear HB
      clear HO_204000
      have BK201 := n0_
      have BK203 := n1_
      have HB := n2_
      have HO210 := n3_
      clear n0_ n1_ n2_ n3_
      clear ho hb hg hat
      obtain ⟨Ao14, co14, eo14⟩ := Kd.R_slice HO210.out
      (first | subst eo14 | (injection eo14 with f1_ f2_ f3_; have f4_ := f1_.symm; have f5_ := f3_.symm; clear f1_ f2_ f3_; subst f4_; subst f5_))
      refine hK.out _ _ ⟨(blk_cell BK203.out 0).trans rfl, (blk_cell BK203.out 1).trans rfl, (blk_cell BK203.out 2).trans rfl, (blk_cell BK203.out 3).trans rfl⟩ (fun hHeld => ?_)
      clear hK K
      refine norm_ (a' := ?_) ?_ ?_
      rotate_left
      ·
       show Act.put _ (some 20) _ = _
       simp only [Act.put, List.setIfInBounds_toArray, List.set_cons_zero, List.set_cons_succ, i64_w, i32_w]
       rfl
      refine pure_ (i := 5) (N := some 21) (v := ?_) (a' := ?_) #[true, true, true, true, true, true, false] rfl rfl (by kernel_rfl) (fun _ _ _ h => h) (Or.inl ⟨by rfl, ?_⟩) ?_ ?_
      rotate_left
      ·
       intro w'
       go_simp
       with_reducible rfl
      rotate_left
      ·
       simp only [Act.put, List.setIfInBounds_toArray, List.set_cons_zero, List.set_cons_succ, i64_w, i32_w]
       rfl
      refine last_ (i := 6) (N := none) #[true, true, true, true, true, true, true] rfl rfl (by kernel_rfl) (by decide) (fun K hK => ?_)
      have hs15 : w13.cell? ⟨gb203, 0, none⟩ = some (u204000) := (blk_cell BK203.out 0).trans rfl
      have hfs15 := blk_frozen BK203.out 0
      have hns15_0 := NB201_203.out
      have hms15_0 := NB203_201.out
      refine skip_ (w1 := ?_) (by rfl) rfl ?_ ?_
      rotate_left
      ·
       go_simp
       rfl
      refine hK.out _ _ ?_
      clear hK K
      refine done_ (by kernel_rfl) ?_
      try go_wp2
      go_roundg k1
      case measure => have := HK1.out; omega
      case rel => exact ⟨(wrap64 (x5_1 + 1)), (y208), (.slice Ao14 y208.length co14), (by first | rfl | (simp; done) | (simp [*]; done)), H', ⟨by have := HK1.out; omega⟩, ⟨by (with_reducible repeat (first | apply Kd.R_alloc | apply Kd.R_drewN | apply Kd.R_drew)); exact Kd.R_mono (Kd.R_far (p := ⟨gb203, 0, none⟩) (Kd.R_types HO210.out BK203.out (by decide)) (fun _ hk => hk.2) (.slice Ao14 y208.length co14)) (fun _ hk => trivial)⟩, ⟨bf BK201 NB201_203⟩, ⟨by (with_reducible repeat (first | refine blk_drewN ?_ _ | refine blk_drew ?_ | refine blk_alloc ?_ _)); refine blk_put (cs := #[u204000, .int .i64 0, .int .i64 1, .int .i64 0]) ?_ 0 _ rfl; (with_reducible repeat (first | refine blk_drewN ?_ _ | refine blk_drew ?_ | refine blk_alloc ?_ _)); exact BK203.out⟩, ⟨bs2 HB GE201 GE203⟩⟩
     ·
      rw [if_neg c10] at H
      exact absurd H (by simp)
    ·
     rw [if_neg c8] at H
     have c8b0 : decide (x5_1 < a0) = false := decide_eq_false c8
     clear c8
     simp only [Option.some.injEq, Prod.mk.injEq] at H
     obtain ⟨rfl, rfl, rfl, rfl, rfl⟩ := H
     have hnb16 := NB203_201.out
     have hnc16 := NB201_203.out
     obtain ⟨hcz17_0, hcz17_1, hcz17_2, hcz17_3⟩ := cz4 BK203
     obtain ⟨hfz17_0, hfz17_1, hfz17_2, hfz17_3⟩ := fz4 BK203
     obtain ⟨Ao18, co18, eo18⟩ := Kd.R_slice HO_204000.out
     subst eo18
     obtain ⟨hcz19_0, hcz19_1, hcz19_2, hcz19_3⟩ := cz4 BK201
     obtain ⟨hfz19_0, hfz19_1, hfz19_2, hfz19_3⟩ := fz4 BK201
     go_wp2
     refine bodyPost_ret (results_ct rfl _ _ gb201 36 #[.slice Ao18 x204000_1.length co18, .int .i64 0, .int .i64 1, .int .i64 0] (0, 0) _ rfl (by (with_reducible repeat (first | refine blk_drewN ?_ _ | refine blk_drew ?_ | refine blk_alloc ?_ _)); refine blk_put (cs := #[.slice Ao18 x204000_1.length co18, .int .i64 0, .int .i64 1, .int .i64 0]) ?_ 3 _ rfl; (with_reducible repeat (first | refine blk_drewN ?_ _ | refine blk_drew ?_ | refine blk_alloc ?_ _)); refine blk_put (cs := #[.slice Ao18 x204000_1.length co18, .int .i64 0, .int .i64 0, .int .i64 0]) ?_ 2 _ rfl; (with_reducible repeat (first | refine blk_drewN ?_ _ | refine blk_drew ?_ | refine blk_alloc ?_ _)); refine blk_put (cs := #[.slice Ao18 x204000_1.length co18, .int .i64 0, .int .i64 0, .int .i64 0]) ?_ 1 _ rfl; (with_reducible repeat (first | refine blk_drewN ?_ _ | refine blk_drew ?_ | refine blk_alloc ?_ _)); refine blk_put (cs := #[.slice none 0 0, .int .i64 0, .int .i64 0, .int .i64 0]) ?_ 0 _ rfl; (with_reducible repeat (first | refine blk_drewN ?_ _ | refine blk_drew ?_ | refine blk_alloc ?_ _)); exact BK201.out) Tryd.underlying36 rfl (by kernel_rfl)) rfl ?_
     exact ⟨_, by first | rfl | (simp [errW_none, errW_some] <;> rfl) | (simp [*, errW_none, errW_some] <;> rfl), by (with_reducible repeat (first | apply Kd.R_alloc | apply Kd.R_drewN | apply Kd.R_drew)); exact Kd.R_mono (Kd.R_far (p := ⟨gb201, 3, none⟩) (Kd.R_far (p := ⟨gb201, 2, none⟩) (Kd.R_far (p := ⟨gb201, 1, none⟩) (Kd.R_far (p := ⟨gb201, 0, none⟩) (Kd.R_types HO_204000.out BK201.out (by decide)) (fun _ hk => hk.2) (.slice Ao18 x204000_1.length co18)) (fun _ hk => hk.2) (.int .i64 0)) (fun _ hk => hk.2) (.int .i64 1)) (fun _ hk => hk.2) (.int .i64 0)) (fun _ hk => trivial), bs2 HB GE201 GE203⟩
 ·
  replace c3 := Bool.eq_false_iff.mpr c3
  subst c3
  rw [if_neg (show ¬ (false = true) by decide)] at H
  simp only [Option.some.injEq, Prod.mk.injEq] at H
  obtain ⟨rfl, rfl, rfl, rfl, rfl⟩ := H
  go_enter Tryd.func22, Tryd.ntmps22
  go_wp2_with (first | ((with_reducible refine gate_dst (N := 2) rfl ?_); refine box_event ?hg (N := 2) ?hd (cs := #[.slice none 0 0, .int .i64 0, .int .i64 0, .int .i64 0]) (t := 36) ?hr ?_; (case hd => rfl); (case hg => rfl); (case hr => first | (go_simp; done) | (go_simp; rfl)); intro gb201 hg w20 hbox hb; have BK201 := Aside0.mk (hbox); have GW201 := Aside0.mk ((by rw [hg]; exact (below_size (bs HB)) : w.heap.size ≤ gb201)); have GE201 := Aside0.mk ((by rw [hg]; exact (below_size (bs HB)) : w.heap.size ≤ gb201)); replace HB := Aside0.mk (below_step (bs HB) hb); clear hb hbox hg) | ((with_reducible refine gate_callee (f := 55) rfl ?_); refine gL (some 7) rfl rfl Tryd.func55 (by kernel_rfl) rfl #[.int .i64 a0, .int .i64 2, .int .i64 24] rfl ?_; (with_reducible refine (spec_l1In.calls a0 2 24 false _ A2.out).mono ?_); rintro e w' ⟨rfl, ⟨nd, rfl⟩⟩; refine ⟨_, rfl, ?_⟩; (try (rw [drewN_self w20]; generalize hq_ : World.drewN w20 _ = w20; have n0_ : Aside0 (w20.heap[gb201]? = some (.cells #[.slice none 0 0, .int .i64 0, .int .i64 0, .int .i64 0] 36 (0, 0))) := ⟨by rw [← hq_]; exact (bk BK201)⟩; have n1_ : Aside0 (Below w.heap.size w w20) := ⟨by rw [← hq_]; exact (bs1 HB GE201)⟩; clear BK201 HB hq_; have BK201 := n0_; have HB := n1_; clear n0_ n1_)); obtain ⟨hcz21_0, hcz21_1, hcz21_2, hcz21_3⟩ := cz4 BK201; obtain ⟨hfz21_0, hfz21_1, hfz21_2, hfz21_3⟩ := fz4 BK201))
  refine bodyPost_ret (results_ct rfl _ _ gb201 36 #[.slice none 0 0, .int .i64 0, .int .i64 0, .int .i64 0] (0, 0) _ rfl (by (with_reducible repeat (first | refine blk_drewN ?_ _ | refine blk_drew ?_ | refine blk_alloc ?_ _)); refine blk_put (cs := #[.slice none 0 0, .int .i64 0, .int .i64 0, .int .i64 0]) ?_ 3 _ rfl; (with_reducible repeat (first | refine blk_drewN ?_ _ | refine blk_drew ?_ | refine blk_alloc ?_ _)); refine blk_put (cs := #[.slice none 0 0, .int .i64 0, .int .i64 0, .int .i64 0]) ?_ 2 _ rfl; (with_reducible repeat (first | refine blk_drewN ?_ _ | refine blk_drew ?_ | refine blk_alloc ?_ _)); refine blk_put (cs := #[.slice none 0 0, .int .i64 0, .int .i64 0, .int .i64 0]) ?_ 1 _ rfl; (with_reducible repeat (first | refine blk_drewN ?_ _ | refine blk_drew ?_ | refine blk_alloc ?_ _)); refine blk_put (cs := #[.slice none 0 0, .int .i64 0, .int .i64 0, .int .i64 0]) ?_ 0 _ rfl; (with_reducible repeat (first | refine blk_drewN ?_ _ | refine blk_drew ?_ | refine blk_alloc ?_ _)); exact BK201.out) Tryd.underlying36 rfl (by kernel_rfl)) rfl ?_
  exact ⟨_, by first | rfl | (simp [errW_none, errW_some] <;> rfl) | (simp [*, errW_none, errW_some] <;> rfl), by first | exact Kd.R_nil _ _ _ _ _ | exact Kd.N_nil _ _ _ _ _ | exact Kd.V_nil _ _ _ _ _ | exact Kd.Q_nil _ _ _ _ _ | exact Kd.S_nil _ _ _ _ _, bs1 HB GE201⟩

/-! ### impl_Slot: function 61 -/
-- slices.Repeat of a row of one element: as many copies as said, in a row of the call's own.
def impl_Slot.f (l0 : List (S26)) (a1 : Int) : Option (List (S26)) := if l0.length = 1 ∧ 0 ≤ a1 ∧ a1 ≤ 4294967295 ∧ a1.toNat * 40 ≤ 140737488355328 then some (List.replicate a1.toNat (l0.getD 0 z26)) else none
set_option maxRecDepth 100000 in
set_option maxHeartbeats 1000000 in
theorem impl_Slot.calls (A0 : Option Addr) (c0 : Nat) (l0 : List (S26)) (a1 : Int) (r : List (S26)) (w : World) (hr0 : Kd.C k26 w A0 l0.length l0) (hc0 : l0.length ≤ c0) (h : impl_Slot.f l0 a1 = some r) :
    Calls Tryd.prog 61 #[.slice A0 l0.length c0, .int .i64 a1] w fun e w' => ∃ v0_ : Value, e = .returned (v0_) ∧ Kd.R k26 26 w' w.heap.size (fun _ => True) v0_ r ∧ Below w.heap.size w w' := by
  have hus := Tryd.underlying34
  have huu : ∀ w, Sem.run Tryd.prog (underlying 34) w = .ok (TypeDesc.slice 26) w := run_underlying hus
  unfold impl_Slot.f at h
  by_cases hl : l0.length = 1 ∧ 0 ≤ a1 ∧ a1 ≤ 4294967295 ∧ a1.toNat * 40 ≤ 140737488355328
  · rw [if_pos hl] at h
    obtain rfl := Option.some.inj h
    obtain ⟨h1, h2, h3, h4⟩ := hl
    obtain ⟨x, rfl⟩ := List.length_eq_one_iff.1 h1
    obtain ⟨K, rfl⟩ := Int.eq_ofNat_of_zero_le h2
    have hK : K < 4294967296 := by omega
    have hKb : K * 40 ≤ 140737488355328 := by simpa using h4
    have hR := Aside0.mk hr0
    clear hr0 h h1 h2 h3 h4
    simp only [Int.toNat_natCast, List.getD_cons_zero]
    have hmul := Aside0.mk (Rp.mul_one K hK w)
    have hwr : IntKind.u64.wrap (K : Int) = (K : Int) := Rp.wrapK K hK
    have hwi : IntKind.i64.wrap (K : Int) = (K : Int) := Rp.wrapKi K hK
    obtain ⟨q0, hq0⟩ : ∃ q, Aside0 (q = Nat.min 1 (K - 0)) := ⟨_, Aside0.mk rfl⟩
    go_enter Tryd.func61, Tryd.ntmps61
    go_wp2_with (first
      | (go_at_call 73; refine hmul.out.mono ?_; rintro e w' ⟨rfl, hw⟩; rw [hw])
      | ((with_reducible refine gate_dst (N := 30) rfl ?_); refine Kd.R_make k26 (w0 := w) _ 26 rfl (N := 30) rfl 34 _ _ rfl (K : Int) rfl rfl hus (.agg #[(.int .i64 0), (.int .i64 0), (.string ⟨#[]⟩), (.int .i64 0)]) 40 info26 rfl (by decide) (by omega) z26 (ok := fun _ => True) (okp := fun _ => True) (k26_mkM _ _ _ z26) (fun _ hk => hk) trivial (by omega) (by simp only [Int.toNat_natCast]; omega) (Below.refl _ _) (Nat.le_refl _) ?_; intro v1 w1 ho hb hg_ hnew_; simp only [Int.toNat_natCast] at ho; obtain ⟨A1, c1, hv1⟩ := Kd.R_slice ho; rw [List.length_replicate] at hv1; subst hv1; have hcl1 := (Kd.R_reads' ho).2.1; have n0_ := Aside0.mk ho; have n1_ := Aside0.mk hb; clear ho hb hg_ hnew_)
      | ((with_reducible refine gate_builtin (b := .copy) (xs := #[.tmp 31, .tmp 32]) rfl ?_); refine Kd.R_copyrows k26 (w0 := w) w.heap.size rfl (.tmp 31) (.tmp 32) 34 34 26 rfl hus (.agg #[(.int .i64 0), (.int .i64 0), (.string ⟨#[]⟩), (.int .i64 0)]) 40 info26 (by decide) (n := K) (c := c1) (k := 0) (m := 1) q0 hq0.out rfl rfl (Rp.cut0 _ _ _) n0_.out (Nat.zero_le _) (Kd.C_below hR.out n1_.out) (fun _ _ h => h) n1_.out n1_.out.size ?_; intro w2 ho hb hg; rw [Rp.rep_first x z26 hq0.out] at ho; have m0_ := Aside0.mk ho; have m1_ := Aside0.mk hb; clear ho hb hg n0_ n1_ hmul))
    have hq1 : q0 ≤ K := by rw [hq0.out]; exact Nat.min_le_right _ _
    have hq2 : K ≤ q0 ∨ 1 ≤ q0 := by
      have e : q0 = if 1 ≤ K - 0 then 1 else K - 0 := hq0.out
      split at e <;> omega
    clear hq0
    go_loopw [8] (fun v wr => ∃ j : Nat, v = .int .i64 (j : Int) ∧ j ≤ K ∧ (K ≤ j ∨ 1 ≤ j) ∧ Aside0 (Kd.R k26 26 wr w.heap.size (fun _ => True) (.slice A1 K c1) (Rp.rep x z26 K j)) ∧ Aside0 (Below w.heap.size w wr)) (fun v _ => K - (intOf v).toNat)
    case atStart => exact ⟨q0, rfl, hq1, hq2, m0_, m1_⟩
    case round =>
      obtain ⟨j, rfl, hj, hj1, HO, HB⟩ := hrel
      clear m0_ m1_
      obtain ⟨q, hq⟩ : ∃ q, Aside0 (q = Nat.min j (K - j)) := ⟨_, Aside0.mk rfl⟩
      have hqj : q ≤ j := by rw [hq.out]; exact Nat.min_le_left _ _
      have hqK : q ≤ K - j := by rw [hq.out]; exact Nat.min_le_right _ _
      have hsum : IntKind.i64.wrap ((j : Int) + (q : Int)) = ((j + q : Nat) : Int) := by rw [IntKind.wrap_i64]; omega
      obtain ⟨i0, hi, hzz⟩ := Option.map_eq_some_iff.1 info26
      simp only [Prod.mk.injEq] at hzz
      obtain ⟨A2, hA2⟩ : ∃ A2, Aside0 (A2 = if c1 = j then A1 else A1.map (·.add (j * k26.sz))) := ⟨_, Aside0.mk rfl⟩
      have hcf : ∀ W : World, (Instr.slice 34 (.slice A1 K c1) (some (.int .i64 (j : Int))) none none).run Tryd.prog W = .ok (.slice A2 (K - j) (c1 - j)) W := fun W => by
        rw [hA2.out]
        exact cut_from (P := Tryd.prog) 34 26 .i64 hus hi _ hzz.2.1 A1 K c1 (j : Int) (by omega) (by omega) W
      have hct : ∀ W : World, (Instr.slice 34 (.slice A1 K c1) none (some (.int .i64 (j : Int))) none).run Tryd.prog W = .ok (.slice A1 j c1) W :=
        cut_to (P := Tryd.prog) 34 26 .i64 hus hi A1 K c1 (j : Int) (by omega) (by omega) hcl1
      go_wp2
      · go_region_law (refine Kd.R_copyrows_step k26 (w0 := w) w.heap.size rfl (.tmp 41) (.tmp 44) 34 34 26 rfl hus (.agg #[(.int .i64 0), (.int .i64 0), (.string ⟨#[]⟩), (.int .i64 0)]) 40 info26 (by decide) (n := K) (c := c1) (k := j) (c2 := c1 - j) (c' := c1) (m := j) (A := A2) (A' := A1) (xs := Rp.rep x z26 K j) (ys := List.replicate j x) q hq.out (by simp [Act.eval, Act.put]) (by simp [Act.eval, Act.put]) hA2.out HO.out hj (Rp.rep_src (Kd.R_reads' HO.out).2.2 hj) (fun _ _ h => h) (below_drew HB.out) HB.out.size ?_; intro w2 ho hb hg; rw [Rp.rep_next x z26 hqj] at ho; have m0_ := Aside0.mk ho; have m1_ := Aside0.mk hb; clear ho hb hg HO HB)
        all_goals
          go_wp2
          simp only [Act.put, List.getElem_toArray, List.getElem_cons_zero, List.getElem_cons_succ, List.setIfInBounds_toArray, List.set_cons_zero, List.set_cons_succ]
          go_roundw
        case rel => exact ⟨j + q, by go_num, by omega, by omega, m0_, m1_⟩
        case measure =>
          have hq' : q = if j ≤ K - j then j else K - j := hq.out
          split at hq' <;> (simp [intOf]; omega)
      · go_ret
        have e : j = K := by omega
        subst e
        rw [Rp.rep_all] at HO
        exact ⟨_, rfl, HO.out, HB.out⟩
  · rw [if_neg hl] at h
    cases h

end Go.Proofs.YthlifcbkpafofaaDoor.G
