-- Printed by a program of this session (drive.py, by way of the kit's print). Not trusted: Lean checks it.
import Derived.Test.YthlifcbkpafofaaDoorG0
import Derived.Test.YthlifcbkpafofaaDoorG1
import Derived.Test.YthlifcbkpafofaaDoorG2
import Derived.Test.YthlifcbkpafofaaDoorG3
namespace Go.Proofs.YthlifcbkpafofaaDoor.G
open Go.RowKit Go.Proofs.YthlifcbkpafofaaDoorW.PrintWords Go.Proofs.YthlifcbkpafofaaDoorW.PrintLast Go.Proofs.YthlifcbkpafofaaDoorW.PrintMore
attribute [local go_sem] max2_int min2_int max_two min_two max_three min_three max_four min_four   -- for this text's walks alone
set_option linter.unusedVariables false
set_option linter.unusedSimpArgs false

attribute [local go_sem high] eqA26
/-! ### impl_GoodRing: function 20 -/
mutual
def impl_GoodRing.j0 : Nat → Int → Bool → List (S26) → Int → Int → Int → Option (Bool)
 | 0, _, _, _, _, _, _ => none
 | k + 1, x3, x41, x277000, x277001, x277002, x277003 => if x41 = true then (some false) else (impl_GoodRing.l0 k x3 0 (wrap64 (x277001 - x3)) x277000 x277001 x277002 x277003)
def impl_GoodRing.l0 : Nat → Int → Int → Int → List (S26) → Int → Int → Int → Option (Bool)
 | 0, _, _, _, _, _, _, _ => none
 | k + 1, x3, x4, x5, x277000, x277001, x277002, x277003 => if x5 < x277001 then (if x5 < 0 then (if 0 ≤ (wrap64 (x5 + x3)) then (if (wrap64 (x5 + x3)) < (x277000.length : Int) then ((impl_zeroSlot.f k).bind fun bt281 => (if (!(((rd_T26 x277000 (wrap64 (x5 + x3))).f0) == bt281.1) || (!(((rd_T26 x277000 (wrap64 (x5 + x3))).f1) == bt281.2.1) || (!((((rd_T26 x277000 (wrap64 (x5 + x3))).f2).toList) == bt281.2.2.1.toList) || (!(((rd_T26 x277000 (wrap64 (x5 + x3))).f3) == bt281.2.2.2))))) = true then (some false) else (impl_GoodRing.l0 k x3 x4 (wrap64 (x5 + 1)) x277000 x277001 x277002 x277003))) else (none)) else (none)) else (if x3 = 0 then (none) else (if 0 ≤ (Int.tmod x5 x3) then (if (Int.tmod x5 x3) < (x277000.length : Int) then (if x5 < x277003 then ((impl_zeroSlot.f k).bind fun bt287 => (impl_GoodRing.j2 k x3 x4 x5 (((rd_T26 x277000 (Int.tmod x5 x3)).f0) == bt287.1 && (((rd_T26 x277000 (Int.tmod x5 x3)).f1) == bt287.2.1 && ((((rd_T26 x277000 (Int.tmod x5 x3)).f2).toList) == bt287.2.2.1.toList && (((rd_T26 x277000 (Int.tmod x5 x3)).f3) == bt287.2.2.2)))) x277000 x277001 x277002 x277003 ((rd_T26 x277000 (Int.tmod x5 x3)).f0) ((rd_T26 x277000 (Int.tmod x5 x3)).f1) ((rd_T26 x277000 (Int.tmod x5 x3)).f2) ((rd_T26 x277000 (Int.tmod x5 x3)).f3))) else (impl_GoodRing.j2 k x3 x4 x5 false x277000 x277001 x277002 x277003 ((rd_T26 x277000 (Int.tmod x5 x3)).f0) ((rd_T26 x277000 (Int.tmod x5 x3)).f1) ((rd_T26 x277000 (Int.tmod x5 x3)).f2) ((rd_T26 x277000 (Int.tmod x5 x3)).f3))) else (none)) else (none)))) else (some true)
def impl_GoodRing.j2 : Nat → Int → Int → Int → Bool → List (S26) → Int → Int → Int → Int → Int → ByteArray → Int → Option (Bool)
 | 0, _, _, _, _, _, _, _, _, _, _, _, _ => none
 | k + 1, x3, x4, x5, x78, x277000, x277001, x277002, x277003, x287000, x287001, x287002, x287003 => if x78 = true then (impl_GoodRing.l0 k x3 x4 (wrap64 (x5 + 1)) x277000 x277001 x277002 x277003) else ((impl_isIntact.f k x287000 x287001 x287002 x287003).bind fun t291 => (if t291 = true then (if x3 = 0 then (none) else (if x287000 = (wrap64 ((wrap64 (Int.tdiv x5 x3)) + 1)) then (if x287001 > x5 then (some false) else (if x287001 > x277003 then (some false) else (if x287001 < x4 then (some false) else (impl_GoodRing.l0 k x3 x287001 (wrap64 (x5 + 1)) x277000 x277001 x277002 x277003)))) else (some false))) else (some false)))
end
def impl_GoodRing.f (k : Nat) (l0_0 : List (S26)) (a0_1 : Int) (a0_2 : Int) (a0_3 : Int) : Option (Bool) := (impl_within.f (l0_0.length : Int) 2 24).bind fun t277 => (if t277 = true then ((impl_within.f a0_1 0 10000000).bind fun t278 => (if t278 = true then ((impl_within.f a0_3 (mx 0 (wrap64 (a0_1 - (l0_0.length : Int)))) a0_1).bind fun t279 => (if t279 = true then (if (l0_0.length : Int) = 0 then (none) else (impl_GoodRing.j0 k (l0_0.length : Int) (a0_2 != (wrap64 ((wrap64 (Int.tdiv a0_1 (l0_0.length : Int))) + 1))) l0_0 a0_1 a0_2 a0_3)) else (impl_GoodRing.j0 k (l0_0.length : Int) true l0_0 a0_1 a0_2 a0_3))) else (impl_GoodRing.j0 k (l0_0.length : Int) true l0_0 a0_1 a0_2 a0_3))) else (impl_GoodRing.j0 k (l0_0.length : Int) true l0_0 a0_1 a0_2 a0_3))
theorem impl_GoodRing.mono_l : ∀ k, (∀ y0 y1 y2 y3 y4 y5, LeO (impl_GoodRing.j0 k y0 y1 y2 y3 y4 y5) (impl_GoodRing.j0 (k + 1) y0 y1 y2 y3 y4 y5)) ∧ (∀ y0 y1 y2 y3 y4 y5 y6, LeO (impl_GoodRing.l0 k y0 y1 y2 y3 y4 y5 y6) (impl_GoodRing.l0 (k + 1) y0 y1 y2 y3 y4 y5 y6)) ∧ (∀ y0 y1 y2 y3 y4 y5 y6 y7 y8 y9 y10 y11, LeO (impl_GoodRing.j2 k y0 y1 y2 y3 y4 y5 y6 y7 y8 y9 y10 y11) (impl_GoodRing.j2 (k + 1) y0 y1 y2 y3 y4 y5 y6 y7 y8 y9 y10 y11))
 | 0 => ⟨fun _ _ _ _ _ _ r h => by simp [impl_GoodRing.j0] at h, fun _ _ _ _ _ _ _ r h => by simp [impl_GoodRing.l0] at h, fun _ _ _ _ _ _ _ _ _ _ _ _ r h => by simp [impl_GoodRing.j2] at h⟩
 | k + 1 => by
  obtain ⟨ih0, ih1, ih2⟩ := impl_GoodRing.mono_l k
  refine ⟨?_, ?_, ?_⟩
  ·
   intro y0 y1 y2 y3 y4 y5
   unfold impl_GoodRing.j0
   repeat' first
   | (with_reducible exact ih0 _ _ _ _ _ _)
   | (with_reducible exact ih1 _ _ _ _ _ _ _)
   | (with_reducible exact ih2 _ _ _ _ _ _ _ _ _ _ _ _)
   | (with_reducible exact impl_isIntact.mono _ _ _ _ _)
   | (with_reducible exact impl_zeroSlot.mono _)
   | (with_reducible exact LeO.refl _)
   | (with_reducible exact LeO.none _)
   | (with_reducible refine LeO.ite ?_ ?_)
   | (with_reducible refine LeO.bind ?_ (fun _ => ?_))
   | exact ih0 _ _ _ _ _ _
   | exact ih1 _ _ _ _ _ _ _
   | exact ih2 _ _ _ _ _ _ _ _ _ _ _ _
   | exact impl_isIntact.mono _ _ _ _ _
   | exact impl_zeroSlot.mono _
   | exact LeO.none _
   | refine LeO.ite ?_ ?_
   | refine LeO.bind ?_ (fun _ => ?_)
  ·
   intro y0 y1 y2 y3 y4 y5 y6
   unfold impl_GoodRing.l0
   repeat' first
   | (with_reducible exact ih0 _ _ _ _ _ _)
   | (with_reducible exact ih1 _ _ _ _ _ _ _)
   | (with_reducible exact ih2 _ _ _ _ _ _ _ _ _ _ _ _)
   | (with_reducible exact impl_isIntact.mono _ _ _ _ _)
   | (with_reducible exact impl_zeroSlot.mono _)
   | (with_reducible exact LeO.refl _)
   | (with_reducible exact LeO.none _)
   | (with_reducible refine LeO.ite ?_ ?_)
   | (with_reducible refine LeO.bind ?_ (fun _ => ?_))
   | exact ih0 _ _ _ _ _ _
   | exact ih1 _ _ _ _ _ _ _
   | exact ih2 _ _ _ _ _ _ _ _ _ _ _ _
   | exact impl_isIntact.mono _ _ _ _ _
   | exact impl_zeroSlot.mono _
   | exact LeO.none _
   | refine LeO.ite ?_ ?_
   | refine LeO.bind ?_ (fun _ => ?_)
  ·
   intro y0 y1 y2 y3 y4 y5 y6 y7 y8 y9 y10 y11
   unfold impl_GoodRing.j2
   repeat' first
   | (with_reducible exact ih0 _ _ _ _ _ _)
   | (with_reducible exact ih1 _ _ _ _ _ _ _)
   | (with_reducible exact ih2 _ _ _ _ _ _ _ _ _ _ _ _)
   | (with_reducible exact impl_isIntact.mono _ _ _ _ _)
   | (with_reducible exact impl_zeroSlot.mono _)
   | (with_reducible exact LeO.refl _)
   | (with_reducible exact LeO.none _)
   | (with_reducible refine LeO.ite ?_ ?_)
   | (with_reducible refine LeO.bind ?_ (fun _ => ?_))
   | exact ih0 _ _ _ _ _ _
   | exact ih1 _ _ _ _ _ _ _
   | exact ih2 _ _ _ _ _ _ _ _ _ _ _ _
   | exact impl_isIntact.mono _ _ _ _ _
   | exact impl_zeroSlot.mono _
   | exact LeO.none _
   | refine LeO.ite ?_ ?_
   | refine LeO.bind ?_ (fun _ => ?_)
theorem impl_GoodRing.mono : ∀ a0 a1 a2 a3 k, LeO (impl_GoodRing.f k a0 a1 a2 a3) (impl_GoodRing.f (k + 1) a0 a1 a2 a3) := by
 intro a0 a1 a2 a3 k
 obtain ⟨ih0, ih1, ih2⟩ := impl_GoodRing.mono_l k
 unfold impl_GoodRing.f
 repeat' first
   | (with_reducible exact ih0 _ _ _ _ _ _)
   | (with_reducible exact ih1 _ _ _ _ _ _ _)
   | (with_reducible exact ih2 _ _ _ _ _ _ _ _ _ _ _ _)
   | (with_reducible exact impl_isIntact.mono _ _ _ _ _)
   | (with_reducible exact impl_zeroSlot.mono _)
   | (with_reducible exact LeO.refl _)
   | (with_reducible exact LeO.none _)
   | (with_reducible refine LeO.ite ?_ ?_)
   | (with_reducible refine LeO.bind ?_ (fun _ => ?_))
   | exact ih0 _ _ _ _ _ _
   | exact ih1 _ _ _ _ _ _ _
   | exact ih2 _ _ _ _ _ _ _ _ _ _ _ _
   | exact impl_isIntact.mono _ _ _ _ _
   | exact impl_zeroSlot.mono _
   | exact LeO.none _
   | refine LeO.ite ?_ ?_
   | refine LeO.bind ?_ (fun _ => ?_)
def impl_GoodRing.T2 : Bool × List (List Nat × List Nat) := (true, [([], []), ([0], [0]), ([1], [1]), ([2, 1], [2]), ([3], [3]), ([4, 3], [3, 4]), ([5, 3, 3], [3, 5]), ([6, 3], [3, 6]), ([3, 7], [3, 7]), ([8, 6], [8]), ([9], [9]), ([10, 9], [9, 10]), ([9], [9]), ([12, 9], [9, 12]), ([9], [9]), ([13, 14, 9], [9, 13, 14]), ([15, 9], [9, 15]), ([9], [9]), ([17, 9], [9, 17]), ([11, 16, 18, 9, 9], [9, 11, 16, 18]), ([19, 9], [9, 19]), ([9, 20], [9, 20]), ([21, 19], [21]), ([22], [22]), ([23, 22], [22, 23]), ([22], [22]), ([25, 22], [22, 25]), ([22], [22]), ([26, 27, 22], [22, 26, 27]), ([28, 22], [22, 28]), ([24, 29, 22], [22, 24, 29]), ([22, 30], [22, 30])])
def impl_GoodRing.B2 : List Nat := [0, 1, 3, 7, 15, 31, 63, 127, 255, 511, 1023, 2047, 1023, 5119, 1023, 29695, 62463, 1023, 132095, 524287, 1048575, 2097151, 4194303, 8388607, 16777215, 8388607, 41943039, 8388607, 243269631, 511705087, 1073741823, 2147483647]
theorem impl_GoodRing.tab2 : rtab .any (opsOf Tryd.f20 2) = impl_GoodRing.T2 := by kernel_rfl
theorem impl_GoodRing.bits2 : waitsOk impl_GoodRing.T2.2 impl_GoodRing.B2 = true := by kernel_rfl
def impl_GoodRing.T9 : Bool × List (List Nat × List Nat) := (true, [([], []), ([0], [0]), ([], []), ([], []), ([2, 3], [2, 3]), ([1, 4], [1, 4]), ([5], [5]), ([], []), ([6, 7], [6, 7])])
def impl_GoodRing.B9 : List Nat := [0, 1, 0, 0, 12, 31, 63, 0, 255]
theorem impl_GoodRing.tab9 : rtab .any (opsOf Tryd.f20 9) = impl_GoodRing.T9 := by kernel_rfl
theorem impl_GoodRing.bits9 : waitsOk impl_GoodRing.T9.2 impl_GoodRing.B9 = true := by kernel_rfl
def impl_GoodRing.T11 : Bool × List (List Nat × List Nat) := (true, [([], []), ([0], [0]), ([], []), ([], []), ([2, 3], [2, 3]), ([1, 4], [1, 4]), ([5], [5]), ([], []), ([7, 6, 0, 1, 2, 3, 4, 5, 6, 7], [6, 7])])
def impl_GoodRing.B11 : List Nat := [0, 1, 0, 0, 12, 31, 63, 0, 255]
theorem impl_GoodRing.tab11 : rtab .any (opsOf Tryd.f20 11) = impl_GoodRing.T11 := by kernel_rfl
theorem impl_GoodRing.bits11 : waitsOk impl_GoodRing.T11.2 impl_GoodRing.B11 = true := by kernel_rfl
def impl_GoodRing.T12 : Bool × List (List Nat × List Nat) := (true, [([], []), ([], []), ([1], [1]), ([0, 2], [0, 2]), ([3], [3]), ([4], [4]), ([4, 4], [4]), ([5, 6, 4], [4, 5, 6]), ([4, 7], [4, 7])])
def impl_GoodRing.B12 : List Nat := [0, 0, 2, 7, 15, 31, 31, 127, 255]
theorem impl_GoodRing.tab12 : rtab .any (opsOf Tryd.f20 12) = impl_GoodRing.T12 := by kernel_rfl
theorem impl_GoodRing.bits12 : waitsOk impl_GoodRing.T12.2 impl_GoodRing.B12 = true := by kernel_rfl
def impl_GoodRing.T13 : Bool × List (List Nat × List Nat) := (true, [([], []), ([0], [0]), ([1], [1]), ([2, 1], [2]), ([3], [3]), ([4, 3], [3, 4]), ([3], [3]), ([3], [3]), ([6, 7, 3], [3, 6, 7]), ([8, 3], [3, 8]), ([5, 9, 3], [3, 5, 9]), ([3, 10], [3, 10]), ([11, 3], [11]), ([12], [12]), ([13, 12], [12, 13]), ([12], [12]), ([14, 15, 12], [12, 14, 15]), ([12, 16], [12, 16]), ([17, 12], [17]), ([18], [18]), ([19, 18], [18, 19]), ([18], [18]), ([21, 18], [18, 21]), ([20, 22, 18], [18, 20, 22]), ([18, 23], [18, 23]), ([24, 18], [24]), ([25], [25]), ([26, 25], [25, 26]), ([25], [25]), ([27, 28, 25], [25, 27, 28]), ([25, 29], [25, 29])])
def impl_GoodRing.B13 : List Nat := [0, 1, 3, 7, 15, 31, 15, 15, 207, 463, 1023, 2047, 4095, 8191, 16383, 8191, 65535, 131071, 262143, 524287, 1048575, 524287, 2621439, 8388607, 16777215, 33554431, 67108863, 134217727, 67108863, 536870911, 1073741823]
theorem impl_GoodRing.tab13 : rtab .any (opsOf Tryd.f20 13) = impl_GoodRing.T13 := by kernel_rfl
theorem impl_GoodRing.bits13 : waitsOk impl_GoodRing.T13.2 impl_GoodRing.B13 = true := by kernel_rfl
set_option maxHeartbeats 8000000 in
set_option maxRecDepth 100000 in
theorem impl_GoodRing.calls (k : Nat) (A0_0 : Option Addr) (c0_0 : Nat) (l0_0 : List (S26)) (a0_1 : Int) (a0_2 : Int) (a0_3 : Int) (r : Bool) (w : World) (hTab_ : Aside0 (Ito.TabW w)) (hr0_0 : Kd.C k26 w A0_0 l0_0.length l0_0) (hc0_0 : l0_0.length ≤ c0_0) (h : impl_GoodRing.f k l0_0 a0_1 a0_2 a0_3 = some r) :
  Calls Tryd.prog 20 #[.agg #[.slice A0_0 l0_0.length c0_0, .int .i64 a0_1, .int .i64 a0_2, .int .i64 a0_3]] w fun e w' => e = .returned (.bool r) ∧ Below w.heap.size w w' := by
 have hu36 := Tryd.underlying36
 have hu26 := Tryd.underlying26
 have HR0_0 := Aside0.mk hr0_0
 have HC0_0 := Aside0.mk hc0_0
 clear hr0_0 hc0_0
 have HB := Aside0.mk (Below.refl w.heap.size w)
 have H : ((impl_within.f (l0_0.length : Int) 2 24).bind fun t277 => (if t277 = true then ((impl_within.f a0_1 0 10000000).bind fun t278 => (if t278 = true then ((impl_within.f a0_3 (mx 0 (wrap64 (a0_1 - (l0_0.length : Int)))) a0_1).bind fun t279 => (if t279 = true then (if (l0_0.length : Int) = 0 then (none) else (impl_GoodRing.j0 k (l0_0.length : Int) (a0_2 != (wrap64 ((wrap64 (Int.tdiv a0_1 (l0_0.length : Int))) + 1))) l0_0 a0_1 a0_2 a0_3)) else (impl_GoodRing.j0 k (l0_0.length : Int) true l0_0 a0_1 a0_2 a0_3))) else (impl_GoodRing.j0 k (l0_0.length : Int) true l0_0 a0_1 a0_2 a0_3))) else (impl_GoodRing.j0 k (l0_0.length : Int) true l0_0 a0_1 a0_2 a0_3))) = some r := h
 clear h
 have HC2 := Aside0.mk H
 clear H
 go_enter Tryd.func20, Tryd.ntmps20
 go_upto_region 2 with (first | ((with_reducible refine gate_dst (N := 1) rfl ?_); (try (refine gate_guard (by rfl) ?_; dsimp only)); refine box_event ?hg (N := 1) ?hd (cs := #[.slice A0_0 l0_0.length c0_0, .int .i64 a0_1, .int .i64 a0_2, .int .i64 a0_3]) (t := 36) ?hr ?_; (case hd => rfl); (case hg => rfl); (case hr => first | (go_simp; done) | (go_simp; rfl)); intro gb276 hg w3 hbox hb; have BK276 := Aside0.mk (hbox); have GW276 := Aside0.mk ((by rw [hg]; exact (below_size (bs HB)) : w.heap.size ≤ gb276)); have GE276 := Aside0.mk ((by rw [hg]; exact (below_size (bs HB)) : w.heap.size ≤ gb276)); replace HB := Aside0.mk (below_step (bs HB) hb); clear hb hbox hg; obtain ⟨hcz4_0, hcz4_1, hcz4_2, hcz4_3⟩ := cz4 BK276; obtain ⟨hfz4_0, hfz4_1, hfz4_2, hfz4_3⟩ := fz4 BK276))
 (try simp only [Act.put, List.setIfInBounds_toArray, List.set_cons_zero, List.set_cons_succ])
 go_cut [41] (fun v41 wc => ∃ (kq : Nat) (x41_1 : Bool), v41 = .bool x41_1 ∧ Aside0 (impl_GoodRing.j0 kq (l0_0.length : Int) x41_1 l0_0 a0_1 a0_2 a0_3 = some r) ∧ Aside0 (kq ≤ k) ∧ Aside0 (wc.heap[gb276]? = some (.cells #[(.slice A0_0 l0_0.length c0_0), .int .i64 a0_1, .int .i64 a0_2, .int .i64 a0_3] 36 (0, 0))) ∧ Aside0 (Below w.heap.size w wc))
 case first =>
  have H := HC2.out
  clear HC2
  replace H := Option.bind_eq_some_iff.mp H
  obtain ⟨t277, A50, H⟩ := H
  replace H : (if t277 = true then ((impl_within.f a0_1 0 10000000).bind fun t278 => (if t278 = true then ((impl_within.f a0_3 (mx 0 (wrap64 (a0_1 - (l0_0.length : Int)))) a0_1).bind fun t279 => (if t279 = true then (if (l0_0.length : Int) = 0 then (none) else (impl_GoodRing.j0 k (l0_0.length : Int) (a0_2 != (wrap64 ((wrap64 (Int.tdiv a0_1 (l0_0.length : Int))) + 1))) l0_0 a0_1 a0_2 a0_3)) else (impl_GoodRing.j0 k (l0_0.length : Int) true l0_0 a0_1 a0_2 a0_3))) else (impl_GoodRing.j0 k (l0_0.length : Int) true l0_0 a0_1 a0_2 a0_3))) else (impl_GoodRing.j0 k (l0_0.length : Int) true l0_0 a0_1 a0_2 a0_3)) = some r := H
  have A5 := Aside0.mk A50
  clear A50
  by_cases c6 : t277 = true
  ·
   subst c6
   rw [if_pos rfl] at H
   replace H := Option.bind_eq_some_iff.mp H
   obtain ⟨t278, A70, H⟩ := H
   replace H : (if t278 = true then ((impl_within.f a0_3 (mx 0 (wrap64 (a0_1 - (l0_0.length : Int)))) a0_1).bind fun t279 => (if t279 = true then (if (l0_0.length : Int) = 0 then (none) else (impl_GoodRing.j0 k (l0_0.length : Int) (a0_2 != (wrap64 ((wrap64 (Int.tdiv a0_1 (l0_0.length : Int))) + 1))) l0_0 a0_1 a0_2 a0_3)) else (impl_GoodRing.j0 k (l0_0.length : Int) true l0_0 a0_1 a0_2 a0_3))) else (impl_GoodRing.j0 k (l0_0.length : Int) true l0_0 a0_1 a0_2 a0_3)) = some r := H
   have A7 := Aside0.mk A70
   clear A70
   by_cases c8 : t278 = true
   ·
    subst c8
    rw [if_pos rfl] at H
    obtain ⟨ji9, hji9⟩ : ∃ j_ : Int, (mx 0 (wrap64 (a0_1 - (l0_0.length : Int)))) = j_ := ⟨_, rfl⟩
    replace H : ((impl_within.f a0_3 (ji9) a0_1).bind fun t279 => (if t279 = true then (if (l0_0.length : Int) = 0 then (none) else (impl_GoodRing.j0 k (l0_0.length : Int) (a0_2 != (wrap64 ((wrap64 (Int.tdiv a0_1 (l0_0.length : Int))) + 1))) l0_0 a0_1 a0_2 a0_3)) else (impl_GoodRing.j0 k (l0_0.length : Int) true l0_0 a0_1 a0_2 a0_3))) = some r := by first | (rw [hji9] at H; exact H) | (simp only [hji9] at H ⊢; exact H)
    (try rw [hji9] at A5)
    (try rw [hji9] at A7)
    (try (have hji9l : 0 ≤ ji9 := by (rw [← hji9]; unfold mx; (repeat' split) <;> omega)))
    (try (have hji9m : 0 ≤ ji9 := by omega))
    have hji9_ : (if 0 < (wrap64 (a0_1 - (l0_0.length : Int))) then (wrap64 (a0_1 - (l0_0.length : Int))) else 0) = ji9 := hji9
    replace H := Option.bind_eq_some_iff.mp H
    obtain ⟨t279, A100, H⟩ := H
    replace H : (if t279 = true then (if (l0_0.length : Int) = 0 then (none) else (impl_GoodRing.j0 k (l0_0.length : Int) (a0_2 != (wrap64 ((wrap64 (Int.tdiv a0_1 (l0_0.length : Int))) + 1))) l0_0 a0_1 a0_2 a0_3)) else (impl_GoodRing.j0 k (l0_0.length : Int) true l0_0 a0_1 a0_2 a0_3)) = some r := H
    have A10 := Aside0.mk A100
    clear A100
    by_cases c11 : t279 = true
    ·
     subst c11
     rw [if_pos rfl] at H
     by_cases c12 : (l0_0.length : Int) = 0
     ·
      rw [if_pos c12] at H
      exact absurd H (by simp)
     ·
      rw [if_neg c12] at H
      have c12b0 : ((l0_0.length : Int) == 0) = false := beq_eq_false_iff_ne.mpr c12
      have c12b1 : ((l0_0.length : Int) != 0) = true := bne_iff_ne.mpr c12
      have c12b2 : ¬ (l0_0 = []) := fun h_ => c12 (by rw [h_]; rfl)
      (first | rw [c12b0] | (simp only [i64_w, i32_w]; rw [c12b0]) | (simp only [c12b2, Bool.not_false, Bool.not_true]) | skip)
      have H' := Aside0.mk H
      clear H
      try go_wp2
      have n0_ := Aside0.mk (blk_drew BK276.out)
      have n1_ := Aside0.mk (below_drew1 HB.out)
      clear BK276
      clear HB
      have BK276 := n0_
      have HB := n1_
      clear n0_ n1_
      refine start_ (n := 32) (S := fun w' => w'.cell? ⟨gb276, 0, none⟩ = some (.slice A0_0 l0_0.length c0_0) ∧ w'.cell? ⟨gb276, 1, none⟩ = some (.int .i64 a0_1) ∧ w'.cell? ⟨gb276, 2, none⟩ = some (.int .i64 a0_2) ∧ w'.cell? ⟨gb276, 3, none⟩ = some (.int .i64 a0_3)) (ds := []) #[false, false, false, false, false, false, false, false, false, false, false, false, false, false, false, false, false, false, false, false, false, false, false, false, false, false, false, false, false, false, false, false] (by kernel_rfl) rfl rfl ⟨(blk_cell BK276.out 0).trans rfl, (blk_cell BK276.out 1).trans rfl, (blk_cell BK276.out 2).trans rfl, (blk_cell BK276.out 3).trans rfl⟩ (fun hHeld => ?_); refine with_tabW impl_GoodRing.tab2 impl_GoodRing.bits2 (fun HT_ HW_ => ?_)
      generalize w3.drew = w13 at BK276 HB hHeld ⊢
      refine pureS 0 10 HT_.out ?_
      refine one_ (i := 1) (N := some 11) #[true, true, false, false, false, false, false, false, false, false, false, false, false, false, false, false, false, false, false, false, false, false, false, false, false, false, false, false, false, false, false, false] rfl rfl (one_of HT_.out (by kernel_rfl)) (by decide) (fun K hK => ?_)
      refine goes_ Tryd.func58 (by kernel_rfl) rfl #[.int .i64 (l0_0.length : Int), .int .i64 2, .int .i64 24] (by rfl) rfl rfl (by (try simp only [List.map_toArray, List.map_cons, List.map_nil]); first | done | rfl | (simp only [List.length_drop, List.length_take]; rfl)) ?_
      with_reducible refine (impl_within.calls (l0_0.length : Int) 2 24 true _ A5.out).mono ?_
      rintro e w' ⟨rfl, ⟨nd, rfl⟩⟩
      refine ⟨_, rfl, ?_⟩
      refine hK.out _ _ ⟨(blk_cell BK276.out 0).trans rfl, (blk_cell BK276.out 1).trans rfl, (blk_cell BK276.out 2).trans rfl, (blk_cell BK276.out 3).trans rfl⟩ (fun hHeld => ?_)
      clear hK K
      refine norm_ (a' := ?_) ?_ ?_
      rotate_left
      ·
       show Act.put _ (some 11) _ = _
       simp only [Act.put, List.setIfInBounds_toArray, List.set_cons_zero, List.set_cons_succ, i64_w, i32_w]
       rfl
      refine pureS 2 12 HT_.out ?_
      refine pureS 3 13 HT_.out ?_
      refine pureS 4 14 HT_.out ?_
      refine takeS 5 15 HT_.out HW_.out hHeld (hr := by rintro w' ⟨s0, s1, s2, s3⟩; go_simp; with_reducible rfl) (h := ?_)
      refine one_ (i := 6) (N := some 16) #[true, true, true, true, true, true, true, false, false, false, false, false, false, false, false, false, false, false, false, false, false, false, false, false, false, false, false, false, false, false, false, false] rfl rfl (one_of HT_.out (by kernel_rfl)) (by decide) (fun K hK => ?_)
      refine goes_ Tryd.func58 (by kernel_rfl) rfl #[.int .i64 a0_1, .int .i64 0, .int .i64 10000000] (by rfl) rfl rfl (by (try simp only [List.map_toArray, List.map_cons, List.map_nil]); first | done | rfl | (simp only [List.length_drop, List.length_take]; rfl)) ?_
      with_reducible refine (impl_within.calls a0_1 0 10000000 true _ A7.out).mono ?_
      rintro e w' ⟨rfl, ⟨nd, rfl⟩⟩
      refine ⟨_, rfl, ?_⟩
      refine hK.out _ _ ⟨(blk_cell BK276.out 0).trans rfl, (blk_cell BK276.out 1).trans rfl, (blk_cell BK276.out 2).trans rfl, (blk_cell BK276.out 3).trans rfl⟩ (fun hHeld => ?_)
      clear hK K
      refine norm_ (a' := ?_) ?_ ?_
      rotate_left
      ·
       show Act.put _ (some 16) _ = _
       simp only [Act.put, List.setIfInBounds_toArray, List.set_cons_zero, List.set_cons_succ, i64_w, i32_w]
       rfl
      refine pureS 7 17 HT_.out ?_
      refine pureS 8 18 HT_.out ?_
      refine pureS 9 19 HT_.out ?_
      refine pureS 10 20 HT_.out ?_
      refine pureS 12 22 HT_.out ?_
      refine pureS 14 24 HT_.out ?_
      refine pureS 17 27 HT_.out ?_
      refine takeS 11 21 HT_.out HW_.out hHeld (hr := by rintro w' ⟨s0, s1, s2, s3⟩; go_simp; with_reducible rfl) (h := ?_)
      refine takeS 13 23 HT_.out HW_.out hHeld (hr := by rintro w' ⟨s0, s1, s2, s3⟩; go_simp; with_reducible rfl) (h := ?_)
      refine pureS 15 25 HT_.out ?_
      refine pureS 16 26 HT_.out ?_
      refine takeS 18 28 HT_.out HW_.out hHeld (hr := by rintro w' ⟨s0, s1, s2, s3⟩; go_simp; with_reducible rfl) (h := ?_)
      refine one_ (i := 19) (N := some 29) #[true, true, true, true, true, true, true, true, true, true, true, true, true, true, true, true, true, true, true, true, false, false, false, false, false, false, false, false, false, false, false, false] rfl rfl (one_of HT_.out (by kernel_rfl)) (by decide) (fun K hK => ?_)
      refine goes_ Tryd.func58 (by kernel_rfl) rfl #[.int .i64 a0_3, .int .i64 ji9, .int .i64 a0_1] (by rfl) rfl rfl (by (try simp only [List.map_toArray, List.map_cons, List.map_nil]); first | done | (simp only [hji9]; rfl) | rfl | (simp only [List.length_drop, List.length_take]; rfl)) ?_
      with_reducible refine (impl_within.calls a0_3 ji9 a0_1 true _ A10.out).mono ?_
      rintro e w' ⟨rfl, ⟨nd, rfl⟩⟩
      refine ⟨_, rfl, ?_⟩
      refine hK.out _ _ ⟨(blk_cell BK276.out 0).trans rfl, (blk_cell BK276.out 1).trans rfl, (blk_cell BK276.out 2).trans rfl, (blk_cell BK276.out 3).trans rfl⟩ (fun hHeld => ?_)
      clear hK K
      refine norm_ (a' := ?_) ?_ ?_
      rotate_left
      ·
       show Act.put _ (some 29) _ = _
       simp only [Act.put, List.setIfInBounds_toArray, List.set_cons_zero, List.set_cons_succ, i64_w, i32_w]
       rfl
      refine pureS 20 30 HT_.out ?_
      refine pureS 21 31 HT_.out ?_
      refine pureS 22 32 HT_.out ?_
      refine pureS 23 33 HT_.out ?_
      refine pureS 25 35 HT_.out ?_
      refine pureS 27 37 HT_.out ?_
      refine takeS 24 34 HT_.out HW_.out hHeld (hr := by rintro w' ⟨s0, s1, s2, s3⟩; go_simp; with_reducible rfl) (h := ?_)
      refine takeS 26 36 HT_.out HW_.out hHeld (hr := by rintro w' ⟨s0, s1, s2, s3⟩; go_simp; with_reducible rfl) (h := ?_)
      refine pureS 28 38 HT_.out ?_
      refine pureS 29 39 HT_.out ?_
      refine pureS 30 40 HT_.out ?_
      refine pureS 31 41 HT_.out ?_
      refine done_ (done_of HT_.out (by kernel_rfl)) ?_
      try go_wp2
      go_meet
      case rel => exact ⟨_, ((a0_2 != (wrap64 ((wrap64 (Int.tdiv a0_1 (l0_0.length : Int))) + 1)))), (by first | rfl | (simp; done) | (simp [*]; done)), H', ⟨by first | omega | exact Nat.le_refl _⟩, ⟨bk BK276⟩, ⟨bs1 HB GE276⟩⟩
    ·
     replace c11 := Bool.eq_false_iff.mpr c11
     subst c11
     rw [if_neg (show ¬ (false = true) by decide)] at H
     have H' := Aside0.mk H
     clear H
     try go_wp2
     have n0_ := Aside0.mk (blk_drew BK276.out)
     have n1_ := Aside0.mk (below_drew1 HB.out)
     clear BK276
     clear HB
     have BK276 := n0_
     have HB := n1_
     clear n0_ n1_
     refine start_ (n := 32) (S := fun w' => w'.cell? ⟨gb276, 0, none⟩ = some (.slice A0_0 l0_0.length c0_0) ∧ w'.cell? ⟨gb276, 1, none⟩ = some (.int .i64 a0_1) ∧ w'.cell? ⟨gb276, 2, none⟩ = some (.int .i64 a0_2) ∧ w'.cell? ⟨gb276, 3, none⟩ = some (.int .i64 a0_3)) (ds := []) #[false, false, false, false, false, false, false, false, false, false, false, false, false, false, false, false, false, false, false, false, false, false, false, false, false, false, false, false, false, false, false, false] (by kernel_rfl) rfl rfl ⟨(blk_cell BK276.out 0).trans rfl, (blk_cell BK276.out 1).trans rfl, (blk_cell BK276.out 2).trans rfl, (blk_cell BK276.out 3).trans rfl⟩ (fun hHeld => ?_); refine with_tabW impl_GoodRing.tab2 impl_GoodRing.bits2 (fun HT_ HW_ => ?_)
     generalize w3.drew = w14 at BK276 HB hHeld ⊢
     refine pureS 0 10 HT_.out ?_
     refine one_ (i := 1) (N := some 11) #[true, true, false, false, false, false, false, false, false, false, false, false, false, false, false, false, false, false, false, false, false, false, false, false, false, false, false, false, false, false, false, false] rfl rfl (one_of HT_.out (by kernel_rfl)) (by decide) (fun K hK => ?_)
     refine goes_ Tryd.func58 (by kernel_rfl) rfl #[.int .i64 (l0_0.length : Int), .int .i64 2, .int .i64 24] (by rfl) rfl rfl (by (try simp only [List.map_toArray, List.map_cons, List.map_nil]); first | done | rfl | (simp only [List.length_drop, List.length_take]; rfl)) ?_
     with_reducible refine (impl_within.calls (l0_0.length : Int) 2 24 true _ A5.out).mono ?_
     rintro e w' ⟨rfl, ⟨nd, rfl⟩⟩
     refine ⟨_, rfl, ?_⟩
     refine hK.out _ _ ⟨(blk_cell BK276.out 0).trans rfl, (blk_cell BK276.out 1).trans rfl, (blk_cell BK276.out 2).trans rfl, (blk_cell BK276.out 3).trans rfl⟩ (fun hHeld => ?_)
     clear hK K
     refine norm_ (a' := ?_) ?_ ?_
     rotate_left
     ·
      show Act.put _ (some 11) _ = _
      simp only [Act.put, List.setIfInBounds_toArray, List.set_cons_zero, List.set_cons_succ, i64_w, i32_w]
      rfl
     refine pureS 2 12 HT_.out ?_
     refine pureS 3 13 HT_.out ?_
     refine pureS 4 14 HT_.out ?_
     refine takeS 5 15 HT_.out HW_.out hHeld (hr := by rintro w' ⟨s0, s1, s2, s3⟩; go_simp; with_reducible rfl) (h := ?_)
     refine one_ (i := 6) (N := some 16) #[true, true, true, true, true, true, true, false, false, false, false, false, false, false, false, false, false, false, false, false, false, false, false, false, false, false, false, false, false, false, false, false] rfl rfl (one_of HT_.out (by kernel_rfl)) (by decide) (fun K hK => ?_)
     refine goes_ Tryd.func58 (by kernel_rfl) rfl #[.int .i64 a0_1, .int .i64 0, .int .i64 10000000] (by rfl) rfl rfl (by (try simp only [List.map_toArray, List.map_cons, List.map_nil]); first | done | rfl | (simp only [List.length_drop, List.length_take]; rfl)) ?_
     with_reducible refine (impl_within.calls a0_1 0 10000000 true _ A7.out).mono ?_
     rintro e w' ⟨rfl, ⟨nd, rfl⟩⟩
     refine ⟨_, rfl, ?_⟩
     refine hK.out _ _ ⟨(blk_cell BK276.out 0).trans rfl, (blk_cell BK276.out 1).trans rfl, (blk_cell BK276.out 2).trans rfl, (blk_cell BK276.out 3).trans rfl⟩ (fun hHeld => ?_)
     clear hK K
     refine norm_ (a' := ?_) ?_ ?_
     rotate_left
     ·
      show Act.put _ (some 16) _ = _
      simp only [Act.put, List.setIfInBounds_toArray, List.set_cons_zero, List.set_cons_succ, i64_w, i32_w]
      rfl
     refine pureS 7 17 HT_.out ?_
     refine pureS 8 18 HT_.out ?_
     refine pureS 9 19 HT_.out ?_
     refine pureS 10 20 HT_.out ?_
     refine pureS 12 22 HT_.out ?_
     refine pureS 14 24 HT_.out ?_
     refine pureS 17 27 HT_.out ?_
     refine takeS 11 21 HT_.out HW_.out hHeld (hr := by rintro w' ⟨s0, s1, s2, s3⟩; go_simp; with_reducible rfl) (h := ?_)
     refine takeS 13 23 HT_.out HW_.out hHeld (hr := by rintro w' ⟨s0, s1, s2, s3⟩; go_simp; with_reducible rfl) (h := ?_)
     refine pureS 15 25 HT_.out ?_
     refine pureS 16 26 HT_.out ?_
     refine takeS 18 28 HT_.out HW_.out hHeld (hr := by rintro w' ⟨s0, s1, s2, s3⟩; go_simp; with_reducible rfl) (h := ?_)
     refine one_ (i := 19) (N := some 29) #[true, true, true, true, true, true, true, true, true, true, true, true, true, true, true, true, true, true, true, true, false, false, false, false, false, false, false, false, false, false, false, false] rfl rfl (one_of HT_.out (by kernel_rfl)) (by decide) (fun K hK => ?_)
     refine goes_ Tryd.func58 (by kernel_rfl) rfl #[.int .i64 a0_3, .int .i64 ji9, .int .i64 a0_1] (by rfl) rfl rfl (by (try simp only [List.map_toArray, List.map_cons, List.map_nil]); first | done | (simp only [hji9]; rfl) | rfl | (simp only [List.length_drop, List.length_take]; rfl)) ?_
     with_reducible refine (impl_within.calls a0_3 ji9 a0_1 false _ A10.out).mono ?_
     rintro e w' ⟨rfl, ⟨nd, rfl⟩⟩
     refine ⟨_, rfl, ?_⟩
     refine hK.out _ _ ⟨(blk_cell BK276.out 0).trans rfl, (blk_cell BK276.out 1).trans rfl, (blk_cell BK276.out 2).trans rfl, (blk_cell BK276.out 3).trans rfl⟩ (fun hHeld => ?_)
     clear hK K
     refine norm_ (a' := ?_) ?_ ?_
     rotate_left
     ·
      show Act.put _ (some 29) _ = _
      simp only [Act.put, List.setIfInBounds_toArray, List.set_cons_zero, List.set_cons_succ, i64_w, i32_w]
      rfl
     refine pureS 20 30 HT_.out ?_
     refine pureS 21 31 HT_.out ?_
     refine pureS 22 32 HT_.out ?_
     refine pureU 23 33 HT_.out ?_
     refine pureU 24 34 HT_.out ?_
     refine pureU 25 35 HT_.out ?_
     refine pureU 26 36 HT_.out ?_
     refine pureU 27 37 HT_.out ?_
     refine pureU 28 38 HT_.out ?_
     refine pureU 29 39 HT_.out ?_
     refine pureU 30 40 HT_.out ?_
     refine pureS 31 41 HT_.out ?_
     refine done_ (done_of HT_.out (by kernel_rfl)) ?_
     try go_wp2
     go_meet
     case rel => exact ⟨_, (true), (by first | rfl | (simp; done) | (simp [*]; done)), H', ⟨by first | omega | exact Nat.le_refl _⟩, ⟨bk BK276⟩, ⟨bs1 HB GE276⟩⟩
   ·
    replace c8 := Bool.eq_false_iff.mpr c8
    subst c8
    rw [if_neg (show ¬ (false = true) by decide)] at H
    have H' := Aside0.mk H
    clear H
    try go_wp2
    have n0_ := Aside0.mk (blk_drew BK276.out)
    have n1_ := Aside0.mk (below_drew1 HB.out)
    clear BK276
    clear HB
    have BK276 := n0_
    have HB := n1_
    clear n0_ n1_
    refine start_ (n := 32) (S := fun w' => w'.cell? ⟨gb276, 0, none⟩ = some (.slice A0_0 l0_0.length c0_0) ∧ w'.cell? ⟨gb276, 1, none⟩ = some (.int .i64 a0_1) ∧ w'.cell? ⟨gb276, 2, none⟩ = some (.int .i64 a0_2) ∧ w'.cell? ⟨gb276, 3, none⟩ = some (.int .i64 a0_3)) (ds := []) #[false, false, false, false, false, false, false, false, false, false, false, false, false, false, false, false, false, false, false, false, false, false, false, false, false, false, false, false, false, false, false, false] (by kernel_rfl) rfl rfl ⟨(blk_cell BK276.out 0).trans rfl, (blk_cell BK276.out 1).trans rfl, (blk_cell BK276.out 2).trans rfl, (blk_cell BK276.out 3).trans rfl⟩ (fun hHeld => ?_); refine with_tabW impl_GoodRing.tab2 impl_GoodRing.bits2 (fun HT_ HW_ => ?_)
    generalize w3.drew = w15 at BK276 HB hHeld ⊢
    refine pureS 0 10 HT_.out ?_
    refine one_ (i := 1) (N := some 11) #[true, true, false, false, false, false, false, false, false, false, false, false, false, false, false, false, false, false, false, false, false, false, false, false, false, false, false, false, false, false, false, false] rfl rfl (one_of HT_.out (by kernel_rfl)) (by decide) (fun K hK => ?_)
    refine goes_ Tryd.func58 (by kernel_rfl) rfl #[.int .i64 (l0_0.length : Int), .int .i64 2, .int .i64 24] (by rfl) rfl rfl (by (try simp only [List.map_toArray, List.map_cons, List.map_nil]); first | done | rfl | (simp only [List.length_drop, List.length_take]; rfl)) ?_
    with_reducible refine (impl_within.calls (l0_0.length : Int) 2 24 true _ A5.out).mono ?_
    rintro e w' ⟨rfl, ⟨nd, rfl⟩⟩
    refine ⟨_, rfl, ?_⟩
    refine hK.out _ _ ⟨(blk_cell BK276.out 0).trans rfl, (blk_cell BK276.out 1).trans rfl, (blk_cell BK276.out 2).trans rfl, (blk_cell BK276.out 3).trans rfl⟩ (fun hHeld => ?_)
    clear hK K
    refine norm_ (a' := ?_) ?_ ?_
    rotate_left
    ·
     show Act.put _ (some 11) _ = _
     simp only [Act.put, List.setIfInBounds_toArray, List.set_cons_zero, List.set_cons_succ, i64_w, i32_w]
     rfl
    refine pureS 2 12 HT_.out ?_
    refine pureS 3 13 HT_.out ?_
    refine pureS 4 14 HT_.out ?_
    refine takeS 5 15 HT_.out HW_.out hHeld (hr := by rintro w' ⟨s0, s1, s2, s3⟩; go_simp; with_reducible rfl) (h := ?_)
    refine one_ (i := 6) (N := some 16) #[true, true, true, true, true, true, true, false, false, false, false, false, false, false, false, false, false, false, false, false, false, false, false, false, false, false, false, false, false, false, false, false] rfl rfl (one_of HT_.out (by kernel_rfl)) (by decide) (fun K hK => ?_)
    refine goes_ Tryd.func58 (by kernel_rfl) rfl #[.int .i64 a0_1, .int .i64 0, .int .i64 10000000] (by rfl) rfl rfl (by (try simp only [List.map_toArray, List.map_cons, List.map_nil]); first | done | rfl | (simp only [List.length_drop, List.length_take]; rfl)) ?_
    with_reducible refine (impl_within.calls a0_1 0 10000000 false _ A7.out).mono ?_
    rintro e w' ⟨rfl, ⟨nd, rfl⟩⟩
    refine ⟨_, rfl, ?_⟩
    refine hK.out _ _ ⟨(blk_cell BK276.out 0).trans rfl, (blk_cell BK276.out 1).trans rfl, (blk_cell BK276.out 2).trans rfl, (blk_cell BK276.out 3).trans rfl⟩ (fun hHeld => ?_)
    clear hK K
    refine norm_ (a' := ?_) ?_ ?_
    rotate_left
    ·
     show Act.put _ (some 16) _ = _
     simp only [Act.put, List.setIfInBounds_toArray, List.set_cons_zero, List.set_cons_succ, i64_w, i32_w]
     rfl
    refine pureS 7 17 HT_.out ?_
    refine pureS 8 18 HT_.out ?_
    refine pureS 9 19 HT_.out ?_
    refine pureU 10 20 HT_.out ?_
    refine pureU 11 21 HT_.out ?_
    refine pureU 12 22 HT_.out ?_
    refine pureU 13 23 HT_.out ?_
    refine pureU 14 24 HT_.out ?_
    refine pureU 15 25 HT_.out ?_
    refine pureU 16 26 HT_.out ?_
    refine pureU 17 27 HT_.out ?_
    refine pureU 18 28 HT_.out ?_
    refine pureU 19 29 HT_.out ?_
    refine pureU 20 30 HT_.out ?_
    refine pureS 21 31 HT_.out ?_
    refine pureS 22 32 HT_.out ?_
    refine pureU 23 33 HT_.out ?_
    refine pureU 24 34 HT_.out ?_
    refine pureU 25 35 HT_.out ?_
    refine pureU 26 36 HT_.out ?_
    refine pureU 27 37 HT_.out ?_
    refine pureU 28 38 HT_.out ?_
    refine pureU 29 39 HT_.out ?_
    refine pureU 30 40 HT_.out ?_
    refine pureS 31 41 HT_.out ?_
    refine done_ (done_of HT_.out (by kernel_rfl)) ?_
    try go_wp2
    go_meet
    case rel => exact ⟨_, (true), (by first | rfl | (simp; done) | (simp [*]; done)), H', ⟨by first | omega | exact Nat.le_refl _⟩, ⟨bk BK276⟩, ⟨bs1 HB GE276⟩⟩
  ·
   replace c6 := Bool.eq_false_iff.mpr c6
   subst c6
   rw [if_neg (show ¬ (false = true) by decide)] at H
   have H' := Aside0.mk H
   clear H
   try go_wp2
   have n0_ := Aside0.mk (blk_drew BK276.out)
   have n1_ := Aside0.mk (below_drew1 HB.out)
   clear BK276
   clear HB
   have BK276 := n0_
   have HB := n1_
   clear n0_ n1_
   refine start_ (n := 32) (S := fun w' => True) (ds := []) #[false, false, false, false, false, false, false, false, false, false, false, false, false, false, false, false, false, false, false, false, false, false, false, false, false, false, false, false, false, false, false, false] (by kernel_rfl) rfl rfl trivial (fun hHeld => ?_); refine with_tabW impl_GoodRing.tab2 impl_GoodRing.bits2 (fun HT_ HW_ => ?_)
   generalize w3.drew = w16 at BK276 HB hHeld ⊢
   refine pureS 0 10 HT_.out ?_
   refine one_ (i := 1) (N := some 11) #[true, true, false, false, false, false, false, false, false, false, false, false, false, false, false, false, false, false, false, false, false, false, false, false, false, false, false, false, false, false, false, false] rfl rfl (one_of HT_.out (by kernel_rfl)) (by decide) (fun K hK => ?_)
   refine goes_ Tryd.func58 (by kernel_rfl) rfl #[.int .i64 (l0_0.length : Int), .int .i64 2, .int .i64 24] (by rfl) rfl rfl (by (try simp only [List.map_toArray, List.map_cons, List.map_nil]); first | done | rfl | (simp only [List.length_drop, List.length_take]; rfl)) ?_
   with_reducible refine (impl_within.calls (l0_0.length : Int) 2 24 false _ A5.out).mono ?_
   rintro e w' ⟨rfl, ⟨nd, rfl⟩⟩
   refine ⟨_, rfl, ?_⟩
   refine hK.out _ _ trivial (fun hHeld => ?_)
   clear hK K
   refine norm_ (a' := ?_) ?_ ?_
   rotate_left
   ·
    show Act.put _ (some 11) _ = _
    simp only [Act.put, List.setIfInBounds_toArray, List.set_cons_zero, List.set_cons_succ, i64_w, i32_w]
    rfl
   refine pureS 2 12 HT_.out ?_
   refine pureS 3 13 HT_.out ?_
   refine pureU 4 14 HT_.out ?_
   refine pureU 5 15 HT_.out ?_
   refine pureU 6 16 HT_.out ?_
   refine pureU 7 17 HT_.out ?_
   refine pureS 8 18 HT_.out ?_
   refine pureS 9 19 HT_.out ?_
   refine pureU 10 20 HT_.out ?_
   refine pureU 11 21 HT_.out ?_
   refine pureU 12 22 HT_.out ?_
   refine pureU 13 23 HT_.out ?_
   refine pureU 14 24 HT_.out ?_
   refine pureU 15 25 HT_.out ?_
   refine pureU 16 26 HT_.out ?_
   refine pureU 17 27 HT_.out ?_
   refine pureU 18 28 HT_.out ?_
   refine pureU 19 29 HT_.out ?_
   refine pureU 20 30 HT_.out ?_
   refine pureS 21 31 HT_.out ?_
   refine pureS 22 32 HT_.out ?_
   refine pureU 23 33 HT_.out ?_
   refine pureU 24 34 HT_.out ?_
   refine pureU 25 35 HT_.out ?_
   refine pureU 26 36 HT_.out ?_
   refine pureU 27 37 HT_.out ?_
   refine pureU 28 38 HT_.out ?_
   refine pureU 29 39 HT_.out ?_
   refine pureU 30 40 HT_.out ?_
   refine pureS 31 41 HT_.out ?_
   refine done_ (done_of HT_.out (by kernel_rfl)) ?_
   try go_wp2
   go_meet
   case rel => exact ⟨_, (true), (by first | rfl | (simp; done) | (simp [*]; done)), H', ⟨by first | omega | exact Nat.le_refl _⟩, ⟨bk BK276⟩, ⟨bs1 HB GE276⟩⟩
 case rest =>
  clear HC2
  try clear p2
  try clear c5
  try clear c6
  try clear c8
  obtain ⟨kq, x41_1, rfl, HA, HJ1, BK276, HB⟩ := hcut
  cases kq with
  | zero => exact absurd HA.out (by simp [impl_GoodRing.j0])
  | succ kj1 =>
   have H := HA.out
   clear HA
   simp only [impl_GoodRing.j0] at H
   by_cases c17 : x41_1 = true
   ·
    subst c17
    rw [if_pos rfl] at H
    obtain rfl := Option.some.inj H
    go_wp2
    go_ret
    exact ⟨by first | rfl | (simp [errW_none, errW_some] <;> rfl) | (simp [*, errW_none, errW_some] <;> rfl), bs1 HB GE276⟩
   ·
    replace c17 := Bool.eq_false_iff.mpr c17
    subst c17
    rw [if_neg (show ¬ (false = true) by decide)] at H
    have H' := Aside0.mk H
    clear H
    obtain ⟨hcz18_0, hcz18_1, hcz18_2, hcz18_3⟩ := cz4 BK276
    obtain ⟨hfz18_0, hfz18_1, hfz18_2, hfz18_3⟩ := fz4 BK276
    go_wp2
    go_loopg [4, 5] kj1 (fun kq v4 v5 w' => ∃ (x4_2 : Int) (x5_2 : Int), v4 = .int .i64 x4_2 ∧ v5 = .int .i64 x5_2 ∧ Aside0 (impl_GoodRing.l0 kq (l0_0.length : Int) x4_2 x5_2 l0_0 a0_1 a0_2 a0_3 = some r) ∧ Aside0 (kq ≤ kj1) ∧ Aside0 (w'.heap[gb276]? = some (.cells #[(.slice A0_0 l0_0.length c0_0), .int .i64 a0_1, .int .i64 a0_2, .int .i64 a0_3] 36 (0, 0))) ∧ Aside0 (Below w.heap.size w w'))
    case atStart => exact ⟨(0), (wrap64 (a0_1 - (l0_0.length : Int))), (by first | rfl | (simp; done) | (simp [*]; done)), (by first | rfl | (simp; done) | (simp [*]; done)), H', ⟨Nat.le_refl _⟩, ⟨bk BK276⟩, ⟨bs1 HB GE276⟩⟩
    case round =>
     clear H'
     try clear c1
     try clear p2
     try clear c5
     try clear c6
     try clear p6
     try clear c8
     try clear c17
     try clear hcz18_0 hcz18_1 hcz18_2 hcz18_3
     try clear hfz18_0 hfz18_1 hfz18_2 hfz18_3
     try clear p2
     obtain ⟨x4_2, x5_2, rfl, rfl, HA, HK2, BK276, HB⟩ := hrel
     cases gk with
     | zero => exact absurd HA.out (by simp [impl_GoodRing.l0])
     | succ k2 =>
      have H := HA.out
      clear HA
      simp only [impl_GoodRing.l0] at H
      by_cases c19 : x5_2 < a0_1
      ·
       rw [if_pos c19] at H
       have c19b0 : decide (x5_2 < a0_1) = true := decide_eq_true c19
       clear c19
       by_cases c20 : x5_2 < 0
       ·
        rw [if_pos c20] at H
        have c20b0 : decide (x5_2 < 0) = true := decide_eq_true c20
        clear c20
        obtain ⟨ji21, hji21⟩ : ∃ j_ : Int, (wrap64 (x5_2 + (l0_0.length : Int))) = j_ := ⟨_, rfl⟩
        replace H : (if 0 ≤ (ji21) then (if (ji21) < (l0_0.length : Int) then ((impl_zeroSlot.f k2).bind fun bt281 => (if (!(((rd_T26 l0_0 (ji21)).f0) == bt281.1) || (!(((rd_T26 l0_0 (ji21)).f1) == bt281.2.1) || (!((((rd_T26 l0_0 (ji21)).f2).toList) == bt281.2.2.1.toList) || (!(((rd_T26 l0_0 (ji21)).f3) == bt281.2.2.2))))) = true then (some false) else (impl_GoodRing.l0 k2 (l0_0.length : Int) x4_2 (wrap64 (x5_2 + 1)) l0_0 a0_1 a0_2 a0_3))) else (none)) else (none)) = some r := by first | (rw [hji21] at H; exact H) | (simp only [hji21] at H ⊢; exact H)
        have hji21w : (IntKind.i64.wrap (x5_2 + (l0_0.length : Int))) = ji21 := (i64_w _).trans hji21
        by_cases c22 : 0 ≤ (ji21)
        ·
         rw [if_pos c22] at H
         have c22b0 : decide (0 ≤ (ji21)) = true := decide_eq_true c22
         clear c22
         by_cases c23 : (ji21) < (l0_0.length : Int)
         ·
          rw [if_pos c23] at H
          have c23b0 : decide ((ji21) < (l0_0.length : Int)) = true := decide_eq_true c23
          clear c23
          replace H := Option.bind_eq_some_iff.mp H
          obtain ⟨⟨t281, t282, t283, t284⟩, A240, H⟩ := H
          replace H : (if (!(((rd_T26 l0_0 (ji21)).f0) == t281) || (!(((rd_T26 l0_0 (ji21)).f1) == t282) || (!((((rd_T26 l0_0 (ji21)).f2).toList) == t283.toList) || (!(((rd_T26 l0_0 (ji21)).f3) == t284))))) = true then (some false) else (impl_GoodRing.l0 k2 (l0_0.length : Int) x4_2 (wrap64 (x5_2 + 1)) l0_0 a0_1 a0_2 a0_3)) = some r := H
          have A24 := Aside0.mk A240
          clear A240
          by_cases c25 : (!(((rd_T26 l0_0 (ji21)).f0) == t281) || (!(((rd_T26 l0_0 (ji21)).f1) == t282) || (!((((rd_T26 l0_0 (ji21)).f2).toList) == t283.toList) || (!(((rd_T26 l0_0 (ji21)).f3) == t284))))) = true
          ·
           rw [if_pos c25] at H
           have c25b0 : (!(((rd_T26 l0_0 (ji21)).f0) == t281) || (!(((rd_T26 l0_0 (ji21)).f1) == t282) || (!((((rd_T26 l0_0 (ji21)).f2).toList) == t283.toList) || (!(((rd_T26 l0_0 (ji21)).f3) == t284))))) = true := c25
           clear c25
           obtain rfl := Option.some.inj H
           obtain ⟨hcz26_0, hcz26_1, hcz26_2, hcz26_3⟩ := cz4 BK276
           obtain ⟨hfz26_0, hfz26_1, hfz26_2, hfz26_3⟩ := fz4 BK276
           try go_wp2
           have n0_ := Aside0.mk (blk_drew BK276.out)
           have n1_ := Aside0.mk (below_drew1 HB.out)
           clear BK276
           clear HB
           have BK276 := n0_
           have HB := n1_
           clear n0_ n1_
           have p280 : 0 ≤ ((ji21) : Int) := of_decide_eq_true (by first | (with_reducible assumption) | assumption)
           have q280 : (ji21) < (l0_0.length : Int) := of_decide_eq_true (by first | (with_reducible assumption) | assumption)
           obtain ⟨ad280, e280, hx280_0, hx280_1, hx280_2, hx280_3⟩ := at_T26 HR0_0.out (ji21) p280 q280
           have hw280_3 := hx280_3
           have hw280_2 := hx280_2
           have hw280_1 := hx280_1
           have hw280_0 := hx280_0
           cases e280
           replace hx280_0 := (HB.out.cell (World.block_lt_of_cell? w _ hx280_0)).trans hx280_0
           replace hx280_1 := (HB.out.cell (World.block_lt_of_cell? w _ hx280_1)).trans hx280_1
           replace hx280_2 := (HB.out.cell (World.block_lt_of_cell? w _ hx280_2)).trans hx280_2
           replace hx280_3 := (HB.out.cell (World.block_lt_of_cell? w _ hx280_3)).trans hx280_3
           replace p280 := eq_true p280
           replace q280 := eq_true q280
           refine start_ (n := 9) (S := fun w' => w'.cell? ⟨gb276, 0, none⟩ = some (.slice (some ad280) l0_0.length c0_0) ∧ w'.cell? ⟨gb276, 1, none⟩ = some (.int .i64 a0_1) ∧ w'.cell? ⟨gb276, 2, none⟩ = some (.int .i64 a0_2) ∧ w'.cell? ⟨gb276, 3, none⟩ = some (.int .i64 a0_3) ∧ w'.cell? (ad280.add (((ji21)).toNat * 4)) = some (.int .i64 ((rd_T26 l0_0 (ji21)).f0)) ∧ w'.cell? ⟨(ad280.add (((ji21)).toNat * 4)).block, (ad280.add (((ji21)).toNat * 4)).off + 1, none⟩ = some (.int .i64 ((rd_T26 l0_0 (ji21)).f1)) ∧ w'.cell? ⟨(ad280.add (((ji21)).toNat * 4)).block, (ad280.add (((ji21)).toNat * 4)).off + 2, none⟩ = some (.string ((rd_T26 l0_0 (ji21)).f2)) ∧ w'.cell? ⟨(ad280.add (((ji21)).toNat * 4)).block, (ad280.add (((ji21)).toNat * 4)).off + 3, none⟩ = some (.int .i64 ((rd_T26 l0_0 (ji21)).f3))) (ds := []) #[false, false, false, false, false, false, false, false, false] (by kernel_rfl) rfl rfl ⟨(blk_cell BK276.out 0).trans rfl, (blk_cell BK276.out 1).trans rfl, (blk_cell BK276.out 2).trans rfl, (blk_cell BK276.out 3).trans rfl, ((HB.out.cell (World.block_lt_of_cell? w _ hw280_0)).trans hw280_0), ((HB.out.cell (World.block_lt_of_cell? w _ hw280_1)).trans hw280_1), ((HB.out.cell (World.block_lt_of_cell? w _ hw280_2)).trans hw280_2), ((HB.out.cell (World.block_lt_of_cell? w _ hw280_3)).trans hw280_3)⟩ (fun hHeld => ?_); refine with_tabW impl_GoodRing.tab9 impl_GoodRing.bits9 (fun HT_ HW_ => ?_)
           generalize wr.drew = w27 at BK276 HB hx280_0 hx280_1 hx280_2 hx280_3 hHeld ⊢
           refine pureS 0 54 HT_.out ?_
           refine pureS 2 56 HT_.out ?_
           refine pureS 3 57 HT_.out ?_
           refine pureS 4 58 HT_.out ?_
           refine takeS 1 55 HT_.out HW_.out hHeld (hr := by rintro w' ⟨s0, s1, s2, s3, s4, s5, s6, s7⟩; go_simp; with_reducible rfl) (h := ?_)
           refine pureS 5 59 HT_.out ?_
           refine takeS 6 60 HT_.out HW_.out hHeld (hr := by rintro w' ⟨s0, s1, s2, s3, s4, s5, s6, s7⟩; go_simp; with_reducible rfl) (h := ?_)
           refine one_ (i := 7) (N := some 61) #[true, true, true, true, true, true, true, true, false] rfl rfl (one_of HT_.out (by kernel_rfl)) (by decide) (fun K hK => ?_)
           refine goes_ Tryd.func59 (by kernel_rfl) rfl #[] (by rfl) rfl rfl (by (try simp only [List.map_toArray, List.map_cons, List.map_nil]); first | done | rfl | (simp only [List.length_drop, List.length_take]; rfl)) ?_
           with_reducible refine (impl_zeroSlot.calls k2  t281 t282 t283 t284 _ ?sideT A24.out).mono ?_
           case sideT => refine ⟨Ito.tabB hTab_.out ?_⟩; first | exact bs HB | exact st_below | (repeat (first | (with_reducible first | exact HB.out | apply below_alloc | apply pw_below_drewN | apply below_drew1 | refine below_set ?_ (Aside0.out (by assumption))) | exact HB.out))
           rintro e w28 ⟨rfl, hb⟩
           refine ⟨_, rfl, ?_⟩
           have n0_ := Aside0.mk (bb BK276 hb)
           have n1_ := Aside0.mk (below_step (bs1 HB GE276) hb)
           clear BK276
           clear HB
           have BK276 := n0_
           have HB := n1_
           clear n0_ n1_
           (try clear hb)
           (try clear hb2)
           (try clear hk)
           (try clear hi)
           refine hK.out _ _ ⟨(blk_cell BK276.out 0).trans rfl, (blk_cell BK276.out 1).trans rfl, (blk_cell BK276.out 2).trans rfl, (blk_cell BK276.out 3).trans rfl, ((HB.out.cell (World.block_lt_of_cell? w _ hw280_0)).trans hw280_0), ((HB.out.cell (World.block_lt_of_cell? w _ hw280_1)).trans hw280_1), ((HB.out.cell (World.block_lt_of_cell? w _ hw280_2)).trans hw280_2), ((HB.out.cell (World.block_lt_of_cell? w _ hw280_3)).trans hw280_3)⟩ (fun hHeld => ?_)
           clear hK K
           refine norm_ (a' := ?_) ?_ ?_
           rotate_left
           ·
            show Act.put _ (some 61) _ = _
            simp only [Act.put, List.setIfInBounds_toArray, List.set_cons_zero, List.set_cons_succ, i64_w, i32_w]
            rfl
           refine pureS 8 62 HT_.out ?_
           refine done_ (done_of HT_.out (by kernel_rfl)) ?_
           try go_wp2
           go_ret
           exact ⟨by first | rfl | (simp [errW_none, errW_some] <;> rfl) | (simp only [← hji21]; first | rfl | (simp [errW_none, errW_some] <;> rfl)) | (simp [*, errW_none, errW_some] <;> rfl), bs1 HB GE276⟩
          ·
           rw [if_neg c25] at H
           have c25b0 : (!(((rd_T26 l0_0 (ji21)).f0) == t281) || (!(((rd_T26 l0_0 (ji21)).f1) == t282) || (!((((rd_T26 l0_0 (ji21)).f2).toList) == t283.toList) || (!(((rd_T26 l0_0 (ji21)).f3) == t284))))) = false := by simpa using c25
           clear c25
           have H' := Aside0.mk H
           clear H
           obtain ⟨hcz29_0, hcz29_1, hcz29_2, hcz29_3⟩ := cz4 BK276
           obtain ⟨hfz29_0, hfz29_1, hfz29_2, hfz29_3⟩ := fz4 BK276
           try go_wp2
           have n0_ := Aside0.mk (blk_drew BK276.out)
           have n1_ := Aside0.mk (below_drew1 HB.out)
           clear BK276
           clear HB
           have BK276 := n0_
           have HB := n1_
           clear n0_ n1_
           have p280 : 0 ≤ ((ji21) : Int) := of_decide_eq_true (by first | (with_reducible assumption) | assumption)
           have q280 : (ji21) < (l0_0.length : Int) := of_decide_eq_true (by first | (with_reducible assumption) | assumption)
           obtain ⟨ad280, e280, hx280_0, hx280_1, hx280_2, hx280_3⟩ := at_T26 HR0_0.out (ji21) p280 q280
           have hw280_3 := hx280_3
           have hw280_2 := hx280_2
           have hw280_1 := hx280_1
           have hw280_0 := hx280_0
           cases e280
           replace hx280_0 := (HB.out.cell (World.block_lt_of_cell? w _ hx280_0)).trans hx280_0
           replace hx280_1 := (HB.out.cell (World.block_lt_of_cell? w _ hx280_1)).trans hx280_1
           replace hx280_2 := (HB.out.cell (World.block_lt_of_cell? w _ hx280_2)).trans hx280_2
           replace hx280_3 := (HB.out.cell (World.block_lt_of_cell? w _ hx280_3)).trans hx280_3
           replace p280 := eq_true p280
           replace q280 := eq_true q280
           refine start_ (n := 9) (S := fun w' => w'.cell? ⟨gb276, 0, none⟩ = some (.slice (some ad280) l0_0.length c0_0) ∧ w'.cell? ⟨gb276, 1, none⟩ = some (.int .i64 a0_1) ∧ w'.cell? ⟨gb276, 2, none⟩ = some (.int .i64 a0_2) ∧ w'.cell? ⟨gb276, 3, none⟩ = some (.int .i64 a0_3) ∧ w'.cell? (ad280.add (((ji21)).toNat * 4)) = some (.int .i64 ((rd_T26 l0_0 (ji21)).f0)) ∧ w'.cell? ⟨(ad280.add (((ji21)).toNat * 4)).block, (ad280.add (((ji21)).toNat * 4)).off + 1, none⟩ = some (.int .i64 ((rd_T26 l0_0 (ji21)).f1)) ∧ w'.cell? ⟨(ad280.add (((ji21)).toNat * 4)).block, (ad280.add (((ji21)).toNat * 4)).off + 2, none⟩ = some (.string ((rd_T26 l0_0 (ji21)).f2)) ∧ w'.cell? ⟨(ad280.add (((ji21)).toNat * 4)).block, (ad280.add (((ji21)).toNat * 4)).off + 3, none⟩ = some (.int .i64 ((rd_T26 l0_0 (ji21)).f3))) (ds := []) #[false, false, false, false, false, false, false, false, false] (by kernel_rfl) rfl rfl ⟨(blk_cell BK276.out 0).trans rfl, (blk_cell BK276.out 1).trans rfl, (blk_cell BK276.out 2).trans rfl, (blk_cell BK276.out 3).trans rfl, ((HB.out.cell (World.block_lt_of_cell? w _ hw280_0)).trans hw280_0), ((HB.out.cell (World.block_lt_of_cell? w _ hw280_1)).trans hw280_1), ((HB.out.cell (World.block_lt_of_cell? w _ hw280_2)).trans hw280_2), ((HB.out.cell (World.block_lt_of_cell? w _ hw280_3)).trans hw280_3)⟩ (fun hHeld => ?_); refine with_tabW impl_GoodRing.tab9 impl_GoodRing.bits9 (fun HT_ HW_ => ?_)
           generalize wr.drew = w30 at BK276 HB hx280_0 hx280_1 hx280_2 hx280_3 hHeld ⊢
           refine pureS 0 54 HT_.out ?_
           refine pureS 2 56 HT_.out ?_
           refine pureS 3 57 HT_.out ?_
           refine pureS 4 58 HT_.out ?_
           refine takeS 1 55 HT_.out HW_.out hHeld (hr := by rintro w' ⟨s0, s1, s2, s3, s4, s5, s6, s7⟩; go_simp; with_reducible rfl) (h := ?_)
           refine pureS 5 59 HT_.out ?_
           refine takeS 6 60 HT_.out HW_.out hHeld (hr := by rintro w' ⟨s0, s1, s2, s3, s4, s5, s6, s7⟩; go_simp; with_reducible rfl) (h := ?_)
           refine one_ (i := 7) (N := some 61) #[true, true, true, true, true, true, true, true, false] rfl rfl (one_of HT_.out (by kernel_rfl)) (by decide) (fun K hK => ?_)
           refine goes_ Tryd.func59 (by kernel_rfl) rfl #[] (by rfl) rfl rfl (by (try simp only [List.map_toArray, List.map_cons, List.map_nil]); first | done | rfl | (simp only [List.length_drop, List.length_take]; rfl)) ?_
           with_reducible refine (impl_zeroSlot.calls k2  t281 t282 t283 t284 _ ?sideT A24.out).mono ?_
           case sideT => refine ⟨Ito.tabB hTab_.out ?_⟩; first | exact bs HB | exact st_below | (repeat (first | (with_reducible first | exact HB.out | apply below_alloc | apply pw_below_drewN | apply below_drew1 | refine below_set ?_ (Aside0.out (by assumption))) | exact HB.out))
           rintro e w31 ⟨rfl, hb⟩
           refine ⟨_, rfl, ?_⟩
           have n0_ := Aside0.mk (bb BK276 hb)
           have n1_ := Aside0.mk (below_step (bs1 HB GE276) hb)
           clear BK276
           clear HB
           have BK276 := n0_
           have HB := n1_
           clear n0_ n1_
           (try clear hb)
           (try clear hb2)
           (try clear hk)
           (try clear hi)
           refine hK.out _ _ ⟨(blk_cell BK276.out 0).trans rfl, (blk_cell BK276.out 1).trans rfl, (blk_cell BK276.out 2).trans rfl, (blk_cell BK276.out 3).trans rfl, ((HB.out.cell (World.block_lt_of_cell? w _ hw280_0)).trans hw280_0), ((HB.out.cell (World.block_lt_of_cell? w _ hw280_1)).trans hw280_1), ((HB.out.cell (World.block_lt_of_cell? w _ hw280_2)).trans hw280_2), ((HB.out.cell (World.block_lt_of_cell? w _ hw280_3)).trans hw280_3)⟩ (fun hHeld => ?_)
           clear hK K
           refine norm_ (a' := ?_) ?_ ?_
           rotate_left
           ·
            show Act.put _ (some 61) _ = _
            simp only [Act.put, List.setIfInBounds_toArray, List.set_cons_zero, List.set_cons_succ, i64_w, i32_w]
            rfl
           refine pureS 8 62 HT_.out ?_
           refine done_ (done_of HT_.out (by kernel_rfl)) ?_
           try go_wp2
           go_roundg k2
           case measure => have := HJ1.out; have := HK2.out; omega
           case rel => exact ⟨(x4_2), (wrap64 (x5_2 + 1)), (by first | rfl | (simp; done) | (simp [*]; done)), (by first | rfl | (simp; done) | (simp [*]; done)), H', ⟨by have := HJ1.out; have := HK2.out; omega⟩, ⟨bk BK276⟩, ⟨bs1 HB GE276⟩⟩
         ·
          rw [if_neg c23] at H
          exact absurd H (by simp)
        ·
         rw [if_neg c22] at H
         exact absurd H (by simp)
       ·
        rw [if_neg c20] at H
        have c20b0 : decide (x5_2 < 0) = false := decide_eq_false c20
        clear c20
        by_cases c32 : (l0_0.length : Int) = 0
        ·
         rw [if_pos c32] at H
         exact absurd H (by simp)
        ·
         rw [if_neg c32] at H
         have c32b0 : ((l0_0.length : Int) == 0) = false := beq_eq_false_iff_ne.mpr c32
         have c32b1 : ((l0_0.length : Int) != 0) = true := bne_iff_ne.mpr c32
         have c32b2 : ¬ (l0_0 = []) := fun h_ => c32 (by rw [h_]; rfl)
         obtain ⟨ji33, hji33⟩ : ∃ j_ : Int, (Int.tmod x5_2 (l0_0.length : Int)) = j_ := ⟨_, rfl⟩
         replace H : (if 0 ≤ (ji33) then (if (ji33) < (l0_0.length : Int) then (if x5_2 < a0_3 then ((impl_zeroSlot.f k2).bind fun bt287 => (impl_GoodRing.j2 k2 (l0_0.length : Int) x4_2 x5_2 (((rd_T26 l0_0 (ji33)).f0) == bt287.1 && (((rd_T26 l0_0 (ji33)).f1) == bt287.2.1 && ((((rd_T26 l0_0 (ji33)).f2).toList) == bt287.2.2.1.toList && (((rd_T26 l0_0 (ji33)).f3) == bt287.2.2.2)))) l0_0 a0_1 a0_2 a0_3 ((rd_T26 l0_0 (ji33)).f0) ((rd_T26 l0_0 (ji33)).f1) ((rd_T26 l0_0 (ji33)).f2) ((rd_T26 l0_0 (ji33)).f3))) else (impl_GoodRing.j2 k2 (l0_0.length : Int) x4_2 x5_2 false l0_0 a0_1 a0_2 a0_3 ((rd_T26 l0_0 (ji33)).f0) ((rd_T26 l0_0 (ji33)).f1) ((rd_T26 l0_0 (ji33)).f2) ((rd_T26 l0_0 (ji33)).f3))) else (none)) else (none)) = some r := by first | (rw [hji33] at H; exact H) | (simp only [hji33] at H ⊢; exact H)
         by_cases c34 : 0 ≤ (ji33)
         ·
          rw [if_pos c34] at H
          have c34b0 : decide (0 ≤ (ji33)) = true := decide_eq_true c34
          clear c34
          by_cases c35 : (ji33) < (l0_0.length : Int)
          ·
           rw [if_pos c35] at H
           have c35b0 : decide ((ji33) < (l0_0.length : Int)) = true := decide_eq_true c35
           clear c35
           have HC36 := Aside0.mk H
           clear H
           obtain ⟨hcz37_0, hcz37_1, hcz37_2, hcz37_3⟩ := cz4 BK276
           obtain ⟨hfz37_0, hfz37_1, hfz37_2, hfz37_3⟩ := fz4 BK276
           try go_wp2
           have n0_ := Aside0.mk (blk_drew BK276.out)
           have n1_ := Aside0.mk (below_drew1 HB.out)
           clear BK276
           clear HB
           have BK276 := n0_
           have HB := n1_
           clear n0_ n1_
           have p285 : 0 ≤ ((ji33) : Int) := of_decide_eq_true (by first | (with_reducible assumption) | assumption)
           have q285 : (ji33) < (l0_0.length : Int) := of_decide_eq_true (by first | (with_reducible assumption) | assumption)
           obtain ⟨ad285, e285, hx285_0, hx285_1, hx285_2, hx285_3⟩ := at_T26 HR0_0.out (ji33) p285 q285
           have hw285_3 := hx285_3
           have hw285_2 := hx285_2
           have hw285_1 := hx285_1
           have hw285_0 := hx285_0
           cases e285
           replace hx285_0 := (HB.out.cell (World.block_lt_of_cell? w _ hx285_0)).trans hx285_0
           replace hx285_1 := (HB.out.cell (World.block_lt_of_cell? w _ hx285_1)).trans hx285_1
           replace hx285_2 := (HB.out.cell (World.block_lt_of_cell? w _ hx285_2)).trans hx285_2
           replace hx285_3 := (HB.out.cell (World.block_lt_of_cell? w _ hx285_3)).trans hx285_3
           replace p285 := eq_true p285
           replace q285 := eq_true q285
           refine start_ (n := 9) (S := fun w' => w'.cell? ⟨gb276, 0, none⟩ = some (.slice (some ad285) l0_0.length c0_0) ∧ w'.cell? ⟨gb276, 1, none⟩ = some (.int .i64 a0_1) ∧ w'.cell? ⟨gb276, 2, none⟩ = some (.int .i64 a0_2) ∧ w'.cell? ⟨gb276, 3, none⟩ = some (.int .i64 a0_3) ∧ w'.cell? (ad285.add (((ji33)).toNat * 4)) = some (.int .i64 ((rd_T26 l0_0 (ji33)).f0)) ∧ w'.cell? ⟨(ad285.add (((ji33)).toNat * 4)).block, (ad285.add (((ji33)).toNat * 4)).off + 1, none⟩ = some (.int .i64 ((rd_T26 l0_0 (ji33)).f1)) ∧ w'.cell? ⟨(ad285.add (((ji33)).toNat * 4)).block, (ad285.add (((ji33)).toNat * 4)).off + 2, none⟩ = some (.string ((rd_T26 l0_0 (ji33)).f2)) ∧ w'.cell? ⟨(ad285.add (((ji33)).toNat * 4)).block, (ad285.add (((ji33)).toNat * 4)).off + 3, none⟩ = some (.int .i64 ((rd_T26 l0_0 (ji33)).f3))) (ds := []) #[false, false, false, false, false, false, false, false, false] (by kernel_rfl) rfl rfl ⟨(blk_cell BK276.out 0).trans rfl, (blk_cell BK276.out 1).trans rfl, (blk_cell BK276.out 2).trans rfl, (blk_cell BK276.out 3).trans rfl, ((HB.out.cell (World.block_lt_of_cell? w _ hw285_0)).trans hw285_0), ((HB.out.cell (World.block_lt_of_cell? w _ hw285_1)).trans hw285_1), ((HB.out.cell (World.block_lt_of_cell? w _ hw285_2)).trans hw285_2), ((HB.out.cell (World.block_lt_of_cell? w _ hw285_3)).trans hw285_3)⟩ (fun hHeld => ?_); refine with_tabW impl_GoodRing.tab11 impl_GoodRing.bits11 (fun HT_ HW_ => ?_)
           generalize wr.drew = w38 at BK276 HB hx285_0 hx285_1 hx285_2 hx285_3 hHeld ⊢
           refine pureS 0 63 HT_.out ?_
           refine pureS 2 65 HT_.out ?_
           refine pureS 3 66 HT_.out ?_
           refine pureS 4 67 HT_.out ?_
           refine takeS 1 64 HT_.out HW_.out hHeld (hr := by rintro w' ⟨s0, s1, s2, s3, s4, s5, s6, s7⟩; go_simp; with_reducible rfl) (h := ?_)
           refine pureS 5 68 HT_.out ?_
           refine takeS 6 69 HT_.out HW_.out hHeld (hr := by rintro w' ⟨s0, s1, s2, s3, s4, s5, s6, s7⟩; go_simp; with_reducible rfl) (h := ?_)
           refine one_ (i := 7) (N := some 6) #[true, true, true, true, true, true, true, true, false] rfl rfl (one_of HT_.out (by kernel_rfl)) (by decide) (fun K hK => ?_)
           refine box_step ?hg (N := 6) ?hd (cs := #[.int .i64 0, .int .i64 0, .string (⟨#[]⟩ : ByteArray), .int .i64 0]) (t := 26) ?hr ?_; (case hd => rfl); (case hg => rfl); (case hr => first | (go_simp; done) | (go_simp; rfl))
           intro gb286 hg w39 hbox hb
           have n0_ := Aside0.mk (bb BK276 hb)
           have n1_ := Aside0.mk (below_step (bs1 HB GE276) hb)
           have n2_ := Aside0.mk (hbox)
           have n3_ := Aside0.mk ((by rw [hg]; exact (below_size (bs1 HB GE276)) : w.heap.size ≤ gb286))
           have n4_ := Aside0.mk ((by rw [hg]; exact (below_size (bs1 HB GE276)) : w.heap.size ≤ gb286))
           have n5_ := Aside0.mk ((bn BK276 hg : gb276 ≠ gb286))
           have n6_ := Aside0.mk ((bm BK276 hg : gb286 ≠ gb276))
           clear BK276
           clear HB
           have BK276 := n0_
           have HB := n1_
           have BK286 := n2_
           have GW286 := n3_
           have GE286 := n4_
           have NB276_286 := n5_
           have NB286_276 := n6_
           clear n0_ n1_ n2_ n3_ n4_ n5_ n6_
           clear hb hbox hg
           refine hK.out _ _ ⟨(blk_cell BK276.out 0).trans rfl, (blk_cell BK276.out 1).trans rfl, (blk_cell BK276.out 2).trans rfl, (blk_cell BK276.out 3).trans rfl, ((HB.out.cell (World.block_lt_of_cell? w _ hw285_0)).trans hw285_0), ((HB.out.cell (World.block_lt_of_cell? w _ hw285_1)).trans hw285_1), ((HB.out.cell (World.block_lt_of_cell? w _ hw285_2)).trans hw285_2), ((HB.out.cell (World.block_lt_of_cell? w _ hw285_3)).trans hw285_3)⟩ (fun hHeld => ?_)
           clear hK K
           refine norm_ (a' := ?_) ?_ ?_
           rotate_left
           ·
            show Act.put _ (some 6) _ = _
            simp only [Act.put, List.setIfInBounds_toArray, List.set_cons_zero, List.set_cons_succ, i64_w, i32_w]
            rfl
           refine one_ (i := 8) (N := none) #[true, true, true, true, true, true, true, true, true] rfl rfl (one_of HT_.out (by kernel_rfl)) (by decide) (fun K hK => ?_)
           have hs40 : w39.cell? ⟨gb286, 0, none⟩ = some (.int .i64 0) := (blk_cell BK286.out 0).trans rfl
           have hfs40 := blk_frozen BK286.out 0
           have hns40_0 := NB276_286.out
           have hms40_0 := NB286_276.out
           have hs41 : w39.cell? ⟨gb286, 1, none⟩ = some (.int .i64 0) := (blk_cell BK286.out 1).trans rfl
           have hfs41 := blk_frozen BK286.out 1
           have hns41_0 := NB276_286.out
           have hms41_0 := NB286_276.out
           have hs42 : w39.cell? ⟨gb286, 2, none⟩ = some (.string (⟨#[]⟩ : ByteArray)) := (blk_cell BK286.out 2).trans rfl
           have hfs42 := blk_frozen BK286.out 2
           have hns42_0 := NB276_286.out
           have hms42_0 := NB286_276.out
           have hs43 : w39.cell? ⟨gb286, 3, none⟩ = some (.int .i64 0) := (blk_cell BK286.out 3).trans rfl
           have hfs43 := blk_frozen BK286.out 3
           have hns43_0 := NB276_286.out
           have hms43_0 := NB286_276.out
           refine skip_ (w1 := ?_) (by rfl) rfl ?_ ?_
           rotate_left
           ·
            go_simp
            rfl
           refine hK.out _ _ ⟨((cell_far (p := ⟨gb286, _, none⟩) NB276_286.out _).trans (((cell_far (p := ⟨gb286, _, none⟩) NB276_286.out _).trans (((cell_far (p := ⟨gb286, _, none⟩) NB276_286.out _).trans (((cell_far (p := ⟨gb286, _, none⟩) NB276_286.out _).trans (hHeld.1)))))))), ((cell_far (p := ⟨gb286, _, none⟩) NB276_286.out _).trans (((cell_far (p := ⟨gb286, _, none⟩) NB276_286.out _).trans (((cell_far (p := ⟨gb286, _, none⟩) NB276_286.out _).trans (((cell_far (p := ⟨gb286, _, none⟩) NB276_286.out _).trans (hHeld.2.1)))))))), ((cell_far (p := ⟨gb286, _, none⟩) NB276_286.out _).trans (((cell_far (p := ⟨gb286, _, none⟩) NB276_286.out _).trans (((cell_far (p := ⟨gb286, _, none⟩) NB276_286.out _).trans (((cell_far (p := ⟨gb286, _, none⟩) NB276_286.out _).trans (hHeld.2.2.1)))))))), ((cell_far (p := ⟨gb286, _, none⟩) NB276_286.out _).trans (((cell_far (p := ⟨gb286, _, none⟩) NB276_286.out _).trans (((cell_far (p := ⟨gb286, _, none⟩) NB276_286.out _).trans (((cell_far (p := ⟨gb286, _, none⟩) NB276_286.out _).trans (hHeld.2.2.2.1)))))))), ((cell_far (p := ⟨gb286, _, none⟩) (by first | exact Nat.ne_of_lt (Nat.lt_of_lt_of_le (by have := World.block_lt_of_cell? _ _ hw285_0; first | rwa [add_block] at this | exact this) GW286.out) | (rw [add_block]; exact Nat.ne_of_lt (Nat.lt_of_lt_of_le (by have := World.block_lt_of_cell? _ _ hw285_0; first | rwa [add_block] at this | exact this) GW286.out)) | (show (Addr.add _ _).block ≠ _; rw [add_block]; exact Nat.ne_of_lt (Nat.lt_of_lt_of_le (by have := World.block_lt_of_cell? _ _ hw285_0; first | rwa [add_block] at this | exact this) GW286.out)) | (dsimp only; exact Nat.ne_of_lt (Nat.lt_of_lt_of_le (by have := World.block_lt_of_cell? _ _ hw285_0; first | rwa [add_block] at this | exact this) GW286.out))) _).trans (((cell_far (p := ⟨gb286, _, none⟩) (by first | exact Nat.ne_of_lt (Nat.lt_of_lt_of_le (by have := World.block_lt_of_cell? _ _ hw285_0; first | rwa [add_block] at this | exact this) GW286.out) | (rw [add_block]; exact Nat.ne_of_lt (Nat.lt_of_lt_of_le (by have := World.block_lt_of_cell? _ _ hw285_0; first | rwa [add_block] at this | exact this) GW286.out)) | (show (Addr.add _ _).block ≠ _; rw [add_block]; exact Nat.ne_of_lt (Nat.lt_of_lt_of_le (by have := World.block_lt_of_cell? _ _ hw285_0; first | rwa [add_block] at this | exact this) GW286.out)) | (dsimp only; exact Nat.ne_of_lt (Nat.lt_of_lt_of_le (by have := World.block_lt_of_cell? _ _ hw285_0; first | rwa [add_block] at this | exact this) GW286.out))) _).trans (((cell_far (p := ⟨gb286, _, none⟩) (by first | exact Nat.ne_of_lt (Nat.lt_of_lt_of_le (by have := World.block_lt_of_cell? _ _ hw285_0; first | rwa [add_block] at this | exact this) GW286.out) | (rw [add_block]; exact Nat.ne_of_lt (Nat.lt_of_lt_of_le (by have := World.block_lt_of_cell? _ _ hw285_0; first | rwa [add_block] at this | exact this) GW286.out)) | (show (Addr.add _ _).block ≠ _; rw [add_block]; exact Nat.ne_of_lt (Nat.lt_of_lt_of_le (by have := World.block_lt_of_cell? _ _ hw285_0; first | rwa [add_block] at this | exact this) GW286.out)) | (dsimp only; exact Nat.ne_of_lt (Nat.lt_of_lt_of_le (by have := World.block_lt_of_cell? _ _ hw285_0; first | rwa [add_block] at this | exact this) GW286.out))) _).trans (((cell_far (p := ⟨gb286, _, none⟩) (by first | exact Nat.ne_of_lt (Nat.lt_of_lt_of_le (by have := World.block_lt_of_cell? _ _ hw285_0; first | rwa [add_block] at this | exact this) GW286.out) | (rw [add_block]; exact Nat.ne_of_lt (Nat.lt_of_lt_of_le (by have := World.block_lt_of_cell? _ _ hw285_0; first | rwa [add_block] at this | exact this) GW286.out)) | (show (Addr.add _ _).block ≠ _; rw [add_block]; exact Nat.ne_of_lt (Nat.lt_of_lt_of_le (by have := World.block_lt_of_cell? _ _ hw285_0; first | rwa [add_block] at this | exact this) GW286.out)) | (dsimp only; exact Nat.ne_of_lt (Nat.lt_of_lt_of_le (by have := World.block_lt_of_cell? _ _ hw285_0; first | rwa [add_block] at this | exact this) GW286.out))) _).trans (hHeld.2.2.2.2.1)))))))), ((cell_far (p := ⟨gb286, _, none⟩) (by first | exact Nat.ne_of_lt (Nat.lt_of_lt_of_le (by have := World.block_lt_of_cell? _ _ hw285_1; first | rwa [add_block] at this | exact this) GW286.out) | (rw [add_block]; exact Nat.ne_of_lt (Nat.lt_of_lt_of_le (by have := World.block_lt_of_cell? _ _ hw285_1; first | rwa [add_block] at this | exact this) GW286.out)) | (show (Addr.add _ _).block ≠ _; rw [add_block]; exact Nat.ne_of_lt (Nat.lt_of_lt_of_le (by have := World.block_lt_of_cell? _ _ hw285_1; first | rwa [add_block] at this | exact this) GW286.out)) | (dsimp only; exact Nat.ne_of_lt (Nat.lt_of_lt_of_le (by have := World.block_lt_of_cell? _ _ hw285_1; first | rwa [add_block] at this | exact this) GW286.out))) _).trans (((cell_far (p := ⟨gb286, _, none⟩) (by first | exact Nat.ne_of_lt (Nat.lt_of_lt_of_le (by have := World.block_lt_of_cell? _ _ hw285_1; first | rwa [add_block] at this | exact this) GW286.out) | (rw [add_block]; exact Nat.ne_of_lt (Nat.lt_of_lt_of_le (by have := World.block_lt_of_cell? _ _ hw285_1; first | rwa [add_block] at this | exact this) GW286.out)) | (show (Addr.add _ _).block ≠ _; rw [add_block]; exact Nat.ne_of_lt (Nat.lt_of_lt_of_le (by have := World.block_lt_of_cell? _ _ hw285_1; first | rwa [add_block] at this | exact this) GW286.out)) | (dsimp only; exact Nat.ne_of_lt (Nat.lt_of_lt_of_le (by have := World.block_lt_of_cell? _ _ hw285_1; first | rwa [add_block] at this | exact this) GW286.out))) _).trans (((cell_far (p := ⟨gb286, _, none⟩) (by first | exact Nat.ne_of_lt (Nat.lt_of_lt_of_le (by have := World.block_lt_of_cell? _ _ hw285_1; first | rwa [add_block] at this | exact this) GW286.out) | (rw [add_block]; exact Nat.ne_of_lt (Nat.lt_of_lt_of_le (by have := World.block_lt_of_cell? _ _ hw285_1; first | rwa [add_block] at this | exact this) GW286.out)) | (show (Addr.add _ _).block ≠ _; rw [add_block]; exact Nat.ne_of_lt (Nat.lt_of_lt_of_le (by have := World.block_lt_of_cell? _ _ hw285_1; first | rwa [add_block] at this | exact this) GW286.out)) | (dsimp only; exact Nat.ne_of_lt (Nat.lt_of_lt_of_le (by have := World.block_lt_of_cell? _ _ hw285_1; first | rwa [add_block] at this | exact this) GW286.out))) _).trans (((cell_far (p := ⟨gb286, _, none⟩) (by first | exact Nat.ne_of_lt (Nat.lt_of_lt_of_le (by have := World.block_lt_of_cell? _ _ hw285_1; first | rwa [add_block] at this | exact this) GW286.out) | (rw [add_block]; exact Nat.ne_of_lt (Nat.lt_of_lt_of_le (by have := World.block_lt_of_cell? _ _ hw285_1; first | rwa [add_block] at this | exact this) GW286.out)) | (show (Addr.add _ _).block ≠ _; rw [add_block]; exact Nat.ne_of_lt (Nat.lt_of_lt_of_le (by have := World.block_lt_of_cell? _ _ hw285_1; first | rwa [add_block] at this | exact this) GW286.out)) | (dsimp only; exact Nat.ne_of_lt (Nat.lt_of_lt_of_le (by have := World.block_lt_of_cell? _ _ hw285_1; first | rwa [add_block] at this | exact this) GW286.out))) _).trans (hHeld.2.2.2.2.2.1)))))))), ((cell_far (p := ⟨gb286, _, none⟩) (by first | exact Nat.ne_of_lt (Nat.lt_of_lt_of_le (by have := World.block_lt_of_cell? _ _ hw285_2; first | rwa [add_block] at this | exact this) GW286.out) | (rw [add_block]; exact Nat.ne_of_lt (Nat.lt_of_lt_of_le (by have := World.block_lt_of_cell? _ _ hw285_2; first | rwa [add_block] at this | exact this) GW286.out)) | (show (Addr.add _ _).block ≠ _; rw [add_block]; exact Nat.ne_of_lt (Nat.lt_of_lt_of_le (by have := World.block_lt_of_cell? _ _ hw285_2; first | rwa [add_block] at this | exact this) GW286.out)) | (dsimp only; exact Nat.ne_of_lt (Nat.lt_of_lt_of_le (by have := World.block_lt_of_cell? _ _ hw285_2; first | rwa [add_block] at this | exact this) GW286.out))) _).trans (((cell_far (p := ⟨gb286, _, none⟩) (by first | exact Nat.ne_of_lt (Nat.lt_of_lt_of_le (by have := World.block_lt_of_cell? _ _ hw285_2; first | rwa [add_block] at this | exact this) GW286.out) | (rw [add_block]; exact Nat.ne_of_lt (Nat.lt_of_lt_of_le (by have := World.block_lt_of_cell? _ _ hw285_2; first | rwa [add_block] at this | exact this) GW286.out)) | (show (Addr.add _ _).block ≠ _; rw [add_block]; exact Nat.ne_of_lt (Nat.lt_of_lt_of_le (by have := World.block_lt_of_cell? _ _ hw285_2; first | rwa [add_block] at this | exact this) GW286.out)) | (dsimp only; exact Nat.ne_of_lt (Nat.lt_of_lt_of_le (by have := World.block_lt_of_cell? _ _ hw285_2; first | rwa [add_block] at this | exact this) GW286.out))) _).trans (((cell_far (p := ⟨gb286, _, none⟩) (by first | exact Nat.ne_of_lt (Nat.lt_of_lt_of_le (by have := World.block_lt_of_cell? _ _ hw285_2; first | rwa [add_block] at this | exact this) GW286.out) | (rw [add_block]; exact Nat.ne_of_lt (Nat.lt_of_lt_of_le (by have := World.block_lt_of_cell? _ _ hw285_2; first | rwa [add_block] at this | exact this) GW286.out)) | (show (Addr.add _ _).block ≠ _; rw [add_block]; exact Nat.ne_of_lt (Nat.lt_of_lt_of_le (by have := World.block_lt_of_cell? _ _ hw285_2; first | rwa [add_block] at this | exact this) GW286.out)) | (dsimp only; exact Nat.ne_of_lt (Nat.lt_of_lt_of_le (by have := World.block_lt_of_cell? _ _ hw285_2; first | rwa [add_block] at this | exact this) GW286.out))) _).trans (((cell_far (p := ⟨gb286, _, none⟩) (by first | exact Nat.ne_of_lt (Nat.lt_of_lt_of_le (by have := World.block_lt_of_cell? _ _ hw285_2; first | rwa [add_block] at this | exact this) GW286.out) | (rw [add_block]; exact Nat.ne_of_lt (Nat.lt_of_lt_of_le (by have := World.block_lt_of_cell? _ _ hw285_2; first | rwa [add_block] at this | exact this) GW286.out)) | (show (Addr.add _ _).block ≠ _; rw [add_block]; exact Nat.ne_of_lt (Nat.lt_of_lt_of_le (by have := World.block_lt_of_cell? _ _ hw285_2; first | rwa [add_block] at this | exact this) GW286.out)) | (dsimp only; exact Nat.ne_of_lt (Nat.lt_of_lt_of_le (by have := World.block_lt_of_cell? _ _ hw285_2; first | rwa [add_block] at this | exact this) GW286.out))) _).trans (hHeld.2.2.2.2.2.2.1)))))))), ((cell_far (p := ⟨gb286, _, none⟩) (by first | exact Nat.ne_of_lt (Nat.lt_of_lt_of_le (by have := World.block_lt_of_cell? _ _ hw285_3; first | rwa [add_block] at this | exact this) GW286.out) | (rw [add_block]; exact Nat.ne_of_lt (Nat.lt_of_lt_of_le (by have := World.block_lt_of_cell? _ _ hw285_3; first | rwa [add_block] at this | exact this) GW286.out)) | (show (Addr.add _ _).block ≠ _; rw [add_block]; exact Nat.ne_of_lt (Nat.lt_of_lt_of_le (by have := World.block_lt_of_cell? _ _ hw285_3; first | rwa [add_block] at this | exact this) GW286.out)) | (dsimp only; exact Nat.ne_of_lt (Nat.lt_of_lt_of_le (by have := World.block_lt_of_cell? _ _ hw285_3; first | rwa [add_block] at this | exact this) GW286.out))) _).trans (((cell_far (p := ⟨gb286, _, none⟩) (by first | exact Nat.ne_of_lt (Nat.lt_of_lt_of_le (by have := World.block_lt_of_cell? _ _ hw285_3; first | rwa [add_block] at this | exact this) GW286.out) | (rw [add_block]; exact Nat.ne_of_lt (Nat.lt_of_lt_of_le (by have := World.block_lt_of_cell? _ _ hw285_3; first | rwa [add_block] at this | exact this) GW286.out)) | (show (Addr.add _ _).block ≠ _; rw [add_block]; exact Nat.ne_of_lt (Nat.lt_of_lt_of_le (by have := World.block_lt_of_cell? _ _ hw285_3; first | rwa [add_block] at this | exact this) GW286.out)) | (dsimp only; exact Nat.ne_of_lt (Nat.lt_of_lt_of_le (by have := World.block_lt_of_cell? _ _ hw285_3; first | rwa [add_block] at this | exact this) GW286.out))) _).trans (((cell_far (p := ⟨gb286, _, none⟩) (by first | exact Nat.ne_of_lt (Nat.lt_of_lt_of_le (by have := World.block_lt_of_cell? _ _ hw285_3; first | rwa [add_block] at this | exact this) GW286.out) | (rw [add_block]; exact Nat.ne_of_lt (Nat.lt_of_lt_of_le (by have := World.block_lt_of_cell? _ _ hw285_3; first | rwa [add_block] at this | exact this) GW286.out)) | (show (Addr.add _ _).block ≠ _; rw [add_block]; exact Nat.ne_of_lt (Nat.lt_of_lt_of_le (by have := World.block_lt_of_cell? _ _ hw285_3; first | rwa [add_block] at this | exact this) GW286.out)) | (dsimp only; exact Nat.ne_of_lt (Nat.lt_of_lt_of_le (by have := World.block_lt_of_cell? _ _ hw285_3; first | rwa [add_block] at this | exact this) GW286.out))) _).trans (((cell_far (p := ⟨gb286, _, none⟩) (by first | exact Nat.ne_of_lt (Nat.lt_of_lt_of_le (by have := World.block_lt_of_cell? _ _ hw285_3; first | rwa [add_block] at this | exact this) GW286.out) | (rw [add_block]; exact Nat.ne_of_lt (Nat.lt_of_lt_of_le (by have := World.block_lt_of_cell? _ _ hw285_3; first | rwa [add_block] at this | exact this) GW286.out)) | (show (Addr.add _ _).block ≠ _; rw [add_block]; exact Nat.ne_of_lt (Nat.lt_of_lt_of_le (by have := World.block_lt_of_cell? _ _ hw285_3; first | rwa [add_block] at this | exact this) GW286.out)) | (dsimp only; exact Nat.ne_of_lt (Nat.lt_of_lt_of_le (by have := World.block_lt_of_cell? _ _ hw285_3; first | rwa [add_block] at this | exact this) GW286.out))) _).trans (hHeld.2.2.2.2.2.2.2))))))))⟩ (fun hHeld => ?_)
           clear hK K
           refine done_ (done_of HT_.out (by kernel_rfl)) ?_
           go_upto_region 12 with (fail)
           go_cut [78] (fun v78 wc => ∃ (kq : Nat) (x78_35 : Bool), v78 = .bool x78_35 ∧ Aside0 (impl_GoodRing.j2 kq (l0_0.length : Int) x4_2 x5_2 x78_35 l0_0 a0_1 a0_2 a0_3 ((rd_T26 l0_0 (ji33)).f0) ((rd_T26 l0_0 (ji33)).f1) ((rd_T26 l0_0 (ji33)).f2) ((rd_T26 l0_0 (ji33)).f3) = some r) ∧ Aside0 (kq ≤ k2) ∧ Aside0 (wc.heap[gb276]? = some (.cells #[(.slice (some ad285) l0_0.length c0_0), .int .i64 a0_1, .int .i64 a0_2, .int .i64 a0_3] 36 (0, 0))) ∧ Aside0 (wc.heap[gb286]? = some (.cells #[.int .i64 ((rd_T26 l0_0 (ji33)).f0), .int .i64 ((rd_T26 l0_0 (ji33)).f1), .string ((rd_T26 l0_0 (ji33)).f2), .int .i64 ((rd_T26 l0_0 (ji33)).f3)] 26 (0, 0))) ∧ Aside0 (Below w.heap.size w wc))
           case first =>
            have H := HC36.out
            clear HC36
            by_cases c44 : x5_2 < a0_3
            ·
             rw [if_pos c44] at H
             have c44b0 : decide (x5_2 < a0_3) = true := decide_eq_true c44
             clear c44
             (first | rw [c44b0] | (simp only [i64_w, i32_w]; rw [c44b0]) | (simp only [c44b2, Bool.not_false, Bool.not_true]) | skip)
             replace H := Option.bind_eq_some_iff.mp H
             obtain ⟨⟨t287, t288, t289, t290⟩, A450, H⟩ := H
             replace H : (impl_GoodRing.j2 k2 (l0_0.length : Int) x4_2 x5_2 (((rd_T26 l0_0 (ji33)).f0) == t287 && (((rd_T26 l0_0 (ji33)).f1) == t288 && ((((rd_T26 l0_0 (ji33)).f2).toList) == t289.toList && (((rd_T26 l0_0 (ji33)).f3) == t290)))) l0_0 a0_1 a0_2 a0_3 ((rd_T26 l0_0 (ji33)).f0) ((rd_T26 l0_0 (ji33)).f1) ((rd_T26 l0_0 (ji33)).f2) ((rd_T26 l0_0 (ji33)).f3)) = some r := H
             have A45 := Aside0.mk A450
             clear A450
             have H' := Aside0.mk H
             clear H
             try go_wp2
             have n0_ : Aside0 (((((w39.setCell ⟨gb286, 0, none⟩ (.int .i64 ((rd_T26 l0_0 (ji33)).f0))).setCell ⟨gb286, 1, none⟩ (.int .i64 ((rd_T26 l0_0 (ji33)).f1))).setCell ⟨gb286, 2, none⟩ (.string ((rd_T26 l0_0 (ji33)).f2))).setCell ⟨gb286, 3, none⟩ (.int .i64 ((rd_T26 l0_0 (ji33)).f3))).heap[gb276]? = some (.cells #[.slice (some ad285) l0_0.length c0_0, .int .i64 a0_1, .int .i64 a0_2, .int .i64 a0_3] 36 (0, 0))) := ⟨bf BK276 NB276_286⟩
             have n1_ : Aside0 (((((w39.setCell ⟨gb286, 0, none⟩ (.int .i64 ((rd_T26 l0_0 (ji33)).f0))).setCell ⟨gb286, 1, none⟩ (.int .i64 ((rd_T26 l0_0 (ji33)).f1))).setCell ⟨gb286, 2, none⟩ (.string ((rd_T26 l0_0 (ji33)).f2))).setCell ⟨gb286, 3, none⟩ (.int .i64 ((rd_T26 l0_0 (ji33)).f3))).heap[gb286]? = some (.cells #[.int .i64 ((rd_T26 l0_0 (ji33)).f0), .int .i64 ((rd_T26 l0_0 (ji33)).f1), .string ((rd_T26 l0_0 (ji33)).f2), .int .i64 ((rd_T26 l0_0 (ji33)).f3)] 26 (0, 0))) := ⟨by (with_reducible repeat (first | refine blk_drewN ?_ _ | refine blk_drew ?_ | refine blk_alloc ?_ _)); refine blk_put (cs := #[.int .i64 ((rd_T26 l0_0 (ji33)).f0), .int .i64 ((rd_T26 l0_0 (ji33)).f1), .string ((rd_T26 l0_0 (ji33)).f2), .int .i64 0]) ?_ 3 _ rfl; (with_reducible repeat (first | refine blk_drewN ?_ _ | refine blk_drew ?_ | refine blk_alloc ?_ _)); refine blk_put (cs := #[.int .i64 ((rd_T26 l0_0 (ji33)).f0), .int .i64 ((rd_T26 l0_0 (ji33)).f1), .string (⟨#[]⟩ : ByteArray), .int .i64 0]) ?_ 2 _ rfl; (with_reducible repeat (first | refine blk_drewN ?_ _ | refine blk_drew ?_ | refine blk_alloc ?_ _)); refine blk_put (cs := #[.int .i64 ((rd_T26 l0_0 (ji33)).f0), .int .i64 0, .string (⟨#[]⟩ : ByteArray), .int .i64 0]) ?_ 1 _ rfl; (with_reducible repeat (first | refine blk_drewN ?_ _ | refine blk_drew ?_ | refine blk_alloc ?_ _)); refine blk_put (cs := #[.int .i64 0, .int .i64 0, .string (⟨#[]⟩ : ByteArray), .int .i64 0]) ?_ 0 _ rfl; (with_reducible repeat (first | refine blk_drewN ?_ _ | refine blk_drew ?_ | refine blk_alloc ?_ _)); exact BK286.out⟩
             have n2_ : Aside0 (Below w.heap.size w ((((w39.setCell ⟨gb286, 0, none⟩ (.int .i64 ((rd_T26 l0_0 (ji33)).f0))).setCell ⟨gb286, 1, none⟩ (.int .i64 ((rd_T26 l0_0 (ji33)).f1))).setCell ⟨gb286, 2, none⟩ (.string ((rd_T26 l0_0 (ji33)).f2))).setCell ⟨gb286, 3, none⟩ (.int .i64 ((rd_T26 l0_0 (ji33)).f3)))) := ⟨bs2 HB GE276 GE286⟩
             (try clear BK276)
             (try clear BK286)
             (try clear HB)
             generalize ((((w39.setCell ⟨gb286, 0, none⟩ (.int .i64 ((rd_T26 l0_0 (ji33)).f0))).setCell ⟨gb286, 1, none⟩ (.int .i64 ((rd_T26 l0_0 (ji33)).f1))).setCell ⟨gb286, 2, none⟩ (.string ((rd_T26 l0_0 (ji33)).f2))).setCell ⟨gb286, 3, none⟩ (.int .i64 ((rd_T26 l0_0 (ji33)).f3))) = w46 at n0_ n1_ n2_ ⊢
             have BK276 := n0_
             have BK286 := n1_
             have HB := n2_
             clear n0_ n1_ n2_
             have n0_ := Aside0.mk (blk_drew BK276.out)
             have n1_ := Aside0.mk (blk_drew BK286.out)
             have n2_ := Aside0.mk (below_drew1 HB.out)
             clear BK276
             clear BK286
             clear HB
             have BK276 := n0_
             have BK286 := n1_
             have HB := n2_
             clear n0_ n1_ n2_
             refine start_ (n := 9) (S := fun w' => w'.cell? ⟨gb276, 0, none⟩ = some (.slice (some ad285) l0_0.length c0_0) ∧ w'.cell? ⟨gb276, 1, none⟩ = some (.int .i64 a0_1) ∧ w'.cell? ⟨gb276, 2, none⟩ = some (.int .i64 a0_2) ∧ w'.cell? ⟨gb276, 3, none⟩ = some (.int .i64 a0_3) ∧ w'.cell? ⟨gb286, 0, none⟩ = some (.int .i64 ((rd_T26 l0_0 (ji33)).f0)) ∧ w'.cell? ⟨gb286, 1, none⟩ = some (.int .i64 ((rd_T26 l0_0 (ji33)).f1)) ∧ w'.cell? ⟨gb286, 2, none⟩ = some (.string ((rd_T26 l0_0 (ji33)).f2)) ∧ w'.cell? ⟨gb286, 3, none⟩ = some (.int .i64 ((rd_T26 l0_0 (ji33)).f3))) (ds := []) #[false, false, false, false, false, false, false, false, false] (by kernel_rfl) rfl rfl ⟨(blk_cell BK276.out 0).trans rfl, (blk_cell BK276.out 1).trans rfl, (blk_cell BK276.out 2).trans rfl, (blk_cell BK276.out 3).trans rfl, (blk_cell BK286.out 0).trans rfl, (blk_cell BK286.out 1).trans rfl, (blk_cell BK286.out 2).trans rfl, (blk_cell BK286.out 3).trans rfl⟩ (fun hHeld => ?_); refine with_tabW impl_GoodRing.tab12 impl_GoodRing.bits12 (fun HT_ HW_ => ?_)
             generalize w46.drew = w47 at BK276 BK286 HB hHeld ⊢
             refine pureS 0 70 HT_.out ?_
             refine pureS 1 71 HT_.out ?_
             refine takeS 2 72 HT_.out HW_.out hHeld (hr := by rintro w' ⟨s0, s1, s2, s3, s4, s5, s6, s7⟩; go_simp; with_reducible rfl) (h := ?_)
             refine pureS 3 73 HT_.out ?_
             refine pureS 4 74 HT_.out ?_
             refine takeS 5 75 HT_.out HW_.out hHeld (hr := by rintro w' ⟨s0, s1, s2, s3, s4, s5, s6, s7⟩; go_simp; with_reducible rfl) (h := ?_)
             refine one_ (i := 6) (N := some 76) #[true, true, true, true, true, true, true, false, false] rfl rfl (one_of HT_.out (by kernel_rfl)) (by decide) (fun K hK => ?_)
             refine goes_ Tryd.func59 (by kernel_rfl) rfl #[] (by rfl) rfl rfl (by (try simp only [List.map_toArray, List.map_cons, List.map_nil]); first | done | rfl | (simp only [List.length_drop, List.length_take]; rfl)) ?_
             with_reducible refine (impl_zeroSlot.calls k2  t287 t288 t289 t290 _ ?sideT A45.out).mono ?_
             case sideT => refine ⟨Ito.tabB hTab_.out ?_⟩; first | exact bs HB | exact st_below | (repeat (first | (with_reducible first | exact HB.out | apply below_alloc | apply pw_below_drewN | apply below_drew1 | refine below_set ?_ (Aside0.out (by assumption))) | exact HB.out))
             rintro e w48 ⟨rfl, hb⟩
             refine ⟨_, rfl, ?_⟩
             have n0_ := Aside0.mk (bb BK276 hb)
             have n1_ := Aside0.mk (bb BK286 hb)
             have n2_ := Aside0.mk (below_step (bs2 HB GE276 GE286) hb)
             clear BK276
             clear BK286
             clear HB
             have BK276 := n0_
             have BK286 := n1_
             have HB := n2_
             clear n0_ n1_ n2_
             (try clear hb)
             (try clear hb2)
             (try clear hk)
             (try clear hi)
             refine hK.out _ _ ⟨(blk_cell BK276.out 0).trans rfl, (blk_cell BK276.out 1).trans rfl, (blk_cell BK276.out 2).trans rfl, (blk_cell BK276.out 3).trans rfl, (blk_cell BK286.out 0).trans rfl, (blk_cell BK286.out 1).trans rfl, (blk_cell BK286.out 2).trans rfl, (blk_cell BK286.out 3).trans rfl⟩ (fun hHeld => ?_)
             clear hK K
             refine norm_ (a' := ?_) ?_ ?_
             rotate_left
             ·
              show Act.put _ (some 76) _ = _
              simp only [Act.put, List.setIfInBounds_toArray, List.set_cons_zero, List.set_cons_succ, i64_w, i32_w]
              rfl
             refine pureS 7 77 HT_.out ?_
             refine pureS 8 78 HT_.out ?_
             refine done_ (done_of HT_.out (by kernel_rfl)) ?_
             try go_wp2
             go_meet
             case rel => exact ⟨_, ((((rd_T26 l0_0 (ji33)).f0) == t287 && (((rd_T26 l0_0 (ji33)).f1) == t288 && ((((rd_T26 l0_0 (ji33)).f2).toList) == t289.toList && (((rd_T26 l0_0 (ji33)).f3) == t290))))), (by first | rfl | (simp; done) | (simp only [← hji33] <;> (first | rfl | simp)) | (simp [*]; done)), H', ⟨by have := HJ1.out; have := HK2.out; first | omega | exact Nat.le_refl _⟩, ⟨bk BK276⟩, ⟨bk BK286⟩, ⟨bs2 HB GE276 GE286⟩⟩
            ·
             rw [if_neg c44] at H
             have c44b0 : decide (x5_2 < a0_3) = false := decide_eq_false c44
             clear c44
             (first | rw [c44b0] | (simp only [i64_w, i32_w]; rw [c44b0]) | (simp only [c44b2, Bool.not_false, Bool.not_true]) | skip)
             have H' := Aside0.mk H
             clear H
             try go_wp2
             have n0_ : Aside0 (((((w39.setCell ⟨gb286, 0, none⟩ (.int .i64 ((rd_T26 l0_0 (ji33)).f0))).setCell ⟨gb286, 1, none⟩ (.int .i64 ((rd_T26 l0_0 (ji33)).f1))).setCell ⟨gb286, 2, none⟩ (.string ((rd_T26 l0_0 (ji33)).f2))).setCell ⟨gb286, 3, none⟩ (.int .i64 ((rd_T26 l0_0 (ji33)).f3))).heap[gb276]? = some (.cells #[.slice (some ad285) l0_0.length c0_0, .int .i64 a0_1, .int .i64 a0_2, .int .i64 a0_3] 36 (0, 0))) := ⟨bf BK276 NB276_286⟩
             have n1_ : Aside0 (((((w39.setCell ⟨gb286, 0, none⟩ (.int .i64 ((rd_T26 l0_0 (ji33)).f0))).setCell ⟨gb286, 1, none⟩ (.int .i64 ((rd_T26 l0_0 (ji33)).f1))).setCell ⟨gb286, 2, none⟩ (.string ((rd_T26 l0_0 (ji33)).f2))).setCell ⟨gb286, 3, none⟩ (.int .i64 ((rd_T26 l0_0 (ji33)).f3))).heap[gb286]? = some (.cells #[.int .i64 ((rd_T26 l0_0 (ji33)).f0), .int .i64 ((rd_T26 l0_0 (ji33)).f1), .string ((rd_T26 l0_0 (ji33)).f2), .int .i64 ((rd_T26 l0_0 (ji33)).f3)] 26 (0, 0))) := ⟨by (with_reducible repeat (first | refine blk_drewN ?_ _ | refine blk_drew ?_ | refine blk_alloc ?_ _)); refine blk_put (cs := #[.int .i64 ((rd_T26 l0_0 (ji33)).f0), .int .i64 ((rd_T26 l0_0 (ji33)).f1), .string ((rd_T26 l0_0 (ji33)).f2), .int .i64 0]) ?_ 3 _ rfl; (with_reducible repeat (first | refine blk_drewN ?_ _ | refine blk_drew ?_ | refine blk_alloc ?_ _)); refine blk_put (cs := #[.int .i64 ((rd_T26 l0_0 (ji33)).f0), .int .i64 ((rd_T26 l0_0 (ji33)).f1), .string (⟨#[]⟩ : ByteArray), .int .i64 0]) ?_ 2 _ rfl; (with_reducible repeat (first | refine blk_drewN ?_ _ | refine blk_drew ?_ | refine blk_alloc ?_ _)); refine blk_put (cs := #[.int .i64 ((rd_T26 l0_0 (ji33)).f0), .int .i64 0, .string (⟨#[]⟩ : ByteArray), .int .i64 0]) ?_ 1 _ rfl; (with_reducible repeat (first | refine blk_drewN ?_ _ | refine blk_drew ?_ | refine blk_alloc ?_ _)); refine blk_put (cs := #[.int .i64 0, .int .i64 0, .string (⟨#[]⟩ : ByteArray), .int .i64 0]) ?_ 0 _ rfl; (with_reducible repeat (first | refine blk_drewN ?_ _ | refine blk_drew ?_ | refine blk_alloc ?_ _)); exact BK286.out⟩
             have n2_ : Aside0 (Below w.heap.size w ((((w39.setCell ⟨gb286, 0, none⟩ (.int .i64 ((rd_T26 l0_0 (ji33)).f0))).setCell ⟨gb286, 1, none⟩ (.int .i64 ((rd_T26 l0_0 (ji33)).f1))).setCell ⟨gb286, 2, none⟩ (.string ((rd_T26 l0_0 (ji33)).f2))).setCell ⟨gb286, 3, none⟩ (.int .i64 ((rd_T26 l0_0 (ji33)).f3)))) := ⟨bs2 HB GE276 GE286⟩
             (try clear BK276)
             (try clear BK286)
             (try clear HB)
             generalize ((((w39.setCell ⟨gb286, 0, none⟩ (.int .i64 ((rd_T26 l0_0 (ji33)).f0))).setCell ⟨gb286, 1, none⟩ (.int .i64 ((rd_T26 l0_0 (ji33)).f1))).setCell ⟨gb286, 2, none⟩ (.string ((rd_T26 l0_0 (ji33)).f2))).setCell ⟨gb286, 3, none⟩ (.int .i64 ((rd_T26 l0_0 (ji33)).f3))) = w49 at n0_ n1_ n2_ ⊢
             have BK276 := n0_
             have BK286 := n1_
             have HB := n2_
             clear n0_ n1_ n2_
             have n0_ := Aside0.mk (blk_drew BK276.out)
             have n1_ := Aside0.mk (blk_drew BK286.out)
             have n2_ := Aside0.mk (below_drew1 HB.out)
             clear BK276
             clear BK286
             clear HB
             have BK276 := n0_
             have BK286 := n1_
             have HB := n2_
             clear n0_ n1_ n2_
             refine start_ (n := 9) (S := fun w' => w'.cell? ⟨gb276, 0, none⟩ = some (.slice (some ad285) l0_0.length c0_0) ∧ w'.cell? ⟨gb276, 1, none⟩ = some (.int .i64 a0_1) ∧ w'.cell? ⟨gb276, 2, none⟩ = some (.int .i64 a0_2) ∧ w'.cell? ⟨gb276, 3, none⟩ = some (.int .i64 a0_3)) (ds := []) #[false, false, false, false, false, false, false, false, false] (by kernel_rfl) rfl rfl ⟨(blk_cell BK276.out 0).trans rfl, (blk_cell BK276.out 1).trans rfl, (blk_cell BK276.out 2).trans rfl, (blk_cell BK276.out 3).trans rfl⟩ (fun hHeld => ?_); refine with_tabW impl_GoodRing.tab12 impl_GoodRing.bits12 (fun HT_ HW_ => ?_)
             generalize w49.drew = w50 at BK276 BK286 HB hHeld ⊢
             refine pureS 0 70 HT_.out ?_
             refine pureS 1 71 HT_.out ?_
             refine takeS 2 72 HT_.out HW_.out hHeld (hr := by rintro w' ⟨s0, s1, s2, s3⟩; go_simp; with_reducible rfl) (h := ?_)
             refine pureS 3 73 HT_.out ?_
             refine pureS 4 74 HT_.out ?_
             refine pureU 5 75 HT_.out ?_
             refine pureU 6 76 HT_.out ?_
             refine pureU 7 77 HT_.out ?_
             refine pureS 8 78 HT_.out ?_
             refine done_ (done_of HT_.out (by kernel_rfl)) ?_
             try go_wp2
             go_meet
             case rel => exact ⟨_, (false), (by first | rfl | (simp; done) | (simp [*]; done)), H', ⟨by have := HJ1.out; have := HK2.out; first | omega | exact Nat.le_refl _⟩, ⟨bk BK276⟩, ⟨bk BK286⟩, ⟨bs2 HB GE276 GE286⟩⟩
           case rest =>
            clear HC36
            try clear c2
            try clear p2
            try clear q2
            try clear hx2
            try clear c3
            try clear c4
            try clear c5
            try clear p6
            try clear c20
            try clear c20b0
            try clear c22
            try clear c23
            try clear c25
            try clear c25b0
            try clear p28
            try clear q28
            try clear hx28
            try clear c32
            try clear c32b0
            try clear c32b1
            try clear c32b2
            try clear c34
            try clear c34b0
            try clear c35
            try clear c35b0
            try clear c44
            try clear c44b0
            try clear hcz29_0 hcz29_1 hcz29_2 hcz29_3
            try clear hcz37_0 hcz37_1 hcz37_2 hcz37_3
            try clear hfz29_0 hfz29_1 hfz29_2 hfz29_3
            try clear hfz37_0 hfz37_1 hfz37_2 hfz37_3
            try clear hx280_0
            try clear hx280_1
            try clear hx280_2
            try clear hx280_3
            try clear hx285_0
            try clear hx285_1
            try clear hx285_2
            try clear hx285_3
            try clear p280
            try clear p285
            try clear q280
            try clear q285
            obtain ⟨kq, x78_35, rfl, HA, HJ35, BK276, BK286, HB⟩ := hcut
            cases kq with
            | zero => exact absurd HA.out (by simp [impl_GoodRing.j2])
            | succ kj35 =>
             have H := HA.out
             clear HA
             simp only [impl_GoodRing.j2] at H
             by_cases c51 : x78_35 = true
             ·
              subst c51
              rw [if_pos rfl] at H
              have H' := Aside0.mk H
              clear H
              go_wp2
              go_roundg kj35
              case measure => have := HJ1.out; have := HK2.out; have := HJ35.out; omega
              case rel => exact ⟨(x4_2), (wrap64 (x5_2 + 1)), (by first | rfl | (simp; done) | (simp [*]; done)), (by first | rfl | (simp; done) | (simp [*]; done)), H', ⟨by have := HJ1.out; have := HK2.out; have := HJ35.out; omega⟩, ⟨bk BK276⟩, ⟨bs2 HB GE276 GE286⟩⟩
             ·
              replace c51 := Bool.eq_false_iff.mpr c51
              subst c51
              rw [if_neg (show ¬ (false = true) by decide)] at H
              replace H := Option.bind_eq_some_iff.mp H
              obtain ⟨t291, A520, H⟩ := H
              replace H : (if t291 = true then (if (l0_0.length : Int) = 0 then (none) else (if ((rd_T26 l0_0 (ji33)).f0) = (wrap64 ((wrap64 (Int.tdiv x5_2 (l0_0.length : Int))) + 1)) then (if ((rd_T26 l0_0 (ji33)).f1) > x5_2 then (some false) else (if ((rd_T26 l0_0 (ji33)).f1) > a0_3 then (some false) else (if ((rd_T26 l0_0 (ji33)).f1) < x4_2 then (some false) else (impl_GoodRing.l0 kj35 (l0_0.length : Int) ((rd_T26 l0_0 (ji33)).f1) (wrap64 (x5_2 + 1)) l0_0 a0_1 a0_2 a0_3)))) else (some false))) else (some false)) = some r := H
              have A52 := Aside0.mk A520
              clear A520
              by_cases c53 : t291 = true
              ·
               subst c53
               rw [if_pos rfl] at H
               by_cases c54 : (l0_0.length : Int) = 0
               ·
                rw [if_pos c54] at H
                exact absurd H (by simp)
               ·
                rw [if_neg c54] at H
                have c54b0 : ((l0_0.length : Int) == 0) = false := beq_eq_false_iff_ne.mpr c54
                have c54b1 : ((l0_0.length : Int) != 0) = true := bne_iff_ne.mpr c54
                have c54b2 : ¬ (l0_0 = []) := fun h_ => c54 (by rw [h_]; rfl)
                by_cases c55 : ((rd_T26 l0_0 (ji33)).f0) = (wrap64 ((wrap64 (Int.tdiv x5_2 (l0_0.length : Int))) + 1))
                ·
                 rw [if_pos c55] at H
                 have c55b0 : (((rd_T26 l0_0 (ji33)).f0) == (wrap64 ((wrap64 (Int.tdiv x5_2 (l0_0.length : Int))) + 1))) = true := beq_iff_eq.mpr c55
                 have c55b1 : (((rd_T26 l0_0 (ji33)).f0) != (wrap64 ((wrap64 (Int.tdiv x5_2 (l0_0.length : Int))) + 1))) = false := bne_eq_false_iff_eq.mpr c55
                 clear c55
                 by_cases c56 : ((rd_T26 l0_0 (ji33)).f1) > x5_2
                 ·
                  rw [if_pos c56] at H
                  have c56b0 : decide (x5_2 < ((rd_T26 l0_0 (ji33)).f1)) = true := decide_eq_true c56
                  clear c56
                  obtain rfl := Option.some.inj H
                  try go_wp2
                  have n0_ := Aside0.mk (blk_drew BK276.out)
                  have n1_ := Aside0.mk (blk_drew BK286.out)
                  have n2_ := Aside0.mk (below_drew1 HB.out)
                  clear BK276
                  clear BK286
                  clear HB
                  have BK276 := n0_
                  have BK286 := n1_
                  have HB := n2_
                  clear n0_ n1_ n2_
                  refine start_ (n := 31) (S := fun w' => w'.cell? ⟨gb286, 0, none⟩ = some (.int .i64 ((rd_T26 l0_0 (ji33)).f0)) ∧ w'.cell? ⟨gb286, 1, none⟩ = some (.int .i64 ((rd_T26 l0_0 (ji33)).f1)) ∧ w'.cell? ⟨gb286, 2, none⟩ = some (.string ((rd_T26 l0_0 (ji33)).f2)) ∧ w'.cell? ⟨gb286, 3, none⟩ = some (.int .i64 ((rd_T26 l0_0 (ji33)).f3))) (ds := []) #[false, false, false, false, false, false, false, false, false, false, false, false, false, false, false, false, false, false, false, false, false, false, false, false, false, false, false, false, false, false, false] (by kernel_rfl) rfl rfl ⟨(blk_cell BK286.out 0).trans rfl, (blk_cell BK286.out 1).trans rfl, (blk_cell BK286.out 2).trans rfl, (blk_cell BK286.out 3).trans rfl⟩ (fun hHeld => ?_); refine with_tabW impl_GoodRing.tab13 impl_GoodRing.bits13 (fun HT_ HW_ => ?_)
                  generalize wc.drew = w57 at BK276 BK286 HB hHeld ⊢
                  refine takeS 0 79 HT_.out HW_.out hHeld (hr := by rintro w' ⟨s0, s1, s2, s3⟩; go_simp; with_reducible rfl) (h := ?_)
                  refine one_ (i := 1) (N := some 80) #[true, true, false, false, false, false, false, false, false, false, false, false, false, false, false, false, false, false, false, false, false, false, false, false, false, false, false, false, false, false, false] rfl rfl (one_of HT_.out (by kernel_rfl)) (by decide) (fun K hK => ?_)
                  refine goes_ Tryd.func60 (by kernel_rfl) rfl #[.agg #[.int .i64 ((rd_T26 l0_0 (ji33)).f0), .int .i64 ((rd_T26 l0_0 (ji33)).f1), .string ((rd_T26 l0_0 (ji33)).f2), .int .i64 ((rd_T26 l0_0 (ji33)).f3)]] (by rfl) rfl rfl (by (try simp only [List.map_toArray, List.map_cons, List.map_nil]); first | done | (simp only [hji33]; rfl) | rfl | (simp only [List.length_drop, List.length_take]; rfl)) ?_
                  with_reducible refine (impl_isIntact.calls kj35 ((rd_T26 l0_0 (ji33)).f0) ((rd_T26 l0_0 (ji33)).f1) ((rd_T26 l0_0 (ji33)).f2) ((rd_T26 l0_0 (ji33)).f3) true _ ?sideT A52.out).mono ?_
                  case sideT => refine ⟨Ito.tabB hTab_.out ?_⟩; first | exact bs HB | exact st_below | (repeat (first | (with_reducible first | exact HB.out | apply below_alloc | apply pw_below_drewN | apply below_drew1 | refine below_set ?_ (Aside0.out (by assumption))) | exact HB.out))
                  rintro e w58 ⟨rfl, hb⟩
                  refine ⟨_, rfl, ?_⟩
                  have n0_ := Aside0.mk (bb BK276 hb)
                  have n1_ := Aside0.mk (bb BK286 hb)
                  have n2_ := Aside0.mk (below_step (bs2 HB GE276 GE286) hb)
                  clear BK276
                  clear BK286
                  clear HB
                  have BK276 := n0_
                  have BK286 := n1_
                  have HB := n2_
                  clear n0_ n1_ n2_
                  (try clear hb)
                  (try clear hb2)
                  (try clear hk)
                  (try clear hi)
                  refine hK.out _ _ ⟨(blk_cell BK286.out 0).trans rfl, (blk_cell BK286.out 1).trans rfl, (blk_cell BK286.out 2).trans rfl, (blk_cell BK286.out 3).trans rfl⟩ (fun hHeld => ?_)
                  clear hK K
                  refine norm_ (a' := ?_) ?_ ?_
                  rotate_left
                  ·
                   show Act.put _ (some 80) _ = _
                   simp only [Act.put, List.setIfInBounds_toArray, List.set_cons_zero, List.set_cons_succ, i64_w, i32_w]
                   rfl
                  refine pureS 2 81 HT_.out ?_
                  refine pureS 3 82 HT_.out ?_
                  refine pureS 4 83 HT_.out ?_
                  refine pureS 6 85 HT_.out ?_
                  refine pureS 7 86 HT_.out ?_
                  refine pureS 8 87 HT_.out ?_
                  refine pureS 9 88 HT_.out ?_
                  refine takeS 5 84 HT_.out HW_.out hHeld (hr := by rintro w' ⟨s0, s1, s2, s3⟩; go_simp; with_reducible rfl) (h := ?_)
                  refine pureS 10 89 HT_.out ?_
                  refine pureS 11 90 HT_.out ?_
                  refine pureS 12 91 HT_.out ?_
                  refine pureS 13 92 HT_.out ?_
                  refine pureS 15 94 HT_.out ?_
                  refine takeS 14 93 HT_.out HW_.out hHeld (hr := by rintro w' ⟨s0, s1, s2, s3⟩; go_simp; with_reducible rfl) (h := ?_)
                  refine pureS 16 95 HT_.out ?_
                  refine pureS 17 96 HT_.out ?_
                  refine pureS 18 97 HT_.out ?_
                  refine pureU 19 98 HT_.out ?_
                  refine pureU 20 99 HT_.out ?_
                  refine pureU 21 100 HT_.out ?_
                  refine pureU 22 101 HT_.out ?_
                  refine pureU 23 102 HT_.out ?_
                  refine pureS 24 103 HT_.out ?_
                  refine pureS 25 104 HT_.out ?_
                  refine pureU 26 105 HT_.out ?_
                  refine pureU 27 106 HT_.out ?_
                  refine pureU 28 107 HT_.out ?_
                  refine pureU 29 108 HT_.out ?_
                  refine pureS 30 109 HT_.out ?_
                  refine done_ (done_of HT_.out (by kernel_rfl)) ?_
                  try go_wp2
                  go_ret
                  exact ⟨by first | rfl | (simp [errW_none, errW_some] <;> rfl) | (simp only [← hji33]; first | rfl | (simp [errW_none, errW_some] <;> rfl)) | (simp [*, errW_none, errW_some] <;> rfl), bs2 HB GE276 GE286⟩
                 ·
                  rw [if_neg c56] at H
                  have c56b0 : decide (x5_2 < ((rd_T26 l0_0 (ji33)).f1)) = false := decide_eq_false c56
                  clear c56
                  by_cases c59 : ((rd_T26 l0_0 (ji33)).f1) > a0_3
                  ·
                   rw [if_pos c59] at H
                   have c59b0 : decide (a0_3 < ((rd_T26 l0_0 (ji33)).f1)) = true := decide_eq_true c59
                   clear c59
                   obtain rfl := Option.some.inj H
                   try go_wp2
                   have n0_ := Aside0.mk (blk_drew BK276.out)
                   have n1_ := Aside0.mk (blk_drew BK286.out)
                   have n2_ := Aside0.mk (below_drew1 HB.out)
                   clear BK276
                   clear BK286
                   clear HB
                   have BK276 := n0_
                   have BK286 := n1_
                   have HB := n2_
                   clear n0_ n1_ n2_
                   refine start_ (n := 31) (S := fun w' => w'.cell? ⟨gb286, 0, none⟩ = some (.int .i64 ((rd_T26 l0_0 (ji33)).f0)) ∧ w'.cell? ⟨gb286, 1, none⟩ = some (.int .i64 ((rd_T26 l0_0 (ji33)).f1)) ∧ w'.cell? ⟨gb286, 2, none⟩ = some (.string ((rd_T26 l0_0 (ji33)).f2)) ∧ w'.cell? ⟨gb286, 3, none⟩ = some (.int .i64 ((rd_T26 l0_0 (ji33)).f3)) ∧ w'.cell? ⟨gb276, 0, none⟩ = some (.slice (some ad285) l0_0.length c0_0) ∧ w'.cell? ⟨gb276, 1, none⟩ = some (.int .i64 a0_1) ∧ w'.cell? ⟨gb276, 2, none⟩ = some (.int .i64 a0_2) ∧ w'.cell? ⟨gb276, 3, none⟩ = some (.int .i64 a0_3)) (ds := []) #[false, false, false, false, false, false, false, false, false, false, false, false, false, false, false, false, false, false, false, false, false, false, false, false, false, false, false, false, false, false, false] (by kernel_rfl) rfl rfl ⟨(blk_cell BK286.out 0).trans rfl, (blk_cell BK286.out 1).trans rfl, (blk_cell BK286.out 2).trans rfl, (blk_cell BK286.out 3).trans rfl, (blk_cell BK276.out 0).trans rfl, (blk_cell BK276.out 1).trans rfl, (blk_cell BK276.out 2).trans rfl, (blk_cell BK276.out 3).trans rfl⟩ (fun hHeld => ?_); refine with_tabW impl_GoodRing.tab13 impl_GoodRing.bits13 (fun HT_ HW_ => ?_)
                   generalize wc.drew = w60 at BK276 BK286 HB hHeld ⊢
                   refine takeS 0 79 HT_.out HW_.out hHeld (hr := by rintro w' ⟨s0, s1, s2, s3, s4, s5, s6, s7⟩; go_simp; with_reducible rfl) (h := ?_)
                   refine one_ (i := 1) (N := some 80) #[true, true, false, false, false, false, false, false, false, false, false, false, false, false, false, false, false, false, false, false, false, false, false, false, false, false, false, false, false, false, false] rfl rfl (one_of HT_.out (by kernel_rfl)) (by decide) (fun K hK => ?_)
                   refine goes_ Tryd.func60 (by kernel_rfl) rfl #[.agg #[.int .i64 ((rd_T26 l0_0 (ji33)).f0), .int .i64 ((rd_T26 l0_0 (ji33)).f1), .string ((rd_T26 l0_0 (ji33)).f2), .int .i64 ((rd_T26 l0_0 (ji33)).f3)]] (by rfl) rfl rfl (by (try simp only [List.map_toArray, List.map_cons, List.map_nil]); first | done | (simp only [hji33]; rfl) | rfl | (simp only [List.length_drop, List.length_take]; rfl)) ?_
                   with_reducible refine (impl_isIntact.calls kj35 ((rd_T26 l0_0 (ji33)).f0) ((rd_T26 l0_0 (ji33)).f1) ((rd_T26 l0_0 (ji33)).f2) ((rd_T26 l0_0 (ji33)).f3) true _ ?sideT A52.out).mono ?_
                   case sideT => refine ⟨Ito.tabB hTab_.out ?_⟩; first | exact bs HB | exact st_below | (repeat (first | (with_reducible first | exact HB.out | apply below_alloc | apply pw_below_drewN | apply below_drew1 | refine below_set ?_ (Aside0.out (by assumption))) | exact HB.out))
                   rintro e w61 ⟨rfl, hb⟩
                   refine ⟨_, rfl, ?_⟩
                   have n0_ := Aside0.mk (bb BK276 hb)
                   have n1_ := Aside0.mk (bb BK286 hb)
                   have n2_ := Aside0.mk (below_step (bs2 HB GE276 GE286) hb)
                   clear BK276
                   clear BK286
                   clear HB
                   have BK276 := n0_
                   have BK286 := n1_
                   have HB := n2_
                   clear n0_ n1_ n2_
                   (try clear hb)
                   (try clear hb2)
                   (try clear hk)
                   (try clear hi)
                   refine hK.out _ _ ⟨(blk_cell BK286.out 0).trans rfl, (blk_cell BK286.out 1).trans rfl, (blk_cell BK286.out 2).trans rfl, (blk_cell BK286.out 3).trans rfl, (blk_cell BK276.out 0).trans rfl, (blk_cell BK276.out 1).trans rfl, (blk_cell BK276.out 2).trans rfl, (blk_cell BK276.out 3).trans rfl⟩ (fun hHeld => ?_)
                   clear hK K
                   refine norm_ (a' := ?_) ?_ ?_
                   rotate_left
                   ·
                    show Act.put _ (some 80) _ = _
                    simp only [Act.put, List.setIfInBounds_toArray, List.set_cons_zero, List.set_cons_succ, i64_w, i32_w]
                    rfl
                   refine pureS 2 81 HT_.out ?_
                   refine pureS 3 82 HT_.out ?_
                   refine pureS 4 83 HT_.out ?_
                   refine pureS 6 85 HT_.out ?_
                   refine pureS 7 86 HT_.out ?_
                   refine pureS 8 87 HT_.out ?_
                   refine pureS 9 88 HT_.out ?_
                   refine takeS 5 84 HT_.out HW_.out hHeld (hr := by rintro w' ⟨s0, s1, s2, s3, s4, s5, s6, s7⟩; go_simp; with_reducible rfl) (h := ?_)
                   refine pureS 10 89 HT_.out ?_
                   refine pureS 11 90 HT_.out ?_
                   refine pureS 12 91 HT_.out ?_
                   refine pureS 13 92 HT_.out ?_
                   refine pureS 15 94 HT_.out ?_
                   refine takeS 14 93 HT_.out HW_.out hHeld (hr := by rintro w' ⟨s0, s1, s2, s3, s4, s5, s6, s7⟩; go_simp; with_reducible rfl) (h := ?_)
                   refine pureS 16 95 HT_.out ?_
                   refine pureS 17 96 HT_.out ?_
                   refine pureS 18 97 HT_.out ?_
                   refine pureS 19 98 HT_.out ?_
                   refine pureS 21 100 HT_.out ?_
                   refine takeS 20 99 HT_.out HW_.out hHeld (hr := by rintro w' ⟨s0, s1, s2, s3, s4, s5, s6, s7⟩; go_simp; with_reducible rfl) (h := ?_)
                   refine takeS 22 101 HT_.out HW_.out hHeld (hr := by rintro w' ⟨s0, s1, s2, s3, s4, s5, s6, s7⟩; go_simp; with_reducible rfl) (h := ?_)
                   refine pureS 23 102 HT_.out ?_
                   refine pureS 24 103 HT_.out ?_
                   refine pureS 25 104 HT_.out ?_
                   refine pureU 26 105 HT_.out ?_
                   refine pureU 27 106 HT_.out ?_
                   refine pureU 28 107 HT_.out ?_
                   refine pureU 29 108 HT_.out ?_
                   refine pureS 30 109 HT_.out ?_
                   refine done_ (done_of HT_.out (by kernel_rfl)) ?_
                   try go_wp2
                   go_ret
                   exact ⟨by first | rfl | (simp [errW_none, errW_some] <;> rfl) | (simp only [← hji33]; first | rfl | (simp [errW_none, errW_some] <;> rfl)) | (simp [*, errW_none, errW_some] <;> rfl), bs2 HB GE276 GE286⟩
                  ·
                   rw [if_neg c59] at H
                   have c59b0 : decide (a0_3 < ((rd_T26 l0_0 (ji33)).f1)) = false := decide_eq_false c59
                   clear c59
                   by_cases c62 : ((rd_T26 l0_0 (ji33)).f1) < x4_2
                   ·
                    rw [if_pos c62] at H
                    have c62b0 : decide (((rd_T26 l0_0 (ji33)).f1) < x4_2) = true := decide_eq_true c62
                    clear c62
                    obtain rfl := Option.some.inj H
                    try go_wp2
                    have n0_ := Aside0.mk (blk_drew BK276.out)
                    have n1_ := Aside0.mk (blk_drew BK286.out)
                    have n2_ := Aside0.mk (below_drew1 HB.out)
                    clear BK276
                    clear BK286
                    clear HB
                    have BK276 := n0_
                    have BK286 := n1_
                    have HB := n2_
                    clear n0_ n1_ n2_
                    refine start_ (n := 31) (S := fun w' => w'.cell? ⟨gb286, 0, none⟩ = some (.int .i64 ((rd_T26 l0_0 (ji33)).f0)) ∧ w'.cell? ⟨gb286, 1, none⟩ = some (.int .i64 ((rd_T26 l0_0 (ji33)).f1)) ∧ w'.cell? ⟨gb286, 2, none⟩ = some (.string ((rd_T26 l0_0 (ji33)).f2)) ∧ w'.cell? ⟨gb286, 3, none⟩ = some (.int .i64 ((rd_T26 l0_0 (ji33)).f3)) ∧ w'.cell? ⟨gb276, 0, none⟩ = some (.slice (some ad285) l0_0.length c0_0) ∧ w'.cell? ⟨gb276, 1, none⟩ = some (.int .i64 a0_1) ∧ w'.cell? ⟨gb276, 2, none⟩ = some (.int .i64 a0_2) ∧ w'.cell? ⟨gb276, 3, none⟩ = some (.int .i64 a0_3)) (ds := []) #[false, false, false, false, false, false, false, false, false, false, false, false, false, false, false, false, false, false, false, false, false, false, false, false, false, false, false, false, false, false, false] (by kernel_rfl) rfl rfl ⟨(blk_cell BK286.out 0).trans rfl, (blk_cell BK286.out 1).trans rfl, (blk_cell BK286.out 2).trans rfl, (blk_cell BK286.out 3).trans rfl, (blk_cell BK276.out 0).trans rfl, (blk_cell BK276.out 1).trans rfl, (blk_cell BK276.out 2).trans rfl, (blk_cell BK276.out 3).trans rfl⟩ (fun hHeld => ?_); refine with_tabW impl_GoodRing.tab13 impl_GoodRing.bits13 (fun HT_ HW_ => ?_)
                    generalize wc.drew = w63 at BK276 BK286 HB hHeld ⊢
                    refine takeS 0 79 HT_.out HW_.out hHeld (hr := by rintro w' ⟨s0, s1, s2, s3, s4, s5, s6, s7⟩; go_simp; with_reducible rfl) (h := ?_)
                    refine one_ (i := 1) (N := some 80) #[true, true, false, false, false, false, false, false, false, false, false, false, false, false, false, false, false, false, false, false, false, false, false, false, false, false, false, false, false, false, false] rfl rfl (one_of HT_.out (by kernel_rfl)) (by decide) (fun K hK => ?_)
                    refine goes_ Tryd.func60 (by kernel_rfl) rfl #[.agg #[.int .i64 ((rd_T26 l0_0 (ji33)).f0), .int .i64 ((rd_T26 l0_0 (ji33)).f1), .string ((rd_T26 l0_0 (ji33)).f2), .int .i64 ((rd_T26 l0_0 (ji33)).f3)]] (by rfl) rfl rfl (by (try simp only [List.map_toArray, List.map_cons, List.map_nil]); first | done | (simp only [hji33]; rfl) | rfl | (simp only [List.length_drop, List.length_take]; rfl)) ?_
                    with_reducible refine (impl_isIntact.calls kj35 ((rd_T26 l0_0 (ji33)).f0) ((rd_T26 l0_0 (ji33)).f1) ((rd_T26 l0_0 (ji33)).f2) ((rd_T26 l0_0 (ji33)).f3) true _ ?sideT A52.out).mono ?_
                    case sideT => refine ⟨Ito.tabB hTab_.out ?_⟩; first | exact bs HB | exact st_below | (repeat (first | (with_reducible first | exact HB.out | apply below_alloc | apply pw_below_drewN | apply below_drew1 | refine below_set ?_ (Aside0.out (by assumption))) | exact HB.out))
                    rintro e w64 ⟨rfl, hb⟩
                    refine ⟨_, rfl, ?_⟩
                    have n0_ := Aside0.mk (bb BK276 hb)
                    have n1_ := Aside0.mk (bb BK286 hb)
                    have n2_ := Aside0.mk (below_step (bs2 HB GE276 GE286) hb)
                    clear BK276
                    clear BK286
                    clear HB
                    have BK276 := n0_
                    have BK286 := n1_
                    have HB := n2_
                    clear n0_ n1_ n2_
                    (try clear hb)
                    (try clear hb2)
                    (try clear hk)
                    (try clear hi)
                    refine hK.out _ _ ⟨(blk_cell BK286.out 0).trans rfl, (blk_cell BK286.out 1).trans rfl, (blk_cell BK286.out 2).trans rfl, (blk_cell BK286.out 3).trans rfl, (blk_cell BK276.out 0).trans rfl, (blk_cell BK276.out 1).trans rfl, (blk_cell BK276.out 2).trans rfl, (blk_cell BK276.out 3).trans rfl⟩ (fun hHeld => ?_)
                    clear hK K
                    refine norm_ (a' := ?_) ?_ ?_
                    rotate_left
                    ·
                     show Act.put _ (some 80) _ = _
                     simp only [Act.put, List.setIfInBounds_toArray, List.set_cons_zero, List.set_cons_succ, i64_w, i32_w]
                     rfl
                    refine pureS 2 81 HT_.out ?_
                    refine pureS 3 82 HT_.out ?_
                    refine pureS 4 83 HT_.out ?_
                    refine pureS 6 85 HT_.out ?_
                    refine pureS 7 86 HT_.out ?_
                    refine pureS 8 87 HT_.out ?_
                    refine pureS 9 88 HT_.out ?_
                    refine takeS 5 84 HT_.out HW_.out hHeld (hr := by rintro w' ⟨s0, s1, s2, s3, s4, s5, s6, s7⟩; go_simp; with_reducible rfl) (h := ?_)
                    refine pureS 10 89 HT_.out ?_
                    refine pureS 11 90 HT_.out ?_
                    refine pureS 12 91 HT_.out ?_
                    refine pureS 13 92 HT_.out ?_
                    refine pureS 15 94 HT_.out ?_
                    refine takeS 14 93 HT_.out HW_.out hHeld (hr := by rintro w' ⟨s0, s1, s2, s3, s4, s5, s6, s7⟩; go_simp; with_reducible rfl) (h := ?_)
                    refine pureS 16 95 HT_.out ?_
                    refine pureS 17 96 HT_.out ?_
                    refine pureS 18 97 HT_.out ?_
                    refine pureS 19 98 HT_.out ?_
                    refine pureS 21 100 HT_.out ?_
                    refine takeS 20 99 HT_.out HW_.out hHeld (hr := by rintro w' ⟨s0, s1, s2, s3, s4, s5, s6, s7⟩; go_simp; with_reducible rfl) (h := ?_)
                    refine takeS 22 101 HT_.out HW_.out hHeld (hr := by rintro w' ⟨s0, s1, s2, s3, s4, s5, s6, s7⟩; go_simp; with_reducible rfl) (h := ?_)
                    refine pureS 23 102 HT_.out ?_
                    refine pureS 24 103 HT_.out ?_
                    refine pureS 25 104 HT_.out ?_
                    refine pureS 26 105 HT_.out ?_
                    refine pureS 28 107 HT_.out ?_
                    refine takeS 27 106 HT_.out HW_.out hHeld (hr := by rintro w' ⟨s0, s1, s2, s3, s4, s5, s6, s7⟩; go_simp; with_reducible rfl) (h := ?_)
                    refine pureS 29 108 HT_.out ?_
                    refine pureS 30 109 HT_.out ?_
                    refine done_ (done_of HT_.out (by kernel_rfl)) ?_
                    try go_wp2
                    go_ret
                    exact ⟨by first | rfl | (simp [errW_none, errW_some] <;> rfl) | (simp only [← hji33]; first | rfl | (simp [errW_none, errW_some] <;> rfl)) | (simp [*, errW_none, errW_some] <;> rfl), bs2 HB GE276 GE286⟩
                   ·
                    rw [if_neg c62] at H
                    have c62b0 : decide (((rd_T26 l0_0 (ji33)).f1) < x4_2) = false := decide_eq_false c62
                    clear c62
                    have H' := Aside0.mk H
                    clear H
                    try go_wp2
                    have n0_ := Aside0.mk (blk_drew BK276.out)
                    have n1_ := Aside0.mk (blk_drew BK286.out)
                    have n2_ := Aside0.mk (below_drew1 HB.out)
                    clear BK276
                    clear BK286
                    clear HB
                    have BK276 := n0_
                    have BK286 := n1_
                    have HB := n2_
                    clear n0_ n1_ n2_
                    refine start_ (n := 31) (S := fun w' => w'.cell? ⟨gb286, 0, none⟩ = some (.int .i64 ((rd_T26 l0_0 (ji33)).f0)) ∧ w'.cell? ⟨gb286, 1, none⟩ = some (.int .i64 ((rd_T26 l0_0 (ji33)).f1)) ∧ w'.cell? ⟨gb286, 2, none⟩ = some (.string ((rd_T26 l0_0 (ji33)).f2)) ∧ w'.cell? ⟨gb286, 3, none⟩ = some (.int .i64 ((rd_T26 l0_0 (ji33)).f3)) ∧ w'.cell? ⟨gb276, 0, none⟩ = some (.slice (some ad285) l0_0.length c0_0) ∧ w'.cell? ⟨gb276, 1, none⟩ = some (.int .i64 a0_1) ∧ w'.cell? ⟨gb276, 2, none⟩ = some (.int .i64 a0_2) ∧ w'.cell? ⟨gb276, 3, none⟩ = some (.int .i64 a0_3)) (ds := []) #[false, false, false, false, false, false, false, false, false, false, false, false, false, false, false, false, false, false, false, false, false, false, false, false, false, false, false, false, false, false, false] (by kernel_rfl) rfl rfl ⟨(blk_cell BK286.out 0).trans rfl, (blk_cell BK286.out 1).trans rfl, (blk_cell BK286.out 2).trans rfl, (blk_cell BK286.out 3).trans rfl, (blk_cell BK276.out 0).trans rfl, (blk_cell BK276.out 1).trans rfl, (blk_cell BK276.out 2).trans rfl, (blk_cell BK276.out 3).trans rfl⟩ (fun hHeld => ?_); refine with_tabW impl_GoodRing.tab13 impl_GoodRing.bits13 (fun HT_ HW_ => ?_)
                    generalize wc.drew = w65 at BK276 BK286 HB hHeld ⊢
                    refine takeS 0 79 HT_.out HW_.out hHeld (hr := by rintro w' ⟨s0, s1, s2, s3, s4, s5, s6, s7⟩; go_simp; with_reducible rfl) (h := ?_)
                    refine one_ (i := 1) (N := some 80) #[true, true, false, false, false, false, false, false, false, false, false, false, false, false, false, false, false, false, false, false, false, false, false, false, false, false, false, false, false, false, false] rfl rfl (one_of HT_.out (by kernel_rfl)) (by decide) (fun K hK => ?_)
                    refine goes_ Tryd.func60 (by kernel_rfl) rfl #[.agg #[.int .i64 ((rd_T26 l0_0 (ji33)).f0), .int .i64 ((rd_T26 l0_0 (ji33)).f1), .string ((rd_T26 l0_0 (ji33)).f2), .int .i64 ((rd_T26 l0_0 (ji33)).f3)]] (by rfl) rfl rfl (by (try simp only [List.map_toArray, List.map_cons, List.map_nil]); first | done | (simp only [hji33]; rfl) | rfl | (simp only [List.length_drop, List.length_take]; rfl)) ?_
                    with_reducible refine (impl_isIntact.calls kj35 ((rd_T26 l0_0 (ji33)).f0) ((rd_T26 l0_0 (ji33)).f1) ((rd_T26 l0_0 (ji33)).f2) ((rd_T26 l0_0 (ji33)).f3) true _ ?sideT A52.out).mono ?_
                    case sideT => refine ⟨Ito.tabB hTab_.out ?_⟩; first | exact bs HB | exact st_below | (repeat (first | (with_reducible first | exact HB.out | apply below_alloc | apply pw_below_drewN | apply below_drew1 | refine below_set ?_ (Aside0.out (by assumption))) | exact HB.out))
                    rintro e w66 ⟨rfl, hb⟩
                    refine ⟨_, rfl, ?_⟩
                    have n0_ := Aside0.mk (bb BK276 hb)
                    have n1_ := Aside0.mk (bb BK286 hb)
                    have n2_ := Aside0.mk (below_step (bs2 HB GE276 GE286) hb)
                    clear BK276
                    clear BK286
                    clear HB
                    have BK276 := n0_
                    have BK286 := n1_
                    have HB := n2_
                    clear n0_ n1_ n2_
                    (try clear hb)
                    (try clear hb2)
                    (try clear hk)
                    (try clear hi)
                    refine hK.out _ _ ⟨(blk_cell BK286.out 0).trans rfl, (blk_cell BK286.out 1).trans rfl, (blk_cell BK286.out 2).trans rfl, (blk_cell BK286.out 3).trans rfl, (blk_cell BK276.out 0).trans rfl, (blk_cell BK276.out 1).trans rfl, (blk_cell BK276.out 2).trans rfl, (blk_cell BK276.out 3).trans rfl⟩ (fun hHeld => ?_)
                    clear hK K
                    refine norm_ (a' := ?_) ?_ ?_
                    rotate_left
                    ·
                     show Act.put _ (some 80) _ = _
                     simp only [Act.put, List.setIfInBounds_toArray, List.set_cons_zero, List.set_cons_succ, i64_w, i32_w]
                     rfl
                    refine pureS 2 81 HT_.out ?_
                    refine pureS 3 82 HT_.out ?_
                    refine pureS 4 83 HT_.out ?_
                    refine pureS 6 85 HT_.out ?_
                    refine pureS 7 86 HT_.out ?_
                    refine pureS 8 87 HT_.out ?_
                    refine pureS 9 88 HT_.out ?_
                    refine takeS 5 84 HT_.out HW_.out hHeld (hr := by rintro w' ⟨s0, s1, s2, s3, s4, s5, s6, s7⟩; go_simp; with_reducible rfl) (h := ?_)
                    refine pureS 10 89 HT_.out ?_
                    refine pureS 11 90 HT_.out ?_
                    refine pureS 12 91 HT_.out ?_
                    refine pureS 13 92 HT_.out ?_
                    refine pureS 15 94 HT_.out ?_
                    refine takeS 14 93 HT_.out HW_.out hHeld (hr := by rintro w' ⟨s0, s1, s2, s3, s4, s5, s6, s7⟩; go_simp; with_reducible rfl) (h := ?_)
                    refine pureS 16 95 HT_.out ?_
                    refine pureS 17 96 HT_.out ?_
                    refine pureS 18 97 HT_.out ?_
                    refine pureS 19 98 HT_.out ?_
                    refine pureS 21 100 HT_.out ?_
                    refine takeS 20 99 HT_.out HW_.out hHeld (hr := by rintro w' ⟨s0, s1, s2, s3, s4, s5, s6, s7⟩; go_simp; with_reducible rfl) (h := ?_)
                    refine takeS 22 101 HT_.out HW_.out hHeld (hr := by rintro w' ⟨s0, s1, s2, s3, s4, s5, s6, s7⟩; go_simp; with_reducible rfl) (h := ?_)
                    refine pureS 23 102 HT_.out ?_
                    refine pureS 24 103 HT_.out ?_
                    refine pureS 25 104 HT_.out ?_
                    refine pureS 26 105 HT_.out ?_
                    refine pureS 28 107 HT_.out ?_
                    refine takeS 27 106 HT_.out HW_.out hHeld (hr := by rintro w' ⟨s0, s1, s2, s3, s4, s5, s6, s7⟩; go_simp; with_reducible rfl) (h := ?_)
                    refine pureS 29 108 HT_.out ?_
                    refine pureS 30 109 HT_.out ?_
                    refine done_ (done_of HT_.out (by kernel_rfl)) ?_
                    have hnb67 := NB286_276.out
                    have hnc67 := NB276_286.out
                    obtain ⟨hcz68_0, hcz68_1, hcz68_2, hcz68_3⟩ := cz4 BK286
                    obtain ⟨hfz68_0, hfz68_1, hfz68_2, hfz68_3⟩ := fz4 BK286
                    try go_wp2
                    go_roundg kj35
                    case measure => have := HJ1.out; have := HK2.out; have := HJ35.out; omega
                    case rel => exact ⟨(((rd_T26 l0_0 (ji33)).f1)), (wrap64 (x5_2 + 1)), (by first | rfl | (simp; done) | (simp only [← hji33] <;> (first | rfl | simp)) | (simp [*]; done)), (by first | rfl | (simp; done) | (simp [*]; done)), H', ⟨by have := HJ1.out; have := HK2.out; have := HJ35.out; omega⟩, ⟨bk BK276⟩, ⟨bs2 HB GE276 GE286⟩⟩
                ·
                 rw [if_neg c55] at H
                 have c55b0 : (((rd_T26 l0_0 (ji33)).f0) == (wrap64 ((wrap64 (Int.tdiv x5_2 (l0_0.length : Int))) + 1))) = false := beq_eq_false_iff_ne.mpr c55
                 have c55b1 : (((rd_T26 l0_0 (ji33)).f0) != (wrap64 ((wrap64 (Int.tdiv x5_2 (l0_0.length : Int))) + 1))) = true := bne_iff_ne.mpr c55
                 obtain rfl := Option.some.inj H
                 try go_wp2
                 have n0_ := Aside0.mk (blk_drew BK276.out)
                 have n1_ := Aside0.mk (blk_drew BK286.out)
                 have n2_ := Aside0.mk (below_drew1 HB.out)
                 clear BK276
                 clear BK286
                 clear HB
                 have BK276 := n0_
                 have BK286 := n1_
                 have HB := n2_
                 clear n0_ n1_ n2_
                 refine start_ (n := 31) (S := fun w' => w'.cell? ⟨gb286, 0, none⟩ = some (.int .i64 ((rd_T26 l0_0 (ji33)).f0)) ∧ w'.cell? ⟨gb286, 1, none⟩ = some (.int .i64 ((rd_T26 l0_0 (ji33)).f1)) ∧ w'.cell? ⟨gb286, 2, none⟩ = some (.string ((rd_T26 l0_0 (ji33)).f2)) ∧ w'.cell? ⟨gb286, 3, none⟩ = some (.int .i64 ((rd_T26 l0_0 (ji33)).f3))) (ds := []) #[false, false, false, false, false, false, false, false, false, false, false, false, false, false, false, false, false, false, false, false, false, false, false, false, false, false, false, false, false, false, false] (by kernel_rfl) rfl rfl ⟨(blk_cell BK286.out 0).trans rfl, (blk_cell BK286.out 1).trans rfl, (blk_cell BK286.out 2).trans rfl, (blk_cell BK286.out 3).trans rfl⟩ (fun hHeld => ?_); refine with_tabW impl_GoodRing.tab13 impl_GoodRing.bits13 (fun HT_ HW_ => ?_)
                 generalize wc.drew = w69 at BK276 BK286 HB hHeld ⊢
                 refine takeS 0 79 HT_.out HW_.out hHeld (hr := by rintro w' ⟨s0, s1, s2, s3⟩; go_simp; with_reducible rfl) (h := ?_)
                 refine one_ (i := 1) (N := some 80) #[true, true, false, false, false, false, false, false, false, false, false, false, false, false, false, false, false, false, false, false, false, false, false, false, false, false, false, false, false, false, false] rfl rfl (one_of HT_.out (by kernel_rfl)) (by decide) (fun K hK => ?_)
                 refine goes_ Tryd.func60 (by kernel_rfl) rfl #[.agg #[.int .i64 ((rd_T26 l0_0 (ji33)).f0), .int .i64 ((rd_T26 l0_0 (ji33)).f1), .string ((rd_T26 l0_0 (ji33)).f2), .int .i64 ((rd_T26 l0_0 (ji33)).f3)]] (by rfl) rfl rfl (by (try simp only [List.map_toArray, List.map_cons, List.map_nil]); first | done | (simp only [hji33]; rfl) | rfl | (simp only [List.length_drop, List.length_take]; rfl)) ?_
                 with_reducible refine (impl_isIntact.calls kj35 ((rd_T26 l0_0 (ji33)).f0) ((rd_T26 l0_0 (ji33)).f1) ((rd_T26 l0_0 (ji33)).f2) ((rd_T26 l0_0 (ji33)).f3) true _ ?sideT A52.out).mono ?_
                 case sideT => refine ⟨Ito.tabB hTab_.out ?_⟩; first | exact bs HB | exact st_below | (repeat (first | (with_reducible first | exact HB.out | apply below_alloc | apply pw_below_drewN | apply below_drew1 | refine below_set ?_ (Aside0.out (by assumption))) | exact HB.out))
                 rintro e w70 ⟨rfl, hb⟩
                 refine ⟨_, rfl, ?_⟩
                 have n0_ := Aside0.mk (bb BK276 hb)
                 have n1_ := Aside0.mk (bb BK286 hb)
                 have n2_ := Aside0.mk (below_step (bs2 HB GE276 GE286) hb)
                 clear BK276
                 clear BK286
                 clear HB
                 have BK276 := n0_
                 have BK286 := n1_
                 have HB := n2_
                 clear n0_ n1_ n2_
                 (try clear hb)
                 (try clear hb2)
                 (try clear hk)
                 (try clear hi)
                 refine hK.out _ _ ⟨(blk_cell BK286.out 0).trans rfl, (blk_cell BK286.out 1).trans rfl, (blk_cell BK286.out 2).trans rfl, (blk_cell BK286.out 3).trans rfl⟩ (fun hHeld => ?_)
                 clear hK K
                 refine norm_ (a' := ?_) ?_ ?_
                 rotate_left
                 ·
                  show Act.put _ (some 80) _ = _
                  simp only [Act.put, List.setIfInBounds_toArray, List.set_cons_zero, List.set_cons_succ, i64_w, i32_w]
                  rfl
                 refine pureS 2 81 HT_.out ?_
                 refine pureS 3 82 HT_.out ?_
                 refine pureS 4 83 HT_.out ?_
                 refine pureS 6 85 HT_.out ?_
                 refine pureS 7 86 HT_.out ?_
                 refine pureS 8 87 HT_.out ?_
                 refine pureS 9 88 HT_.out ?_
                 refine takeS 5 84 HT_.out HW_.out hHeld (hr := by rintro w' ⟨s0, s1, s2, s3⟩; go_simp; with_reducible rfl) (h := ?_)
                 refine pureS 10 89 HT_.out ?_
                 refine pureS 11 90 HT_.out ?_
                 refine pureS 12 91 HT_.out ?_
                 refine pureU 13 92 HT_.out ?_
                 refine pureU 14 93 HT_.out ?_
                 refine pureU 15 94 HT_.out ?_
                 refine pureU 16 95 HT_.out ?_
                 refine pureS 17 96 HT_.out ?_
                 refine pureS 18 97 HT_.out ?_
                 refine pureU 19 98 HT_.out ?_
                 refine pureU 20 99 HT_.out ?_
                 refine pureU 21 100 HT_.out ?_
                 refine pureU 22 101 HT_.out ?_
                 refine pureU 23 102 HT_.out ?_
                 refine pureS 24 103 HT_.out ?_
                 refine pureS 25 104 HT_.out ?_
                 refine pureU 26 105 HT_.out ?_
                 refine pureU 27 106 HT_.out ?_
                 refine pureU 28 107 HT_.out ?_
                 refine pureU 29 108 HT_.out ?_
                 refine pureS 30 109 HT_.out ?_
                 refine done_ (done_of HT_.out (by kernel_rfl)) ?_
                 try go_wp2
                 go_ret
                 exact ⟨by first | rfl | (simp [errW_none, errW_some] <;> rfl) | (simp only [← hji33]; first | rfl | (simp [errW_none, errW_some] <;> rfl)) | (simp [*, errW_none, errW_some] <;> rfl), bs2 HB GE276 GE286⟩
              ·
               replace c53 := Bool.eq_false_iff.mpr c53
               subst c53
               rw [if_neg (show ¬ (false = true) by decide)] at H
               obtain rfl := Option.some.inj H
               try go_wp2
               have n0_ := Aside0.mk (blk_drew BK276.out)
               have n1_ := Aside0.mk (blk_drew BK286.out)
               have n2_ := Aside0.mk (below_drew1 HB.out)
               clear BK276
               clear BK286
               clear HB
               have BK276 := n0_
               have BK286 := n1_
               have HB := n2_
               clear n0_ n1_ n2_
               refine start_ (n := 31) (S := fun w' => w'.cell? ⟨gb286, 0, none⟩ = some (.int .i64 ((rd_T26 l0_0 (ji33)).f0)) ∧ w'.cell? ⟨gb286, 1, none⟩ = some (.int .i64 ((rd_T26 l0_0 (ji33)).f1)) ∧ w'.cell? ⟨gb286, 2, none⟩ = some (.string ((rd_T26 l0_0 (ji33)).f2)) ∧ w'.cell? ⟨gb286, 3, none⟩ = some (.int .i64 ((rd_T26 l0_0 (ji33)).f3))) (ds := []) #[false, false, false, false, false, false, false, false, false, false, false, false, false, false, false, false, false, false, false, false, false, false, false, false, false, false, false, false, false, false, false] (by kernel_rfl) rfl rfl ⟨(blk_cell BK286.out 0).trans rfl, (blk_cell BK286.out 1).trans rfl, (blk_cell BK286.out 2).trans rfl, (blk_cell BK286.out 3).trans rfl⟩ (fun hHeld => ?_); refine with_tabW impl_GoodRing.tab13 impl_GoodRing.bits13 (fun HT_ HW_ => ?_)
               generalize wc.drew = w71 at BK276 BK286 HB hHeld ⊢
               refine takeS 0 79 HT_.out HW_.out hHeld (hr := by rintro w' ⟨s0, s1, s2, s3⟩; go_simp; with_reducible rfl) (h := ?_)
               refine one_ (i := 1) (N := some 80) #[true, true, false, false, false, false, false, false, false, false, false, false, false, false, false, false, false, false, false, false, false, false, false, false, false, false, false, false, false, false, false] rfl rfl (one_of HT_.out (by kernel_rfl)) (by decide) (fun K hK => ?_)
               refine goes_ Tryd.func60 (by kernel_rfl) rfl #[.agg #[.int .i64 ((rd_T26 l0_0 (ji33)).f0), .int .i64 ((rd_T26 l0_0 (ji33)).f1), .string ((rd_T26 l0_0 (ji33)).f2), .int .i64 ((rd_T26 l0_0 (ji33)).f3)]] (by rfl) rfl rfl (by (try simp only [List.map_toArray, List.map_cons, List.map_nil]); first | done | (simp only [hji33]; rfl) | rfl | (simp only [List.length_drop, List.length_take]; rfl)) ?_
               with_reducible refine (impl_isIntact.calls kj35 ((rd_T26 l0_0 (ji33)).f0) ((rd_T26 l0_0 (ji33)).f1) ((rd_T26 l0_0 (ji33)).f2) ((rd_T26 l0_0 (ji33)).f3) false _ ?sideT A52.out).mono ?_
               case sideT => refine ⟨Ito.tabB hTab_.out ?_⟩; first | exact bs HB | exact st_below | (repeat (first | (with_reducible first | exact HB.out | apply below_alloc | apply pw_below_drewN | apply below_drew1 | refine below_set ?_ (Aside0.out (by assumption))) | exact HB.out))
               rintro e w72 ⟨rfl, hb⟩
               refine ⟨_, rfl, ?_⟩
               have n0_ := Aside0.mk (bb BK276 hb)
               have n1_ := Aside0.mk (bb BK286 hb)
               have n2_ := Aside0.mk (below_step (bs2 HB GE276 GE286) hb)
               clear BK276
               clear BK286
               clear HB
               have BK276 := n0_
               have BK286 := n1_
               have HB := n2_
               clear n0_ n1_ n2_
               (try clear hb)
               (try clear hb2)
               (try clear hk)
               (try clear hi)
               refine hK.out _ _ ⟨(blk_cell BK286.out 0).trans rfl, (blk_cell BK286.out 1).trans rfl, (blk_cell BK286.out 2).trans rfl, (blk_cell BK286.out 3).trans rfl⟩ (fun hHeld => ?_)
               clear hK K
               refine norm_ (a' := ?_) ?_ ?_
               rotate_left
               ·
                show Act.put _ (some 80) _ = _
                simp only [Act.put, List.setIfInBounds_toArray, List.set_cons_zero, List.set_cons_succ, i64_w, i32_w]
                rfl
               refine pureS 2 81 HT_.out ?_
               refine pureS 3 82 HT_.out ?_
               refine pureU 4 83 HT_.out ?_
               refine pureU 5 84 HT_.out ?_
               refine pureU 6 85 HT_.out ?_
               refine pureU 7 86 HT_.out ?_
               refine pureU 8 87 HT_.out ?_
               refine pureU 9 88 HT_.out ?_
               refine pureU 10 89 HT_.out ?_
               refine pureS 11 90 HT_.out ?_
               refine pureS 12 91 HT_.out ?_
               refine pureU 13 92 HT_.out ?_
               refine pureU 14 93 HT_.out ?_
               refine pureU 15 94 HT_.out ?_
               refine pureU 16 95 HT_.out ?_
               refine pureS 17 96 HT_.out ?_
               refine pureS 18 97 HT_.out ?_
               refine pureU 19 98 HT_.out ?_
               refine pureU 20 99 HT_.out ?_
               refine pureU 21 100 HT_.out ?_
               refine pureU 22 101 HT_.out ?_
               refine pureU 23 102 HT_.out ?_
               refine pureS 24 103 HT_.out ?_
               refine pureS 25 104 HT_.out ?_
               refine pureU 26 105 HT_.out ?_
               refine pureU 27 106 HT_.out ?_
               refine pureU 28 107 HT_.out ?_
               refine pureU 29 108 HT_.out ?_
               refine pureS 30 109 HT_.out ?_
               refine done_ (done_of HT_.out (by kernel_rfl)) ?_
               try go_wp2
               go_ret
               exact ⟨by first | rfl | (simp [errW_none, errW_some] <;> rfl) | (simp only [← hji33]; first | rfl | (simp [errW_none, errW_some] <;> rfl)) | (simp [*, errW_none, errW_some] <;> rfl), bs2 HB GE276 GE286⟩
          ·
           rw [if_neg c35] at H
           exact absurd H (by simp)
         ·
          rw [if_neg c34] at H
          exact absurd H (by simp)
      ·
       rw [if_neg c19] at H
       have c19b0 : decide (x5_2 < a0_1) = false := decide_eq_false c19
       clear c19
       obtain rfl := Option.some.inj H
       obtain ⟨hcz73_0, hcz73_1, hcz73_2, hcz73_3⟩ := cz4 BK276
       obtain ⟨hfz73_0, hfz73_1, hfz73_2, hfz73_3⟩ := fz4 BK276
       go_wp2
       go_ret
       exact ⟨by first | rfl | (simp [errW_none, errW_some] <;> rfl) | (simp [*, errW_none, errW_some] <;> rfl), bs1 HB GE276⟩

end Go.Proofs.YthlifcbkpafofaaDoor.G
