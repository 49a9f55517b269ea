-- Printed by a program of this session (drive.py, by way of the kit's print). Not trusted: Lean checks it.
import Derived.Test.YthlifcbkpafofaaDoorG0
import Derived.Test.YthlifcbkpafofaaDoorG1
import Derived.Test.YthlifcbkpafofaaDoorG2
import Derived.Test.YthlifcbkpafofaaDoorG3
namespace Go.Proofs.YthlifcbkpafofaaDoor.G
open Go.RowKit Go.Proofs.YthlifcbkpafofaaDoorW.PrintWords Go.Proofs.YthlifcbkpafofaaDoorW.PrintLast Go.Proofs.YthlifcbkpafofaaDoorW.PrintMore
attribute [local go_sem] max2_int min2_int max_two min_two max_three min_three max_four min_four   -- for this text's walks alone
set_option linter.unusedVariables false
set_option linter.unusedSimpArgs false

attribute [local go_sem high] eqA26
/-! ### impl_GoodRing: function 20 -/
mutual
def impl_GoodRing.j0 : Nat → Int → Bool → List (S26) → Int → Int → Int → Option (Bool)
 | 0, _, _, _, _, _, _ => none
 | k + 1, x3, x41, x174000, x174001, x174002, x174003 => if x41 = true then (some false) else (impl_GoodRing.l0 k x3 0 (wrap64 (x174001 - x3)) x174000 x174001 x174002 x174003)
def impl_GoodRing.l0 : Nat → Int → Int → Int → List (S26) → Int → Int → Int → Option (Bool)
 | 0, _, _, _, _, _, _, _ => none
 | k + 1, x3, x4, x5, x174000, x174001, x174002, x174003 => if x5 < x174001 then (if x5 < 0 then (if 0 ≤ (wrap64 (x5 + x3)) then (if (wrap64 (x5 + x3)) < (x174000.length : Int) then ((impl_zeroSlot.f k).bind fun bt178 => (if (!(((rd_T26 x174000 (wrap64 (x5 + x3))).f0) == bt178.1) || (!(((rd_T26 x174000 (wrap64 (x5 + x3))).f1) == bt178.2.1) || (!((((rd_T26 x174000 (wrap64 (x5 + x3))).f2).toList) == bt178.2.2.1.toList) || (!(((rd_T26 x174000 (wrap64 (x5 + x3))).f3) == bt178.2.2.2))))) = true then (some false) else (impl_GoodRing.l0 k x3 x4 (wrap64 (x5 + 1)) x174000 x174001 x174002 x174003))) else (none)) else (none)) else (if x3 = 0 then (none) else (if 0 ≤ (Int.tmod x5 x3) then (if (Int.tmod x5 x3) < (x174000.length : Int) then (if x5 < x174003 then ((impl_zeroSlot.f k).bind fun bt184 => (impl_GoodRing.j2 k x3 x4 x5 (((rd_T26 x174000 (Int.tmod x5 x3)).f0) == bt184.1 && (((rd_T26 x174000 (Int.tmod x5 x3)).f1) == bt184.2.1 && ((((rd_T26 x174000 (Int.tmod x5 x3)).f2).toList) == bt184.2.2.1.toList && (((rd_T26 x174000 (Int.tmod x5 x3)).f3) == bt184.2.2.2)))) x174000 x174001 x174002 x174003 ((rd_T26 x174000 (Int.tmod x5 x3)).f0) ((rd_T26 x174000 (Int.tmod x5 x3)).f1) ((rd_T26 x174000 (Int.tmod x5 x3)).f2) ((rd_T26 x174000 (Int.tmod x5 x3)).f3))) else (impl_GoodRing.j2 k x3 x4 x5 false x174000 x174001 x174002 x174003 ((rd_T26 x174000 (Int.tmod x5 x3)).f0) ((rd_T26 x174000 (Int.tmod x5 x3)).f1) ((rd_T26 x174000 (Int.tmod x5 x3)).f2) ((rd_T26 x174000 (Int.tmod x5 x3)).f3))) else (none)) else (none)))) else (some true)
def impl_GoodRing.j2 : Nat → Int → Int → Int → Bool → List (S26) → Int → Int → Int → Int → Int → ByteArray → Int → Option (Bool)
 | 0, _, _, _, _, _, _, _, _, _, _, _, _ => none
 | k + 1, x3, x4, x5, x78, x174000, x174001, x174002, x174003, x184000, x184001, x184002, x184003 => if x78 = true then (impl_GoodRing.l0 k x3 x4 (wrap64 (x5 + 1)) x174000 x174001 x174002 x174003) else ((impl_isIntact.f k x184000 x184001 x184002 x184003).bind fun t188 => (if t188 = true then (if x3 = 0 then (none) else (if x184000 = (wrap64 ((wrap64 (Int.tdiv x5 x3)) + 1)) then (if x184001 > x5 then (some false) else (if x184001 > x174003 then (some false) else (if x184001 < x4 then (some false) else (impl_GoodRing.l0 k x3 x184001 (wrap64 (x5 + 1)) x174000 x174001 x174002 x174003)))) else (some false))) else (some false)))
end
def impl_GoodRing.f (k : Nat) (l0_0 : List (S26)) (a0_1 : Int) (a0_2 : Int) (a0_3 : Int) : Option (Bool) := (impl_within.f (l0_0.length : Int) 2 24).bind fun t174 => (if t174 = true then ((impl_within.f a0_1 0 10000000).bind fun t175 => (if t175 = true then ((impl_within.f a0_3 (mx 0 (wrap64 (a0_1 - (l0_0.length : Int)))) a0_1).bind fun t176 => (if t176 = true then (if (l0_0.length : Int) = 0 then (none) else (impl_GoodRing.j0 k (l0_0.length : Int) (a0_2 != (wrap64 ((wrap64 (Int.tdiv a0_1 (l0_0.length : Int))) + 1))) l0_0 a0_1 a0_2 a0_3)) else (impl_GoodRing.j0 k (l0_0.length : Int) true l0_0 a0_1 a0_2 a0_3))) else (impl_GoodRing.j0 k (l0_0.length : Int) true l0_0 a0_1 a0_2 a0_3))) else (impl_GoodRing.j0 k (l0_0.length : Int) true l0_0 a0_1 a0_2 a0_3))
theorem impl_GoodRing.mono_l : ∀ k, (∀ y0 y1 y2 y3 y4 y5, LeO (impl_GoodRing.j0 k y0 y1 y2 y3 y4 y5) (impl_GoodRing.j0 (k + 1) y0 y1 y2 y3 y4 y5)) ∧ (∀ y0 y1 y2 y3 y4 y5 y6, LeO (impl_GoodRing.l0 k y0 y1 y2 y3 y4 y5 y6) (impl_GoodRing.l0 (k + 1) y0 y1 y2 y3 y4 y5 y6)) ∧ (∀ y0 y1 y2 y3 y4 y5 y6 y7 y8 y9 y10 y11, LeO (impl_GoodRing.j2 k y0 y1 y2 y3 y4 y5 y6 y7 y8 y9 y10 y11) (impl_GoodRing.j2 (k + 1) y0 y1 y2 y3 y4 y5 y6 y7 y8 y9 y10 y11))
 | 0 => ⟨fun _ _ _ _ _ _ r h => by simp [impl_GoodRing.j0] at h, fun _ _ _ _ _ _ _ r h => by simp [impl_GoodRing.l0] at h, fun _ _ _ _ _ _ _ _ _ _ _ _ r h => by simp [impl_GoodRing.j2] at h⟩
 | k + 1 => by
  obtain ⟨ih0, ih1, ih2⟩ := impl_GoodRing.mono_l k
  refine ⟨?_, ?_, ?_⟩
  ·
   intro y0 y1 y2 y3 y4 y5
   unfold impl_GoodRing.j0
   repeat' first
   | (with_reducible exact ih0 _ _ _ _ _ _)
   | (with_reducible exact ih1 _ _ _ _ _ _ _)
   | (with_reducible exact ih2 _ _ _ _ _ _ _ _ _ _ _ _)
   | (with_reducible exact impl_isIntact.mono _ _ _ _ _)
   | (with_reducible exact impl_zeroSlot.mono _)
   | (with_reducible exact LeO.refl _)
   | (with_reducible exact LeO.none _)
   | (with_reducible refine LeO.ite ?_ ?_)
   | (with_reducible refine LeO.bind ?_ (fun _ => ?_))
   | exact ih0 _ _ _ _ _ _
   | exact ih1 _ _ _ _ _ _ _
   | exact ih2 _ _ _ _ _ _ _ _ _ _ _ _
   | exact impl_isIntact.mono _ _ _ _ _
   | exact impl_zeroSlot.mono _
   | exact LeO.none _
   | refine LeO.ite ?_ ?_
   | refine LeO.bind ?_ (fun _ => ?_)
  ·
   intro y0 y1 y2 y3 y4 y5 y6
   unfold impl_GoodRing.l0
   repeat' first
   | (with_reducible exact ih0 _ _ _ _ _ _)
   | (with_reducible exact ih1 _ _ _ _ _ _ _)
   | (with_reducible exact ih2 _ _ _ _ _ _ _ _ _ _ _ _)
   | (with_reducible exact impl_isIntact.mono _ _ _ _ _)
   | (with_reducible exact impl_zeroSlot.mono _)
   | (with_reducible exact LeO.refl _)
   | (with_reducible exact LeO.none _)
   | (with_reducible refine LeO.ite ?_ ?_)
   | (with_reducible refine LeO.bind ?_ (fun _ => ?_))
   | exact ih0 _ _ _ _ _ _
   | exact ih1 _ _ _ _ _ _ _
   | exact ih2 _ _ _ _ _ _ _ _ _ _ _ _
   | exact impl_isIntact.mono _ _ _ _ _
   | exact impl_zeroSlot.mono _
   | exact LeO.none _
   | refine LeO.ite ?_ ?_
   | refine LeO.bind ?_ (fun _ => ?_)
  ·
   intro y0 y1 y2 y3 y4 y5 y6 y7 y8 y9 y10 y11
   unfold impl_GoodRing.j2
   repeat' first
   | (with_reducible exact ih0 _ _ _ _ _ _)
   | (with_reducible exact ih1 _ _ _ _ _ _ _)
   | (with_reducible exact ih2 _ _ _ _ _ _ _ _ _ _ _ _)
   | (with_reducible exact impl_isIntact.mono _ _ _ _ _)
   | (with_reducible exact impl_zeroSlot.mono _)
   | (with_reducible exact LeO.refl _)
   | (with_reducible exact LeO.none _)
   | (with_reducible refine LeO.ite ?_ ?_)
   | (with_reducible refine LeO.bind ?_ (fun _ => ?_))
   | exact ih0 _ _ _ _ _ _
   | exact ih1 _ _ _ _ _ _ _
   | exact ih2 _ _ _ _ _ _ _ _ _ _ _ _
   | exact impl_isIntact.mono _ _ _ _ _
   | exact impl_zeroSlot.mono _
   | exact LeO.none _
   | refine LeO.ite ?_ ?_
   | refine LeO.bind ?_ (fun _ => ?_)
theorem impl_GoodRing.mono : ∀ a0 a1 a2 a3 k, LeO (impl_GoodRing.f k a0 a1 a2 a3) (impl_GoodRing.f (k + 1) a0 a1 a2 a3) := by
 intro a0 a1 a2 a3 k
 obtain ⟨ih0, ih1, ih2⟩ := impl_GoodRing.mono_l k
 unfold impl_GoodRing.f
 repeat' first
   | (with_reducible exact ih0 _ _ _ _ _ _)
   | (with_reducible exact ih1 _ _ _ _ _ _ _)
   | (with_reducible exact ih2 _ _ _ _ _ _ _ _ _ _ _ _)
   | (with_reducible exact impl_isIntact.mono _ _ _ _ _)
   | (with_reducible exact impl_zeroSlot.mono _)
   | (with_reducible exact LeO.refl _)
   | (with_reducible exact LeO.none _)
   | (with_reducible refine LeO.ite ?_ ?_)
   | (with_reducible refine LeO.bind ?_ (fun _ => ?_))
   | exact ih0 _ _ _ _ _ _
   | exact ih1 _ _ _ _ _ _ _
   | exact ih2 _ _ _ _ _ _ _ _ _ _ _ _
   | exact impl_isIntact.mono _ _ _ _ _
   | exact impl_zeroSlot.mono _
   | exact LeO.none _
   | refine LeO.ite ?_ ?_
   | refine LeO.bind ?_ (fun _ => ?_)
def impl_GoodRing.T2 : Bool × List (List Nat × List Nat) := (true, [([], []), ([0], [0]), ([1], [1]), ([2, 1], [2]), ([3], [3]), ([4, 3], [3, 4]), ([5, 3, 3], [3, 5]), ([6, 3], [3, 6]), ([3, 7], [3, 7]), ([8, 6], [8]), ([9], [9]), ([10, 9], [9, 10]), ([9], [9]), ([12, 9], [9, 12]), ([9], [9]), ([13, 14, 9], [9, 13, 14]), ([15, 9], [9, 15]), ([9], [9]), ([17, 9], [9, 17]), ([11, 16, 18, 9, 9], [9, 11, 16, 18]), ([19, 9], [9, 19]), ([9, 20], [9, 20]), ([21, 19], [21]), ([22], [22]), ([23, 22], [22, 23]), ([22], [22]), ([25, 22], [22, 25]), ([22], [22]), ([26, 27, 22], [22, 26, 27]), ([28, 22], [22, 28]), ([24, 29, 22], [22, 24, 29]), ([22, 30], [22, 30])])
def impl_GoodRing.B2 : List Nat := [0, 1, 3, 7, 15, 31, 63, 127, 255, 511, 1023, 2047, 1023, 5119, 1023, 29695, 62463, 1023, 132095, 524287, 1048575, 2097151, 4194303, 8388607, 16777215, 8388607, 41943039, 8388607, 243269631, 511705087, 1073741823, 2147483647]
theorem impl_GoodRing.tab2 : rtab .any (opsOf Tryd.f20 2) = impl_GoodRing.T2 := by kernel_rfl
theorem impl_GoodRing.bits2 : waitsOk impl_GoodRing.T2.2 impl_GoodRing.B2 = true := by kernel_rfl
def impl_GoodRing.T9 : Bool × List (List Nat × List Nat) := (true, [([], []), ([0], [0]), ([], []), ([], []), ([2, 3], [2, 3]), ([1, 4], [1, 4]), ([5], [5]), ([], []), ([6, 7], [6, 7])])
def impl_GoodRing.B9 : List Nat := [0, 1, 0, 0, 12, 31, 63, 0, 255]
theorem impl_GoodRing.tab9 : rtab .any (opsOf Tryd.f20 9) = impl_GoodRing.T9 := by kernel_rfl
theorem impl_GoodRing.bits9 : waitsOk impl_GoodRing.T9.2 impl_GoodRing.B9 = true := by kernel_rfl
def impl_GoodRing.T11 : Bool × List (List Nat × List Nat) := (true, [([], []), ([0], [0]), ([], []), ([], []), ([2, 3], [2, 3]), ([1, 4], [1, 4]), ([5], [5]), ([], []), ([7, 6, 0, 1, 2, 3, 4, 5, 6, 7], [6, 7])])
def impl_GoodRing.B11 : List Nat := [0, 1, 0, 0, 12, 31, 63, 0, 255]
theorem impl_GoodRing.tab11 : rtab .any (opsOf Tryd.f20 11) = impl_GoodRing.T11 := by kernel_rfl
theorem impl_GoodRing.bits11 : waitsOk impl_GoodRing.T11.2 impl_GoodRing.B11 = true := by kernel_rfl
def impl_GoodRing.T12 : Bool × List (List Nat × List Nat) := (true, [([], []), ([], []), ([1], [1]), ([0, 2], [0, 2]), ([3], [3]), ([4], [4]), ([4, 4], [4]), ([5, 6, 4], [4, 5, 6]), ([4, 7], [4, 7])])
def impl_GoodRing.B12 : List Nat := [0, 0, 2, 7, 15, 31, 31, 127, 255]
theorem impl_GoodRing.tab12 : rtab .any (opsOf Tryd.f20 12) = impl_GoodRing.T12 := by kernel_rfl
theorem impl_GoodRing.bits12 : waitsOk impl_GoodRing.T12.2 impl_GoodRing.B12 = true := by kernel_rfl
def impl_GoodRing.T13 : Bool × List (List Nat × List Nat) := (true, [([], []), ([0], [0]), ([1], [1]), ([2, 1], [2]), ([3], [3]), ([4, 3], [3, 4]), ([3], [3]), ([3], [3]), ([6, 7, 3], [3, 6, 7]), ([8, 3], [3, 8]), ([5, 9, 3], [3, 5, 9]), ([3, 10], [3, 10]), ([11, 3], [11]), ([12], [12]), ([13, 12], [12, 13]), ([12], [12]), ([14, 15, 12], [12, 14, 15]), ([12, 16], [12, 16]), ([17, 12], [17]), ([18], [18]), ([19, 18], [18, 19]), ([18], [18]), ([21, 18], [18, 21]), ([20, 22, 18], [18, 20, 22]), ([18, 23], [18, 23]), ([24, 18], [24]), ([25], [25]), ([26, 25], [25, 26]), ([25], [25]), ([27, 28, 25], [25, 27, 28]), ([25, 29], [25, 29])])
def impl_GoodRing.B13 : List Nat := [0, 1, 3, 7, 15, 31, 15, 15, 207, 463, 1023, 2047, 4095, 8191, 16383, 8191, 65535, 131071, 262143, 524287, 1048575, 524287, 2621439, 8388607, 16777215, 33554431, 67108863, 134217727, 67108863, 536870911, 1073741823]
theorem impl_GoodRing.tab13 : rtab .any (opsOf Tryd.f20 13) = impl_GoodRing.T13 := by kernel_rfl
theorem impl_GoodRing.bits13 : waitsOk impl_GoodRing.T13.2 impl_GoodRing.B13 = true := by kernel_rfl
set_option maxHeartbeats 8000000 in
set_option maxRecDepth 100000 in
theorem impl_GoodRing.calls (k : Nat) (A0_0 : Option Addr) (c0_0 : Nat) (l0_0 : List (S26)) (a0_1 : Int) (a0_2 : Int) (a0_3 : Int) (r : Bool) (w : World) (hTab_ : Aside0 (Ito.TabW w)) (hr0_0 : Kd.C k26 w A0_0 l0_0.length l0_0) (hc0_0 : l0_0.length ≤ c0_0) (h : impl_GoodRing.f k l0_0 a0_1 a0_2 a0_3 = some r) :
  Calls Tryd.prog 20 #[.agg #[.slice A0_0 l0_0.length c0_0, .int .i64 a0_1, .int .i64 a0_2, .int .i64 a0_3]] w fun e w' => e = .returned (.bool r) ∧ Below w.heap.size w w' := by
 have hu36 := Tryd.underlying36
 have hu26 := Tryd.underlying26
 have HR0_0 := Aside0.mk hr0_0
 have HC0_0 := Aside0.mk hc0_0
 clear hr0_0 hc0_0
 have HB := Aside0.mk (Below.refl w.heap.size w)
 have H : ((impl_within.f (l0_0.length : Int) 2 24).bind fun t174 => (if t174 = true then ((impl_within.f a0_1 0 10000000).bind fun t175 => (if t175 = true then ((impl_within.f a0_3 (mx 0 (wrap64 (a0_1 - (l0_0.length : Int)))) a0_1).bind fun t176 => (if t176 = true then (if (l0_0.length : Int) = 0 then (none) else (impl_GoodRing.j0 k (l0_0.length : Int) (a0_2 != (wrap64 ((wrap64 (Int.tdiv a0_1 (l0_0.length : Int))) + 1))) l0_0 a0_1 a0_2 a0_3)) else (impl_GoodRing.j0 k (l0_0.length : Int) true l0_0 a0_1 a0_2 a0_3))) else (impl_GoodRing.j0 k (l0_0.length : Int) true l0_0 a0_1 a0_2 a0_3))) else (impl_GoodRing.j0 k (l0_0.length : Int) true l0_0 a0_1 a0_2 a0_3))) = some r := h
 clear h
 have HC2 := Aside0.mk H
 clear H
 go_enter Tryd.func20, Tryd.ntmps20
 go_upto_region 2 with (first | ((with_reducible refine gate_dst (N := 1) rfl ?_); (try (refine gate_guard (by rfl) ?_; dsimp only)); refine box_event ?hg (N := 1) ?hd (cs := #[.slice A0_0 l0_0.length c0_0, .int .i64 a0_1, .int .i64 a0_2, .int .i64 a0_3]) (t := 36) ?hr ?_; (case hd => rfl); (case hg => rfl); (case hr => first | (go_simp; done) | (go_simp; rfl)); intro gb173 hg w3 hbox hb; have BK173 := Aside0.mk (hbox); have GW173 := Aside0.mk ((by rw [hg]; exact (below_size (bs HB)) : w.heap.size ≤ gb173)); have GE173 := Aside0.mk ((by rw [hg]; exact (below_size (bs HB)) : w.heap.size ≤ gb173)); replace HB := Aside0.mk (below_step (bs HB) hb); clear hb hbox hg; obtain ⟨hcz4_0, hcz4_1, hcz4_2, hcz4_3⟩ := cz4 BK173; obtain ⟨hfz4_0, hfz4_1, hfz4_2, hfz4_3⟩ := fz4 BK173))
 (try simp only [Act.put, List.setIfInBounds_toArray, List.set_cons_zero, List.set_cons_succ])
 go_cut [41] (fun v41 wc => ∃ (kq : Nat) (x41_1 : Bool), v41 = .bool x41_1 ∧ Aside0 (impl_GoodRing.j0 kq (l0_0.length : Int) x41_1 l0_0 a0_1 a0_2 a0_3 = some r) ∧ Aside0 (kq ≤ k) ∧ Aside0 (wc.heap[gb173]? = some (.cells #[(.slice A0_0 l0_0.length c0_0), .int .i64 a0_1, .int .i64 a0_2, .int .i64 a0_3] 36 (0, 0))) ∧ Aside0 (Below w.heap.size w wc))
 case first =>
  have H := HC2.out
  clear HC2
  replace H := Option.bind_eq_some_iff.mp H
  obtain ⟨t174, A50, H⟩ := H
  replace H : (if t174 = true then ((impl_within.f a0_1 0 10000000).bind fun t175 => (if t175 = true then ((impl_within.f a0_3 (mx 0 (wrap64 (a0_1 - (l0_0.length : Int)))) a0_1).bind fun t176 => (if t176 = true then (if (l0_0.length : Int) = 0 then (none) else (impl_GoodRing.j0 k (l0_0.length : Int) (a0_2 != (wrap64 ((wrap64 (Int.tdiv a0_1 (l0_0.length : Int))) + 1))) l0_0 a0_1 a0_2 a0_3)) else (impl_GoodRing.j0 k (l0_0.length : Int) true l0_0 a0_1 a0_2 a0_3))) else (impl_GoodRing.j0 k (l0_0.length : Int) true l0_0 a0_1 a0_2 a0_3))) else (impl_GoodRing.j0 k (l0_0.length : Int) true l0_0 a0_1 a0_2 a0_3)) = some r := H
  have A5 := Aside0.mk A50
  clear A50
  by_cases c6 : t174 = true
  ·
   subst c6
   rw [if_pos rfl] at H
   replace H := Option.bind_eq_some_iff.mp H
   obtain ⟨t175, A70, H⟩ := H
   replace H : (if t175 = true then ((impl_within.f a0_3 (mx 0 (wrap64 (a0_1 - (l0_0.length : Int)))) a0_1).bind fun t176 => (if t176 = true then (if (l0_0.length : Int) = 0 then (none) else (impl_GoodRing.j0 k (l0_0.length : Int) (a0_2 != (wrap64 ((wrap64 (Int.tdiv a0_1 (l0_0.length : Int))) + 1))) l0_0 a0_1 a0_2 a0_3)) else (impl_GoodRing.j0 k (l0_0.length : Int) true l0_0 a0_1 a0_2 a0_3))) else (impl_GoodRing.j0 k (l0_0.length : Int) true l0_0 a0_1 a0_2 a0_3)) = some r := H
   have A7 := Aside0.mk A70
   clear A70
   by_cases c8 : t175 = true
   ·
    subst c8
    rw [if_pos rfl] at H
    obtain ⟨ji9, hji9⟩ : ∃ j_ : Int, (mx 0 (wrap64 (a0_1 - (l0_0.length : Int)))) = j_ := ⟨_, rfl⟩
    replace H : ((impl_within.f a0_3 (ji9) a0_1).bind fun t176 => (if t176 = true then (if (l0_0.length : Int) = 0 then (none) else (impl_GoodRing.j0 k (l0_0.length : Int) (a0_2 != (wrap64 ((wrap64 (Int.tdiv a0_1 (l0_0.length : Int))) + 1))) l0_0 a0_1 a0_2 a0_3)) else (impl_GoodRing.j0 k (l0_0.length : Int) true l0_0 a0_1 a0_2 a0_3))) = some r := by first | (rw [hji9] at H; exact H) | (simp only [hji9] at H ⊢; exact H)
    (try rw [hji9] at A5)
    (try rw [hji9] at A7)
    (try (have hji9l : 0 ≤ ji9 := by (rw [← hji9]; unfold mx; (repeat' split) <;> omega)))
    (try (have hji9m : 0 ≤ ji9 := by omega))
    have hji9_ : (if 0 < (wrap64 (a0_1 - (l0_0.length : Int))) then (wrap64 (a0_1 - (l0_0.length : Int))) else 0) = ji9 := hji9
    replace H := Option.bind_eq_some_iff.mp H
    obtain ⟨t176, A100, H⟩ := H
    replace H : (if t176 = true then (if (l0_0.length : Int) = 0 then (none) else (impl_GoodRing.j0 k (l0_0.length : Int) (a0_2 != (wrap64 ((wrap64 (Int.tdiv a0_1 (l0_0.length : Int))) + 1))) l0_0 a0_1 a0_2 a0_3)) else (impl_GoodRing.j0 k (l0_0.length : Int) true l0_0 a0_1 a0_2 a0_3)) = some r := H
    have A10 := Aside0.mk A100
    clear A100
    by_cases c11 : t176 = true
    ·
     subst c11
     rw [if_pos rfl] at H
     by_cases c12 : (l0_0.length : Int) = 0
     ·
      rw [if_pos c12] at H
      exact absurd H (by simp)
     ·
      rw [if_neg c12] at H
      have c12b0 : ((l0_0.length : Int) == 0) = false := beq_eq_false_iff_ne.mpr c12
      have c12b1 : ((l0_0.length : Int) != 0) = true := bne_iff_ne.mpr c12
      have c12b2 : ¬ (l0_0 = []) := fun h_ => c12 (by rw [h_]; rfl)
      (first | rw [c12b0] | (simp only [i64_w, i32_w]; rw [c12b0]) | (simp only [c12b2, Bool.not_false, Bool.not_true]) | skip)
      have H' := Aside0.mk H
      clear H
      try go_wp2
      have n0_ := Aside0.mk (blk_drew BK173.out)
      have n1_ := Aside0.mk (below_drew1 HB.out)
      clear BK173
      clear HB
      have BK173 := n0_
      have HB := n1_
      clear n0_ n1_
      refine start_ (n := 32) (S := fun w' => w'.cell? ⟨gb173, 0, none⟩ = some (.slice A0_0 l0_0.length c0_0) ∧ w'.cell? ⟨gb173, 1, none⟩ = some (.int .i64 a0_1) ∧ w'.cell? ⟨gb173, 2, none⟩ = some (.int .i64 a0_2) ∧ w'.cell? ⟨gb173, 3, none⟩ = some (.int .i64 a0_3)) (ds := []) #[false, false, false, false, false, false, false, false, false, false, false, false, false, false, false, false, false, false, false, false, false, false, false, false, false, false, false, false, false, false, false, false] (by kernel_rfl) rfl rfl ⟨(blk_cell BK173.out 0).trans rfl, (blk_cell BK173.out 1).trans rfl, (blk_cell BK173.out 2).trans rfl, (blk_cell BK173.out 3).trans rfl⟩ (fun hHeld => ?_); refine with_tabW impl_GoodRing.tab2 impl_GoodRing.bits2 (fun HT_ HW_ => ?_)
      generalize w3.drew = w13 at BK173 HB hHeld ⊢
      refine pureS 0 10 HT_.out ?_
      refine one_ (i := 1) (N := some 11) #[true, true, false, false, false, false, false, false, false, false, false, false, false, false, false, false, false, false, false, false, false, false, false, false, false, false, false, false, false, false, false, false] rfl rfl (one_of HT_.out (by kernel_rfl)) (by decide) (fun K hK => ?_)
      refine goes_ Tryd.func58 (by kernel_rfl) rfl #[.int .i64 (l0_0.length : Int), .int .i64 2, .int .i64 24] (by rfl) rfl rfl (by (try simp only [List.map_toArray, List.map_cons, List.map_nil]); first | done | rfl | (simp only [List.length_drop, List.length_take]; rfl)) ?_
      with_reducible refine (impl_within.calls (l0_0.length : Int) 2 24 true _ A5.out).mono ?_
      rintro e w' ⟨rfl, ⟨nd, rfl⟩⟩
      refine ⟨_, rfl, ?_⟩
      refine hK.out _ _ ⟨(blk_cell BK173.out 0).trans rfl, (blk_cell BK173.out 1).trans rfl, (blk_cell BK173.out 2).trans rfl, (blk_cell BK173.out 3).trans rfl⟩ (fun hHeld => ?_)
      clear hK K
      refine norm_ (a' := ?_) ?_ ?_
      rotate_left
      ·
       show Act.put _ (some 11) _ = _
       simp only [Act.put, List.setIfInBounds_toArray, List.set_cons_zero, List.set_cons_succ, i64_w, i32_w]
       rfl
      refine pureS 2 12 HT_.out ?_
      refine pureS 3 13 HT_.out ?_
      refine pureS 4 14 HT_.out ?_
      refine takeS 5 15 HT_.out HW_.out hHeld (hr := by rintro w' ⟨s0, s1, s2, s3⟩; go_simp; with_reducible rfl) (h := ?_)
      refine one_ (i := 6) (N := some 16) #[true, true, true, true, true, true, true, false, false, false, false, false, false, false, false, false, false, false, false, false, false, false, false, false, false, false, false, false, false, false, false, false] rfl rfl (one_of HT_.out (by kernel_rfl)) (by decide) (fun K hK => ?_)
      refine goes_ Tryd.func58 (by kernel_rfl) rfl #[.int .i64 a0_1, .int .i64 0, .int .i64 10000000] (by rfl) rfl rfl (by (try simp only [List.map_toArray, List.map_cons, List.map_nil]); first | done | rfl | (simp only [List.length_drop, List.length_take]; rfl)) ?_
      with_reducible refine (impl_within.calls a0_1 0 10000000 true _ A7.out).mono ?_
      rintro e w' ⟨rfl, ⟨nd, rfl⟩⟩
      refine ⟨_, rfl, ?_⟩
      refine hK.out _ _ ⟨(blk_cell BK173.out 0).trans rfl, (blk_cell BK173.out 1).trans rfl, (blk_cell BK173.out 2).trans rfl, (blk_cell BK173.out 3).trans rfl⟩ (fun hHeld => ?_)
      clear hK K
      refine norm_ (a' := ?_) ?_ ?_
      rotate_left
      ·
       show Act.put _ (some 16) _ = _
       simp only [Act.put, List.setIfInBounds_toArray, List.set_cons_zero, List.set_cons_succ, i64_w, i32_w]
       rfl
      refine pureS 7 17 HT_.out ?_
      refine pureS 8 18 HT_.out ?_
      refine pureS 9 19 HT_.out ?_
      refine pureS 10 20 HT_.out ?_
      refine pureS 12 22 HT_.out ?_
      refine pureS 14 24 HT_.out ?_
      refine pureS 17 27 HT_.out ?_
      refine takeS 11 21 HT_.out HW_.out hHeld (hr := by rintro w' ⟨s0, s1, s2, s3⟩; go_simp; with_reducible rfl) (h := ?_)
      refine takeS 13 23 HT_.out HW_.out hHeld (hr := by rintro w' ⟨s0, s1, s2, s3⟩; go_simp; with_reducible rfl) (h := ?_)
      refine pureS 15 25 HT_.out ?_
      refine pureS 16 26 HT_.out ?_
      refine takeS 18 28 HT_.out HW_.out hHeld (hr := by rintro w' ⟨s0, s1, s2, s3⟩; go_simp; with_reducible rfl) (h := ?_)
      refine one_ (i := 19) (N := some 29) #[true, true, true, true, true, true, true, true, true, true, true, true, true, true, true, true, true, true, true, true, false, false, false, false, false, false, false, false, false, false, false, false] rfl rfl (one_of HT_.out (by kernel_rfl)) (by decide) (fun K hK => ?_)
      refine goes_ Tryd.func58 (by kernel_rfl) rfl #[.int .i64 a0_3, .int .i64 ji9, .int .i64 a0_1] (by rfl) rfl rfl (by (try simp only [List.map_toArray, List.map_cons, List.map_nil]); first | done | (simp only [hji9]; rfl) | rfl | (simp only [List.length_drop, List.length_take]; rfl)) ?_
      with_reducible refine (impl_within.calls a0_3 ji9 a0_1 true _ A10.out).mono ?_
      rintro e w' ⟨rfl, ⟨nd, rfl⟩⟩
      refine ⟨_, rfl, ?_⟩
      refine hK.out _ _ ⟨(blk_cell BK173.out 0).trans rfl, (blk_cell BK173.out 1).trans rfl, (blk_cell BK173.out 2).trans rfl, (blk_cell BK173.out 3).trans rfl⟩ (fun hHeld => ?_)
      clear hK K
      refine norm_ (a' := ?_) ?_ ?_
      rotate_left
      ·
       show Act.put _ (some 29) _ = _
       simp only [Act.put, List.setIfInBounds_toArray, List.set_cons_zero, List.set_cons_succ, i64_w, i32_w]
       rfl
      refine pureS 20 30 HT_.out ?_
      refine pureS 21 31 HT_.out ?_
      refine pureS 22 32 HT_.out ?_
      refine pureS 23 33 HT_.out ?_
      refine pureS 25 35 HT_.out ?_
      refine pureS 27 37 HT_.out ?_
      refine takeS 24 34 HT_.out HW_.out hHeld (hr := by rintro w' ⟨s0, s1, s2, s3⟩; go_simp; with_reducible rfl) (h := ?_)
      refine takeS 26 36 HT_.out HW_.out hHeld (hr := by rintro w' ⟨s0, s1, s2, s3⟩; go_simp; with_reducible rfl) (h := ?_)
      refine pureS 28 38 HT_.out ?_
      refine pureS 29 39 HT_.out ?_
      refine pureS 30 40 HT_.out ?_
      refine pureS 31 41 HT_.out ?_
      refine done_ (done_of HT_.out (by kernel_rfl)) ?_
      try go_wp2
      go_meet
      case rel => exact ⟨_, ((a0_2 != (wrap64 ((wrap64 (Int.tdiv a0_1 (l0_0.length : Int))) + 1)))), (by first | rfl | (simp; done) | (simp [*]; done)), H', ⟨by first | omega | exact Nat.le_refl _⟩, ⟨bk BK173⟩, ⟨bs1 HB GE173⟩⟩
    ·
     replace c11 := Bool.eq_false_iff.mpr c11
     subst c11
     rw [if_neg (show ¬ (false = true) by decide)] at H
     have H' := Aside0.mk H
     clear H
     try go_wp2
     have n0_ := Aside0.mk (blk_drew BK173.out)
     have n1_ := Aside0.mk (below_drew1 HB.out)
     clear BK173
     clear HB
     have BK173 := n0_
     have HB := n1_
     clear n0_ n1_
     refine start_ (n := 32) (S := fun w' => w'.cell? ⟨gb173, 0, none⟩ = some (.slice A0_0 l0_0.length c0_0) ∧ w'.cell? ⟨gb173, 1, none⟩ = some (.int .i64 a0_1) ∧ w'.cell? ⟨gb173, 2, none⟩ = some (.int .i64 a0_2) ∧ w'.cell? ⟨gb173, 3, none⟩ = some (.int .i64 a0_3)) (ds := []) #[false, false, false, false, false, false, false, false, false, false, false, false, false, false, false, false, false, false, false, false, false, false, false, false, false, false, false, false, false, false, false, false] (by kernel_rfl) rfl rfl ⟨(blk_cell BK173.out 0).trans rfl, (blk_cell BK173.out 1).trans rfl, (blk_cell BK173.out 2).trans rfl, (blk_cell BK173.out 3).trans rfl⟩ (fun hHeld => ?_); refine with_tabW impl_GoodRing.tab2 impl_GoodRing.bits2 (fun HT_ HW_ => ?_)
     generalize w3.drew = w14 at BK173 HB hHeld ⊢
     refine pureS 0 10 HT_.out ?_
     refine one_ (i := 1) (N := some 11) #[true, true, false, false, false, false, false, false, false, false, false, false, false, false, false, false, false, false, false, false, false, false, false, false, false, false, false, false, false, false, false, false] rfl rfl (one_of HT_.out (by kernel_rfl)) (by decide) (fun K hK => ?_)
     refine goes_ Tryd.func58 (by kernel_rfl) rfl #[.int .i64 (l0_0.length : Int), .int .i64 2, .int .i64 24] (by rfl) rfl rfl (by (try simp only [List.map_toArray, List.map_cons, List.map_nil]); first | done | rfl | (simp only [List.length_drop, List.length_take]; rfl)) ?_
     with_reducible refine (impl_within.calls (l0_0.length : Int) 2 24 true _ A5.out).mono ?_
     rintro e w' ⟨rfl, ⟨nd, rfl⟩⟩
     refine ⟨_, rfl, ?_⟩
     refine hK.out _ _ ⟨(blk_cell BK173.out 0).trans rfl, (blk_cell BK173.out 1).trans rfl, (blk_cell BK173.out 2).trans rfl, (blk_cell BK173.out 3).trans rfl⟩ (fun hHeld => ?_)
     clear hK K
     refine norm_ (a' := ?_) ?_ ?_
     rotate_left
     ·
      show Act.put _ (some 11) _ = _
      simp only [Act.put, List.setIfInBounds_toArray, List.set_cons_zero, List.set_cons_succ, i64_w, i32_w]
      rfl
     refine pureS 2 12 HT_.out ?_
     refine pureS 3 13 HT_.out ?_
     refine pureS 4 14 HT_.out ?_
     refine takeS 5 15 HT_.out HW_.out hHeld (hr := by rintro w' ⟨s0, s1, s2, s3⟩; go_simp; with_reducible rfl) (h := ?_)
     refine one_ (i := 6) (N := some 16) #[true, true, true, true, true, true, true, false, false, false, false, false, false, false, false, false, false, false, false, false, false, false, false, false, false, false, false, false, false, false, false, false] rfl rfl (one_of HT_.out (by kernel_rfl)) (by decide) (fun K hK => ?_)
     refine goes_ Tryd.func58 (by kernel_rfl) rfl #[.int .i64 a0_1, .int .i64 0, .int .i64 10000000] (by rfl) rfl rfl (by (try simp only [List.map_toArray, List.map_cons, List.map_nil]); first | done | rfl | (simp only [List.length_drop, List.length_take]; rfl)) ?_
     with_reducible refine (impl_within.calls a0_1 0 10000000 true _ A7.out).mono ?_
     rintro e w' ⟨rfl, ⟨nd, rfl⟩⟩
     refine ⟨_, rfl, ?_⟩
     refine hK.out _ _ ⟨(blk_cell BK173.out 0).trans rfl, (blk_cell BK173.out 1).trans rfl, (blk_cell BK173.out 2).trans rfl, (blk_cell BK173.out 3).trans rfl⟩ (fun hHeld => ?_)
     clear hK K
     refine norm_ (a' := ?_) ?_ ?_
     rotate_left
     ·
      show Act.put _ (some 16) _ = _
      simp only [Act.put, List.setIfInBounds_toArray, List.set_cons_zero, List.set_cons_succ, i64_w, i32_w]
      rfl
     refine pureS 7 17 HT_.out ?_
     refine pureS 8 18 HT_.out ?_
     refine pureS 9 19 HT_.out ?_
     refine pureS 10 20 HT_.out ?_
     refine pureS 12 22 HT_.out ?_
     refine pureS 14 24 HT_.out ?_
     refine pureS 17 27 HT_.out ?_
     refine takeS 11 21 HT_.out HW_.out hHeld (hr := by rintro w' ⟨s0, s1, s2, s3⟩; go_simp; with_reducible rfl) (h := ?_)
     refine takeS 13 23 HT_.out HW_.out hHeld (hr := by rintro w' ⟨s0, s1, s2, s3⟩; go_simp; with_reducible rfl) (h := ?_)
     refine pureS 15 25 HT_.out ?_
     refine pureS 16 26 HT_.out ?_
     refine takeS 18 28 HT_.out HW_.out hHeld (hr := by rintro w' ⟨s0, s1, s2, s3⟩; go_simp; with_reducible rfl) (h := ?_)
     refine one_ (i := 19) (N := some 29) #[true, true, true, true, true, true, true, true, true, true, true, true, true, true, true, true, true, true, true, true, false, false, false, false, false, false, false, false, false, false, false, false] rfl rfl (one_of HT_.out (by kernel_rfl)) (by decide) (fun K hK => ?_)
     refine goes_ Tryd.func58 (by kernel_rfl) rfl #[.int .i64 a0_3, .int .i64 ji9, .int .i64 a0_1] (by rfl) rfl rfl (by (try simp only [List.map_toArray, List.map_cons, List.map_nil]); first | done | (simp only [hji9]; rfl) | rfl | (simp only [List.length_drop, List.length_take]; rfl)) ?_
     with_reducible refine (impl_within.calls a0_3 ji9 a0_1 false _ A10.out).mono ?_
     rintro e w' ⟨rfl, ⟨nd, rfl⟩⟩
     refine ⟨_, rfl, ?_⟩
     refine hK.out _ _ ⟨(blk_cell BK173.out 0).trans rfl, (blk_cell BK173.out 1).trans rfl, (blk_cell BK173.out 2).trans rfl, (blk_cell BK173.out 3).trans rfl⟩ (fun hHeld => ?_)
     clear hK K
     refine norm_ (a' := ?_) ?_ ?_
     rotate_left
     ·
      show Act.put _ (some 29) _ = _
      simp only [Act.put, List.setIfInBounds_toArray, List.set_cons_zero, List.set_cons_succ, i64_w, i32_w]
      rfl
     refine pureS 20 30 HT_.out ?_
     refine pureS 21 31 HT_.out ?_
     refine pureS 22 32 HT_.out ?_
     refine pureU 23 33 HT_.out ?_
     refine pureU 24 34 HT_.out ?_
     refine pureU 25 35 HT_.out ?_
     refine pureU 26 36 HT_.out ?_
     refine pureU 27 37 HT_.out ?_
     refine pureU 28 38 HT_.out ?_
     refine pureU 29 39 HT_.out ?_
     refine pureU 30 40 HT_.out ?_
     refine pureS 31 41 HT_.out ?_
     refine done_ (done_of HT_.out (by kernel_rfl)) ?_
     try go_wp2
     go_meet
     case rel => exact ⟨_, (true), (by first | rfl | (simp; done) | (simp [*]; done)), H', ⟨by first | omega | exact Nat.le_refl _⟩, ⟨bk BK173⟩, ⟨bs1 HB GE173⟩⟩
   ·
    replace c8 := Bool.eq_false_iff.mpr c8
    subst c8
    rw [if_neg (show ¬ (false = true) by decide)] at H
    have H' := Aside0.mk H
    clear H
    try go_wp2
    have n0_ := Aside0.mk (blk_drew BK173.out)
    have n1_ := Aside0.mk (below_drew1 HB.out)
    clear BK173
    clear HB
    have BK173 := n0_
    have HB := n1_
    clear n0_ n1_
    refine start_ (n := 32) (S := fun w' => w'.cell? ⟨gb173, 0, none⟩ = some (.slice A0_0 l0_0.length c0_0) ∧ w'.cell? ⟨gb173, 1, none⟩ = some (.int .i64 a0_1) ∧ w'.cell? ⟨gb173, 2, none⟩ = some (.int .i64 a0_2) ∧ w'.cell? ⟨gb173, 3, none⟩ = some (.int .i64 a0_3)) (ds := []) #[false, false, false, false, false, false, false, false, false, false, false, false, false, false, false, false, false, false, false, false, false, false, false, false, false, false, false, false, false, false, false, false] (by kernel_rfl) rfl rfl ⟨(blk_cell BK173.out 0).trans rfl, (blk_cell BK173.out 1).trans rfl, (blk_cell BK173.out 2).trans rfl, (blk_cell BK173.out 3).trans rfl⟩ (fun hHeld => ?_); refine with_tabW impl_GoodRing.tab2 impl_GoodRing.bits2 (fun HT_ HW_ => ?_)
    generalize w3.drew = w15 at BK173 HB hHeld ⊢
    refine pureS 0 10 HT_.out ?_
    refine one_ (i := 1) (N := some 11) #[true, true, false, false, false, false, false, false, false, false, false, false, false, false, false, false, false, false, false, false, false, false, false, false, false, false, false, false, false, false, false, false] rfl rfl (one_of HT_.out (by kernel_rfl)) (by decide) (fun K hK => ?_)
    refine goes_ Tryd.func58 (by kernel_rfl) rfl #[.int .i64 (l0_0.length : Int), .int .i64 2, .int .i64 24] (by rfl) rfl rfl (by (try simp only [List.map_toArray, List.map_cons, List.map_nil]); first | done | rfl | (simp only [List.length_drop, List.length_take]; rfl)) ?_
    with_reducible refine (impl_within.calls (l0_0.length : Int) 2 24 true _ A5.out).mono ?_
    rintro e w' ⟨rfl, ⟨nd, rfl⟩⟩
    refine ⟨_, rfl, ?_⟩
    refine hK.out _ _ ⟨(blk_cell BK173.out 0).trans rfl, (blk_cell BK173.out 1).trans rfl, (blk_cell BK173.out 2).trans rfl, (blk_cell BK173.out 3).trans rfl⟩ (fun hHeld => ?_)
    clear hK K
    refine norm_ (a' := ?_) ?_ ?_
    rotate_left
    ·
     show Act.put _ (some 11) _ = _
     simp only [Act.put, List.setIfInBounds_toArray, List.set_cons_zero, List.set_cons_succ, i64_w, i32_w]
     rfl
    refine pureS 2 12 HT_.out ?_
    refine pureS 3 13 HT_.out ?_
    refine pureS 4 14 HT_.out ?_
    refine takeS 5 15 HT_.out HW_.out hHeld (hr := by rintro w' ⟨s0, s1, s2, s3⟩; go_simp; with_reducible rfl) (h := ?_)
    refine one_ (i := 6) (N := some 16) #[true, true, true, true, true, true, true, false, false, false, false, false, false, false, false, false, false, false, false, false, false, false, false, false, false, false, false, false, false, false, false, false] rfl rfl (one_of HT_.out (by kernel_rfl)) (by decide) (fun K hK => ?_)
    refine goes_ Tryd.func58 (by kernel_rfl) rfl #[.int .i64 a0_1, .int .i64 0, .int .i64 10000000] (by rfl) rfl rfl (by (try simp only [List.map_toArray, List.map_cons, List.map_nil]); first | done | rfl | (simp only [List.length_drop, List.length_take]; rfl)) ?_
    with_reducible refine (impl_within.calls a0_1 0 10000000 false _ A7.out).mono ?_
    rintro e w' ⟨rfl, ⟨nd, rfl⟩⟩
    refine ⟨_, rfl, ?_⟩
    refine hK.out _ _ ⟨(blk_cell BK173.out 0).trans rfl, (blk_cell BK173.out 1).trans rfl, (blk_cell BK173.out 2).trans rfl, (blk_cell BK173.out 3).trans rfl⟩ (fun hHeld => ?_)
    clear hK K
    refine norm_ (a' := ?_) ?_ ?_
    rotate_left
    ·
     show Act.put _ (some 16) _ = _
     simp only [Act.put, List.setIfInBounds_toArray, List.set_cons_zero, List.set_cons_succ, i64_w, i32_w]
     rfl
    refine pureS 7 17 HT_.out ?_
    refine pureS 8 18 HT_.out ?_
    refine pureS 9 19 HT_.out ?_
    refine pureU 10 20 HT_.out ?_
    refine pureU 11 21 HT_.out ?_
    refine pureU 12 22 HT_.out ?_
    refine pureU 13 23 HT_.out ?_
    refine pureU 14 24 HT_.out ?_
    refine pureU 15 25 HT_.out ?_
    refine pureU 16 26 HT_.out ?_
    refine pureU 17 27 HT_.out ?_
    refine pureU 18 28 HT_.out ?_
    refine pureU 19 29 HT_.out ?_
    refine pureU 20 30 HT_.out ?_
    refine pureS 21 31 HT_.out ?_
    refine pureS 22 32 HT_.out ?_
    refine pureU 23 33 HT_.out ?_
    refine pureU 24 34 HT_.out ?_
    refine pureU 25 35 HT_.out ?_
    refine pureU 26 36 HT_.out ?_
    refine pureU 27 37 HT_.out ?_
    refine pureU 28 38 HT_.out ?_
    refine pureU 29 39 HT_.out ?_
    refine pureU 30 40 HT_.out ?_
    refine pureS 31 41 HT_.out ?_
    refine done_ (done_of HT_.out (by kernel_rfl)) ?_
    try go_wp2
    go_meet
    case rel => exact ⟨_, (true), (by first | rfl | (simp; done) | (simp [*]; done)), H', ⟨by first | omega | exact Nat.le_refl _⟩, ⟨bk BK173⟩, ⟨bs1 HB GE173⟩⟩
  ·
   replace c6 := Bool.eq_false_iff.mpr c6
   subst c6
   rw [if_neg (show ¬ (false = true) by decide)] at H
   have H' := Aside0.mk H
   clear H
   try go_wp2
   have n0_ := Aside0.mk (blk_drew BK173.out)
   have n1_ := Aside0.mk (below_drew1 HB.out)
   clear BK173
   clear HB
   have BK173 := n0_
   have HB := n1_
   clear n0_ n1_
   refine start_ (n := 32) (S := fun w' => True) (ds := []) #[false, false, false, false, false, false, false, false, false, false, false, false, false, false, false, false, false, false, false, false, false, false, false, false, false, false, false, false, false, false, false, false] (by kernel_rfl) rfl rfl trivial (fun hHeld => ?_); refine with_tabW impl_GoodRing.tab2 impl_GoodRing.bits2 (fun HT_ HW_ => ?_)
   generalize w3.drew = w16 at BK173 HB hHeld ⊢
   refine pureS 0 10 HT_.out ?_
   refine one_ (i := 1) (N := some 11) #[true, true, false, false, false, false, false, false, false, false, false, false, false, false, false, false, false, false, false, false, false, false, false, false, false, false, false, false, false, false, false, false] rfl rfl (one_of HT_.out (by kernel_rfl)) (by decide) (fun K hK => ?_)
   refine goes_ Tryd.func58 (by kernel_rfl) rfl #[.int .i64 (l0_0.length : Int), .int .i64 2, .int .i64 24] (by rfl) rfl rfl (by (try simp only [List.map_toArray, List.map_cons, List.map_nil]); first | done | rfl | (simp only [List.length_drop, List.length_take]; rfl)) ?_
   with_reducible refine (impl_within.calls (l0_0.length : Int) 2 24 false _ A5.out).mono ?_
   rintro e w' ⟨rfl, ⟨nd, rfl⟩⟩
   refine ⟨_, rfl, ?_⟩
   refine hK.out _ _ trivial (fun hHeld => ?_)
   clear hK K
   refine norm_ (a' := ?_) ?_ ?_
   rotate_left
   ·
    show Act.put _ (some 11) _ = _
    simp only [Act.put, List.setIfInBounds_toArray, List.set_cons_zero, List.set_cons_succ, i64_w, i32_w]
    rfl
   refine pureS 2 12 HT_.out ?_
   refine pureS 3 13 HT_.out ?_
   refine pureU 4 14 HT_.out ?_
   refine pureU 5 15 HT_.out ?_
   refine pureU 6 16 HT_.out ?_
   refine pureU 7 17 HT_.out ?_
   refine pureS 8 18 HT_.out ?_
   refine pureS 9 19 HT_.out ?_
   refine pureU 10 20 HT_.out ?_
   refine pureU 11 21 HT_.out ?_
   refine pureU 12 22 HT_.out ?_
   refine pureU 13 23 HT_.out ?_
   refine pureU 14 24 HT_.out ?_
   refine pureU 15 25 HT_.out ?_
   refine pureU 16 26 HT_.out ?_
   refine pureU 17 27 HT_.out ?_
   refine pureU 18 28 HT_.out ?_
   refine pureU 19 29 HT_.out ?_
   refine pureU 20 30 HT_.out ?_
   refine pureS 21 31 HT_.out ?_
   refine pureS 22 32 HT_.out ?_
   refine pureU 23 33 HT_.out ?_
   refine pureU 24 34 HT_.out ?_
   refine pureU 25 35 HT_.out ?_
   refine pureU 26 36 HT_.out ?_
   refine pureU 27 37 HT_.out ?_
   refine pureU 28 38 HT_.out ?_
   refine pureU 29 39 HT_.out ?_
   refine pureU 30 40 HT_.out ?_
   refine pureS 31 41 HT_.out ?_
   refine done_ (done_of HT_.out (by kernel_rfl)) ?_
   try go_wp2
   go_meet
   case rel => exact ⟨_, (true), (by first | rfl | (simp; done) | (simp [*]; done)), H', ⟨by first | omega | exact Nat.le_refl _⟩, ⟨bk BK173⟩, ⟨bs1 HB GE173⟩⟩
 case rest =>
  clear HC2
  try clear p2
  try clear c5
  try clear c6
  try clear c8
  obtain ⟨kq, x41_1, rfl, HA, HJ1, BK173, HB⟩ := hcut
  cases kq with
  | zero => exact absurd HA.out (by simp [impl_GoodRing.j0])
  | succ kj1 =>
   have H := HA.out
   clear HA
   simp only [impl_GoodRing.j0] at H
   by_cases c17 : x41_1 = true
   ·
    subst c17
    rw [if_pos rfl] at H
    obtain rfl := Option.some.inj H
    go_wp2
    go_ret
    exact ⟨by first | rfl | (simp [errW_none, errW_some] <;> rfl) | (simp [*, errW_none, errW_some] <;> rfl), bs1 HB GE173⟩
   ·
    replace c17 := Bool.eq_false_iff.mpr c17
    subst c17
    rw [if_neg (show ¬ (false = true) by decide)] at H
    have H' := Aside0.mk H
    clear H
    obtain ⟨hcz18_0, hcz18_1, hcz18_2, hcz18_3⟩ := cz4 BK173
    obtain ⟨hfz18_0, hfz18_1, hfz18_2, hfz18_3⟩ := fz4 BK173
    go_wp2
    go_loopg [4, 5] kj1 (fun kq v4 v5 w' => ∃ (x4_2 : Int) (x5_2 : Int), v4 = .int .i64 x4_2 ∧ v5 = .int .i64 x5_2 ∧ Aside0 (impl_GoodRing.l0 kq (l0_0.length : Int) x4_2 x5_2 l0_0 a0_1 a0_2 a0_3 = some r) ∧ Aside0 (kq ≤ kj1) ∧ Aside0 (w'.heap[gb173]? = some (.cells #[(.slice A0_0 l0_0.length c0_0), .int .i64 a0_1, .int .i64 a0_2, .int .i64 a0_3] 36 (0, 0))) ∧ Aside0 (Below w.heap.size w w'))
    case atStart => exact ⟨(0), (wrap64 (a0_1 - (l0_0.length : Int))), (by first | rfl | (simp; done) | (simp [*]; done)), (by first | rfl | (simp; done) | (simp [*]; done)), H', ⟨Nat.le_refl _⟩, ⟨bk BK173⟩, ⟨bs1 HB GE173⟩⟩
    case round =>
     clear H'
     try clear c1
     try clear p2
     try clear c5
     try clear c6
     try clear p6
     try clear c8
     try clear c17
     try clear hcz18_0 hcz18_1 hcz18_2 hcz18_3
     try clear hfz18_0 hfz18_1 hfz18_2 hfz18_3
     try clear p2
     obtain ⟨x4_2, x5_2, rfl, rfl, HA, HK2, BK173, HB⟩ := hrel
     cases gk with
     | zero => exact absurd HA.out (by simp [impl_GoodRing.l0])
     | succ k2 =>
      have H := HA.out
      clear HA
      simp only [impl_GoodRing.l0] at H
      by_cases c19 : x5_2 < a0_1
      ·
       rw [if_pos c19] at H
       have c19b0 : decide (x5_2 < a0_1) = true := decide_eq_true c19
       clear c19
       by_cases c20 : x5_2 < 0
       ·
        rw [if_pos c20] at H
        have c20b0 : decide (x5_2 < 0) = true := decide_eq_true c20
        clear c20
        obtain ⟨ji21, hji21⟩ : ∃ j_ : Int, (wrap64 (x5_2 + (l0_0.length : Int))) = j_ := ⟨_, rfl⟩
        replace H : (if 0 ≤ (ji21) then (if (ji21) < (l0_0.length : Int) then ((impl_zeroSlot.f k2).bind fun bt178 => (if (!(((rd_T26 l0_0 (ji21)).f0) == bt178.1) || (!(((rd_T26 l0_0 (ji21)).f1) == bt178.2.1) || (!((((rd_T26 l0_0 (ji21)).f2).toList) == bt178.2.2.1.toList) || (!(((rd_T26 l0_0 (ji21)).f3) == bt178.2.2.2))))) = true then (some false) else (impl_GoodRing.l0 k2 (l0_0.length : Int) x4_2 (wrap64 (x5_2 + 1)) l0_0 a0_1 a0_2 a0_3))) else (none)) else (none)) = some r := by first | (rw [hji21] at H; exact H) | (simp only [hji21] at H ⊢; exact H)
        have hji21w : (IntKind.i64.wrap (x5_2 + (l0_0.length : Int))) = ji21 := (i64_w _).trans hji21
        by_cases c22 : 0 ≤ (ji21)
        ·
         rw [if_pos c22] at H
         have c22b0 : decide (0 ≤ (ji21)) = true := decide_eq_true c22
         clear c22
         by_cases c23 : (ji21) < (l0_0.length : Int)
         ·
          rw [if_pos c23] at H
          have c23b0 : decide ((ji21) < (l0_0.length : Int)) = true := decide_eq_true c23
          clear c23
          replace H := Option.bind_eq_some_iff.mp H
          obtain ⟨⟨t178, t179, t180, t181⟩, A240, H⟩ := H
          replace H : (if (!(((rd_T26 l0_0 (ji21)).f0) == t178) || (!(((rd_T26 l0_0 (ji21)).f1) == t179) || (!((((rd_T26 l0_0 (ji21)).f2).toList) == t180.toList) || (!(((rd_T26 l0_0 (ji21)).f3) == t181))))) = true then (some false) else (impl_GoodRing.l0 k2 (l0_0.length : Int) x4_2 (wrap64 (x5_2 + 1)) l0_0 a0_1 a0_2 a0_3)) = some r := H
          have A24 := Aside0.mk A240
          clear A240
          by_cases c25 : (!(((rd_T26 l0_0 (ji21)).f0) == t178) || (!(((rd_T26 l0_0 (ji21)).f1) == t179) || (!((((rd_T26 l0_0 (ji21)).f2).toList) == t180.toList) || (!(((rd_T26 l0_0 (ji21)).f3) == t181))))) = true
          ·
           rw [if_pos c25] at H
           have c25b0 : (!(((rd_T26 l0_0 (ji21)).f0) == t178) || (!(((rd_T26 l0_0 (ji21)).f1) == t179) || (!((((rd_T26 l0_0 (ji21)).f2).toList) == t180.toList) || (!(((rd_T26 l0_0 (ji21)).f3) == t181))))) = true := c25
           clear c25
           obtain rfl := Option.some.inj H
           obtain ⟨hcz26_0, hcz26_1, hcz26_2, hcz26_3⟩ := cz4 BK173
           obtain ⟨hfz26_0, hfz26_1, hfz26_2, hfz26_3⟩ := fz4 BK173
           try go_wp2
           have n0_ := Aside0.mk (blk_drew BK173.out)
           have n1_ := Aside0.mk (below_drew1 HB.out)
           clear BK173
           clear HB
           have BK173 := n0_
           have HB := n1_
           clear n0_ n1_
           have p177 : 0 ≤ ((ji21) : Int) := of_decide_eq_true (by first | (with_reducible assumption) | assumption)
           have q177 : (ji21) < (l0_0.length : Int) := of_decide_eq_true (by first | (with_reducible assumption) | assumption)
           obtain ⟨ad177, e177, hx177_0, hx177_1, hx177_2, hx177_3⟩ := at_T26 HR0_0.out (ji21) p177 q177
           have hw177_3 := hx177_3
           have hw177_2 := hx177_2
           have hw177_1 := hx177_1
           have hw177_0 := hx177_0
           cases e177
           replace hx177_0 := (HB.out.cell (World.block_lt_of_cell? w _ hx177_0)).trans hx177_0
           replace hx177_1 := (HB.out.cell (World.block_lt_of_cell? w _ hx177_1)).trans hx177_1
           replace hx177_2 := (HB.out.cell (World.block_lt_of_cell? w _ hx177_2)).trans hx177_2
           replace hx177_3 := (HB.out.cell (World.block_lt_of_cell? w _ hx177_3)).trans hx177_3
           replace p177 := eq_true p177
           replace q177 := eq_true q177
           refine start_ (n := 9) (S := fun w' => w'.cell? ⟨gb173, 0, none⟩ = some (.slice (some ad177) l0_0.length c0_0) ∧ w'.cell? ⟨gb173, 1, none⟩ = some (.int .i64 a0_1) ∧ w'.cell? ⟨gb173, 2, none⟩ = some (.int .i64 a0_2) ∧ w'.cell? ⟨gb173, 3, none⟩ = some (.int .i64 a0_3) ∧ w'.cell? (ad177.add (((ji21)).toNat * 4)) = some (.int .i64 ((rd_T26 l0_0 (ji21)).f0)) ∧ w'.cell? ⟨(ad177.add (((ji21)).toNat * 4)).block, (ad177.add (((ji21)).toNat * 4)).off + 1, none⟩ = some (.int .i64 ((rd_T26 l0_0 (ji21)).f1)) ∧ w'.cell? ⟨(ad177.add (((ji21)).toNat * 4)).block, (ad177.add (((ji21)).toNat * 4)).off + 2, none⟩ = some (.string ((rd_T26 l0_0 (ji21)).f2)) ∧ w'.cell? ⟨(ad177.add (((ji21)).toNat * 4)).block, (ad177.add (((ji21)).toNat * 4)).off + 3, none⟩ = some (.int .i64 ((rd_T26 l0_0 (ji21)).f3))) (ds := []) #[false, false, false, false, false, false, false, false, false] (by kernel_rfl) rfl rfl ⟨(blk_cell BK173.out 0).trans rfl, (blk_cell BK173.out 1).trans rfl, (blk_cell BK173.out 2).trans rfl, (blk_cell BK173.out 3).trans rfl, ((HB.out.cell (World.block_lt_of_cell? w _ hw177_0)).trans hw177_0), ((HB.out.cell (World.block_lt_of_cell? w _ hw177_1)).trans hw177_1), ((HB.out.cell (World.block_lt_of_cell? w _ hw177_2)).trans hw177_2), ((HB.out.cell (World.block_lt_of_cell? w _ hw177_3)).trans hw177_3)⟩ (fun hHeld => ?_); refine with_tabW impl_GoodRing.tab9 impl_GoodRing.bits9 (fun HT_ HW_ => ?_)
           generalize wr.drew = w27 at BK173 HB hx177_0 hx177_1 hx177_2 hx177_3 hHeld ⊢
           refine pureS 0 54 HT_.out ?_
           refine pureS 2 56 HT_.out ?_
           refine pureS 3 57 HT_.out ?_
           refine pureS 4 58 HT_.out ?_
           refine takeS 1 55 HT_.out HW_.out hHeld (hr := by rintro w' ⟨s0, s1, s2, s3, s4, s5, s6, s7⟩; go_simp; with_reducible rfl) (h := ?_)
           refine pureS 5 59 HT_.out ?_
           refine takeS 6 60 HT_.out HW_.out hHeld (hr := by rintro w' ⟨s0, s1, s2, s3, s4, s5, s6, s7⟩; go_simp; with_reducible rfl) (h := ?_)
           refine one_ (i := 7) (N := some 61) #[true, true, true, true, true, true, true, true, false] rfl rfl (one_of HT_.out (by kernel_rfl)) (by decide) (fun K hK => ?_)
           refine goes_ Tryd.func59 (by kernel_rfl) rfl #[] (by rfl) rfl rfl (by (try simp only [List.map_toArray, List.map_cons, List.map_nil]); first | done | rfl | (simp only [List.length_drop, List.length_take]; rfl)) ?_
           with_reducible refine (impl_zeroSlot.calls k2  t178 t179 t180 t181 _ ?sideT A24.out).mono ?_
           case sideT => refine ⟨Ito.tabB hTab_.out ?_⟩; first | exact bs HB | exact st_below | (repeat (first | (with_reducible first | exact HB.out | apply below_alloc | apply pw_below_drewN | apply below_drew1 | refine below_set ?_ (Aside0.out (by assumption))) | exact HB.out))
           rintro e w28 ⟨rfl, hb⟩
           refine ⟨_, rfl, ?_⟩
           have n0_ := Aside0.mk (bb BK173 hb)
           have n1_ := Aside0.mk (below_step (bs1 HB GE173) hb)
           clear BK173
           clear HB
           have BK173 := n0_
           have HB := n1_
           clear n0_ n1_
           (try clear hb)
           (try clear hb2)
           (try clear hk)
           (try clear hi)
           refine hK.out _ _ ⟨(blk_cell BK173.out 0).trans rfl, (blk_cell BK173.out 1).trans rfl, (blk_cell BK173.out 2).trans rfl, (blk_cell BK173.out 3).trans rfl, ((HB.out.cell (World.block_lt_of_cell? w _ hw177_0)).trans hw177_0), ((HB.out.cell (World.block_lt_of_cell? w _ hw177_1)).trans hw177_1), ((HB.out.cell (World.block_lt_of_cell? w _ hw177_2)).trans hw177_2), ((HB.out.cell (World.block_lt_of_cell? w _ hw177_3)).trans hw177_3)⟩ (fun hHeld => ?_)
           clear hK K
           refine norm_ (a' := ?_) ?_ ?_
           rotate_left
           ·
            show Act.put _ (some 61) _ = _
            simp only [Act.put, List.setIfInBounds_toArray, List.set_cons_zero, List.set_cons_succ, i64_w, i32_w]
            rfl
           refine pureS 8 62 HT_.out ?_
           refine done_ (done_of HT_.out (by kernel_rfl)) ?_
           try go_wp2
           go_ret
           exact ⟨by first | rfl | (simp [errW_none, errW_some] <;> rfl) | (simp only [← hji21]; first | rfl | (simp [errW_none, errW_some] <;> rfl)) | (simp [*, errW_none, errW_some] <;> rfl), bs1 HB GE173⟩
          ·
           rw [if_neg c25] at H
           have c25b0 : (!(((rd_T26 l0_0 (ji21)).f0) == t178) || (!(((rd_T26 l0_0 (ji21)).f1) == t179) || (!((((rd_T26 l0_0 (ji21)).f2).toList) == t180.toList) || (!(((rd_T26 l0_0 (ji21)).f3) == t181))))) = false := by simpa using c25
           clear c25
           have H' := Aside0.mk H
           clear H
           obtain ⟨hcz29_0, hcz29_1, hcz29_2, hcz29_3⟩ := cz4 BK173
           obtain ⟨hfz29_0, hfz29_1, hfz29_2, hfz29_3⟩ := fz4 BK173
           try go_wp2
           have n0_ := Aside0.mk (blk_drew BK173.out)
           have n1_ := Aside0.mk (below_drew1 HB.out)
           clear BK173
           clear HB
           have BK173 := n0_
           have HB := n1_
           clear n0_ n1_
           have p177 : 0 ≤ ((ji21) : Int) := of_decide_eq_true (by first | (with_reducible assumption) | assumption)
           have q177 : (ji21) < (l0_0.length : Int) := of_decide_eq_true (by first | (with_reducible assumption) | assumption)
           obtain ⟨ad177, e177, hx177_0, hx177_1, hx177_2, hx177_3⟩ := at_T26 HR0_0.out (ji21) p177 q177
           have hw177_3 := hx177_3
           have hw177_2 := hx177_2
           have hw177_1 := hx177_1
           have hw177_0 := hx177_0
           cases e177
           replace hx177_0 := (HB.out.cell (World.block_lt_of_cell? w _ hx177_0)).trans hx177_0
           replace hx177_1 := (HB.out.cell (World.block_lt_of_cell? w _ hx177_1)).trans hx177_1
           replace hx177_2 := (HB.out.cell (World.block_lt_of_cell? w _ hx177_2)).trans hx177_2
           replace hx177_3 := (HB.out.cell (World.block_lt_of_cell? w _ hx177_3)).trans hx177_3
           replace p177 := eq_true p177
           replace q177 := eq_true q177
           refine start_ (n := 9) (S := fun w' => w'.cell? ⟨gb173, 0, none⟩ = some (.slice (some ad177) l0_0.length c0_0) ∧ w'.cell? ⟨gb173, 1, none⟩ = some (.int .i64 a0_1) ∧ w'.cell? ⟨gb173, 2, none⟩ = some (.int .i64 a0_2) ∧ w'.cell? ⟨gb173, 3, none⟩ = some (.int .i64 a0_3) ∧ w'.cell? (ad177.add (((ji21)).toNat * 4)) = some (.int .i64 ((rd_T26 l0_0 (ji21)).f0)) ∧ w'.cell? ⟨(ad177.add (((ji21)).toNat * 4)).block, (ad177.add (((ji21)).toNat * 4)).off + 1, none⟩ = some (.int .i64 ((rd_T26 l0_0 (ji21)).f1)) ∧ w'.cell? ⟨(ad177.add (((ji21)).toNat * 4)).block, (ad177.add (((ji21)).toNat * 4)).off + 2, none⟩ = some (.string ((rd_T26 l0_0 (ji21)).f2)) ∧ w'.cell? ⟨(ad177.add (((ji21)).toNat * 4)).block, (ad177.add (((ji21)).toNat * 4)).off + 3, none⟩ = some (.int .i64 ((rd_T26 l0_0 (ji21)).f3))) (ds := []) #[false, false, false, false, false, false, false, false, false] (by kernel_rfl) rfl rfl ⟨(blk_cell BK173.out 0).trans rfl, (blk_cell BK173.out 1).trans rfl, (blk_cell BK173.out 2).trans rfl, (blk_cell BK173.out 3).trans rfl, ((HB.out.cell (World.block_lt_of_cell? w _ hw177_0)).trans hw177_0), ((HB.out.cell (World.block_lt_of_cell? w _ hw177_1)).trans hw177_1), ((HB.out.cell (World.block_lt_of_cell? w _ hw177_2)).trans hw177_2), ((HB.out.cell (World.block_lt_of_cell? w _ hw177_3)).trans hw177_3)⟩ (fun hHeld => ?_); refine with_tabW impl_GoodRing.tab9 impl_GoodRing.bits9 (fun HT_ HW_ => ?_)
           generalize wr.drew = w30 at BK173 HB hx177_0 hx177_1 hx177_2 hx177_3 hHeld ⊢
           refine pureS 0 54 HT_.out ?_
           refine pureS 2 56 HT_.out ?_
           refine pureS 3 57 HT_.out ?_
           refine pureS 4 58 HT_.out ?_
           refine takeS 1 55 HT_.out HW_.out hHeld (hr := by rintro w' ⟨s0, s1, s2, s3, s4, s5, s6, s7⟩; go_simp; with_reducible rfl) (h := ?_)
           refine pureS 5 59 HT_.out ?_
           refine takeS 6 60 HT_.out HW_.out hHeld (hr := by rintro w' ⟨s0, s1, s2, s3, s4, s5, s6, s7⟩; go_simp; with_reducible rfl) (h := ?_)
           refine one_ (i := 7) (N := some 61) #[true, true, true, true, true, true, true, true, false] rfl rfl (one_of HT_.out (by kernel_rfl)) (by decide) (fun K hK => ?_)
           refine goes_ Tryd.func59 (by kernel_rfl) rfl #[] (by rfl) rfl rfl (by (try simp only [List.map_toArray, List.map_cons, List.map_nil]); first | done | rfl | (simp only [List.length_drop, List.length_take]; rfl)) ?_
           with_reducible refine (impl_zeroSlot.calls k2  t178 t179 t180 t181 _ ?sideT A24.out).mono ?_
           case sideT => refine ⟨Ito.tabB hTab_.out ?_⟩; first | exact bs HB | exact st_below | (repeat (first | (with_reducible first | exact HB.out | apply below_alloc | apply pw_below_drewN | apply below_drew1 | refine below_set ?_ (Aside0.out (by assumption))) | exact HB.out))
           rintro e w31 ⟨rfl, hb⟩
           refine ⟨_, rfl, ?_⟩
           have n0_ := Aside0.mk (bb BK173 hb)
           have n1_ := Aside0.mk (below_step (bs1 HB GE173) hb)
           clear BK173
           clear HB
           have BK173 := n0_
           have HB := n1_
           clear n0_ n1_
           (try clear hb)
           (try clear hb2)
           (try clear hk)
           (try clear hi)
           refine hK.out _ _ ⟨(blk_cell BK173.out 0).trans rfl, (blk_cell BK173.out 1).trans rfl, (blk_cell BK173.out 2).trans rfl, (blk_cell BK173.out 3).trans rfl, ((HB.out.cell (World.block_lt_of_cell? w _ hw177_0)).trans hw177_0), ((HB.out.cell (World.block_lt_of_cell? w _ hw177_1)).trans hw177_1), ((HB.out.cell (World.block_lt_of_cell? w _ hw177_2)).trans hw177_2), ((HB.out.cell (World.block_lt_of_cell? w _ hw177_3)).trans hw177_3)⟩ (fun hHeld => ?_)
           clear hK K
           refine norm_ (a' := ?_) ?_ ?_
           rotate_left
           ·
            show Act.put _ (some 61) _ = _
            simp only [Act.put, List.setIfInBounds_toArray, List.set_cons_zero, List.set_cons_succ, i64_w, i32_w]
            rfl
           refine pureS 8 62 HT_.out ?_
           refine done_ (done_of HT_.out (by kernel_rfl)) ?_
           try go_wp2
           go_roundg k2
           case measure => have := HJ1.out; have := HK2.out; omega
           case rel => exact ⟨(x4_2), (wrap64 (x5_2 + 1)), (by first | rfl | (simp; done) | (simp [*]; done)), (by first | rfl | (simp; done) | (simp [*]; done)), H', ⟨by have := HJ1.out; have := HK2.out; omega⟩, ⟨bk BK173⟩, ⟨bs1 HB GE173⟩⟩
         ·
          rw [if_neg c23] at H
          exact absurd H (by simp)
        ·
         rw [if_neg c22] at H
         exact absurd H (by simp)
       ·
        rw [if_neg c20] at H
        have c20b0 : decide (x5_2 < 0) = false := decide_eq_false c20
        clear c20
        by_cases c32 : (l0_0.length : Int) = 0
        ·
         rw [if_pos c32] at H
         exact absurd H (by simp)
        ·
         rw [if_neg c32] at H
         have c32b0 : ((l0_0.length : Int) == 0) = false := beq_eq_false_iff_ne.mpr c32
         have c32b1 : ((l0_0.length : Int) != 0) = true := bne_iff_ne.mpr c32
         have c32b2 : ¬ (l0_0 = []) := fun h_ => c32 (by rw [h_]; rfl)
         obtain ⟨ji33, hji33⟩ : ∃ j_ : Int, (Int.tmod x5_2 (l0_0.length : Int)) = j_ := ⟨_, rfl⟩
         replace H : (if 0 ≤ (ji33) then (if (ji33) < (l0_0.length : Int) then (if x5_2 < a0_3 then ((impl_zeroSlot.f k2).bind fun bt184 => (impl_GoodRing.j2 k2 (l0_0.length : Int) x4_2 x5_2 (((rd_T26 l0_0 (ji33)).f0) == bt184.1 && (((rd_T26 l0_0 (ji33)).f1) == bt184.2.1 && ((((rd_T26 l0_0 (ji33)).f2).toList) == bt184.2.2.1.toList && (((rd_T26 l0_0 (ji33)).f3) == bt184.2.2.2)))) l0_0 a0_1 a0_2 a0_3 ((rd_T26 l0_0 (ji33)).f0) ((rd_T26 l0_0 (ji33)).f1) ((rd_T26 l0_0 (ji33)).f2) ((rd_T26 l0_0 (ji33)).f3))) else (impl_GoodRing.j2 k2 (l0_0.length : Int) x4_2 x5_2 false l0_0 a0_1 a0_2 a0_3 ((rd_T26 l0_0 (ji33)).f0) ((rd_T26 l0_0 (ji33)).f1) ((rd_T26 l0_0 (ji33)).f2) ((rd_T26 l0_0 (ji33)).f3))) else (none)) else (none)) = some r := by first | (rw [hji33] at H; exact H) | (simp only [hji33] at H ⊢; exact H)
         by_cases c34 : 0 ≤ (ji33)
         ·
          rw [if_pos c34] at H
          have c34b0 : decide (0 ≤ (ji33)) = true := decide_eq_true c34
          clear c34
          by_cases c35 : (ji33) < (l0_0.length : Int)
          ·
           rw [if_pos c35] at H
           have c35b0 : decide ((ji33) < (l0_0.length : Int)) = true := decide_eq_true c35
           clear c35
           have HC36 := Aside0.mk H
           clear H
           obtain ⟨hcz37_0, hcz37_1, hcz37_2, hcz37_3⟩ := cz4 BK173
           obtain ⟨hfz37_0, hfz37_1, hfz37_2, hfz37_3⟩ := fz4 BK173
           try go_wp2
           have n0_ := Aside0.mk (blk_drew BK173.out)
           have n1_ := Aside0.mk (below_drew1 HB.out)
           clear BK173
           clear HB
           have BK173 := n0_
           have HB := n1_
           clear n0_ n1_
           have p182 : 0 ≤ ((ji33) : Int) := of_decide_eq_true (by first | (with_reducible assumption) | assumption)
           have q182 : (ji33) < (l0_0.length : Int) := of_decide_eq_true (by first | (with_reducible assumption) | assumption)
           obtain ⟨ad182, e182, hx182_0, hx182_1, hx182_2, hx182_3⟩ := at_T26 HR0_0.out (ji33) p182 q182
           have hw182_3 := hx182_3
           have hw182_2 := hx182_2
           have hw182_1 := hx182_1
           have hw182_0 := hx182_0
           cases e182
           replace hx182_0 := (HB.out.cell (World.block_lt_of_cell? w _ hx182_0)).trans hx182_0
           replace hx182_1 := (HB.out.cell (World.block_lt_of_cell? w _ hx182_1)).trans hx182_1
           replace hx182_2 := (HB.out.cell (World.block_lt_of_cell? w _ hx182_2)).trans hx182_2
           replace hx182_3 := (HB.out.cell (World.block_lt_of_cell? w _ hx182_3)).trans hx182_3
           replace p182 := eq_true p182
           replace q182 := eq_true q182
           refine start_ (n := 9) (S := fun w' => w'.cell? ⟨gb173, 0, none⟩ = some (.slice (some ad182) l0_0.length c0_0) ∧ w'.cell? ⟨gb173, 1, none⟩ = some (.int .i64 a0_1) ∧ w'.cell? ⟨gb173, 2, none⟩ = some (.int .i64 a0_2) ∧ w'.cell? ⟨gb173, 3, none⟩ = some (.int .i64 a0_3) ∧ w'.cell? (ad182.add (((ji33)).toNat * 4)) = some (.int .i64 ((rd_T26 l0_0 (ji33)).f0)) ∧ w'.cell? ⟨(ad182.add (((ji33)).toNat * 4)).block, (ad182.add (((ji33)).toNat * 4)).off + 1, none⟩ = some (.int .i64 ((rd_T26 l0_0 (ji33)).f1)) ∧ w'.cell? ⟨(ad182.add (((ji33)).toNat * 4)).block, (ad182.add (((ji33)).toNat * 4)).off + 2, none⟩ = some (.string ((rd_T26 l0_0 (ji33)).f2)) ∧ w'.cell? ⟨(ad182.add (((ji33)).toNat * 4)).block, (ad182.add (((ji33)).toNat * 4)).off + 3, none⟩ = some (.int .i64 ((rd_T26 l0_0 (ji33)).f3))) (ds := []) #[false, false, false, false, false, false, false, false, false] (by kernel_rfl) rfl rfl ⟨(blk_cell BK173.out 0).trans rfl, (blk_cell BK173.out 1).trans rfl, (blk_cell BK173.out 2).trans rfl, (blk_cell BK173.out 3).trans rfl, ((HB.out.cell (World.block_lt_of_cell? w _ hw182_0)).trans hw182_0), ((HB.out.cell (World.block_lt_of_cell? w _ hw182_1)).trans hw182_1), ((HB.out.cell (World.block_lt_of_cell? w _ hw182_2)).trans hw182_2), ((HB.out.cell (World.block_lt_of_cell? w _ hw182_3)).trans hw182_3)⟩ (fun hHeld => ?_); refine with_tabW impl_GoodRing.tab11 impl_GoodRing.bits11 (fun HT_ HW_ => ?_)
           generalize wr.drew = w38 at BK173 HB hx182_0 hx182_1 hx182_2 hx182_3 hHeld ⊢
           refine pureS 0 63 HT_.out ?_
           refine pureS 2 65 HT_.out ?_
           refine pureS 3 66 HT_.out ?_
           refine pureS 4 67 HT_.out ?_
           refine takeS 1 64 HT_.out HW_.out hHeld (hr := by rintro w' ⟨s0, s1, s2, s3, s4, s5, s6, s7⟩; go_simp; with_reducible rfl) (h := ?_)
           refine pureS 5 68 HT_.out ?_
           refine takeS 6 69 HT_.out HW_.out hHeld (hr := by rintro w' ⟨s0, s1, s2, s3, s4, s5, s6, s7⟩; go_simp; with_reducible rfl) (h := ?_)
           refine one_ (i := 7) (N := some 6) #[true, true, true, true, true, true, true, true, false] rfl rfl (one_of HT_.out (by kernel_rfl)) (by decide) (fun K hK => ?_)
           refine box_step ?hg (N := 6) ?hd (cs := #[.int .i64 0, .int .i64 0, .string (⟨#[]⟩ : ByteArray), .int .i64 0]) (t := 26) ?hr ?_; (case hd => rfl); (case hg => rfl); (case hr => first | (go_simp; done) | (go_simp; rfl))
           intro gb183 hg w39 hbox hb
           have n0_ := Aside0.mk (bb BK173 hb)
           have n1_ := Aside0.mk (below_step (bs1 HB GE173) hb)
           have n2_ := Aside0.mk (hbox)
           have n3_ := Aside0.mk ((by rw [hg]; exact (below_size (bs1 HB GE173)) : w.heap.size ≤ gb183))
           have n4_ := Aside0.mk ((by rw [hg]; exact (below_size (bs1 HB GE173)) : w.heap.size ≤ gb183))
           have n5_ := Aside0.mk ((bn BK173 hg : gb173 ≠ gb183))
           have n6_ := Aside0.mk ((bm BK173 hg : gb183 ≠ gb173))
           clear BK173
           clear HB
           have BK173 := n0_
           have HB := n1_
           have BK183 := n2_
           have GW183 := n3_
           have GE183 := n4_
           have NB173_183 := n5_
           have NB183_173 := n6_
           clear n0_ n1_ n2_ n3_ n4_ n5_ n6_
           clear hb hbox hg
           refine hK.out _ _ ⟨(blk_cell BK173.out 0).trans rfl, (blk_cell BK173.out 1).trans rfl, (blk_cell BK173.out 2).trans rfl, (blk_cell BK173.out 3).trans rfl, ((HB.out.cell (World.block_lt_of_cell? w _ hw182_0)).trans hw182_0), ((HB.out.cell (World.block_lt_of_cell? w _ hw182_1)).trans hw182_1), ((HB.out.cell (World.block_lt_of_cell? w _ hw182_2)).trans hw182_2), ((HB.out.cell (World.block_lt_of_cell? w _ hw182_3)).trans hw182_3)⟩ (fun hHeld => ?_)
           clear hK K
           refine norm_ (a' := ?_) ?_ ?_
           rotate_left
           ·
            show Act.put _ (some 6) _ = _
            simp only [Act.put, List.setIfInBounds_toArray, List.set_cons_zero, List.set_cons_succ, i64_w, i32_w]
            rfl
           refine one_ (i := 8) (N := none) #[true, true, true, true, true, true, true, true, true] rfl rfl (one_of HT_.out (by kernel_rfl)) (by decide) (fun K hK => ?_)
           have hs40 : w39.cell? ⟨gb183, 0, none⟩ = some (.int .i64 0) := (blk_cell BK183.out 0).trans rfl
           have hfs40 := blk_frozen BK183.out 0
           have hns40_0 := NB173_183.out
           have hms40_0 := NB183_173.out
           have hs41 : w39.cell? ⟨gb183, 1, none⟩ = some (.int .i64 0) := (blk_cell BK183.out 1).trans rfl
           have hfs41 := blk_frozen BK183.out 1
           have hns41_0 := NB173_183.out
           have hms41_0 := NB183_173.out
           have hs42 : w39.cell? ⟨gb183, 2, none⟩ = some (.string (⟨#[]⟩ : ByteArray)) := (blk_cell BK183.out 2).trans rfl
           have hfs42 := blk_frozen BK183.out 2
           have hns42_0 := NB173_183.out
           have hms42_0 := NB183_173.out
           have hs43 : w39.cell? ⟨gb183, 3, none⟩ = some (.int .i64 0) := (blk_cell BK183.out 3).trans rfl
           have hfs43 := blk_frozen BK183.out 3
           have hns43_0 := NB173_183.out
           have hms43_0 := NB183_173.out
           refine skip_ (w1 := ?_) (by rfl) rfl ?_ ?_
           rotate_left
           ·
            go_simp
            rfl
           refine hK.out _ _ ⟨((cell_far (p := ⟨gb183, _, none⟩) NB173_183.out _).trans (((cell_far (p := ⟨gb183, _, none⟩) NB173_183.out _).trans (((cell_far (p := ⟨gb183, _, none⟩) NB173_183.out _).trans (((cell_far (p := ⟨gb183, _, none⟩) NB173_183.out _).trans (hHeld.1)))))))), ((cell_far (p := ⟨gb183, _, none⟩) NB173_183.out _).trans (((cell_far (p := ⟨gb183, _, none⟩) NB173_183.out _).trans (((cell_far (p := ⟨gb183, _, none⟩) NB173_183.out _).trans (((cell_far (p := ⟨gb183, _, none⟩) NB173_183.out _).trans (hHeld.2.1)))))))), ((cell_far (p := ⟨gb183, _, none⟩) NB173_183.out _).trans (((cell_far (p := ⟨gb183, _, none⟩) NB173_183.out _).trans (((cell_far (p := ⟨gb183, _, none⟩) NB173_183.out _).trans (((cell_far (p := ⟨gb183, _, none⟩) NB173_183.out _).trans (hHeld.2.2.1)))))))), ((cell_far (p := ⟨gb183, _, none⟩) NB173_183.out _).trans (((cell_far (p := ⟨gb183, _, none⟩) NB173_183.out _).trans (((cell_far (p := ⟨gb183, _, none⟩) NB173_183.out _).trans (((cell_far (p := ⟨gb183, _, none⟩) NB173_183.out _).trans (hHeld.2.2.2.1)))))))), ((cell_far (p := ⟨gb183, _, none⟩) (by first | exact Nat.ne_of_lt (Nat.lt_of_lt_of_le (by have := World.block_lt_of_cell? _ _ hw182_0; first | rwa [add_block] at this | exact this) GW183.out) | (rw [add_block]; exact Nat.ne_of_lt (Nat.lt_of_lt_of_le (by have := World.block_lt_of_cell? _ _ hw182_0; first | rwa [add_block] at this | exact this) GW183.out)) | (show (Addr.add _ _).block ≠ _; rw [add_block]; exact Nat.ne_of_lt (Nat.lt_of_lt_of_le (by have := World.block_lt_of_cell? _ _ hw182_0; first | rwa [add_block] at this | exact this) GW183.out)) | (dsimp only; exact Nat.ne_of_lt (Nat.lt_of_lt_of_le (by have := World.block_lt_of_cell? _ _ hw182_0; first | rwa [add_block] at this | exact this) GW183.out))) _).trans (((cell_far (p := ⟨gb183, _, none⟩) (by first | exact Nat.ne_of_lt (Nat.lt_of_lt_of_le (by have := World.block_lt_of_cell? _ _ hw182_0; first | rwa [add_block] at this | exact this) GW183.out) | (rw [add_block]; exact Nat.ne_of_lt (Nat.lt_of_lt_of_le (by have := World.block_lt_of_cell? _ _ hw182_0; first | rwa [add_block] at this | exact this) GW183.out)) | (show (Addr.add _ _).block ≠ _; rw [add_block]; exact Nat.ne_of_lt (Nat.lt_of_lt_of_le (by have := World.block_lt_of_cell? _ _ hw182_0; first | rwa [add_block] at this | exact this) GW183.out)) | (dsimp only; exact Nat.ne_of_lt (Nat.lt_of_lt_of_le (by have := World.block_lt_of_cell? _ _ hw182_0; first | rwa [add_block] at this | exact this) GW183.out))) _).trans (((cell_far (p := ⟨gb183, _, none⟩) (by first | exact Nat.ne_of_lt (Nat.lt_of_lt_of_le (by have := World.block_lt_of_cell? _ _ hw182_0; first | rwa [add_block] at this | exact this) GW183.out) | (rw [add_block]; exact Nat.ne_of_lt (Nat.lt_of_lt_of_le (by have := World.block_lt_of_cell? _ _ hw182_0; first | rwa [add_block] at this | exact this) GW183.out)) | (show (Addr.add _ _).block ≠ _; rw [add_block]; exact Nat.ne_of_lt (Nat.lt_of_lt_of_le (by have := World.block_lt_of_cell? _ _ hw182_0; first | rwa [add_block] at this | exact this) GW183.out)) | (dsimp only; exact Nat.ne_of_lt (Nat.lt_of_lt_of_le (by have := World.block_lt_of_cell? _ _ hw182_0; first | rwa [add_block] at this | exact this) GW183.out))) _).trans (((cell_far (p := ⟨gb183, _, none⟩) (by first | exact Nat.ne_of_lt (Nat.lt_of_lt_of_le (by have := World.block_lt_of_cell? _ _ hw182_0; first | rwa [add_block] at this | exact this) GW183.out) | (rw [add_block]; exact Nat.ne_of_lt (Nat.lt_of_lt_of_le (by have := World.block_lt_of_cell? _ _ hw182_0; first | rwa [add_block] at this | exact this) GW183.out)) | (show (Addr.add _ _).block ≠ _; rw [add_block]; exact Nat.ne_of_lt (Nat.lt_of_lt_of_le (by have := World.block_lt_of_cell? _ _ hw182_0; first | rwa [add_block] at this | exact this) GW183.out)) | (dsimp only; exact Nat.ne_of_lt (Nat.lt_of_lt_of_le (by have := World.block_lt_of_cell? _ _ hw182_0; first | rwa [add_block] at this | exact this) GW183.out))) _).trans (hHeld.2.2.2.2.1)))))))), ((cell_far (p := ⟨gb183, _, none⟩) (by first | exact Nat.ne_of_lt (Nat.lt_of_lt_of_le (by have := World.block_lt_of_cell? _ _ hw182_1; first | rwa [add_block] at this | exact this) GW183.out) | (rw [add_block]; exact Nat.ne_of_lt (Nat.lt_of_lt_of_le (by have := World.block_lt_of_cell? _ _ hw182_1; first | rwa [add_block] at this | exact this) GW183.out)) | (show (Addr.add _ _).block ≠ _; rw [add_block]; exact Nat.ne_of_lt (Nat.lt_of_lt_of_le (by have := World.block_lt_of_cell? _ _ hw182_1; first | rwa [add_block] at this | exact this) GW183.out)) | (dsimp only; exact Nat.ne_of_lt (Nat.lt_of_lt_of_le (by have := World.block_lt_of_cell? _ _ hw182_1; first | rwa [add_block] at this | exact this) GW183.out))) _).trans (((cell_far (p := ⟨gb183, _, none⟩) (by first | exact Nat.ne_of_lt (Nat.lt_of_lt_of_le (by have := World.block_lt_of_cell? _ _ hw182_1; first | rwa [add_block] at this | exact this) GW183.out) | (rw [add_block]; exact Nat.ne_of_lt (Nat.lt_of_lt_of_le (by have := World.block_lt_of_cell? _ _ hw182_1; first | rwa [add_block] at this | exact this) GW183.out)) | (show (Addr.add _ _).block ≠ _; rw [add_block]; exact Nat.ne_of_lt (Nat.lt_of_lt_of_le (by have := World.block_lt_of_cell? _ _ hw182_1; first | rwa [add_block] at this | exact this) GW183.out)) | (dsimp only; exact Nat.ne_of_lt (Nat.lt_of_lt_of_le (by have := World.block_lt_of_cell? _ _ hw182_1; first | rwa [add_block] at this | exact this) GW183.out))) _).trans (((cell_far (p := ⟨gb183, _, none⟩) (by first | exact Nat.ne_of_lt (Nat.lt_of_lt_of_le (by have := World.block_lt_of_cell? _ _ hw182_1; first | rwa [add_block] at this | exact this) GW183.out) | (rw [add_block]; exact Nat.ne_of_lt (Nat.lt_of_lt_of_le (by have := World.block_lt_of_cell? _ _ hw182_1; first | rwa [add_block] at this | exact this) GW183.out)) | (show (Addr.add _ _).block ≠ _; rw [add_block]; exact Nat.ne_of_lt (Nat.lt_of_lt_of_le (by have := World.block_lt_of_cell? _ _ hw182_1; first | rwa [add_block] at this | exact this) GW183.out)) | (dsimp only; exact Nat.ne_of_lt (Nat.lt_of_lt_of_le (by have := World.block_lt_of_cell? _ _ hw182_1; first | rwa [add_block] at this | exact this) GW183.out))) _).trans (((cell_far (p := ⟨gb183, _, none⟩) (by first | exact Nat.ne_of_lt (Nat.lt_of_lt_of_le (by have := World.block_lt_of_cell? _ _ hw182_1; first | rwa [add_block] at this | exact this) GW183.out) | (rw [add_block]; exact Nat.ne_of_lt (Nat.lt_of_lt_of_le (by have := World.block_lt_of_cell? _ _ hw182_1; first | rwa [add_block] at this | exact this) GW183.out)) | (show (Addr.add _ _).block ≠ _; rw [add_block]; exact Nat.ne_of_lt (Nat.lt_of_lt_of_le (by have := World.block_lt_of_cell? _ _ hw182_1; first | rwa [add_block] at this | exact this) GW183.out)) | (dsimp only; exact Nat.ne_of_lt (Nat.lt_of_lt_of_le (by have := World.block_lt_of_cell? _ _ hw182_1; first | rwa [add_block] at this | exact this) GW183.out))) _).trans (hHeld.2.2.2.2.2.1)))))))), ((cell_far (p := ⟨gb183, _, none⟩) (by first | exact Nat.ne_of_lt (Nat.lt_of_lt_of_le (by have := World.block_lt_of_cell? _ _ hw182_2; first | rwa [add_block] at this | exact this) GW183.out) | (rw [add_block]; exact Nat.ne_of_lt (Nat.lt_of_lt_of_le (by have := World.block_lt_of_cell? _ _ hw182_2; first | rwa [add_block] at this | exact this) GW183.out)) | (show (Addr.add _ _).block ≠ _; rw [add_block]; exact Nat.ne_of_lt (Nat.lt_of_lt_of_le (by have := World.block_lt_of_cell? _ _ hw182_2; first | rwa [add_block] at this | exact this) GW183.out)) | (dsimp only; exact Nat.ne_of_lt (Nat.lt_of_lt_of_le (by have := World.block_lt_of_cell? _ _ hw182_2; first | rwa [add_block] at this | exact this) GW183.out))) _).trans (((cell_far (p := ⟨gb183, _, none⟩) (by first | exact Nat.ne_of_lt (Nat.lt_of_lt_of_le (by have := World.block_lt_of_cell? _ _ hw182_2; first | rwa [add_block] at this | exact this) GW183.out) | (rw [add_block]; exact Nat.ne_of_lt (Nat.lt_of_lt_of_le (by have := World.block_lt_of_cell? _ _ hw182_2; first | rwa [add_block] at this | exact this) GW183.out)) | (show (Addr.add _ _).block ≠ _; rw [add_block]; exact Nat.ne_of_lt (Nat.lt_of_lt_of_le (by have := World.block_lt_of_cell? _ _ hw182_2; first | rwa [add_block] at this | exact this) GW183.out)) | (dsimp only; exact Nat.ne_of_lt (Nat.lt_of_lt_of_le (by have := World.block_lt_of_cell? _ _ hw182_2; first | rwa [add_block] at this | exact this) GW183.out))) _).trans (((cell_far (p := ⟨gb183, _, none⟩) (by first | exact Nat.ne_of_lt (Nat.lt_of_lt_of_le (by have := World.block_lt_of_cell? _ _ hw182_2; first | rwa [add_block] at this | exact this) GW183.out) | (rw [add_block]; exact Nat.ne_of_lt (Nat.lt_of_lt_of_le (by have := World.block_lt_of_cell? _ _ hw182_2; first | rwa [add_block] at this | exact this) GW183.out)) | (show (Addr.add _ _).block ≠ _; rw [add_block]; exact Nat.ne_of_lt (Nat.lt_of_lt_of_le (by have := World.block_lt_of_cell? _ _ hw182_2; first | rwa [add_block] at this | exact this) GW183.out)) | (dsimp only; exact Nat.ne_of_lt (Nat.lt_of_lt_of_le (by have := World.block_lt_of_cell? _ _ hw182_2; first | rwa [add_block] at this | exact this) GW183.out))) _).trans (((cell_far (p := ⟨gb183, _, none⟩) (by first | exact Nat.ne_of_lt (Nat.lt_of_lt_of_le (by have := World.block_lt_of_cell? _ _ hw182_2; first | rwa [add_block] at this | exact this) GW183.out) | (rw [add_block]; exact Nat.ne_of_lt (Nat.lt_of_lt_of_le (by have := World.block_lt_of_cell? _ _ hw182_2; first | rwa [add_block] at this | exact this) GW183.out)) | (show (Addr.add _ _).block ≠ _; rw [add_block]; exact Nat.ne_of_lt (Nat.lt_of_lt_of_le (by have := World.block_lt_of_cell? _ _ hw182_2; first | rwa [add_block] at this | exact this) GW183.out)) | (dsimp only; exact Nat.ne_of_lt (Nat.lt_of_lt_of_le (by have := World.block_lt_of_cell? _ _ hw182_2; first | rwa [add_block] at this | exact this) GW183.out))) _).trans (hHeld.2.2.2.2.2.2.1)))))))), ((cell_far (p := ⟨gb183, _, none⟩) (by first | exact Nat.ne_of_lt (Nat.lt_of_lt_of_le (by have := World.block_lt_of_cell? _ _ hw182_3; first | rwa [add_block] at this | exact this) GW183.out) | (rw [add_block]; exact Nat.ne_of_lt (Nat.lt_of_lt_of_le (by have := World.block_lt_of_cell? _ _ hw182_3; first | rwa [add_block] at this | exact this) GW183.out)) | (show (Addr.add _ _).block ≠ _; rw [add_block]; exact Nat.ne_of_lt (Nat.lt_of_lt_of_le (by have := World.block_lt_of_cell? _ _ hw182_3; first | rwa [add_block] at this | exact this) GW183.out)) | (dsimp only; exact Nat.ne_of_lt (Nat.lt_of_lt_of_le (by have := World.block_lt_of_cell? _ _ hw182_3; first | rwa [add_block] at this | exact this) GW183.out))) _).trans (((cell_far (p := ⟨gb183, _, none⟩) (by first | exact Nat.ne_of_lt (Nat.lt_of_lt_of_le (by have := World.block_lt_of_cell? _ _ hw182_3; first | rwa [add_block] at this | exact this) GW183.out) | (rw [add_block]; exact Nat.ne_of_lt (Nat.lt_of_lt_of_le (by have := World.block_lt_of_cell? _ _ hw182_3; first | rwa [add_block] at this | exact this) GW183.out)) | (show (Addr.add _ _).block ≠ _; rw [add_block]; exact Nat.ne_of_lt (Nat.lt_of_lt_of_le (by have := World.block_lt_of_cell? _ _ hw182_3; first | rwa [add_block] at this | exact this) GW183.out)) | (dsimp only; exact Nat.ne_of_lt (Nat.lt_of_lt_of_le (by have := World.block_lt_of_cell? _ _ hw182_3; first | rwa [add_block] at this | exact this) GW183.out))) _).trans (((cell_far (p := ⟨gb183, _, none⟩) (by first | exact Nat.ne_of_lt (Nat.lt_of_lt_of_le (by have := World.block_lt_of_cell? _ _ hw182_3; first | rwa [add_block] at this | exact this) GW183.out) | (rw [add_block]; exact Nat.ne_of_lt (Nat.lt_of_lt_of_le (by have := World.block_lt_of_cell? _ _ hw182_3; first | rwa [add_block] at this | exact this) GW183.out)) | (show (Addr.add _ _).block ≠ _; rw [add_block]; exact Nat.ne_of_lt (Nat.lt_of_lt_of_le (by have := World.block_lt_of_cell? _ _ hw182_3; first | rwa [add_block] at this | exact this) GW183.out)) | (dsimp only; exact Nat.ne_of_lt (Nat.lt_of_lt_of_le (by have := World.block_lt_of_cell? _ _ hw182_3; first | rwa [add_block] at this | exact this) GW183.out))) _).trans (((cell_far (p := ⟨gb183, _, none⟩) (by first | exact Nat.ne_of_lt (Nat.lt_of_lt_of_le (by have := World.block_lt_of_cell? _ _ hw182_3; first | rwa [add_block] at this | exact this) GW183.out) | (rw [add_block]; exact Nat.ne_of_lt (Nat.lt_of_lt_of_le (by have := World.block_lt_of_cell? _ _ hw182_3; first | rwa [add_block] at this | exact this) GW183.out)) | (show (Addr.add _ _).block ≠ _; rw [add_block]; exact Nat.ne_of_lt (Nat.lt_of_lt_of_le (by have := World.block_lt_of_cell? _ _ hw182_3; first | rwa [add_block] at this | exact this) GW183.out)) | (dsimp only; exact Nat.ne_of_lt (Nat.lt_of_lt_of_le (by have := World.block_lt_of_cell? _ _ hw182_3; first | rwa [add_block] at this | exact this) GW183.out))) _).trans (hHeld.2.2.2.2.2.2.2))))))))⟩ (fun hHeld => ?_)
           clear hK K
           refine done_ (done_of HT_.out (by kernel_rfl)) ?_
           go_upto_region 12 with (fail)
           go_cut [78] (fun v78 wc => ∃ (kq : Nat) (x78_35 : Bool), v78 = .bool x78_35 ∧ Aside0 (impl_GoodRing.j2 kq (l0_0.length : Int) x4_2 x5_2 x78_35 l0_0 a0_1 a0_2 a0_3 ((rd_T26 l0_0 (ji33)).f0) ((rd_T26 l0_0 (ji33)).f1) ((rd_T26 l0_0 (ji33)).f2) ((rd_T26 l0_0 (ji33)).f3) = some r) ∧ Aside0 (kq ≤ k2) ∧ Aside0 (wc.heap[gb173]? = some (.cells #[(.slice (some ad182) l0_0.length c0_0), .int .i64 a0_1, .int .i64 a0_2, .int .i64 a0_3] 36 (0, 0))) ∧ Aside0 (wc.heap[gb183]? = some (.cells #[.int .i64 ((rd_T26 l0_0 (ji33)).f0), .int .i64 ((rd_T26 l0_0 (ji33)).f1), .string ((rd_T26 l0_0 (ji33)).f2), .int .i64 ((rd_T26 l0_0 (ji33)).f3)] 26 (0, 0))) ∧ Aside0 (Below w.heap.size w wc))
           case first =>
            have H := HC36.out
            clear HC36
            by_cases c44 : x5_2 < a0_3
            ·
             rw [if_pos c44] at H
             have c44b0 : decide (x5_2 < a0_3) = true := decide_eq_true c44
             clear c44
             (first | rw [c44b0] | (simp only [i64_w, i32_w]; rw [c44b0]) | (simp only [c44b2, Bool.not_false, Bool.not_true]) | skip)
             replace H := Option.bind_eq_some_iff.mp H
             obtain ⟨⟨t184, t185, t186, t187⟩, A450, H⟩ := H
             replace H : (impl_GoodRing.j2 k2 (l0_0.length : Int) x4_2 x5_2 (((rd_T26 l0_0 (ji33)).f0) == t184 && (((rd_T26 l0_0 (ji33)).f1) == t185 && ((((rd_T26 l0_0 (ji33)).f2).toList) == t186.toList && (((rd_T26 l0_0 (ji33)).f3) == t187)))) l0_0 a0_1 a0_2 a0_3 ((rd_T26 l0_0 (ji33)).f0) ((rd_T26 l0_0 (ji33)).f1) ((rd_T26 l0_0 (ji33)).f2) ((rd_T26 l0_0 (ji33)).f3)) = some r := H
             have A45 := Aside0.mk A450
             clear A450
             have H' := Aside0.mk H
             clear H
             try go_wp2
             have n0_ : Aside0 (((((w39.setCell ⟨gb183, 0, none⟩ (.int .i64 ((rd_T26 l0_0 (ji33)).f0))).setCell ⟨gb183, 1, none⟩ (.int .i64 ((rd_T26 l0_0 (ji33)).f1))).setCell ⟨gb183, 2, none⟩ (.string ((rd_T26 l0_0 (ji33)).f2))).setCell ⟨gb183, 3, none⟩ (.int .i64 ((rd_T26 l0_0 (ji33)).f3))).heap[gb173]? = some (.cells #[.slice (some ad182) l0_0.length c0_0, .int .i64 a0_1, .int .i64 a0_2, .int .i64 a0_3] 36 (0, 0))) := ⟨bf BK173 NB173_183⟩
             have n1_ : Aside0 (((((w39.setCell ⟨gb183, 0, none⟩ (.int .i64 ((rd_T26 l0_0 (ji33)).f0))).setCell ⟨gb183, 1, none⟩ (.int .i64 ((rd_T26 l0_0 (ji33)).f1))).setCell ⟨gb183, 2, none⟩ (.string ((rd_T26 l0_0 (ji33)).f2))).setCell ⟨gb183, 3, none⟩ (.int .i64 ((rd_T26 l0_0 (ji33)).f3))).heap[gb183]? = some (.cells #[.int .i64 ((rd_T26 l0_0 (ji33)).f0), .int .i64 ((rd_T26 l0_0 (ji33)).f1), .string ((rd_T26 l0_0 (ji33)).f2), .int .i64 ((rd_T26 l0_0 (ji33)).f3)] 26 (0, 0))) := ⟨by (with_reducible repeat (first | refine blk_drewN ?_ _ | refine blk_drew ?_ | refine blk_alloc ?_ _)); refine blk_put (cs := #[.int .i64 ((rd_T26 l0_0 (ji33)).f0), .int .i64 ((rd_T26 l0_0 (ji33)).f1), .string ((rd_T26 l0_0 (ji33)).f2), .int .i64 0]) ?_ 3 _ rfl; (with_reducible repeat (first | refine blk_drewN ?_ _ | refine blk_drew ?_ | refine blk_alloc ?_ _)); refine blk_put (cs := #[.int .i64 ((rd_T26 l0_0 (ji33)).f0), .int .i64 ((rd_T26 l0_0 (ji33)).f1), .string (⟨#[]⟩ : ByteArray), .int .i64 0]) ?_ 2 _ rfl; (with_reducible repeat (first | refine blk_drewN ?_ _ | refine blk_drew ?_ | refine blk_alloc ?_ _)); refine blk_put (cs := #[.int .i64 ((rd_T26 l0_0 (ji33)).f0), .int .i64 0, .string (⟨#[]⟩ : ByteArray), .int .i64 0]) ?_ 1 _ rfl; (with_reducible repeat (first | refine blk_drewN ?_ _ | refine blk_drew ?_ | refine blk_alloc ?_ _)); refine blk_put (cs := #[.int .i64 0, .int .i64 0, .string (⟨#[]⟩ : ByteArray), .int .i64 0]) ?_ 0 _ rfl; (with_reducible repeat (first | refine blk_drewN ?_ _ | refine blk_drew ?_ | refine blk_alloc ?_ _)); exact BK183.out⟩
             have n2_ : Aside0 (Below w.heap.size w ((((w39.setCell ⟨gb183, 0, none⟩ (.int .i64 ((rd_T26 l0_0 (ji33)).f0))).setCell ⟨gb183, 1, none⟩ (.int .i64 ((rd_T26 l0_0 (ji33)).f1))).setCell ⟨gb183, 2, none⟩ (.string ((rd_T26 l0_0 (ji33)).f2))).setCell ⟨gb183, 3, none⟩ (.int .i64 ((rd_T26 l0_0 (ji33)).f3)))) := ⟨bs2 HB GE173 GE183⟩
             (try clear BK173)
             (try clear BK183)
             (try clear HB)
             generalize ((((w39.setCell ⟨gb183, 0, none⟩ (.int .i64 ((rd_T26 l0_0 (ji33)).f0))).setCell ⟨gb183, 1, none⟩ (.int .i64 ((rd_T26 l0_0 (ji33)).f1))).setCell ⟨gb183, 2, none⟩ (.string ((rd_T26 l0_0 (ji33)).f2))).setCell ⟨gb183, 3, none⟩ (.int .i64 ((rd_T26 l0_0 (ji33)).f3))) = w46 at n0_ n1_ n2_ ⊢
             have BK173 := n0_
             have BK183 := n1_
             have HB := n2_
             clear n0_ n1_ n2_
             have n0_ := Aside0.mk (blk_drew BK173.out)
             have n1_ := Aside0.mk (blk_drew BK183.out)
             have n2_ := Aside0.mk (below_drew1 HB.out)
             clear BK173
             clear BK183
             clear HB
             have BK173 := n0_
             have BK183 := n1_
             have HB := n2_
             clear n0_ n1_ n2_
             refine start_ (n := 9) (S := fun w' => w'.cell? ⟨gb173, 0, none⟩ = some (.slice (some ad182) l0_0.length c0_0) ∧ w'.cell? ⟨gb173, 1, none⟩ = some (.int .i64 a0_1) ∧ w'.cell? ⟨gb173, 2, none⟩ = some (.int .i64 a0_2) ∧ w'.cell? ⟨gb173, 3, none⟩ = some (.int .i64 a0_3) ∧ w'.cell? ⟨gb183, 0, none⟩ = some (.int .i64 ((rd_T26 l0_0 (ji33)).f0)) ∧ w'.cell? ⟨gb183, 1, none⟩ = some (.int .i64 ((rd_T26 l0_0 (ji33)).f1)) ∧ w'.cell? ⟨gb183, 2, none⟩ = some (.string ((rd_T26 l0_0 (ji33)).f2)) ∧ w'.cell? ⟨gb183, 3, none⟩ = some (.int .i64 ((rd_T26 l0_0 (ji33)).f3))) (ds := []) #[false, false, false, false, false, false, false, false, false] (by kernel_rfl) rfl rfl ⟨(blk_cell BK173.out 0).trans rfl, (blk_cell BK173.out 1).trans rfl, (blk_cell BK173.out 2).trans rfl, (blk_cell BK173.out 3).trans rfl, (blk_cell BK183.out 0).trans rfl, (blk_cell BK183.out 1).trans rfl, (blk_cell BK183.out 2).trans rfl, (blk_cell BK183.out 3).trans rfl⟩ (fun hHeld => ?_); refine with_tabW impl_GoodRing.tab12 impl_GoodRing.bits12 (fun HT_ HW_ => ?_)
             generalize w46.drew = w47 at BK173 BK183 HB hHeld ⊢
             refine pureS 0 70 HT_.out ?_
             refine pureS 1 71 HT_.out ?_
             refine takeS 2 72 HT_.out HW_.out hHeld (hr := by rintro w' ⟨s0, s1, s2, s3, s4, s5, s6, s7⟩; go_simp; with_reducible rfl) (h := ?_)
             refine pureS 3 73 HT_.out ?_
             refine pureS 4 74 HT_.out ?_
             refine takeS 5 75 HT_.out HW_.out hHeld (hr := by rintro w' ⟨s0, s1, s2, s3, s4, s5, s6, s7⟩; go_simp; with_reducible rfl) (h := ?_)
             refine one_ (i := 6) (N := some 76) #[true, true, true, true, true, true, true, false, false] rfl rfl (one_of HT_.out (by kernel_rfl)) (by decide) (fun K hK => ?_)
             refine goes_ Tryd.func59 (by kernel_rfl) rfl #[] (by rfl) rfl rfl (by (try simp only [List.map_toArray, List.map_cons, List.map_nil]); first | done | rfl | (simp only [List.length_drop, List.length_take]; rfl)) ?_
             with_reducible refine (impl_zeroSlot.calls k2  t184 t185 t186 t187 _ ?sideT A45.out).mono ?_
             case sideT => refine ⟨Ito.tabB hTab_.out ?_⟩; first | exact bs HB | exact st_below | (repeat (first | (with_reducible first | exact HB.out | apply below_alloc | apply pw_below_drewN | apply below_drew1 | refine below_set ?_ (Aside0.out (by assumption))) | exact HB.out))
             rintro e w48 ⟨rfl, hb⟩
             refine ⟨_, rfl, ?_⟩
             have n0_ := Aside0.mk (bb BK173 hb)
             have n1_ := Aside0.mk (bb BK183 hb)
             have n2_ := Aside0.mk (below_step (bs2 HB GE173 GE183) hb)
             clear BK173
             clear BK183
             clear HB
             have BK173 := n0_
             have BK183 := n1_
             have HB := n2_
             clear n0_ n1_ n2_
             (try clear hb)
             (try clear hb2)
             (try clear hk)
             (try clear hi)
             refine hK.out _ _ ⟨(blk_cell BK173.out 0).trans rfl, (blk_cell BK173.out 1).trans rfl, (blk_cell BK173.out 2).trans rfl, (blk_cell BK173.out 3).trans rfl, (blk_cell BK183.out 0).trans rfl, (blk_cell BK183.out 1).trans rfl, (blk_cell BK183.out 2).trans rfl, (blk_cell BK183.out 3).trans rfl⟩ (fun hHeld => ?_)
             clear hK K
             refine norm_ (a' := ?_) ?_ ?_
             rotate_left
             ·
              show Act.put _ (some 76) _ = _
              simp only [Act.put, List.setIfInBounds_toArray, List.set_cons_zero, List.set_cons_succ, i64_w, i32_w]
              rfl
             refine pureS 7 77 HT_.out ?_
             refine pureS 8 78 HT_.out ?_
             refine done_ (done_of HT_.out (by kernel_rfl)) ?_
             try go_wp2
             go_meet
             case rel => exact ⟨_, ((((rd_T26 l0_0 (ji33)).f0) == t184 && (((rd_T26 l0_0 (ji33)).f1) == t185 && ((((rd_T26 l0_0 (ji33)).f2).toList) == t186.toList && (((rd_T26 l0_0 (ji33)).f3) == t187))))), (by first | rfl | (simp; done) | (simp only [← hji33] <;> (first | rfl | simp)) | (simp [*]; done)), H', ⟨by have := HJ1.out; have := HK2.out; first | omega | exact Nat.le_refl _⟩, ⟨bk BK173⟩, ⟨bk BK183⟩, ⟨bs2 HB GE173 GE183⟩⟩
            ·
             rw [if_neg c44] at H
             have c44b0 : decide (x5_2 < a0_3) = false := decide_eq_false c44
             clear c44
             (first | rw [c44b0] | (simp only [i64_w, i32_w]; rw [c44b0]) | (simp only [c44b2, Bool.not_false, Bool.not_true]) | skip)
             have H' := Aside0.mk H
             clear H
             try go_wp2
             have n0_ : Aside0 (((((w39.setCell ⟨gb183, 0, none⟩ (.int .i64 ((rd_T26 l0_0 (ji33)).f0))).setCell ⟨gb183, 1, none⟩ (.int .i64 ((rd_T26 l0_0 (ji33)).f1))).setCell ⟨gb183, 2, none⟩ (.string ((rd_T26 l0_0 (ji33)).f2))).setCell ⟨gb183, 3, none⟩ (.int .i64 ((rd_T26 l0_0 (ji33)).f3))).heap[gb173]? = some (.cells #[.slice (some ad182) l0_0.length c0_0, .int .i64 a0_1, .int .i64 a0_2, .int .i64 a0_3] 36 (0, 0))) := ⟨bf BK173 NB173_183⟩
             have n1_ : Aside0 (((((w39.setCell ⟨gb183, 0, none⟩ (.int .i64 ((rd_T26 l0_0 (ji33)).f0))).setCell ⟨gb183, 1, none⟩ (.int .i64 ((rd_T26 l0_0 (ji33)).f1))).setCell ⟨gb183, 2, none⟩ (.string ((rd_T26 l0_0 (ji33)).f2))).setCell ⟨gb183, 3, none⟩ (.int .i64 ((rd_T26 l0_0 (ji33)).f3))).heap[gb183]? = some (.cells #[.int .i64 ((rd_T26 l0_0 (ji33)).f0), .int .i64 ((rd_T26 l0_0 (ji33)).f1), .string ((rd_T26 l0_0 (ji33)).f2), .int .i64 ((rd_T26 l0_0 (ji33)).f3)] 26 (0, 0))) := ⟨by (with_reducible repeat (first | refine blk_drewN ?_ _ | refine blk_drew ?_ | refine blk_alloc ?_ _)); refine blk_put (cs := #[.int .i64 ((rd_T26 l0_0 (ji33)).f0), .int .i64 ((rd_T26 l0_0 (ji33)).f1), .string ((rd_T26 l0_0 (ji33)).f2), .int .i64 0]) ?_ 3 _ rfl; (with_reducible repeat (first | refine blk_drewN ?_ _ | refine blk_drew ?_ | refine blk_alloc ?_ _)); refine blk_put (cs := #[.int .i64 ((rd_T26 l0_0 (ji33)).f0), .int .i64 ((rd_T26 l0_0 (ji33)).f1), .string (⟨#[]⟩ : ByteArray), .int .i64 0]) ?_ 2 _ rfl; (with_reducible repeat (first | refine blk_drewN ?_ _ | refine blk_drew ?_ | refine blk_alloc ?_ _)); refine blk_put (cs := #[.int .i64 ((rd_T26 l0_0 (ji33)).f0), .int .i64 0, .string (⟨#[]⟩ : ByteArray), .int .i64 0]) ?_ 1 _ rfl; (with_reducible repeat (first | refine blk_drewN ?_ _ | refine blk_drew ?_ | refine blk_alloc ?_ _)); refine blk_put (cs := #[.int .i64 0, .int .i64 0, .string (⟨#[]⟩ : ByteArray), .int .i64 0]) ?_ 0 _ rfl; (with_reducible repeat (first | refine blk_drewN ?_ _ | refine blk_drew ?_ | refine blk_alloc ?_ _)); exact BK183.out⟩
             have n2_ : Aside0 (Below w.heap.size w ((((w39.setCell ⟨gb183, 0, none⟩ (.int .i64 ((rd_T26 l0_0 (ji33)).f0))).setCell ⟨gb183, 1, none⟩ (.int .i64 ((rd_T26 l0_0 (ji33)).f1))).setCell ⟨gb183, 2, none⟩ (.string ((rd_T26 l0_0 (ji33)).f2))).setCell ⟨gb183, 3, none⟩ (.int .i64 ((rd_T26 l0_0 (ji33)).f3)))) := ⟨bs2 HB GE173 GE183⟩
             (try clear BK173)
             (try clear BK183)
             (try clear HB)
             generalize ((((w39.setCell ⟨gb183, 0, none⟩ (.int .i64 ((rd_T26 l0_0 (ji33)).f0))).setCell ⟨gb183, 1, none⟩ (.int .i64 ((rd_T26 l0_0 (ji33)).f1))).setCell ⟨gb183, 2, none⟩ (.string ((rd_T26 l0_0 (ji33)).f2))).setCell ⟨gb183, 3, none⟩ (.int .i64 ((rd_T26 l0_0 (ji33)).f3))) = w49 at n0_ n1_ n2_ ⊢
             have BK173 := n0_
             have BK183 := n1_
             have HB := n2_
             clear n0_ n1_ n2_
             have n0_ := Aside0.mk (blk_drew BK173.out)
             have n1_ := Aside0.mk (blk_drew BK183.out)
             have n2_ := Aside0.mk (below_drew1 HB.out)
             clear BK173
             clear BK183
             clear HB
             have BK173 := n0_
             have BK183 := n1_
             have HB := n2_
             clear n0_ n1_ n2_
             refine start_ (n := 9) (S := fun w' => w'.cell? ⟨gb173, 0, none⟩ = some (.slice (some ad182) l0_0.length c0_0) ∧ w'.cell? ⟨gb173, 1, none⟩ = some (.int .i64 a0_1) ∧ w'.cell? ⟨gb173, 2, none⟩ = some (.int .i64 a0_2) ∧ w'.cell? ⟨gb173, 3, none⟩ = some (.int .i64 a0_3)) (ds := []) #[false, false, false, false, false, false, false, false, false] (by kernel_rfl) rfl rfl ⟨(blk_cell BK173.out 0).trans rfl, (blk_cell BK173.out 1).trans rfl, (blk_cell BK173.out 2).trans rfl, (blk_cell BK173.out 3).trans rfl⟩ (fun hHeld => ?_); refine with_tabW impl_GoodRing.tab12 impl_GoodRing.bits12 (fun HT_ HW_ => ?_)
             generalize w49.drew = w50 at BK173 BK183 HB hHeld ⊢
             refine pureS 0 70 HT_.out ?_
             refine pureS 1 71 HT_.out ?_
             refine takeS 2 72 HT_.out HW_.out hHeld (hr := by rintro w' ⟨s0, s1, s2, s3⟩; go_simp; with_reducible rfl) (h := ?_)
             refine pureS 3 73 HT_.out ?_
             refine pureS 4 74 HT_.out ?_
             refine pureU 5 75 HT_.out ?_
             refine pureU 6 76 HT_.out ?_
             refine pureU 7 77 HT_.out ?_
             refine pureS 8 78 HT_.out ?_
             refine done_ (done_of HT_.out (by kernel_rfl)) ?_
             try go_wp2
             go_meet
             case rel => exact ⟨_, (false), (by first | rfl | (simp; done) | (simp [*]; done)), H', ⟨by have := HJ1.out; have := HK2.out; first | omega | exact Nat.le_refl _⟩, ⟨bk BK173⟩, ⟨bk BK183⟩, ⟨bs2 HB GE173 GE183⟩⟩
           case rest =>
            clear HC36
            try clear p1
            try clear q1
            try clear hx1
            try clear c2
            try clear p2
            try clear c3
            try clear c4
            try clear c5
            try clear p6
            try clear p17
            try clear q17
            try clear hx17
            try clear p18
            try clear q18
            try clear hx18
            try clear c20
            try clear c20b0
            try clear c22
            try clear c23
            try clear c25
            try clear c25b0
            try clear c32
            try clear c32b0
            try clear c32b1
            try clear c32b2
            try clear c34
            try clear c34b0
            try clear c35
            try clear c35b0
            try clear c44
            try clear c44b0
            try clear hcz29_0 hcz29_1 hcz29_2 hcz29_3
            try clear hcz37_0 hcz37_1 hcz37_2 hcz37_3
            try clear hfz29_0 hfz29_1 hfz29_2 hfz29_3
            try clear hfz37_0 hfz37_1 hfz37_2 hfz37_3
            try clear hx177_0
            try clear hx177_1
            try clear hx177_2
            try clear hx177_3
            try clear hx182_0
            try clear hx182_1
            try clear hx182_2
            try clear hx182_3
            try clear p177
            try clear p182
            try clear q177
            try clear q182
            obtain ⟨kq, x78_35, rfl, HA, HJ35, BK173, BK183, HB⟩ := hcut
            cases kq with
            | zero => exact absurd HA.out (by simp [impl_GoodRing.j2])
            | succ kj35 =>
             have H := HA.out
             clear HA
             simp only [impl_GoodRing.j2] at H
             by_cases c51 : x78_35 = true
             ·
              subst c51
              rw [if_pos rfl] at H
              have H' := Aside0.mk H
              clear H
              go_wp2
              go_roundg kj35
              case measure => have := HJ1.out; have := HK2.out; have := HJ35.out; omega
              case rel => exact ⟨(x4_2), (wrap64 (x5_2 + 1)), (by first | rfl | (simp; done) | (simp [*]; done)), (by first | rfl | (simp; done) | (simp [*]; done)), H', ⟨by have := HJ1.out; have := HK2.out; have := HJ35.out; omega⟩, ⟨bk BK173⟩, ⟨bs2 HB GE173 GE183⟩⟩
             ·
              replace c51 := Bool.eq_false_iff.mpr c51
              subst c51
              rw [if_neg (show ¬ (false = true) by decide)] at H
              replace H := Option.bind_eq_some_iff.mp H
              obtain ⟨t188, A520, H⟩ := H
              replace H : (if t188 = true then (if (l0_0.length : Int) = 0 then (none) else (if ((rd_T26 l0_0 (ji33)).f0) = (wrap64 ((wrap64 (Int.tdiv x5_2 (l0_0.length : Int))) + 1)) then (if ((rd_T26 l0_0 (ji33)).f1) > x5_2 then (some false) else (if ((rd_T26 l0_0 (ji33)).f1) > a0_3 then (some false) else (if ((rd_T26 l0_0 (ji33)).f1) < x4_2 then (some false) else (impl_GoodRing.l0 kj35 (l0_0.length : Int) ((rd_T26 l0_0 (ji33)).f1) (wrap64 (x5_2 + 1)) l0_0 a0_1 a0_2 a0_3)))) else (some false))) else (some false)) = some r := H
              have A52 := Aside0.mk A520
              clear A520
              by_cases c53 : t188 = true
              ·
               subst c53
               rw [if_pos rfl] at H
               by_cases c54 : (l0_0.length : Int) = 0
               ·
                rw [if_pos c54] at H
                exact absurd H (by simp)
               ·
                rw [if_neg c54] at H
                have c54b0 : ((l0_0.length : Int) == 0) = false := beq_eq_false_iff_ne.mpr c54
                have c54b1 : ((l0_0.length : Int) != 0) = true := bne_iff_ne.mpr c54
                have c54b2 : ¬ (l0_0 = []) := fun h_ => c54 (by rw [h_]; rfl)
                by_cases c55 : ((rd_T26 l0_0 (ji33)).f0) = (wrap64 ((wrap64 (Int.tdiv x5_2 (l0_0.length : Int))) + 1))
                ·
                 rw [if_pos c55] at H
                 have c55b0 : (((rd_T26 l0_0 (ji33)).f0) == (wrap64 ((wrap64 (Int.tdiv x5_2 (l0_0.length : Int))) + 1))) = true := beq_iff_eq.mpr c55
                 have c55b1 : (((rd_T26 l0_0 (ji33)).f0) != (wrap64 ((wrap64 (Int.tdiv x5_2 (l0_0.length : Int))) + 1))) = false := bne_eq_false_iff_eq.mpr c55
                 clear c55
                 by_cases c56 : ((rd_T26 l0_0 (ji33)).f1) > x5_2
                 ·
                  rw [if_pos c56] at H
                  have c56b0 : decide (x5_2 < ((rd_T26 l0_0 (ji33)).f1)) = true := decide_eq_true c56
                  clear c56
                  obtain rfl := Option.some.inj H
                  try go_wp2
                  have n0_ := Aside0.mk (blk_drew BK173.out)
                  have n1_ := Aside0.mk (blk_drew BK183.out)
                  have n2_ := Aside0.mk (below_drew1 HB.out)
                  clear BK173
                  clear BK183
                  clear HB
                  have BK173 := n0_
                  have BK183 := n1_
                  have HB := n2_
                  clear n0_ n1_ n2_
                  refine start_ (n := 31) (S := fun w' => w'.cell? ⟨gb183, 0, none⟩ = some (.int .i64 ((rd_T26 l0_0 (ji33)).f0)) ∧ w'.cell? ⟨gb183, 1, none⟩ = some (.int .i64 ((rd_T26 l0_0 (ji33)).f1)) ∧ w'.cell? ⟨gb183, 2, none⟩ = some (.string ((rd_T26 l0_0 (ji33)).f2)) ∧ w'.cell? ⟨gb183, 3, none⟩ = some (.int .i64 ((rd_T26 l0_0 (ji33)).f3))) (ds := []) #[false, false, false, false, false, false, false, false, false, false, false, false, false, false, false, false, false, false, false, false, false, false, false, false, false, false, false, false, false, false, false] (by kernel_rfl) rfl rfl ⟨(blk_cell BK183.out 0).trans rfl, (blk_cell BK183.out 1).trans rfl, (blk_cell BK183.out 2).trans rfl, (blk_cell BK183.out 3).trans rfl⟩ (fun hHeld => ?_); refine with_tabW impl_GoodRing.tab13 impl_GoodRing.bits13 (fun HT_ HW_ => ?_)
                  generalize wc.drew = w57 at BK173 BK183 HB hHeld ⊢
                  refine takeS 0 79 HT_.out HW_.out hHeld (hr := by rintro w' ⟨s0, s1, s2, s3⟩; go_simp; with_reducible rfl) (h := ?_)
                  refine one_ (i := 1) (N := some 80) #[true, true, false, false, false, false, false, false, false, false, false, false, false, false, false, false, false, false, false, false, false, false, false, false, false, false, false, false, false, false, false] rfl rfl (one_of HT_.out (by kernel_rfl)) (by decide) (fun K hK => ?_)
                  refine goes_ Tryd.func60 (by kernel_rfl) rfl #[.agg #[.int .i64 ((rd_T26 l0_0 (ji33)).f0), .int .i64 ((rd_T26 l0_0 (ji33)).f1), .string ((rd_T26 l0_0 (ji33)).f2), .int .i64 ((rd_T26 l0_0 (ji33)).f3)]] (by rfl) rfl rfl (by (try simp only [List.map_toArray, List.map_cons, List.map_nil]); first | done | (simp only [hji33]; rfl) | rfl | (simp only [List.length_drop, List.length_take]; rfl)) ?_
                  with_reducible refine (impl_isIntact.calls kj35 ((rd_T26 l0_0 (ji33)).f0) ((rd_T26 l0_0 (ji33)).f1) ((rd_T26 l0_0 (ji33)).f2) ((rd_T26 l0_0 (ji33)).f3) true _ ?sideT A52.out).mono ?_
                  case sideT => refine ⟨Ito.tabB hTab_.out ?_⟩; first | exact bs HB | exact st_below | (repeat (first | (with_reducible first | exact HB.out | apply below_alloc | apply pw_below_drewN | apply below_drew1 | refine below_set ?_ (Aside0.out (by assumption))) | exact HB.out))
                  rintro e w58 ⟨rfl, hb⟩
                  refine ⟨_, rfl, ?_⟩
                  have n0_ := Aside0.mk (bb BK173 hb)
                  have n1_ := Aside0.mk (bb BK183 hb)
                  have n2_ := Aside0.mk (below_step (bs2 HB GE173 GE183) hb)
                  clear BK173
                  clear BK183
                  clear HB
                  have BK173 := n0_
                  have BK183 := n1_
                  have HB := n2_
                  clear n0_ n1_ n2_
                  (try clear hb)
                  (try clear hb2)
                  (try clear hk)
                  (try clear hi)
                  refine hK.out _ _ ⟨(blk_cell BK183.out 0).trans rfl, (blk_cell BK183.out 1).trans rfl, (blk_cell BK183.out 2).trans rfl, (blk_cell BK183.out 3).trans rfl⟩ (fun hHeld => ?_)
                  clear hK K
                  refine norm_ (a' := ?_) ?_ ?_
                  rotate_left
                  ·
                   show Act.put _ (some 80) _ = _
                   simp only [Act.put, List.setIfInBounds_toArray, List.set_cons_zero, List.set_cons_succ, i64_w, i32_w]
                   rfl
                  refine pureS 2 81 HT_.out ?_
                  refine pureS 3 82 HT_.out ?_
                  refine pureS 4 83 HT_.out ?_
                  refine pureS 6 85 HT_.out ?_
                  refine pureS 7 86 HT_.out ?_
                  refine pureS 8 87 HT_.out ?_
                  refine pureS 9 88 HT_.out ?_
                  refine takeS 5 84 HT_.out HW_.out hHeld (hr := by rintro w' ⟨s0, s1, s2, s3⟩; go_simp; with_reducible rfl) (h := ?_)
                  refine pureS 10 89 HT_.out ?_
                  refine pureS 11 90 HT_.out ?_
                  refine pureS 12 91 HT_.out ?_
                  refine pureS 13 92 HT_.out ?_
                  refine pureS 15 94 HT_.out ?_
                  refine takeS 14 93 HT_.out HW_.out hHeld (hr := by rintro w' ⟨s0, s1, s2, s3⟩; go_simp; with_reducible rfl) (h := ?_)
                  refine pureS 16 95 HT_.out ?_
                  refine pureS 17 96 HT_.out ?_
                  refine pureS 18 97 HT_.out ?_
                  refine pureU 19 98 HT_.out ?_
                  refine pureU 20 99 HT_.out ?_
                  refine pureU 21 100 HT_.out ?_
                  refine pureU 22 101 HT_.out ?_
                  refine pureU 23 102 HT_.out ?_
                  refine pureS 24 103 HT_.out ?_
                  refine pureS 25 104 HT_.out ?_
                  refine pureU 26 105 HT_.out ?_
                  refine pureU 27 106 HT_.out ?_
                  refine pureU 28 107 HT_.out ?_
                  refine pureU 29 108 HT_.out ?_
                  refine pureS 30 109 HT_.out ?_
                  refine done_ (done_of HT_.out (by kernel_rfl)) ?_
                  try go_wp2
                  go_ret
                  exact ⟨by first | rfl | (simp [errW_none, errW_some] <;> rfl) | (simp only [← hji33]; first | rfl | (simp [errW_none, errW_some] <;> rfl)) | (simp [*, errW_none, errW_some] <;> rfl), bs2 HB GE173 GE183⟩
                 ·
                  rw [if_neg c56] at H
                  have c56b0 : decide (x5_2 < ((rd_T26 l0_0 (ji33)).f1)) = false := decide_eq_false c56
                  clear c56
                  by_cases c59 : ((rd_T26 l0_0 (ji33)).f1) > a0_3
                  ·
                   rw [if_pos c59] at H
                   have c59b0 : decide (a0_3 < ((rd_T26 l0_0 (ji33)).f1)) = true := decide_eq_true c59
                   clear c59
                   obtain rfl := Option.some.inj H
                   try go_wp2
                   have n0_ := Aside0.mk (blk_drew BK173.out)
                   have n1_ := Aside0.mk (blk_drew BK183.out)
                   have n2_ := Aside0.mk (below_drew1 HB.out)
                   clear BK173
                   clear BK183
                   clear HB
                   have BK173 := n0_
                   have BK183 := n1_
                   have HB := n2_
                   clear n0_ n1_ n2_
                   refine start_ (n := 31) (S := fun w' => w'.cell? ⟨gb183, 0, none⟩ = some (.int .i64 ((rd_T26 l0_0 (ji33)).f0)) ∧ w'.cell? ⟨gb183, 1, none⟩ = some (.int .i64 ((rd_T26 l0_0 (ji33)).f1)) ∧ w'.cell? ⟨gb183, 2, none⟩ = some (.string ((rd_T26 l0_0 (ji33)).f2)) ∧ w'.cell? ⟨gb183, 3, none⟩ = some (.int .i64 ((rd_T26 l0_0 (ji33)).f3)) ∧ w'.cell? ⟨gb173, 0, none⟩ = some (.slice (some ad182) l0_0.length c0_0) ∧ w'.cell? ⟨gb173, 1, none⟩ = some (.int .i64 a0_1) ∧ w'.cell? ⟨gb173, 2, none⟩ = some (.int .i64 a0_2) ∧ w'.cell? ⟨gb173, 3, none⟩ = some (.int .i64 a0_3)) (ds := []) #[false, false, false, false, false, false, false, false, false, false, false, false, false, false, false, false, false, false, false, false, false, false, false, false, false, false, false, false, false, false, false] (by kernel_rfl) rfl rfl ⟨(blk_cell BK183.out 0).trans rfl, (blk_cell BK183.out 1).trans rfl, (blk_cell BK183.out 2).trans rfl, (blk_cell BK183.out 3).trans rfl, (blk_cell BK173.out 0).trans rfl, (blk_cell BK173.out 1).trans rfl, (blk_cell BK173.out 2).trans rfl, (blk_cell BK173.out 3).trans rfl⟩ (fun hHeld => ?_); refine with_tabW impl_GoodRing.tab13 impl_GoodRing.bits13 (fun HT_ HW_ => ?_)
                   generalize wc.drew = w60 at BK173 BK183 HB hHeld ⊢
                   refine takeS 0 79 HT_.out HW_.out hHeld (hr := by rintro w' ⟨s0, s1, s2, s3, s4, s5, s6, s7⟩; go_simp; with_reducible rfl) (h := ?_)
                   refine one_ (i := 1) (N := some 80) #[true, true, false, false, false, false, false, false, false, false, false, false, false, false, false, false, false, false, false, false, false, false, false, false, false, false, false, false, false, false, false] rfl rfl (one_of HT_.out (by kernel_rfl)) (by decide) (fun K hK => ?_)
                   refine goes_ Tryd.func60 (by kernel_rfl) rfl #[.agg #[.int .i64 ((rd_T26 l0_0 (ji33)).f0), .int .i64 ((rd_T26 l0_0 (ji33)).f1), .string ((rd_T26 l0_0 (ji33)).f2), .int .i64 ((rd_T26 l0_0 (ji33)).f3)]] (by rfl) rfl rfl (by (try simp only [List.map_toArray, List.map_cons, List.map_nil]); first | done | (simp only [hji33]; rfl) | rfl | (simp only [List.length_drop, List.length_take]; rfl)) ?_
                   with_reducible refine (impl_isIntact.calls kj35 ((rd_T26 l0_0 (ji33)).f0) ((rd_T26 l0_0 (ji33)).f1) ((rd_T26 l0_0 (ji33)).f2) ((rd_T26 l0_0 (ji33)).f3) true _ ?sideT A52.out).mono ?_
                   case sideT => refine ⟨Ito.tabB hTab_.out ?_⟩; first | exact bs HB | exact st_below | (repeat (first | (with_reducible first | exact HB.out | apply below_alloc | apply pw_below_drewN | apply below_drew1 | refine below_set ?_ (Aside0.out (by assumption))) | exact HB.out))
                   rintro e w61 ⟨rfl, hb⟩
                   refine ⟨_, rfl, ?_⟩
                   have n0_ := Aside0.mk (bb BK173 hb)
                   have n1_ := Aside0.mk (bb BK183 hb)
                   have n2_ := Aside0.mk (below_step (bs2 HB GE173 GE183) hb)
                   clear BK173
                   clear BK183
                   clear HB
                   have BK173 := n0_
                   have BK183 := n1_
                   have HB := n2_
                   clear n0_ n1_ n2_
                   (try clear hb)
                   (try clear hb2)
                   (try clear hk)
                   (try clear hi)
                   refine hK.out _ _ ⟨(blk_cell BK183.out 0).trans rfl, (blk_cell BK183.out 1).trans rfl, (blk_cell BK183.out 2).trans rfl, (blk_cell BK183.out 3).trans rfl, (blk_cell BK173.out 0).trans rfl, (blk_cell BK173.out 1).trans rfl, (blk_cell BK173.out 2).trans rfl, (blk_cell BK173.out 3).trans rfl⟩ (fun hHeld => ?_)
                   clear hK K
                   refine norm_ (a' := ?_) ?_ ?_
                   rotate_left
                   ·
                    show Act.put _ (some 80) _ = _
                    simp only [Act.put, List.setIfInBounds_toArray, List.set_cons_zero, List.set_cons_succ, i64_w, i32_w]
                    rfl
                   refine pureS 2 81 HT_.out ?_
                   refine pureS 3 82 HT_.out ?_
                   refine pureS 4 83 HT_.out ?_
                   refine pureS 6 85 HT_.out ?_
                   refine pureS 7 86 HT_.out ?_
                   refine pureS 8 87 HT_.out ?_
                   refine pureS 9 88 HT_.out ?_
                   refine takeS 5 84 HT_.out HW_.out hHeld (hr := by rintro w' ⟨s0, s1, s2, s3, s4, s5, s6, s7⟩; go_simp; with_reducible rfl) (h := ?_)
                   refine pureS 10 89 HT_.out ?_
                   refine pureS 11 90 HT_.out ?_
                   refine pureS 12 91 HT_.out ?_
                   refine pureS 13 92 HT_.out ?_
                   refine pureS 15 94 HT_.out ?_
                   refine takeS 14 93 HT_.out HW_.out hHeld (hr := by rintro w' ⟨s0, s1, s2, s3, s4, s5, s6, s7⟩; go_simp; with_reducible rfl) (h := ?_)
                   refine pureS 16 95 HT_.out ?_
                   refine pureS 17 96 HT_.out ?_
                   refine pureS 18 97 HT_.out ?_
                   refine pureS 19 98 HT_.out ?_
                   refine pureS 21 100 HT_.out ?_
                   refine takeS 20 99 HT_.out HW_.out hHeld (hr := by rintro w' ⟨s0, s1, s2, s3, s4, s5, s6, s7⟩; go_simp; with_reducible rfl) (h := ?_)
                   refine takeS 22 101 HT_.out HW_.out hHeld (hr := by rintro w' ⟨s0, s1, s2, s3, s4, s5, s6, s7⟩; go_simp; with_reducible rfl) (h := ?_)
                   refine pureS 23 102 HT_.out ?_
                   refine pureS 24 103 HT_.out ?_
                   refine pureS 25 104 HT_.out ?_
                   refine pureU 26 105 HT_.out ?_
                   refine pureU 27 106 HT_.out ?_
                   refine pureU 28 107 HT_.out ?_
                   refine pureU 29 108 HT_.out ?_
                   refine pureS 30 109 HT_.out ?_
                   refine done_ (done_of HT_.out (by kernel_rfl)) ?_
                   try go_wp2
                   go_ret
                   exact ⟨by first | rfl | (simp [errW_none, errW_some] <;> rfl) | (simp only [← hji33]; first | rfl | (simp [errW_none, errW_some] <;> rfl)) | (simp [*, errW_none, errW_some] <;> rfl), bs2 HB GE173 GE183⟩
                  ·
                   rw [if_neg c59] at H
                   have c59b0 : decide (a0_3 < ((rd_T26 l0_0 (ji33)).f1)) = false := decide_eq_false c59
                   clear c59
                   by_cases c62 : ((rd_T26 l0_0 (ji33)).f1) < x4_2
                   ·
                    rw [if_pos c62] at H
                    have c62b0 : decide (((rd_T26 l0_0 (ji33)).f1) < x4_2) = true := decide_eq_true c62
                    clear c62
                    obtain rfl := Option.some.inj H
                    try go_wp2
                    have n0_ := Aside0.mk (blk_drew BK173.out)
                    have n1_ := Aside0.mk (blk_drew BK183.out)
                    have n2_ := Aside0.mk (below_drew1 HB.out)
                    clear BK173
                    clear BK183
                    clear HB
                    have BK173 := n0_
                    have BK183 := n1_
                    have HB := n2_
                    clear n0_ n1_ n2_
                    refine start_ (n := 31) (S := fun w' => w'.cell? ⟨gb183, 0, none⟩ = some (.int .i64 ((rd_T26 l0_0 (ji33)).f0)) ∧ w'.cell? ⟨gb183, 1, none⟩ = some (.int .i64 ((rd_T26 l0_0 (ji33)).f1)) ∧ w'.cell? ⟨gb183, 2, none⟩ = some (.string ((rd_T26 l0_0 (ji33)).f2)) ∧ w'.cell? ⟨gb183, 3, none⟩ = some (.int .i64 ((rd_T26 l0_0 (ji33)).f3)) ∧ w'.cell? ⟨gb173, 0, none⟩ = some (.slice (some ad182) l0_0.length c0_0) ∧ w'.cell? ⟨gb173, 1, none⟩ = some (.int .i64 a0_1) ∧ w'.cell? ⟨gb173, 2, none⟩ = some (.int .i64 a0_2) ∧ w'.cell? ⟨gb173, 3, none⟩ = some (.int .i64 a0_3)) (ds := []) #[false, false, false, false, false, false, false, false, false, false, false, false, false, false, false, false, false, false, false, false, false, false, false, false, false, false, false, false, false, false, false] (by kernel_rfl) rfl rfl ⟨(blk_cell BK183.out 0).trans rfl, (blk_cell BK183.out 1).trans rfl, (blk_cell BK183.out 2).trans rfl, (blk_cell BK183.out 3).trans rfl, (blk_cell BK173.out 0).trans rfl, (blk_cell BK173.out 1).trans rfl, (blk_cell BK173.out 2).trans rfl, (blk_cell BK173.out 3).trans rfl⟩ (fun hHeld => ?_); refine with_tabW impl_GoodRing.tab13 impl_GoodRing.bits13 (fun HT_ HW_ => ?_)
                    generalize wc.drew = w63 at BK173 BK183 HB hHeld ⊢
                    refine takeS 0 79 HT_.out HW_.out hHeld (hr := by rintro w' ⟨s0, s1, s2, s3, s4, s5, s6, s7⟩; go_simp; with_reducible rfl) (h := ?_)
                    refine one_ (i := 1) (N := some 80) #[true, true, false, false, false, false, false, false, false, false, false, false, false, false, false, false, false, false, false, false, false, false, false, false, false, false, false, false, false, false, false] rfl rfl (one_of HT_.out (by kernel_rfl)) (by decide) (fun K hK => ?_)
                    refine goes_ Tryd.func60 (by kernel_rfl) rfl #[.agg #[.int .i64 ((rd_T26 l0_0 (ji33)).f0), .int .i64 ((rd_T26 l0_0 (ji33)).f1), .string ((rd_T26 l0_0 (ji33)).f2), .int .i64 ((rd_T26 l0_0 (ji33)).f3)]] (by rfl) rfl rfl (by (try simp only [List.map_toArray, List.map_cons, List.map_nil]); first | done | (simp only [hji33]; rfl) | rfl | (simp only [List.length_drop, List.length_take]; rfl)) ?_
                    with_reducible refine (impl_isIntact.calls kj35 ((rd_T26 l0_0 (ji33)).f0) ((rd_T26 l0_0 (ji33)).f1) ((rd_T26 l0_0 (ji33)).f2) ((rd_T26 l0_0 (ji33)).f3) true _ ?sideT A52.out).mono ?_
                    case sideT => refine ⟨Ito.tabB hTab_.out ?_⟩; first | exact bs HB | exact st_below | (repeat (first | (with_reducible first | exact HB.out | apply below_alloc | apply pw_below_drewN | apply below_drew1 | refine below_set ?_ (Aside0.out (by assumption))) | exact HB.out))
                    rintro e w64 ⟨rfl, hb⟩
                    refine ⟨_, rfl, ?_⟩
                    have n0_ := Aside0.mk (bb BK173 hb)
                    have n1_ := Aside0.mk (bb BK183 hb)
                    have n2_ := Aside0.mk (below_step (bs2 HB GE173 GE183) hb)
                    clear BK173
                    clear BK183
                    clear HB
                    have BK173 := n0_
                    have BK183 := n1_
                    have HB := n2_
                    clear n0_ n1_ n2_
                    (try clear hb)
                    (try clear hb2)
                    (try clear hk)
                    (try clear hi)
                    refine hK.out _ _ ⟨(blk_cell BK183.out 0).trans rfl, (blk_cell BK183.out 1).trans rfl, (blk_cell BK183.out 2).trans rfl, (blk_cell BK183.out 3).trans rfl, (blk_cell BK173.out 0).trans rfl, (blk_cell BK173.out 1).trans rfl, (blk_cell BK173.out 2).trans rfl, (blk_cell BK173.out 3).trans rfl⟩ (fun hHeld => ?_)
                    clear hK K
                    refine norm_ (a' := ?_) ?_ ?_
                    rotate_left
                    ·
                     show Act.put _ (some 80) _ = _
                     simp only [Act.put, List.setIfInBounds_toArray, List.set_cons_zero, List.set_cons_succ, i64_w, i32_w]
                     rfl
                    refine pureS 2 81 HT_.out ?_
                    refine pureS 3 82 HT_.out ?_
                    refine pureS 4 83 HT_.out ?_
                    refine pureS 6 85 HT_.out ?_
                    refine pureS 7 86 HT_.out ?_
                    refine pureS 8 87 HT_.out ?_
                    refine pureS 9 88 HT_.out ?_
                    refine takeS 5 84 HT_.out HW_.out hHeld (hr := by rintro w' ⟨s0, s1, s2, s3, s4, s5, s6, s7⟩; go_simp; with_reducible rfl) (h := ?_)
                    refine pureS 10 89 HT_.out ?_
                    refine pureS 11 90 HT_.out ?_
                    refine pureS 12 91 HT_.out ?_
                    refine pureS 13 92 HT_.out ?_
                    refine pureS 15 94 HT_.out ?_
                    refine takeS 14 93 HT_.out HW_.out hHeld (hr := by rintro w' ⟨s0, s1, s2, s3, s4, s5, s6, s7⟩; go_simp; with_reducible rfl) (h := ?_)
                    refine pureS 16 95 HT_.out ?_
                    refine pureS 17 96 HT_.out ?_
                    refine pureS 18 97 HT_.out ?_
                    refine pureS 19 98 HT_.out ?_
                    refine pureS 21 100 HT_.out ?_
                    refine takeS 20 99 HT_.out HW_.out hHeld (hr := by rintro w' ⟨s0, s1, s2, s3, s4, s5, s6, s7⟩; go_simp; with_reducible rfl) (h := ?_)
                    refine takeS 22 101 HT_.out HW_.out hHeld (hr := by rintro w' ⟨s0, s1, s2, s3, s4, s5, s6, s7⟩; go_simp; with_reducible rfl) (h := ?_)
                    refine pureS 23 102 HT_.out ?_
                    refine pureS 24 103 HT_.out ?_
                    refine pureS 25 104 HT_.out ?_
                    refine pureS 26 105 HT_.out ?_
                    refine pureS 28 107 HT_.out ?_
                    refine takeS 27 106 HT_.out HW_.out hHeld (hr := by rintro w' ⟨s0, s1, s2, s3, s4, s5, s6, s7⟩; go_simp; with_reducible rfl) (h := ?_)
                    refine pureS 29 108 HT_.out ?_
                    refine pureS 30 109 HT_.out ?_
                    refine done_ (done_of HT_.out (by kernel_rfl)) ?_
                    try go_wp2
                    go_ret
                    exact ⟨by first | rfl | (simp [errW_none, errW_some] <;> rfl) | (simp only [← hji33]; first | rfl | (simp [errW_none, errW_some] <;> rfl)) | (simp [*, errW_none, errW_some] <;> rfl), bs2 HB GE173 GE183⟩
                   ·
                    rw [if_neg c62] at H
                    have c62b0 : decide (((rd_T26 l0_0 (ji33)).f1) < x4_2) = false := decide_eq_false c62
                    clear c62
                    have H' := Aside0.mk H
                    clear H
                    try go_wp2
                    have n0_ := Aside0.mk (blk_drew BK173.out)
                    have n1_ := Aside0.mk (blk_drew BK183.out)
                    have n2_ := Aside0.mk (below_drew1 HB.out)
                    clear BK173
                    clear BK183
                    clear HB
                    have BK173 := n0_
                    have BK183 := n1_
                    have HB := n2_
                    clear n0_ n1_ n2_
                    refine start_ (n := 31) (S := fun w' => w'.cell? ⟨gb183, 0, none⟩ = some (.int .i64 ((rd_T26 l0_0 (ji33)).f0)) ∧ w'.cell? ⟨gb183, 1, none⟩ = some (.int .i64 ((rd_T26 l0_0 (ji33)).f1)) ∧ w'.cell? ⟨gb183, 2, none⟩ = some (.string ((rd_T26 l0_0 (ji33)).f2)) ∧ w'.cell? ⟨gb183, 3, none⟩ = some (.int .i64 ((rd_T26 l0_0 (ji33)).f3)) ∧ w'.cell? ⟨gb173, 0, none⟩ = some (.slice (some ad182) l0_0.length c0_0) ∧ w'.cell? ⟨gb173, 1, none⟩ = some (.int .i64 a0_1) ∧ w'.cell? ⟨gb173, 2, none⟩ = some (.int .i64 a0_2) ∧ w'.cell? ⟨gb173, 3, none⟩ = some (.int .i64 a0_3)) (ds := []) #[false, false, false, false, false, false, false, false, false, false, false, false, false, false, false, false, false, false, false, false, false, false, false, false, false, false, false, false, false, false, false] (by kernel_rfl) rfl rfl ⟨(blk_cell BK183.out 0).trans rfl, (blk_cell BK183.out 1).trans rfl, (blk_cell BK183.out 2).trans rfl, (blk_cell BK183.out 3).trans rfl, (blk_cell BK173.out 0).trans rfl, (blk_cell BK173.out 1).trans rfl, (blk_cell BK173.out 2).trans rfl, (blk_cell BK173.out 3).trans rfl⟩ (fun hHeld => ?_); refine with_tabW impl_GoodRing.tab13 impl_GoodRing.bits13 (fun HT_ HW_ => ?_)
                    generalize wc.drew = w65 at BK173 BK183 HB hHeld ⊢
                    refine takeS 0 79 HT_.out HW_.out hHeld (hr := by rintro w' ⟨s0, s1, s2, s3, s4, s5, s6, s7⟩; go_simp; with_reducible rfl) (h := ?_)
                    refine one_ (i := 1) (N := some 80) #[true, true, false, false, false, false, false, false, false, false, false, false, false, false, false, false, false, false, false, false, false, false, false, false, false, false, false, false, false, false, false] rfl rfl (one_of HT_.out (by kernel_rfl)) (by decide) (fun K hK => ?_)
                    refine goes_ Tryd.func60 (by kernel_rfl) rfl #[.agg #[.int .i64 ((rd_T26 l0_0 (ji33)).f0), .int .i64 ((rd_T26 l0_0 (ji33)).f1), .string ((rd_T26 l0_0 (ji33)).f2), .int .i64 ((rd_T26 l0_0 (ji33)).f3)]] (by rfl) rfl rfl (by (try simp only [List.map_toArray, List.map_cons, List.map_nil]); first | done | (simp only [hji33]; rfl) | rfl | (simp only [List.length_drop, List.length_take]; rfl)) ?_
                    with_reducible refine (impl_isIntact.calls kj35 ((rd_T26 l0_0 (ji33)).f0) ((rd_T26 l0_0 (ji33)).f1) ((rd_T26 l0_0 (ji33)).f2) ((rd_T26 l0_0 (ji33)).f3) true _ ?sideT A52.out).mono ?_
                    case sideT => refine ⟨Ito.tabB hTab_.out ?_⟩; first | exact bs HB | exact st_below | (repeat (first | (with_reducible first | exact HB.out | apply below_alloc | apply pw_below_drewN | apply below_drew1 | refine below_set ?_ (Aside0.out (by assumption))) | exact HB.out))
                    rintro e w66 ⟨rfl, hb⟩
                    refine ⟨_, rfl, ?_⟩
                    have n0_ := Aside0.mk (bb BK173 hb)
                    have n1_ := Aside0.mk (bb BK183 hb)
                    have n2_ := Aside0.mk (below_step (bs2 HB GE173 GE183) hb)
                    clear BK173
                    clear BK183
                    clear HB
                    have BK173 := n0_
                    have BK183 := n1_
                    have HB := n2_
                    clear n0_ n1_ n2_
                    (try clear hb)
                    (try clear hb2)
                    (try clear hk)
                    (try clear hi)
                    refine hK.out _ _ ⟨(blk_cell BK183.out 0).trans rfl, (blk_cell BK183.out 1).trans rfl, (blk_cell BK183.out 2).trans rfl, (blk_cell BK183.out 3).trans rfl, (blk_cell BK173.out 0).trans rfl, (blk_cell BK173.out 1).trans rfl, (blk_cell BK173.out 2).trans rfl, (blk_cell BK173.out 3).trans rfl⟩ (fun hHeld => ?_)
                    clear hK K
                    refine norm_ (a' := ?_) ?_ ?_
                    rotate_left
                    ·
                     show Act.put _ (some 80) _ = _
                     simp only [Act.put, List.setIfInBounds_toArray, List.set_cons_zero, List.set_cons_succ, i64_w, i32_w]
                     rfl
                    refine pureS 2 81 HT_.out ?_
                    refine pureS 3 82 HT_.out ?_
                    refine pureS 4 83 HT_.out ?_
                    refine pureS 6 85 HT_.out ?_
                    refine pureS 7 86 HT_.out ?_
                    refine pureS 8 87 HT_.out ?_
                    refine pureS 9 88 HT_.out ?_
                    refine takeS 5 84 HT_.out HW_.out hHeld (hr := by rintro w' ⟨s0, s1, s2, s3, s4, s5, s6, s7⟩; go_simp; with_reducible rfl) (h := ?_)
                    refine pureS 10 89 HT_.out ?_
                    refine pureS 11 90 HT_.out ?_
                    refine pureS 12 91 HT_.out ?_
                    refine pureS 13 92 HT_.out ?_
                    refine pureS 15 94 HT_.out ?_
                    refine takeS 14 93 HT_.out HW_.out hHeld (hr := by rintro w' ⟨s0, s1, s2, s3, s4, s5, s6, s7⟩; go_simp; with_reducible rfl) (h := ?_)
                    refine pureS 16 95 HT_.out ?_
                    refine pureS 17 96 HT_.out ?_
                    refine pureS 18 97 HT_.out ?_
                    refine pureS 19 98 HT_.out ?_
                    refine pureS 21 100 HT_.out ?_
                    refine takeS 20 99 HT_.out HW_.out hHeld (hr := by rintro w' ⟨s0, s1, s2, s3, s4, s5, s6, s7⟩; go_simp; with_reducible rfl) (h := ?_)
                    refine takeS 22 101 HT_.out HW_.out hHeld (hr := by rintro w' ⟨s0, s1, s2, s3, s4, s5, s6, s7⟩; go_simp; with_reducible rfl) (h := ?_)
                    refine pureS 23 102 HT_.out ?_
                    refine pureS 24 103 HT_.out ?_
                    refine pureS 25 104 HT_.out ?_
                    refine pureS 26 105 HT_.out ?_
                    refine pureS 28 107 HT_.out ?_
                    refine takeS 27 106 HT_.out HW_.out hHeld (hr := by rintro w' ⟨s0, s1, s2, s3, s4, s5, s6, s7⟩; go_simp; with_reducible rfl) (h := ?_)
                    refine pureS 29 108 HT_.out ?_
                    refine pureS 30 109 HT_.out ?_
                    refine done_ (done_of HT_.out (by kernel_rfl)) ?_
                    have hnb67 := NB183_173.out
                    have hnc67 := NB173_183.out
                    obtain ⟨hcz68_0, hcz68_1, hcz68_2, hcz68_3⟩ := cz4 BK183
                    obtain ⟨hfz68_0, hfz68_1, hfz68_2, hfz68_3⟩ := fz4 BK183
                    try go_wp2
                    go_roundg kj35
                    case measure => have := HJ1.out; have := HK2.out; have := HJ35.out; omega
                    case rel => exact ⟨(((rd_T26 l0_0 (ji33)).f1)), (wrap64 (x5_2 + 1)), (by first | rfl | (simp; done) | (simp only [← hji33] <;> (first | rfl | simp)) | (simp [*]; done)), (by first | rfl | (simp; done) | (simp [*]; done)), H', ⟨by have := HJ1.out; have := HK2.out; have := HJ35.out; omega⟩, ⟨bk BK173⟩, ⟨bs2 HB GE173 GE183⟩⟩
                ·
                 rw [if_neg c55] at H
                 have c55b0 : (((rd_T26 l0_0 (ji33)).f0) == (wrap64 ((wrap64 (Int.tdiv x5_2 (l0_0.length : Int))) + 1))) = false := beq_eq_false_iff_ne.mpr c55
                 have c55b1 : (((rd_T26 l0_0 (ji33)).f0) != (wrap64 ((wrap64 (Int.tdiv x5_2 (l0_0.length : Int))) + 1))) = true := bne_iff_ne.mpr c55
                 obtain rfl := Option.some.inj H
                 try go_wp2
                 have n0_ := Aside0.mk (blk_drew BK173.out)
                 have n1_ := Aside0.mk (blk_drew BK183.out)
                 have n2_ := Aside0.mk (below_drew1 HB.out)
                 clear BK173
                 clear BK183
                 clear HB
                 have BK173 := n0_
                 have BK183 := n1_
                 have HB := n2_
                 clear n0_ n1_ n2_
                 refine start_ (n := 31) (S := fun w' => w'.cell? ⟨gb183, 0, none⟩ = some (.int .i64 ((rd_T26 l0_0 (ji33)).f0)) ∧ w'.cell? ⟨gb183, 1, none⟩ = some (.int .i64 ((rd_T26 l0_0 (ji33)).f1)) ∧ w'.cell? ⟨gb183, 2, none⟩ = some (.string ((rd_T26 l0_0 (ji33)).f2)) ∧ w'.cell? ⟨gb183, 3, none⟩ = some (.int .i64 ((rd_T26 l0_0 (ji33)).f3))) (ds := []) #[false, false, false, false, false, false, false, false, false, false, false, false, false, false, false, false, false, false, false, false, false, false, false, false, false, false, false, false, false, false, false] (by kernel_rfl) rfl rfl ⟨(blk_cell BK183.out 0).trans rfl, (blk_cell BK183.out 1).trans rfl, (blk_cell BK183.out 2).trans rfl, (blk_cell BK183.out 3).trans rfl⟩ (fun hHeld => ?_); refine with_tabW impl_GoodRing.tab13 impl_GoodRing.bits13 (fun HT_ HW_ => ?_)
                 generalize wc.drew = w69 at BK173 BK183 HB hHeld ⊢
                 refine takeS 0 79 HT_.out HW_.out hHeld (hr := by rintro w' ⟨s0, s1, s2, s3⟩; go_simp; with_reducible rfl) (h := ?_)
                 refine one_ (i := 1) (N := some 80) #[true, true, false, false, false, false, false, false, false, false, false, false, false, false, false, false, false, false, false, false, false, false, false, false, false, false, false, false, false, false, false] rfl rfl (one_of HT_.out (by kernel_rfl)) (by decide) (fun K hK => ?_)
                 refine goes_ Tryd.func60 (by kernel_rfl) rfl #[.agg #[.int .i64 ((rd_T26 l0_0 (ji33)).f0), .int .i64 ((rd_T26 l0_0 (ji33)).f1), .string ((rd_T26 l0_0 (ji33)).f2), .int .i64 ((rd_T26 l0_0 (ji33)).f3)]] (by rfl) rfl rfl (by (try simp only [List.map_toArray, List.map_cons, List.map_nil]); first | done | (simp only [hji33]; rfl) | rfl | (simp only [List.length_drop, List.length_take]; rfl)) ?_
                 with_reducible refine (impl_isIntact.calls kj35 ((rd_T26 l0_0 (ji33)).f0) ((rd_T26 l0_0 (ji33)).f1) ((rd_T26 l0_0 (ji33)).f2) ((rd_T26 l0_0 (ji33)).f3) true _ ?sideT A52.out).mono ?_
                 case sideT => refine ⟨Ito.tabB hTab_.out ?_⟩; first | exact bs HB | exact st_below | (repeat (first | (with_reducible first | exact HB.out | apply below_alloc | apply pw_below_drewN | apply below_drew1 | refine below_set ?_ (Aside0.out (by assumption))) | exact HB.out))
                 rintro e w70 ⟨rfl, hb⟩
                 refine ⟨_, rfl, ?_⟩
                 have n0_ := Aside0.mk (bb BK173 hb)
                 have n1_ := Aside0.mk (bb BK183 hb)
                 have n2_ := Aside0.mk (below_step (bs2 HB GE173 GE183) hb)
                 clear BK173
                 clear BK183
                 clear HB
                 have BK173 := n0_
                 have BK183 := n1_
                 have HB := n2_
                 clear n0_ n1_ n2_
                 (try clear hb)
                 (try clear hb2)
                 (try clear hk)
                 (try clear hi)
                 refine hK.out _ _ ⟨(blk_cell BK183.out 0).trans rfl, (blk_cell BK183.out 1).trans rfl, (blk_cell BK183.out 2).trans rfl, (blk_cell BK183.out 3).trans rfl⟩ (fun hHeld => ?_)
                 clear hK K
                 refine norm_ (a' := ?_) ?_ ?_
                 rotate_left
                 ·
                  show Act.put _ (some 80) _ = _
                  simp only [Act.put, List.setIfInBounds_toArray, List.set_cons_zero, List.set_cons_succ, i64_w, i32_w]
                  rfl
                 refine pureS 2 81 HT_.out ?_
                 refine pureS 3 82 HT_.out ?_
                 refine pureS 4 83 HT_.out ?_
                 refine pureS 6 85 HT_.out ?_
                 refine pureS 7 86 HT_.out ?_
                 refine pureS 8 87 HT_.out ?_
                 refine pureS 9 88 HT_.out ?_
                 refine takeS 5 84 HT_.out HW_.out hHeld (hr := by rintro w' ⟨s0, s1, s2, s3⟩; go_simp; with_reducible rfl) (h := ?_)
                 refine pureS 10 89 HT_.out ?_
                 refine pureS 11 90 HT_.out ?_
                 refine pureS 12 91 HT_.out ?_
                 refine pureU 13 92 HT_.out ?_
                 refine pureU 14 93 HT_.out ?_
                 refine pureU 15 94 HT_.out ?_
                 refine pureU 16 95 HT_.out ?_
                 refine pureS 17 96 HT_.out ?_
                 refine pureS 18 97 HT_.out ?_
                 refine pureU 19 98 HT_.out ?_
                 refine pureU 20 99 HT_.out ?_
                 refine pureU 21 100 HT_.out ?_
                 refine pureU 22 101 HT_.out ?_
                 refine pureU 23 102 HT_.out ?_
                 refine pureS 24 103 HT_.out ?_
                 refine pureS 25 104 HT_.out ?_
                 refine pureU 26 105 HT_.out ?_
                 refine pureU 27 106 HT_.out ?_
                 refine pureU 28 107 HT_.out ?_
                 refine pureU 29 108 HT_.out ?_
                 refine pureS 30 109 HT_.out ?_
                 refine done_ (done_of HT_.out (by kernel_rfl)) ?_
                 try go_wp2
                 go_ret
                 exact ⟨by first | rfl | (simp [errW_none, errW_some] <;> rfl) | (simp only [← hji33]; first | rfl | (simp [errW_none, errW_some] <;> rfl)) | (simp [*, errW_none, errW_some] <;> rfl), bs2 HB GE173 GE183⟩
              ·
               replace c53 := Bool.eq_false_iff.mpr c53
               subst c53
               rw [if_neg (show ¬ (false = true) by decide)] at H
               obtain rfl := Option.some.inj H
               try go_wp2
               have n0_ := Aside0.mk (blk_drew BK173.out)
               have n1_ := Aside0.mk (blk_drew BK183.out)
               have n2_ := Aside0.mk (below_drew1 HB.out)
               clear BK173
               clear BK183
               clear HB
               have BK173 := n0_
               have BK183 := n1_
               have HB := n2_
               clear n0_ n1_ n2_
               refine start_ (n := 31) (S := fun w' => w'.cell? ⟨gb183, 0, none⟩ = some (.int .i64 ((rd_T26 l0_0 (ji33)).f0)) ∧ w'.cell? ⟨gb183, 1, none⟩ = some (.int .i64 ((rd_T26 l0_0 (ji33)).f1)) ∧ w'.cell? ⟨gb183, 2, none⟩ = some (.string ((rd_T26 l0_0 (ji33)).f2)) ∧ w'.cell? ⟨gb183, 3, none⟩ = some (.int .i64 ((rd_T26 l0_0 (ji33)).f3))) (ds := []) #[false, false, false, false, false, false, false, false, false, false, false, false, false, false, false, false, false, false, false, false, false, false, false, false, false, false, false, false, false, false, false] (by kernel_rfl) rfl rfl ⟨(blk_cell BK183.out 0).trans rfl, (blk_cell BK183.out 1).trans rfl, (blk_cell BK183.out 2).trans rfl, (blk_cell BK183.out 3).trans rfl⟩ (fun hHeld => ?_); refine with_tabW impl_GoodRing.tab13 impl_GoodRing.bits13 (fun HT_ HW_ => ?_)
               generalize wc.drew = w71 at BK173 BK183 HB hHeld ⊢
               refine takeS 0 79 HT_.out HW_.out hHeld (hr := by rintro w' ⟨s0, s1, s2, s3⟩; go_simp; with_reducible rfl) (h := ?_)
               refine one_ (i := 1) (N := some 80) #[true, true, false, false, false, false, false, false, false, false, false, false, false, false, false, false, false, false, false, false, false, false, false, false, false, false, false, false, false, false, false] rfl rfl (one_of HT_.out (by kernel_rfl)) (by decide) (fun K hK => ?_)
               refine goes_ Tryd.func60 (by kernel_rfl) rfl #[.agg #[.int .i64 ((rd_T26 l0_0 (ji33)).f0), .int .i64 ((rd_T26 l0_0 (ji33)).f1), .string ((rd_T26 l0_0 (ji33)).f2), .int .i64 ((rd_T26 l0_0 (ji33)).f3)]] (by rfl) rfl rfl (by (try simp only [List.map_toArray, List.map_cons, List.map_nil]); first | done | (simp only [hji33]; rfl) | rfl | (simp only [List.length_drop, List.length_take]; rfl)) ?_
               with_reducible refine (impl_isIntact.calls kj35 ((rd_T26 l0_0 (ji33)).f0) ((rd_T26 l0_0 (ji33)).f1) ((rd_T26 l0_0 (ji33)).f2) ((rd_T26 l0_0 (ji33)).f3) false _ ?sideT A52.out).mono ?_
               case sideT => refine ⟨Ito.tabB hTab_.out ?_⟩; first | exact bs HB | exact st_below | (repeat (first | (with_reducible first | exact HB.out | apply below_alloc | apply pw_below_drewN | apply below_drew1 | refine below_set ?_ (Aside0.out (by assumption))) | exact HB.out))
               rintro e w72 ⟨rfl, hb⟩
               refine ⟨_, rfl, ?_⟩
               have n0_ := Aside0.mk (bb BK173 hb)
               have n1_ := Aside0.mk (bb BK183 hb)
               have n2_ := Aside0.mk (below_step (bs2 HB GE173 GE183) hb)
               clear BK173
               clear BK183
               clear HB
               have BK173 := n0_
               have BK183 := n1_
               have HB := n2_
               clear n0_ n1_ n2_
               (try clear hb)
               (try clear hb2)
               (try clear hk)
               (try clear hi)
               refine hK.out _ _ ⟨(blk_cell BK183.out 0).trans rfl, (blk_cell BK183.out 1).trans rfl, (blk_cell BK183.out 2).trans rfl, (blk_cell BK183.out 3).trans rfl⟩ (fun hHeld => ?_)
               clear hK K
               refine norm_ (a' := ?_) ?_ ?_
               rotate_left
               ·
                show Act.put _ (some 80) _ = _
                simp only [Act.put, List.setIfInBounds_toArray, List.set_cons_zero, List.set_cons_succ, i64_w, i32_w]
                rfl
               refine pureS 2 81 HT_.out ?_
               refine pureS 3 82 HT_.out ?_
               refine pureU 4 83 HT_.out ?_
               refine pureU 5 84 HT_.out ?_
               refine pureU 6 85 HT_.out ?_
               refine pureU 7 86 HT_.out ?_
               refine pureU 8 87 HT_.out ?_
               refine pureU 9 88 HT_.out ?_
               refine pureU 10 89 HT_.out ?_
               refine pureS 11 90 HT_.out ?_
               refine pureS 12 91 HT_.out ?_
               refine pureU 13 92 HT_.out ?_
               refine pureU 14 93 HT_.out ?_
               refine pureU 15 94 HT_.out ?_
               refine pureU 16 95 HT_.out ?_
               refine pureS 17 96 HT_.out ?_
               refine pureS 18 97 HT_.out ?_
               refine pureU 19 98 HT_.out ?_
               refine pureU 20 99 HT_.out ?_
               refine pureU 21 100 HT_.out ?_
               refine pureU 22 101 HT_.out ?_
               refine pureU 23 102 HT_.out ?_
               refine pureS 24 103 HT_.out ?_
               refine pureS 25 104 HT_.out ?_
               refine pureU 26 105 HT_.out ?_
               refine pureU 27 106 HT_.out ?_
               refine pureU 28 107 HT_.out ?_
               refine pureU 29 108 HT_.out ?_
               refine pureS 30 109 HT_.out ?_
               refine done_ (done_of HT_.out (by kernel_rfl)) ?_
               try go_wp2
               go_ret
               exact ⟨by first | rfl | (simp [errW_none, errW_some] <;> rfl) | (simp only [← hji33]; first | rfl | (simp [errW_none, errW_some] <;> rfl)) | (simp [*, errW_none, errW_some] <;> rfl), bs2 HB GE173 GE183⟩
          ·
           rw [if_neg c35] at H
           exact absurd H (by simp)
         ·
          rw [if_neg c34] at H
          exact absurd H (by simp)
      ·
       rw [if_neg c19] at H
       have c19b0 : decide (x5_2 < a0_1) = false := decide_eq_false c19
       clear c19
       obtain rfl := Option.some.inj H
       obtain ⟨hcz73_0, hcz73_1, hcz73_2, hcz73_3⟩ := cz4 BK173
       obtain ⟨hfz73_0, hfz73_1, hfz73_2, hfz73_3⟩ := fz4 BK173
       go_wp2
       go_ret
       exact ⟨by first | rfl | (simp [errW_none, errW_some] <;> rfl) | (simp [*, errW_none, errW_some] <;> rfl), bs1 HB GE173⟩

/-! ### spec_NewRing: function 22 -/
def spec_NewRing.l0 : Nat → Int → Int → List (S26) → Int → Int → Int → Option ((List (S26)) × Int × Int × Int × Bool)
 | 0, _, _, _, _, _, _ => none
 | k + 1, x0, x5, x192000, x192001, x192002, x192003 => if x5 < x0 then ((spec_l10Zero.f k).bind fun bt192 => (if x192000.length < 3518437208883 then (spec_NewRing.l0 k x0 (wrap64 (x5 + 1)) (x192000 ++ [(⟨bt192.1, bt192.2.1, bt192.2.2.1, bt192.2.2.2⟩ : S26)]) x192001 x192002 x192003) else (none))) else (some (x192000, x192001, x192002, x192003, true))
def spec_NewRing.f (k : Nat) (a0 : Int) : Option ((List (S26)) × Int × Int × Int × Bool) := (spec_l1In.f a0 2 24).bind fun t190 => (if t190 = true then (spec_NewRing.l0 k a0 0 ([] : List (S26)) 0 1 0) else (some (([] : List (S26)), 0, 0, 0, false)))
theorem spec_NewRing.mono_l : ∀ k, (∀ y0 y1 y2 y3 y4 y5, LeO (spec_NewRing.l0 k y0 y1 y2 y3 y4 y5) (spec_NewRing.l0 (k + 1) y0 y1 y2 y3 y4 y5))
 | 0 => fun _ _ _ _ _ _ r h => by simp [spec_NewRing.l0] at h
 | k + 1 => by
  have ih0 := spec_NewRing.mono_l k
  ·
   intro y0 y1 y2 y3 y4 y5
   unfold spec_NewRing.l0
   repeat' first
   | (with_reducible exact ih0 _ _ _ _ _ _)
   | (with_reducible exact spec_l10Zero.mono _)
   | (with_reducible exact LeO.refl _)
   | (with_reducible exact LeO.none _)
   | (with_reducible refine LeO.ite ?_ ?_)
   | (with_reducible refine LeO.bind ?_ (fun _ => ?_))
   | exact ih0 _ _ _ _ _ _
   | exact spec_l10Zero.mono _
   | exact LeO.none _
   | refine LeO.ite ?_ ?_
   | refine LeO.bind ?_ (fun _ => ?_)
theorem spec_NewRing.mono : ∀ a0 k, LeO (spec_NewRing.f k a0) (spec_NewRing.f (k + 1) a0) := by
 intro a0 k
 have ih0 := spec_NewRing.mono_l k
 unfold spec_NewRing.f
 repeat' first
   | (with_reducible exact ih0 _ _ _ _ _ _)
   | (with_reducible exact spec_l10Zero.mono _)
   | (with_reducible exact LeO.refl _)
   | (with_reducible exact LeO.none _)
   | (with_reducible refine LeO.ite ?_ ?_)
   | (with_reducible refine LeO.bind ?_ (fun _ => ?_))
   | exact ih0 _ _ _ _ _ _
   | exact spec_l10Zero.mono _
   | exact LeO.none _
   | refine LeO.ite ?_ ?_
   | refine LeO.bind ?_ (fun _ => ?_)
set_option maxHeartbeats 8000000 in
set_option maxRecDepth 100000 in
theorem spec_NewRing.calls (k : Nat) (a0 : Int) (r1 : List (S26)) (r2 : Int) (r3 : Int) (r4 : Int) (r5 : Bool) (w : World) (h : spec_NewRing.f k a0 = some (r1, r2, r3, r4, r5)) :
  Calls Tryd.prog 22 #[.int .i64 a0] w fun e w' => ∃ v0_ : Value, e = .returned (.tuple #[.agg #[v0_, .int .i64 r2, .int .i64 r3, .int .i64 r4], .bool r5]) ∧ Kd.R k26 26 w' w.heap.size (fun _ => True) v0_ r1 ∧ Below w.heap.size w w' := by
 have hu36 := Tryd.underlying36
 have HB := Aside0.mk (Below.refl w.heap.size w)
 have H : ((spec_l1In.f a0 2 24).bind fun t190 => (if t190 = true then (spec_NewRing.l0 k a0 0 ([] : List (S26)) 0 1 0) else (some (([] : List (S26)), 0, 0, 0, false)))) = some (r1, r2, r3, r4, r5) := h
 clear h
 replace H := Option.bind_eq_some_iff.mp H
 obtain ⟨t190, A20, H⟩ := H
 replace H : (if t190 = true then (spec_NewRing.l0 k a0 0 ([] : List (S26)) 0 1 0) else (some (([] : List (S26)), 0, 0, 0, false))) = some (r1, r2, r3, r4, r5) := H
 have A2 := Aside0.mk A20
 clear A20
 by_cases c3 : t190 = true
 ·
  subst c3
  rw [if_pos rfl] at H
  have H' := Aside0.mk H
  clear H
  go_enter Tryd.func22, Tryd.ntmps22
  go_wp2_with (first | ((with_reducible refine gate_dst (N := 2) rfl ?_); refine box_event ?hg (N := 2) ?hd (cs := #[.slice none 0 0, .int .i64 0, .int .i64 0, .int .i64 0]) (t := 36) ?hr ?_; (case hd => rfl); (case hg => rfl); (case hr => first | (go_simp; done) | (go_simp; rfl)); intro gb189 hg w4 hbox hb; have BK189 := Aside0.mk (hbox); have GW189 := Aside0.mk ((by rw [hg]; exact (below_size (bs HB)) : w.heap.size ≤ gb189)); have GE189 := Aside0.mk ((by rw [hg]; exact (below_size (bs HB)) : w.heap.size ≤ gb189)); replace HB := Aside0.mk (below_step (bs HB) hb); clear hb hbox hg) | ((with_reducible refine gate_callee (f := 55) rfl ?_); refine gL (some 7) rfl rfl Tryd.func55 (by kernel_rfl) rfl #[.int .i64 a0, .int .i64 2, .int .i64 24] rfl ?_; (with_reducible refine (spec_l1In.calls a0 2 24 true _ A2.out).mono ?_); rintro e w' ⟨rfl, ⟨nd, rfl⟩⟩; refine ⟨_, rfl, ?_⟩; (try (rw [drewN_self w4]; generalize hq_ : World.drewN w4 _ = w4; have n0_ : Aside0 (w4.heap[gb189]? = some (.cells #[.slice none 0 0, .int .i64 0, .int .i64 0, .int .i64 0] 36 (0, 0))) := ⟨by rw [← hq_]; exact (bk BK189)⟩; have n1_ : Aside0 (Below w.heap.size w w4) := ⟨by rw [← hq_]; exact (bs1 HB GE189)⟩; clear BK189 HB hq_; have BK189 := n0_; have HB := n1_; clear n0_ n1_))) | ((with_reducible refine gate_dst (N := 4) rfl ?_); refine box_event ?hg (N := 4) ?hd (cs := #[.slice none 0 0, .int .i64 0, .int .i64 0, .int .i64 0]) (t := 36) ?hr ?_; (case hd => rfl); (case hg => rfl); (case hr => first | (go_simp; done) | (go_simp; rfl)); intro gb191 hg w5 hbox hb; have BK191 := Aside0.mk (hbox); have GW191 := Aside0.mk ((by rw [hg]; exact (below_size (bs1 HB GE189)) : w.heap.size ≤ gb191)); have GE191 := Aside0.mk ((by rw [hg]; exact (below_size (bs1 HB GE189)) : w.heap.size ≤ gb191)); replace HB := Aside0.mk (below_step (bs1 HB GE189) hb); have NB189_191 := Aside0.mk ((bn BK189 hg : gb189 ≠ gb191)); have NB191_189 := Aside0.mk ((bm BK189 hg : gb191 ≠ gb189)); replace BK189 := nb BK189 hb; clear hb hbox hg; have hnb6 := NB191_189.out; have hnc6 := NB189_191.out; obtain ⟨hcz7_0, hcz7_1, hcz7_2, hcz7_3⟩ := cz4 BK191; obtain ⟨hfz7_0, hfz7_1, hfz7_2, hfz7_3⟩ := fz4 BK191))
  go_loopg [5] k (fun kq v5 w' => ∃ (x5_1 : Int) (x192000_1 : List (S26)) (u192000 : Value), v5 = .int .i64 x5_1 ∧ Aside0 (spec_NewRing.l0 kq a0 x5_1 x192000_1 0 1 0 = some (r1, r2, r3, r4, r5)) ∧ Aside0 (kq ≤ k) ∧ Aside0 (Kd.R k26 26 w' w.heap.size (fun _ => True) u192000 x192000_1) ∧ Aside0 (w'.heap[gb189]? = some (.cells #[(.slice none 0 0), .int .i64 0, .int .i64 0, .int .i64 0] 36 (0, 0))) ∧ Aside0 (w'.heap[gb191]? = some (.cells #[u192000, .int .i64 0, .int .i64 1, .int .i64 0] 36 (0, 0))) ∧ Aside0 (Below w.heap.size w w'))
  case atStart => exact ⟨(0), (([] : List (S26))), (.slice none 0 0), (by first | rfl | (simp; done) | (simp [*]; done)), H', ⟨Nat.le_refl _⟩, ⟨by first | exact Kd.R_nil _ _ _ _ _ | exact Kd.N_nil _ _ _ _ _ | exact Kd.V_nil _ _ _ _ _ | exact Kd.Q_nil _ _ _ _ _ | exact Kd.S_nil _ _ _ _ _⟩, ⟨bf BK189 NB189_191⟩, ⟨by (with_reducible repeat (first | refine blk_drewN ?_ _ | refine blk_drew ?_ | refine blk_alloc ?_ _)); refine blk_put (cs := #[.slice none 0 0, .int .i64 0, .int .i64 1, .int .i64 0]) ?_ 3 _ rfl; (with_reducible repeat (first | refine blk_drewN ?_ _ | refine blk_drew ?_ | refine blk_alloc ?_ _)); refine blk_put (cs := #[.slice none 0 0, .int .i64 0, .int .i64 0, .int .i64 0]) ?_ 2 _ rfl; (with_reducible repeat (first | refine blk_drewN ?_ _ | refine blk_drew ?_ | refine blk_alloc ?_ _)); refine blk_put (cs := #[.slice none 0 0, .int .i64 0, .int .i64 0, .int .i64 0]) ?_ 1 _ rfl; (with_reducible repeat (first | refine blk_drewN ?_ _ | refine blk_drew ?_ | refine blk_alloc ?_ _)); refine blk_put (cs := #[.slice none 0 0, .int .i64 0, .int .i64 0, .int .i64 0]) ?_ 0 _ rfl; (with_reducible repeat (first | refine blk_drewN ?_ _ | refine blk_drew ?_ | refine blk_alloc ?_ _)); exact BK191.out⟩, ⟨bs2 HB GE189 GE191⟩⟩
  case round =>
   clear H'
   try clear c2
   try clear p2
   try clear c3
   try clear c5
   try clear c6
   try clear hcz7_0 hcz7_1 hcz7_2 hcz7_3
   try clear hfz7_0 hfz7_1 hfz7_2 hfz7_3
   obtain ⟨x5_1, x192000_1, u192000, rfl, HA, HK1, HO_192000, BK189, BK191, HB⟩ := hrel
   cases gk with
   | zero => exact absurd HA.out (by simp [spec_NewRing.l0])
   | succ k1 =>
    have H := HA.out
    clear HA
    simp only [spec_NewRing.l0] at H
    by_cases c8 : x5_1 < a0
    ·
     rw [if_pos c8] at H
     have c8b0 : decide (x5_1 < a0) = true := decide_eq_true c8
     clear c8
     replace H := Option.bind_eq_some_iff.mp H
     obtain ⟨⟨t192, t193, t194, t195⟩, A90, H⟩ := H
     replace H : (if x192000_1.length < 3518437208883 then (spec_NewRing.l0 k1 a0 (wrap64 (x5_1 + 1)) (x192000_1 ++ [(⟨t192, t193, t194, t195⟩ : S26)]) 0 1 0) else (none)) = some (r1, r2, r3, r4, r5) := H
     have A9 := Aside0.mk A90
     clear A90
     by_cases c10 : x192000_1.length < 3518437208883
     ·
      rw [if_pos c10] at H
      have LMc10 := Aside0.mk c10
      clear c10
      obtain ⟨y196, hy196⟩ : ∃ y_ : List (S26), y_ = (x192000_1 ++ [(⟨t192, t193, t194, t195⟩ : S26)]) := ⟨_, rfl⟩
      replace H : (spec_NewRing.l0 k1 a0 (wrap64 (x5_1 + 1)) y196 0 1 0) = some (r1, r2, r3, r4, r5) := by first | (rw [hy196]; with_reducible exact H) | (have H2_ := (Option.bind_some _ _).symm.trans H; rw [hy196]; with_reducible exact H2_) | (have H2_ := (Option.bind_some _ _).symm.trans H; with_reducible exact H2_) | with_reducible exact H | (rw [hy196]; exact H) | exact H
      have Ny196 := Aside0.mk hy196
      clear hy196
      have H' := Aside0.mk H
      clear H
      try go_wp2
      have n0_ := Aside0.mk (Kd.R_drew HO_192000.out)
      have n1_ := Aside0.mk (blk_drew BK189.out)
      have n2_ := Aside0.mk (blk_drew BK191.out)
      have n3_ := Aside0.mk (below_drew1 HB.out)
      clear HO_192000
      clear BK189
      clear BK191
      clear HB
      have HO_192000 := n0_
      have BK189 := n1_
      have BK191 := n2_
      have HB := n3_
      clear n0_ n1_ n2_ n3_
      refine start_ (n := 7) (S := fun w' => w'.cell? ⟨gb191, 0, none⟩ = some (u192000) ∧ w'.cell? ⟨gb191, 1, none⟩ = some (.int .i64 0) ∧ w'.cell? ⟨gb191, 2, none⟩ = some (.int .i64 1) ∧ w'.cell? ⟨gb191, 3, none⟩ = some (.int .i64 0)) (ds := [6]) #[false, false, false, false, false, false, false] (by kernel_rfl) rfl rfl ⟨(blk_cell BK191.out 0).trans rfl, (blk_cell BK191.out 1).trans rfl, (blk_cell BK191.out 2).trans rfl, (blk_cell BK191.out 3).trans rfl⟩ (fun hHeld => ?_)
      generalize wr.drew = w11 at HO_192000 BK189 BK191 HB hHeld ⊢
      refine pure_ (i := 0) (N := some 16) (v := ?_) (a' := ?_) #[true, false, false, false, false, false, false] rfl rfl (by kernel_rfl) (fun _ _ _ h => h) (Or.inl ⟨by rfl, ?_⟩) ?_ ?_
      rotate_left
      ·
       intro w'
       go_simp
       with_reducible rfl
      rotate_left
      ·
       simp only [Act.put, List.setIfInBounds_toArray, List.set_cons_zero, List.set_cons_succ, i64_w, i32_w]
       rfl
      refine take_ (i := 1) (N := some 17) (v := ?_) (a' := ?_) #[true, true, false, false, false, false, false] rfl rfl (by kernel_rfl) (fun _ _ _ h => h) (Or.inl ⟨by rfl, ?_⟩) hHeld ?_ ?_
      rotate_left
      ·
       rintro w' ⟨s0, s1, s2, s3⟩
       go_simp
       with_reducible rfl
      rotate_left
      ·
       simp only [Act.put, List.setIfInBounds_toArray, List.set_cons_zero, List.set_cons_succ, i64_w, i32_w]
       rfl
      refine one_ (i := 2) (N := some 18) #[true, true, true, false, false, false, false] rfl rfl (by kernel_rfl) (by decide) (fun K hK => ?_)
      refine goes_ Tryd.func56 (by kernel_rfl) rfl #[] (by rfl) rfl rfl (by (try simp only [List.map_toArray, List.map_cons, List.map_nil]); first | done | rfl | (simp only [List.length_drop, List.length_take]; rfl)) ?_
      with_reducible refine (spec_l10Zero.calls k1  t192 t193 t194 t195 _ A9.out).mono ?_
      rintro e w12 ⟨rfl, hb⟩
      refine ⟨_, rfl, ?_⟩
      have n0_ := Aside0.mk (Kd.R_below (rr HO_192000.out) hb)
      have n1_ := Aside0.mk (bb BK189 hb)
      have n2_ := Aside0.mk (bb BK191 hb)
      have n3_ := Aside0.mk (below_step (bs2 HB GE189 GE191) hb)
      clear HO_192000
      clear BK189
      clear BK191
      clear HB
      have HO_192000 := n0_
      have BK189 := n1_
      have BK191 := n2_
      have HB := n3_
      clear n0_ n1_ n2_ n3_
      (try clear hb)
      (try clear hb2)
      (try clear hk)
      (try clear hi)
      refine hK.out _ _ ⟨(blk_cell BK191.out 0).trans rfl, (blk_cell BK191.out 1).trans rfl, (blk_cell BK191.out 2).trans rfl, (blk_cell BK191.out 3).trans rfl⟩ (fun hHeld => ?_)
      clear hK K
      refine norm_ (a' := ?_) ?_ ?_
      rotate_left
      ·
       show Act.put _ (some 18) _ = _
       simp only [Act.put, List.setIfInBounds_toArray, List.set_cons_zero, List.set_cons_succ, i64_w, i32_w]
       rfl
      refine one_ (i := 3) (N := some 19) #[true, true, true, true, false, false, false] rfl rfl (by kernel_rfl) (by decide) (fun K hK => ?_)
      refine value_ (w1 := ?_) (v := ?_) (by rfl) rfl ?_ ?_
      rotate_left 2
      ·
       go_simp
       constructor
       ·
        rfl
       ·
        rfl
      refine hK.out _ _ ⟨(blk_cell (blk_alloc BK191.out _) 0).trans rfl, (blk_cell (blk_alloc BK191.out _) 1).trans rfl, (blk_cell (blk_alloc BK191.out _) 2).trans rfl, (blk_cell (blk_alloc BK191.out _) 3).trans rfl⟩ (fun hHeld => ?_)
      clear hK K
      refine norm_ (a' := ?_) ?_ ?_
      rotate_left
      ·
       show Act.put _ (some 19) _ = _
       simp only [Act.put, List.setIfInBounds_toArray, List.set_cons_zero, List.set_cons_succ, i64_w, i32_w]
       rfl
      refine one_ (i := 4) (N := some 20) #[true, true, true, true, true, false, false] rfl rfl (by kernel_rfl) (by decide) (fun K hK => ?_)
      refine Kd.R_append_step k26 (w0 := w) w.heap.size (by rfl) (.tmp 17) (.tmp 19) 34 26 (.agg #[(.int .i64 0), (.int .i64 0), (.string ⟨#[]⟩), (.int .i64 0)]) 40 rfl Tryd.underlying34 info26 rfl (by decide) (by omega) u192000 x192000_1 (⟨t192, t193, t194, t195⟩ : S26) [.int .i64 t192, .int .i64 t193, .string t194, .int .i64 t195] (fun _ => True) (fun _ => False) rfl rfl ?aP (fun _ hk => hk.elim) ?aF ?aO ?aB ?aS ?aL ?_
      (case aP => exact k26_mkM _ _ _ (⟨t192, t193, t194, t195⟩ : S26))
      (case aB => exact (bs2 HB GE189 GE191))
      (case aF => exact (fun _ _ => trivial))
      (case aO => exact (rr HO_192000.out))
      (case aS => exact (below_size (bs2 HB GE189 GE191)))
      (case aL => have := LMc10.out; omega)
      intro v197 w13 ho hb hg hat
      rw [← Ny196.out] at ho
      have n0_ := Aside0.mk (blk_grown (bk BK189) hg (Kd.R_ne HO_192000.out BK189.out (by decide)))
      have n1_ := Aside0.mk (blk_grown (bk BK191) hg (Kd.R_ne HO_192000.out BK191.out (by decide)))
      have n2_ := Aside0.mk (hb)
      have n3_ := Aside0.mk (ho)
      clear BK189
      clear BK191
      clear HB
      clear HO_192000
      have BK189 := n0_
      have BK191 := n1_
      have HB := n2_
      have HO198 := n3_
      clear n0_ n1_ n2_ n3_
      clear ho hb hg hat
      obtain ⟨Ao14, co14, eo14⟩ := Kd.R_slice HO198.out
      (first | subst eo14 | (injection eo14 with f1_ f2_ f3_; have f4_ := f1_.symm; have f5_ := f3_.symm; clear f1_ f2_ f3_; subst f4_; subst f5_))
      refine hK.out _ _ ⟨(blk_cell BK191.out 0).trans rfl, (blk_cell BK191.out 1).trans rfl, (blk_cell BK191.out 2).trans rfl, (blk_cell BK191.out 3).trans rfl⟩ (fun hHeld => ?_)
      clear hK K
      refine norm_ (a' := ?_) ?_ ?_
      rotate_left
      ·
       show Act.put _ (some 20) _ = _
       simp only [Act.put, List.setIfInBounds_toArray, List.set_cons_zero, List.set_cons_succ, i64_w, i32_w]
       rfl
      refine pure_ (i := 5) (N := some 21) (v := ?_) (a' := ?_) #[true, true, true, true, true, true, false] rfl rfl (by kernel_rfl) (fun _ _ _ h => h) (Or.inl ⟨by rfl, ?_⟩) ?_ ?_
      rotate_left
      ·
       intro w'
       go_simp
       with_reducible rfl
      rotate_left
      ·
       simp only [Act.put, List.setIfInBounds_toArray, List.set_cons_zero, List.set_cons_succ, i64_w, i32_w]
       rfl
      refine last_ (i := 6) (N := none) #[true, true, true, true, true, true, true] rfl rfl (by kernel_rfl) (by decide) (fun K hK => ?_)
      have hs15 : w13.cell? ⟨gb191, 0, none⟩ = some (u192000) := (blk_cell BK191.out 0).trans rfl
      have hfs15 := blk_frozen BK191.out 0
      have hns15_0 := NB189_191.out
      have hms15_0 := NB191_189.out
      refine skip_ (w1 := ?_) (by rfl) rfl ?_ ?_
      rotate_left
      ·
       go_simp
       rfl
      refine hK.out _ _ ?_
      clear hK K
      refine done_ (by kernel_rfl) ?_
      try go_wp2
      go_roundg k1
      case measure => have := HK1.out; omega
      case rel => exact ⟨(wrap64 (x5_1 + 1)), (y196), (.slice Ao14 y196.length co14), (by first | rfl | (simp; done) | (simp [*]; done)), H', ⟨by have := HK1.out; omega⟩, ⟨by (with_reducible repeat (first | apply Kd.R_alloc | apply Kd.R_drewN | apply Kd.R_drew)); exact Kd.R_mono (Kd.R_far (p := ⟨gb191, 0, none⟩) (Kd.R_types HO198.out BK191.out (by decide)) (fun _ hk => hk.2) (.slice Ao14 y196.length co14)) (fun _ hk => trivial)⟩, ⟨bf BK189 NB189_191⟩, ⟨by (with_reducible repeat (first | refine blk_drewN ?_ _ | refine blk_drew ?_ | refine blk_alloc ?_ _)); refine blk_put (cs := #[u192000, .int .i64 0, .int .i64 1, .int .i64 0]) ?_ 0 _ rfl; (with_reducible repeat (first | refine blk_drewN ?_ _ | refine blk_drew ?_ | refine blk_alloc ?_ _)); exact BK191.out⟩, ⟨bs2 HB GE189 GE191⟩⟩
     ·
      rw [if_neg c10] at H
      exact absurd H (by simp)
    ·
     rw [if_neg c8] at H
     have c8b0 : decide (x5_1 < a0) = false := decide_eq_false c8
     clear c8
     simp only [Option.some.injEq, Prod.mk.injEq] at H
     obtain ⟨rfl, rfl, rfl, rfl, rfl⟩ := H
     have hnb16 := NB191_189.out
     have hnc16 := NB189_191.out
     obtain ⟨hcz17_0, hcz17_1, hcz17_2, hcz17_3⟩ := cz4 BK191
     obtain ⟨hfz17_0, hfz17_1, hfz17_2, hfz17_3⟩ := fz4 BK191
     obtain ⟨Ao18, co18, eo18⟩ := Kd.R_slice HO_192000.out
     subst eo18
     obtain ⟨hcz19_0, hcz19_1, hcz19_2, hcz19_3⟩ := cz4 BK189
     obtain ⟨hfz19_0, hfz19_1, hfz19_2, hfz19_3⟩ := fz4 BK189
     go_wp2
     refine bodyPost_ret (results_ct rfl _ _ gb189 36 #[.slice Ao18 x192000_1.length co18, .int .i64 0, .int .i64 1, .int .i64 0] (0, 0) _ rfl (by (with_reducible repeat (first | refine blk_drewN ?_ _ | refine blk_drew ?_ | refine blk_alloc ?_ _)); refine blk_put (cs := #[.slice Ao18 x192000_1.length co18, .int .i64 0, .int .i64 1, .int .i64 0]) ?_ 3 _ rfl; (with_reducible repeat (first | refine blk_drewN ?_ _ | refine blk_drew ?_ | refine blk_alloc ?_ _)); refine blk_put (cs := #[.slice Ao18 x192000_1.length co18, .int .i64 0, .int .i64 0, .int .i64 0]) ?_ 2 _ rfl; (with_reducible repeat (first | refine blk_drewN ?_ _ | refine blk_drew ?_ | refine blk_alloc ?_ _)); refine blk_put (cs := #[.slice Ao18 x192000_1.length co18, .int .i64 0, .int .i64 0, .int .i64 0]) ?_ 1 _ rfl; (with_reducible repeat (first | refine blk_drewN ?_ _ | refine blk_drew ?_ | refine blk_alloc ?_ _)); refine blk_put (cs := #[.slice none 0 0, .int .i64 0, .int .i64 0, .int .i64 0]) ?_ 0 _ rfl; (with_reducible repeat (first | refine blk_drewN ?_ _ | refine blk_drew ?_ | refine blk_alloc ?_ _)); exact BK189.out) Tryd.underlying36 rfl (by kernel_rfl)) rfl ?_
     exact ⟨_, by first | rfl | (simp [errW_none, errW_some] <;> rfl) | (simp [*, errW_none, errW_some] <;> rfl), by (with_reducible repeat (first | apply Kd.R_alloc | apply Kd.R_drewN | apply Kd.R_drew)); exact Kd.R_mono (Kd.R_far (p := ⟨gb189, 3, none⟩) (Kd.R_far (p := ⟨gb189, 2, none⟩) (Kd.R_far (p := ⟨gb189, 1, none⟩) (Kd.R_far (p := ⟨gb189, 0, none⟩) (Kd.R_types HO_192000.out BK189.out (by decide)) (fun _ hk => hk.2) (.slice Ao18 x192000_1.length co18)) (fun _ hk => hk.2) (.int .i64 0)) (fun _ hk => hk.2) (.int .i64 1)) (fun _ hk => hk.2) (.int .i64 0)) (fun _ hk => trivial), bs2 HB GE189 GE191⟩
 ·
  replace c3 := Bool.eq_false_iff.mpr c3
  subst c3
  rw [if_neg (show ¬ (false = true) by decide)] at H
  simp only [Option.some.injEq, Prod.mk.injEq] at H
  obtain ⟨rfl, rfl, rfl, rfl, rfl⟩ := H
  go_enter Tryd.func22, Tryd.ntmps22
  go_wp2_with (first | ((with_reducible refine gate_dst (N := 2) rfl ?_); refine box_event ?hg (N := 2) ?hd (cs := #[.slice none 0 0, .int .i64 0, .int .i64 0, .int .i64 0]) (t := 36) ?hr ?_; (case hd => rfl); (case hg => rfl); (case hr => first | (go_simp; done) | (go_simp; rfl)); intro gb189 hg w20 hbox hb; have BK189 := Aside0.mk (hbox); have GW189 := Aside0.mk ((by rw [hg]; exact (below_size (bs HB)) : w.heap.size ≤ gb189)); have GE189 := Aside0.mk ((by rw [hg]; exact (below_size (bs HB)) : w.heap.size ≤ gb189)); replace HB := Aside0.mk (below_step (bs HB) hb); clear hb hbox hg) | ((with_reducible refine gate_callee (f := 55) rfl ?_); refine gL (some 7) rfl rfl Tryd.func55 (by kernel_rfl) rfl #[.int .i64 a0, .int .i64 2, .int .i64 24] rfl ?_; (with_reducible refine (spec_l1In.calls a0 2 24 false _ A2.out).mono ?_); rintro e w' ⟨rfl, ⟨nd, rfl⟩⟩; refine ⟨_, rfl, ?_⟩; (try (rw [drewN_self w20]; generalize hq_ : World.drewN w20 _ = w20; have n0_ : Aside0 (w20.heap[gb189]? = some (.cells #[.slice none 0 0, .int .i64 0, .int .i64 0, .int .i64 0] 36 (0, 0))) := ⟨by rw [← hq_]; exact (bk BK189)⟩; have n1_ : Aside0 (Below w.heap.size w w20) := ⟨by rw [← hq_]; exact (bs1 HB GE189)⟩; clear BK189 HB hq_; have BK189 := n0_; have HB := n1_; clear n0_ n1_)); obtain ⟨hcz21_0, hcz21_1, hcz21_2, hcz21_3⟩ := cz4 BK189; obtain ⟨hfz21_0, hfz21_1, hfz21_2, hfz21_3⟩ := fz4 BK189))
  refine bodyPost_ret (results_ct rfl _ _ gb189 36 #[.slice none 0 0, .int .i64 0, .int .i64 0, .int .i64 0] (0, 0) _ rfl (by (with_reducible repeat (first | refine blk_drewN ?_ _ | refine blk_drew ?_ | refine blk_alloc ?_ _)); refine blk_put (cs := #[.slice none 0 0, .int .i64 0, .int .i64 0, .int .i64 0]) ?_ 3 _ rfl; (with_reducible repeat (first | refine blk_drewN ?_ _ | refine blk_drew ?_ | refine blk_alloc ?_ _)); refine blk_put (cs := #[.slice none 0 0, .int .i64 0, .int .i64 0, .int .i64 0]) ?_ 2 _ rfl; (with_reducible repeat (first | refine blk_drewN ?_ _ | refine blk_drew ?_ | refine blk_alloc ?_ _)); refine blk_put (cs := #[.slice none 0 0, .int .i64 0, .int .i64 0, .int .i64 0]) ?_ 1 _ rfl; (with_reducible repeat (first | refine blk_drewN ?_ _ | refine blk_drew ?_ | refine blk_alloc ?_ _)); refine blk_put (cs := #[.slice none 0 0, .int .i64 0, .int .i64 0, .int .i64 0]) ?_ 0 _ rfl; (with_reducible repeat (first | refine blk_drewN ?_ _ | refine blk_drew ?_ | refine blk_alloc ?_ _)); exact BK189.out) Tryd.underlying36 rfl (by kernel_rfl)) rfl ?_
  exact ⟨_, by first | rfl | (simp [errW_none, errW_some] <;> rfl) | (simp [*, errW_none, errW_some] <;> rfl), by first | exact Kd.R_nil _ _ _ _ _ | exact Kd.N_nil _ _ _ _ _ | exact Kd.V_nil _ _ _ _ _ | exact Kd.Q_nil _ _ _ _ _ | exact Kd.S_nil _ _ _ _ _, bs1 HB GE189⟩

/-! ### impl_RoomFor: function 27 -/
def impl_RoomFor.f (k : Nat) (l0_0 : List (S26)) (a0_1 : Int) (a0_2 : Int) (a0_3 : Int) : Option (Int × Bool) := (impl_GoodRing.f k l0_0 a0_1 a0_2 a0_3).bind fun t200 => (if t200 = true then (some (wrap64 ((l0_0.length : Int) - (wrap64 (a0_1 - a0_3))), true)) else (some (0, false)))
theorem impl_RoomFor.mono : ∀ a0 a1 a2 a3 k, LeO (impl_RoomFor.f k a0 a1 a2 a3) (impl_RoomFor.f (k + 1) a0 a1 a2 a3) := by
 intro a0 a1 a2 a3 k
 unfold impl_RoomFor.f
 repeat' first
   | (with_reducible exact impl_GoodRing.mono _ _ _ _ _)
   | (with_reducible exact LeO.refl _)
   | (with_reducible exact LeO.none _)
   | (with_reducible refine LeO.ite ?_ ?_)
   | (with_reducible refine LeO.bind ?_ (fun _ => ?_))
   | exact impl_GoodRing.mono _ _ _ _ _
   | exact LeO.none _
   | refine LeO.ite ?_ ?_
   | refine LeO.bind ?_ (fun _ => ?_)
set_option maxHeartbeats 8000000 in
set_option maxRecDepth 100000 in
theorem impl_RoomFor.calls (k : Nat) (A0_0 : Option Addr) (c0_0 : Nat) (l0_0 : List (S26)) (a0_1 : Int) (a0_2 : Int) (a0_3 : Int) (r1 : Int) (r2 : Bool) (w : World) (hTab_ : Aside0 (Ito.TabW w)) (hr0_0 : Kd.C k26 w A0_0 l0_0.length l0_0) (hc0_0 : l0_0.length ≤ c0_0) (h : impl_RoomFor.f k l0_0 a0_1 a0_2 a0_3 = some (r1, r2)) :
  Calls Tryd.prog 27 #[.agg #[.slice A0_0 l0_0.length c0_0, .int .i64 a0_1, .int .i64 a0_2, .int .i64 a0_3]] w fun e w' => e = .returned (.tuple #[.int .i64 r1, .bool r2]) ∧ Below w.heap.size w w' := by
 have hu36 := Tryd.underlying36
 have HR0_0 := Aside0.mk hr0_0
 have HC0_0 := Aside0.mk hc0_0
 clear hr0_0 hc0_0
 have HB := Aside0.mk (Below.refl w.heap.size w)
 have H : ((impl_GoodRing.f k l0_0 a0_1 a0_2 a0_3).bind fun t200 => (if t200 = true then (some (wrap64 ((l0_0.length : Int) - (wrap64 (a0_1 - a0_3))), true)) else (some (0, false)))) = some (r1, r2) := h
 clear h
 replace H := Option.bind_eq_some_iff.mp H
 obtain ⟨t200, A20, H⟩ := H
 replace H : (if t200 = true then (some (wrap64 ((l0_0.length : Int) - (wrap64 (a0_1 - a0_3))), true)) else (some (0, false))) = some (r1, r2) := H
 have A2 := Aside0.mk A20
 clear A20
 by_cases c3 : t200 = true
 ·
  subst c3
  rw [if_pos rfl] at H
  simp only [Option.some.injEq, Prod.mk.injEq] at H
  obtain ⟨rfl, rfl⟩ := H
  go_enter Tryd.func27, Tryd.ntmps27
  go_wp2_with (first | ((with_reducible refine gate_dst (N := 1) rfl ?_); refine box_event ?hg (N := 1) ?hd (cs := #[.slice A0_0 l0_0.length c0_0, .int .i64 a0_1, .int .i64 a0_2, .int .i64 a0_3]) (t := 36) ?hr ?_; (case hd => rfl); (case hg => rfl); (case hr => first | (go_simp; done) | (go_simp; rfl)); intro gb199 hg w4 hbox hb; have BK199 := Aside0.mk (hbox); have GW199 := Aside0.mk ((by rw [hg]; exact (below_size (bs HB)) : w.heap.size ≤ gb199)); have GE199 := Aside0.mk ((by rw [hg]; exact (below_size (bs HB)) : w.heap.size ≤ gb199)); replace HB := Aside0.mk (below_step (bs HB) hb); clear hb hbox hg; obtain ⟨hcz5_0, hcz5_1, hcz5_2, hcz5_3⟩ := cz4 BK199; obtain ⟨hfz5_0, hfz5_1, hfz5_2, hfz5_3⟩ := fz4 BK199) | ((with_reducible refine gate_callee (f := 20) rfl ?_); refine gL (some 5) rfl rfl Tryd.func20 (by kernel_rfl) rfl #[.agg #[.slice A0_0 l0_0.length c0_0, .int .i64 a0_1, .int .i64 a0_2, .int .i64 a0_3]] rfl ?_; (with_reducible refine (impl_GoodRing.calls k _ _ l0_0 a0_1 a0_2 a0_3 true _ ?sideT ?side1 ?side2 A2.out).mono ?_); (case sideT => refine ⟨Ito.tabB hTab_.out ?_⟩; first | exact bs HB | exact st_below | (repeat (first | (with_reducible first | exact HB.out | apply below_alloc | apply pw_below_drewN | apply below_drew1 | refine below_set ?_ (Aside0.out (by assumption))) | exact HB.out))); (case side1 => exact cb HR0_0 HB); (case side2 => exact HC0_0.out); rintro e w6 ⟨rfl, hb⟩; refine ⟨_, rfl, ?_⟩; replace BK199 := nb BK199 hb; replace HB := Aside0.mk (below_step (bs1 HB GE199) hb); (try clear hb); (try clear hb2); (try clear hk); (try clear hi); obtain ⟨hcz7_0, hcz7_1, hcz7_2, hcz7_3⟩ := cz4 BK199; obtain ⟨hfz7_0, hfz7_1, hfz7_2, hfz7_3⟩ := fz4 BK199))
  go_ret2
  exact ⟨by first | rfl | (simp [errW_none, errW_some] <;> rfl) | (simp [*, errW_none, errW_some] <;> rfl), bs1 HB GE199⟩
 ·
  replace c3 := Bool.eq_false_iff.mpr c3
  subst c3
  rw [if_neg (show ¬ (false = true) by decide)] at H
  simp only [Option.some.injEq, Prod.mk.injEq] at H
  obtain ⟨rfl, rfl⟩ := H
  go_enter Tryd.func27, Tryd.ntmps27
  go_wp2_with (first | ((with_reducible refine gate_dst (N := 1) rfl ?_); refine box_event ?hg (N := 1) ?hd (cs := #[.slice A0_0 l0_0.length c0_0, .int .i64 a0_1, .int .i64 a0_2, .int .i64 a0_3]) (t := 36) ?hr ?_; (case hd => rfl); (case hg => rfl); (case hr => first | (go_simp; done) | (go_simp; rfl)); intro gb199 hg w8 hbox hb; have BK199 := Aside0.mk (hbox); have GW199 := Aside0.mk ((by rw [hg]; exact (below_size (bs HB)) : w.heap.size ≤ gb199)); have GE199 := Aside0.mk ((by rw [hg]; exact (below_size (bs HB)) : w.heap.size ≤ gb199)); replace HB := Aside0.mk (below_step (bs HB) hb); clear hb hbox hg; obtain ⟨hcz9_0, hcz9_1, hcz9_2, hcz9_3⟩ := cz4 BK199; obtain ⟨hfz9_0, hfz9_1, hfz9_2, hfz9_3⟩ := fz4 BK199) | ((with_reducible refine gate_callee (f := 20) rfl ?_); refine gL (some 5) rfl rfl Tryd.func20 (by kernel_rfl) rfl #[.agg #[.slice A0_0 l0_0.length c0_0, .int .i64 a0_1, .int .i64 a0_2, .int .i64 a0_3]] rfl ?_; (with_reducible refine (impl_GoodRing.calls k _ _ l0_0 a0_1 a0_2 a0_3 false _ ?sideT ?side1 ?side2 A2.out).mono ?_); (case sideT => refine ⟨Ito.tabB hTab_.out ?_⟩; first | exact bs HB | exact st_below | (repeat (first | (with_reducible first | exact HB.out | apply below_alloc | apply pw_below_drewN | apply below_drew1 | refine below_set ?_ (Aside0.out (by assumption))) | exact HB.out))); (case side1 => exact cb HR0_0 HB); (case side2 => exact HC0_0.out); rintro e w10 ⟨rfl, hb⟩; refine ⟨_, rfl, ?_⟩; replace BK199 := nb BK199 hb; replace HB := Aside0.mk (below_step (bs1 HB GE199) hb); (try clear hb); (try clear hb2); (try clear hk); (try clear hi)))
  go_ret2
  exact ⟨by first | rfl | (simp [errW_none, errW_some] <;> rfl) | (simp [*, errW_none, errW_some] <;> rfl), bs1 HB GE199⟩

/-! ### impl_RecordsOf: function 29 -/
def impl_RecordsOf.l0 : Nat → List ByteArray → Int → List (S26) → Int → Int → Int → Option (List ByteArray × Bool)
 | 0, _, _, _, _, _, _ => none
 | k + 1, x4, x5, x202000, x202001, x202002, x202003 => if x5 < x202001 then (if (x202000.length : Int) = 0 then (none) else (if 0 ≤ (Int.tmod x5 (x202000.length : Int)) then (if (Int.tmod x5 (x202000.length : Int)) < (x202000.length : Int) then (if x4.length < 8796093022208 then (impl_RecordsOf.l0 k (x4 ++ [(rd_T26 x202000 (Int.tmod x5 (x202000.length : Int))).f2]) (wrap64 (x5 + 1)) x202000 x202001 x202002 x202003) else (none)) else (none)) else (none))) else (some (x4, true))
def impl_RecordsOf.f (k : Nat) (l0_0 : List (S26)) (a0_1 : Int) (a0_2 : Int) (a0_3 : Int) : Option (List ByteArray × Bool) := (impl_GoodRing.f k l0_0 a0_1 a0_2 a0_3).bind fun t202 => (if t202 = true then (impl_RecordsOf.l0 k (([] : List ByteArray)) a0_3 l0_0 a0_1 a0_2 a0_3) else (some (([] : List ByteArray), false)))
theorem impl_RecordsOf.mono_l : ∀ k, (∀ y0 y1 y2 y3 y4 y5, LeO (impl_RecordsOf.l0 k y0 y1 y2 y3 y4 y5) (impl_RecordsOf.l0 (k + 1) y0 y1 y2 y3 y4 y5))
 | 0 => fun _ _ _ _ _ _ r h => by simp [impl_RecordsOf.l0] at h
 | k + 1 => by
  have ih0 := impl_RecordsOf.mono_l k
  ·
   intro y0 y1 y2 y3 y4 y5
   unfold impl_RecordsOf.l0
   repeat' first
   | (with_reducible exact ih0 _ _ _ _ _ _)
   | (with_reducible exact impl_GoodRing.mono _ _ _ _ _)
   | (with_reducible exact LeO.refl _)
   | (with_reducible exact LeO.none _)
   | (with_reducible refine LeO.ite ?_ ?_)
   | (with_reducible refine LeO.bind ?_ (fun _ => ?_))
   | exact ih0 _ _ _ _ _ _
   | exact impl_GoodRing.mono _ _ _ _ _
   | exact LeO.none _
   | refine LeO.ite ?_ ?_
   | refine LeO.bind ?_ (fun _ => ?_)
theorem impl_RecordsOf.mono : ∀ a0 a1 a2 a3 k, LeO (impl_RecordsOf.f k a0 a1 a2 a3) (impl_RecordsOf.f (k + 1) a0 a1 a2 a3) := by
 intro a0 a1 a2 a3 k
 have ih0 := impl_RecordsOf.mono_l k
 unfold impl_RecordsOf.f
 repeat' first
   | (with_reducible exact ih0 _ _ _ _ _ _)
   | (with_reducible exact impl_GoodRing.mono _ _ _ _ _)
   | (with_reducible exact LeO.refl _)
   | (with_reducible exact LeO.none _)
   | (with_reducible refine LeO.ite ?_ ?_)
   | (with_reducible refine LeO.bind ?_ (fun _ => ?_))
   | exact ih0 _ _ _ _ _ _
   | exact impl_GoodRing.mono _ _ _ _ _
   | exact LeO.none _
   | refine LeO.ite ?_ ?_
   | refine LeO.bind ?_ (fun _ => ?_)
def impl_RecordsOf.T7 : Bool × List (List Nat × List Nat) := (true, [([], []), ([], []), ([1], [1]), ([], []), ([], []), ([4], [4]), ([5], [5]), ([3, 6], [3, 6]), ([2, 7], [2, 7]), ([8], [8]), ([9], [9]), ([10], [10]), ([0, 11], [0, 11]), ([12, 12, 0, 1, 2, 3, 4, 5, 6, 7, 8, 9, 10, 11, 12], [0, 12])])
def impl_RecordsOf.B7 : List Nat := [0, 0, 2, 0, 0, 16, 48, 120, 254, 510, 1022, 2046, 4095, 8191]
theorem impl_RecordsOf.tab7 : rtab .any (opsOf Tryd.f29 7) = impl_RecordsOf.T7 := by kernel_rfl
theorem impl_RecordsOf.bits7 : waitsOk impl_RecordsOf.T7.2 impl_RecordsOf.B7 = true := by kernel_rfl
set_option maxHeartbeats 8000000 in
set_option maxRecDepth 100000 in
theorem impl_RecordsOf.calls (k : Nat) (A0_0 : Option Addr) (c0_0 : Nat) (l0_0 : List (S26)) (a0_1 : Int) (a0_2 : Int) (a0_3 : Int) (r1 : List ByteArray) (r2 : Bool) (w : World) (hTab_ : Aside0 (Ito.TabW w)) (hr0_0 : Kd.C k26 w A0_0 l0_0.length l0_0) (hc0_0 : l0_0.length ≤ c0_0) (h : impl_RecordsOf.f k l0_0 a0_1 a0_2 a0_3 = some (r1, r2)) :
  Calls Tryd.prog 29 #[.agg #[.slice A0_0 l0_0.length c0_0, .int .i64 a0_1, .int .i64 a0_2, .int .i64 a0_3]] w fun e w' => ∃ v0_ : Value, e = .returned (.tuple #[v0_, .bool r2]) ∧ Kd.R Kd.string 9 w' w.heap.size (fun _ => True) v0_ r1 ∧ Below w.heap.size w w' := by
 have hu36 := Tryd.underlying36
 have HR0_0 := Aside0.mk hr0_0
 have HC0_0 := Aside0.mk hc0_0
 clear hr0_0 hc0_0
 have HB := Aside0.mk (Below.refl w.heap.size w)
 have H : ((impl_GoodRing.f k l0_0 a0_1 a0_2 a0_3).bind fun t202 => (if t202 = true then (impl_RecordsOf.l0 k (([] : List ByteArray)) a0_3 l0_0 a0_1 a0_2 a0_3) else (some (([] : List ByteArray), false)))) = some (r1, r2) := h
 clear h
 replace H := Option.bind_eq_some_iff.mp H
 obtain ⟨t202, A20, H⟩ := H
 replace H : (if t202 = true then (impl_RecordsOf.l0 k (([] : List ByteArray)) a0_3 l0_0 a0_1 a0_2 a0_3) else (some (([] : List ByteArray), false))) = some (r1, r2) := H
 have A2 := Aside0.mk A20
 clear A20
 by_cases c3 : t202 = true
 ·
  subst c3
  rw [if_pos rfl] at H
  obtain ⟨y203, hy203⟩ : ∃ y_ : List ByteArray, y_ = (([] : List ByteArray)) := ⟨_, rfl⟩
  replace H : (impl_RecordsOf.l0 k y203 a0_3 l0_0 a0_1 a0_2 a0_3) = some (r1, r2) := by first | (rw [hy203]; with_reducible exact H) | (have H2_ := (Option.bind_some _ _).symm.trans H; rw [hy203]; with_reducible exact H2_) | (have H2_ := (Option.bind_some _ _).symm.trans H; with_reducible exact H2_) | with_reducible exact H | (rw [hy203]; exact H) | exact H
  have Ny203 := Aside0.mk hy203
  clear hy203
  have H' := Aside0.mk H
  clear H
  go_enter Tryd.func29, Tryd.ntmps29
  go_wp2_with (first | ((with_reducible refine gate_dst (N := 1) rfl ?_); refine box_event ?hg (N := 1) ?hd (cs := #[.slice A0_0 l0_0.length c0_0, .int .i64 a0_1, .int .i64 a0_2, .int .i64 a0_3]) (t := 36) ?hr ?_; (case hd => rfl); (case hg => rfl); (case hr => first | (go_simp; done) | (go_simp; rfl)); intro gb201 hg w4 hbox hb; have BK201 := Aside0.mk (hbox); have GW201 := Aside0.mk ((by rw [hg]; exact (below_size (bs HB)) : w.heap.size ≤ gb201)); have GE201 := Aside0.mk ((by rw [hg]; exact (below_size (bs HB)) : w.heap.size ≤ gb201)); replace HB := Aside0.mk (below_step (bs HB) hb); clear hb hbox hg; obtain ⟨hcz5_0, hcz5_1, hcz5_2, hcz5_3⟩ := cz4 BK201; obtain ⟨hfz5_0, hfz5_1, hfz5_2, hfz5_3⟩ := fz4 BK201) | ((with_reducible refine gate_callee (f := 20) rfl ?_); refine gL (some 7) rfl rfl Tryd.func20 (by kernel_rfl) rfl #[.agg #[.slice A0_0 l0_0.length c0_0, .int .i64 a0_1, .int .i64 a0_2, .int .i64 a0_3]] rfl ?_; (with_reducible refine (impl_GoodRing.calls k _ _ l0_0 a0_1 a0_2 a0_3 true _ ?sideT ?side1 ?side2 A2.out).mono ?_); (case sideT => refine ⟨Ito.tabB hTab_.out ?_⟩; first | exact bs HB | exact st_below | (repeat (first | (with_reducible first | exact HB.out | apply below_alloc | apply pw_below_drewN | apply below_drew1 | refine below_set ?_ (Aside0.out (by assumption))) | exact HB.out))); (case side1 => exact cb HR0_0 HB); (case side2 => exact HC0_0.out); rintro e w6 ⟨rfl, hb⟩; refine ⟨_, rfl, ?_⟩; replace BK201 := nb BK201 hb; replace HB := Aside0.mk (below_step (bs1 HB GE201) hb); (try clear hb); (try clear hb2); (try clear hk); (try clear hi)) | ((with_reducible refine gate_dst (N := 9) rfl ?_); refine Kd.R_lit Kd.string _ 9 ?hg (N := 9) ?hd (xs := ([] : List ByteArray)) (inner := []) (ok := fun _ => True) (okp := fun _ => True) ?hr ?hp (fun _ hk => hk) trivial (Below.refl _ _) (Nat.le_refl _) (by simp) ?_; (case hd => rfl); (case hg => rfl); (case hr => first | (go_simp; done) | (go_simp; rfl)); (case hp => exact (Reps.none _ _)); intro v204 w7 ho8 hb hg_ hnew_; clear hg_ hnew_; (first | rw [← Ny203.out] at ho8 | (simp only [Int.reduceToNat] at ho8; rw [← Ny203.out] at ho8)); have HO205 := Aside0.mk (Kd.R_lower ho8 (below_size (bs1 HB GE201))); replace BK201 := nb BK201 hb; replace HB := Aside0.mk (below_step (bs1 HB GE201) hb); clear hb ho8; obtain ⟨hcz9_0, hcz9_1, hcz9_2, hcz9_3⟩ := cz4 BK201; obtain ⟨hfz9_0, hfz9_1, hfz9_2, hfz9_3⟩ := fz4 BK201))
  go_loopg [4, 5] k (fun kq v4 v5 w' => ∃ (x4_1 : List ByteArray) (x5_1 : Int), v5 = .int .i64 x5_1 ∧ Aside0 (impl_RecordsOf.l0 kq x4_1 x5_1 l0_0 a0_1 a0_2 a0_3 = some (r1, r2)) ∧ Aside0 (kq ≤ k) ∧ Aside0 (Kd.R Kd.string 9 w' w.heap.size (fun _ => True) v4 x4_1) ∧ Aside0 (w'.heap[gb201]? = some (.cells #[(.slice A0_0 l0_0.length c0_0), .int .i64 a0_1, .int .i64 a0_2, .int .i64 a0_3] 36 (0, 0))) ∧ Aside0 (Below w.heap.size w w'))
  case atStart => exact ⟨(y203), (a0_3), (by first | rfl | (simp; done) | (simp [*]; done)), H', ⟨Nat.le_refl _⟩, ⟨rr HO205.out⟩, ⟨bk BK201⟩, ⟨bs1 HB GE201⟩⟩
  case round =>
   clear H'
   try clear c2
   try clear p2
   try clear c3
   try clear hcz5_0 hcz5_1 hcz5_2 hcz5_3
   try clear hcz9_0 hcz9_1 hcz9_2 hcz9_3
   try clear hfz5_0 hfz5_1 hfz5_2 hfz5_3
   try clear hfz9_0 hfz9_1 hfz9_2 hfz9_3
   obtain ⟨x4_1, x5_1, rfl, HA, HK1, HO_4, BK201, HB⟩ := hrel
   cases gk with
   | zero => exact absurd HA.out (by simp [impl_RecordsOf.l0])
   | succ k1 =>
    have H := HA.out
    clear HA
    simp only [impl_RecordsOf.l0] at H
    by_cases c10 : x5_1 < a0_1
    ·
     rw [if_pos c10] at H
     have c10b0 : decide (x5_1 < a0_1) = true := decide_eq_true c10
     clear c10
     by_cases c11 : (l0_0.length : Int) = 0
     ·
      rw [if_pos c11] at H
      exact absurd H (by simp)
     ·
      rw [if_neg c11] at H
      have c11b0 : ((l0_0.length : Int) == 0) = false := beq_eq_false_iff_ne.mpr c11
      have c11b1 : ((l0_0.length : Int) != 0) = true := bne_iff_ne.mpr c11
      have c11b2 : ¬ (l0_0 = []) := fun h_ => c11 (by rw [h_]; rfl)
      obtain ⟨ji12, hji12⟩ : ∃ j_ : Int, (Int.tmod x5_1 (l0_0.length : Int)) = j_ := ⟨_, rfl⟩
      replace H : (if 0 ≤ (ji12) then (if (ji12) < (l0_0.length : Int) then (if x4_1.length < 8796093022208 then (impl_RecordsOf.l0 k1 (x4_1 ++ [(rd_T26 l0_0 (ji12)).f2]) (wrap64 (x5_1 + 1)) l0_0 a0_1 a0_2 a0_3) else (none)) else (none)) else (none)) = some (r1, r2) := by first | (rw [hji12] at H; exact H) | (simp only [hji12] at H ⊢; exact H)
      by_cases c13 : 0 ≤ (ji12)
      ·
       rw [if_pos c13] at H
       have c13b0 : decide (0 ≤ (ji12)) = true := decide_eq_true c13
       clear c13
       by_cases c14 : (ji12) < (l0_0.length : Int)
       ·
        rw [if_pos c14] at H
        have c14b0 : decide ((ji12) < (l0_0.length : Int)) = true := decide_eq_true c14
        clear c14
        by_cases c15 : x4_1.length < 8796093022208
        ·
         rw [if_pos c15] at H
         have LMc15 := Aside0.mk c15
         clear c15
         obtain ⟨y207, hy207⟩ : ∃ y_ : List ByteArray, y_ = (x4_1 ++ [(rd_T26 l0_0 (ji12)).f2]) := ⟨_, rfl⟩
         replace H : (impl_RecordsOf.l0 k1 y207 (wrap64 (x5_1 + 1)) l0_0 a0_1 a0_2 a0_3) = some (r1, r2) := by first | (rw [hy207]; with_reducible exact H) | (have H2_ := (Option.bind_some _ _).symm.trans H; rw [hy207]; with_reducible exact H2_) | (have H2_ := (Option.bind_some _ _).symm.trans H; with_reducible exact H2_) | with_reducible exact H | (rw [hy207]; exact H) | exact H
         have Ny207 := Aside0.mk hy207
         clear hy207
         have H' := Aside0.mk H
         clear H
         obtain ⟨hcz16_0, hcz16_1, hcz16_2, hcz16_3⟩ := cz4 BK201
         obtain ⟨hfz16_0, hfz16_1, hfz16_2, hfz16_3⟩ := fz4 BK201
         try go_wp2
         have n0_ := Aside0.mk (Kd.R_drew HO_4.out)
         have n1_ := Aside0.mk (blk_drew BK201.out)
         have n2_ := Aside0.mk (below_drew1 HB.out)
         clear HO_4
         clear BK201
         clear HB
         have HO_4 := n0_
         have BK201 := n1_
         have HB := n2_
         clear n0_ n1_ n2_
         have p206 : 0 ≤ ((ji12) : Int) := of_decide_eq_true (by first | (with_reducible assumption) | assumption)
         have q206 : (ji12) < (l0_0.length : Int) := of_decide_eq_true (by first | (with_reducible assumption) | assumption)
         obtain ⟨ad206, e206, hx206_0, hx206_1, hx206_2, hx206_3⟩ := at_T26 HR0_0.out (ji12) p206 q206
         have hw206_3 := hx206_3
         have hw206_2 := hx206_2
         have hw206_1 := hx206_1
         have hw206_0 := hx206_0
         cases e206
         replace hx206_0 := (HB.out.cell (World.block_lt_of_cell? w _ hx206_0)).trans hx206_0
         replace hx206_1 := (HB.out.cell (World.block_lt_of_cell? w _ hx206_1)).trans hx206_1
         replace hx206_2 := (HB.out.cell (World.block_lt_of_cell? w _ hx206_2)).trans hx206_2
         replace hx206_3 := (HB.out.cell (World.block_lt_of_cell? w _ hx206_3)).trans hx206_3
         replace p206 := eq_true p206
         replace q206 := eq_true q206
         refine start_ (n := 14) (S := fun w' => w'.cell? ⟨gb201, 0, none⟩ = some (.slice (some ad206) l0_0.length c0_0) ∧ w'.cell? ⟨gb201, 1, none⟩ = some (.int .i64 a0_1) ∧ w'.cell? ⟨gb201, 2, none⟩ = some (.int .i64 a0_2) ∧ w'.cell? ⟨gb201, 3, none⟩ = some (.int .i64 a0_3) ∧ w'.cell? (ad206.add (((ji12)).toNat * 4)) = some (.int .i64 ((rd_T26 l0_0 (ji12)).f0)) ∧ w'.cell? ⟨(ad206.add (((ji12)).toNat * 4)).block, (ad206.add (((ji12)).toNat * 4)).off + 1, none⟩ = some (.int .i64 ((rd_T26 l0_0 (ji12)).f1)) ∧ w'.cell? ⟨(ad206.add (((ji12)).toNat * 4)).block, (ad206.add (((ji12)).toNat * 4)).off + 2, none⟩ = some (.string ((rd_T26 l0_0 (ji12)).f2)) ∧ w'.cell? ⟨(ad206.add (((ji12)).toNat * 4)).block, (ad206.add (((ji12)).toNat * 4)).off + 3, none⟩ = some (.int .i64 ((rd_T26 l0_0 (ji12)).f3))) (ds := []) #[false, false, false, false, false, false, false, false, false, false, false, false, false, false] (by kernel_rfl) rfl rfl ⟨(blk_cell BK201.out 0).trans rfl, (blk_cell BK201.out 1).trans rfl, (blk_cell BK201.out 2).trans rfl, (blk_cell BK201.out 3).trans rfl, ((HB.out.cell (World.block_lt_of_cell? w _ hw206_0)).trans hw206_0), ((HB.out.cell (World.block_lt_of_cell? w _ hw206_1)).trans hw206_1), ((HB.out.cell (World.block_lt_of_cell? w _ hw206_2)).trans hw206_2), ((HB.out.cell (World.block_lt_of_cell? w _ hw206_3)).trans hw206_3)⟩ (fun hHeld => ?_); refine with_tabW impl_RecordsOf.tab7 impl_RecordsOf.bits7 (fun HT_ HW_ => ?_)
         generalize wr.drew = w17 at HO_4 BK201 HB hx206_0 hx206_1 hx206_2 hx206_3 hHeld ⊢
         refine pureS 0 18 HT_.out ?_
         refine pureS 1 19 HT_.out ?_
         refine pureS 3 21 HT_.out ?_
         refine pureS 4 22 HT_.out ?_
         refine takeS 2 20 HT_.out HW_.out hHeld (hr := by rintro w' ⟨s0, s1, s2, s3, s4, s5, s6, s7⟩; go_simp; with_reducible rfl) (h := ?_)
         refine takeS 5 23 HT_.out HW_.out hHeld (hr := by rintro w' ⟨s0, s1, s2, s3, s4, s5, s6, s7⟩; go_simp; with_reducible rfl) (h := ?_)
         refine pureS 6 24 HT_.out ?_
         refine pureS 7 25 HT_.out ?_
         refine pureS 8 26 HT_.out ?_
         refine pureS 9 27 HT_.out ?_
         refine takeS 10 28 HT_.out HW_.out hHeld (hr := by rintro w' ⟨s0, s1, s2, s3, s4, s5, s6, s7⟩; go_simp; with_reducible rfl) (h := ?_)
         refine one_ (i := 11) (N := some 29) #[true, true, true, true, true, true, true, true, true, true, true, true, false, false] rfl rfl (one_of HT_.out (by kernel_rfl)) (by decide) (fun K hK => ?_)
         refine value_ (w1 := ?_) (v := ?_) (by rfl) rfl ?_ ?_
         rotate_left 2
         ·
          go_simp
          constructor
          ·
           rfl
          ·
           rfl
         refine hK.out _ _ ⟨(blk_cell (blk_alloc BK201.out _) 0).trans rfl, (blk_cell (blk_alloc BK201.out _) 1).trans rfl, (blk_cell (blk_alloc BK201.out _) 2).trans rfl, (blk_cell (blk_alloc BK201.out _) 3).trans rfl, (World.cell?_alloc_lt _ _ _ (World.block_lt_of_cell? _ _ (((HB.out.cell (World.block_lt_of_cell? w _ hw206_0)).trans hw206_0)))).trans (((HB.out.cell (World.block_lt_of_cell? w _ hw206_0)).trans hw206_0)), (World.cell?_alloc_lt _ _ _ (World.block_lt_of_cell? _ _ (((HB.out.cell (World.block_lt_of_cell? w _ hw206_1)).trans hw206_1)))).trans (((HB.out.cell (World.block_lt_of_cell? w _ hw206_1)).trans hw206_1)), (World.cell?_alloc_lt _ _ _ (World.block_lt_of_cell? _ _ (((HB.out.cell (World.block_lt_of_cell? w _ hw206_2)).trans hw206_2)))).trans (((HB.out.cell (World.block_lt_of_cell? w _ hw206_2)).trans hw206_2)), (World.cell?_alloc_lt _ _ _ (World.block_lt_of_cell? _ _ (((HB.out.cell (World.block_lt_of_cell? w _ hw206_3)).trans hw206_3)))).trans (((HB.out.cell (World.block_lt_of_cell? w _ hw206_3)).trans hw206_3))⟩ (fun hHeld => ?_)
         clear hK K
         refine norm_ (a' := ?_) ?_ ?_
         rotate_left
         ·
          show Act.put _ (some 29) _ = _
          simp only [Act.put, List.setIfInBounds_toArray, List.set_cons_zero, List.set_cons_succ, i64_w, i32_w]
          rfl
         refine one_ (i := 12) (N := some 30) #[true, true, true, true, true, true, true, true, true, true, true, true, true, false] rfl rfl (one_of HT_.out (by kernel_rfl)) (by decide) (fun K hK => ?_)
         refine Kd.R_append_step Kd.string (w0 := w) w.heap.size (by rfl) (.tmp 18) (.tmp 29) 46 9 (.string ⟨#[]⟩) 16 rfl Tryd.underlying46 info9 rfl (by decide) (by omega) u4 x4_1 ((rd_T26 l0_0 (ji12)).f2) [.string ((rd_T26 l0_0 (ji12)).f2)] (fun _ => True) (fun _ => False) rfl rfl ?aP (fun _ hk => hk.elim) ?aF ?aO ?aB ?aS ?aL ?_
         (case aP => exact rfl)
         (case aB => exact (bs1 HB GE201))
         (case aF => exact (fun _ _ => trivial))
         (case aO => exact (rr HO_4.out))
         (case aS => exact (below_size (bs1 HB GE201)))
         (case aL => have := LMc15.out; omega)
         intro v208 w18 ho hb hg hat
         rw [← Ny207.out] at ho
         have n0_ := Aside0.mk (blk_grown (bk BK201) hg (Kd.R_ne HO_4.out BK201.out (by decide)))
         have n1_ := Aside0.mk (hb)
         have n2_ := Aside0.mk (ho)
         clear BK201
         clear HB
         clear HO_4
         have BK201 := n0_
         have HB := n1_
         have HO209 := n2_
         clear n0_ n1_ n2_
         clear ho hb hg hat
         refine hK.out _ _ ⟨(blk_cell BK201.out 0).trans rfl, (blk_cell BK201.out 1).trans rfl, (blk_cell BK201.out 2).trans rfl, (blk_cell BK201.out 3).trans rfl, ((HB.out.cell (World.block_lt_of_cell? w _ hw206_0)).trans hw206_0), ((HB.out.cell (World.block_lt_of_cell? w _ hw206_1)).trans hw206_1), ((HB.out.cell (World.block_lt_of_cell? w _ hw206_2)).trans hw206_2), ((HB.out.cell (World.block_lt_of_cell? w _ hw206_3)).trans hw206_3)⟩ (fun hHeld => ?_)
         clear hK K
         refine norm_ (a' := ?_) ?_ ?_
         rotate_left
         ·
          show Act.put _ (some 30) _ = _
          simp only [Act.put, List.setIfInBounds_toArray, List.set_cons_zero, List.set_cons_succ, i64_w, i32_w]
          rfl
         refine pureS 13 4 HT_.out ?_
         refine done_ (done_of HT_.out (by kernel_rfl)) ?_
         try go_wp2
         go_roundg k1
         case measure => have := HK1.out; omega
         case rel => exact ⟨(y207), (wrap64 (x5_1 + 1)), (by first | rfl | (simp; done) | (simp [*]; done)), H', ⟨by have := HK1.out; omega⟩, ⟨rr HO209.out⟩, ⟨bk BK201⟩, ⟨bs1 HB GE201⟩⟩
        ·
         rw [if_neg c15] at H
         exact absurd H (by simp)
       ·
        rw [if_neg c14] at H
        exact absurd H (by simp)
      ·
       rw [if_neg c13] at H
       exact absurd H (by simp)
    ·
     rw [if_neg c10] at H
     have c10b0 : decide (x5_1 < a0_1) = false := decide_eq_false c10
     clear c10
     simp only [Option.some.injEq, Prod.mk.injEq] at H
     obtain ⟨rfl, rfl⟩ := H
     obtain ⟨hcz19_0, hcz19_1, hcz19_2, hcz19_3⟩ := cz4 BK201
     obtain ⟨hfz19_0, hfz19_1, hfz19_2, hfz19_3⟩ := fz4 BK201
     go_wp2
     go_ret2
     exact ⟨_, by first | rfl | (simp [errW_none, errW_some] <;> rfl) | (simp [*, errW_none, errW_some] <;> rfl), by (with_reducible repeat (first | apply Kd.R_alloc | apply Kd.R_drewN | apply Kd.R_drew)); exact HO_4.out, bs1 HB GE201⟩
 ·
  replace c3 := Bool.eq_false_iff.mpr c3
  subst c3
  rw [if_neg (show ¬ (false = true) by decide)] at H
  simp only [Option.some.injEq, Prod.mk.injEq] at H
  obtain ⟨rfl, rfl⟩ := H
  go_enter Tryd.func29, Tryd.ntmps29
  go_wp2_with (first | ((with_reducible refine gate_dst (N := 1) rfl ?_); refine box_event ?hg (N := 1) ?hd (cs := #[.slice A0_0 l0_0.length c0_0, .int .i64 a0_1, .int .i64 a0_2, .int .i64 a0_3]) (t := 36) ?hr ?_; (case hd => rfl); (case hg => rfl); (case hr => first | (go_simp; done) | (go_simp; rfl)); intro gb201 hg w20 hbox hb; have BK201 := Aside0.mk (hbox); have GW201 := Aside0.mk ((by rw [hg]; exact (below_size (bs HB)) : w.heap.size ≤ gb201)); have GE201 := Aside0.mk ((by rw [hg]; exact (below_size (bs HB)) : w.heap.size ≤ gb201)); replace HB := Aside0.mk (below_step (bs HB) hb); clear hb hbox hg; obtain ⟨hcz21_0, hcz21_1, hcz21_2, hcz21_3⟩ := cz4 BK201; obtain ⟨hfz21_0, hfz21_1, hfz21_2, hfz21_3⟩ := fz4 BK201) | ((with_reducible refine gate_callee (f := 20) rfl ?_); refine gL (some 7) rfl rfl Tryd.func20 (by kernel_rfl) rfl #[.agg #[.slice A0_0 l0_0.length c0_0, .int .i64 a0_1, .int .i64 a0_2, .int .i64 a0_3]] rfl ?_; (with_reducible refine (impl_GoodRing.calls k _ _ l0_0 a0_1 a0_2 a0_3 false _ ?sideT ?side1 ?side2 A2.out).mono ?_); (case sideT => refine ⟨Ito.tabB hTab_.out ?_⟩; first | exact bs HB | exact st_below | (repeat (first | (with_reducible first | exact HB.out | apply below_alloc | apply pw_below_drewN | apply below_drew1 | refine below_set ?_ (Aside0.out (by assumption))) | exact HB.out))); (case side1 => exact cb HR0_0 HB); (case side2 => exact HC0_0.out); rintro e w22 ⟨rfl, hb⟩; refine ⟨_, rfl, ?_⟩; replace BK201 := nb BK201 hb; replace HB := Aside0.mk (below_step (bs1 HB GE201) hb); (try clear hb); (try clear hb2); (try clear hk); (try clear hi)))
  go_ret2
  exact ⟨_, by first | rfl | (simp [errW_none, errW_some] <;> rfl) | (simp [*, errW_none, errW_some] <;> rfl), by first | exact Kd.R_nil _ _ _ _ _ | exact Kd.N_nil _ _ _ _ _ | exact Kd.V_nil _ _ _ _ _ | exact Kd.Q_nil _ _ _ _ _ | exact Kd.S_nil _ _ _ _ _, bs1 HB GE201⟩

/-! ### spec_l10Own: function 68 -/
def spec_l10Own.f (l0_0 : List (S26)) (a0_1 : Int) (a0_2 : Int) (a0_3 : Int) : Option ((List (S26)) × Int × Int × Int) := (some (([] : List (S26)) : List (S26))).bind fun y212 => (if y212.length + l0_0.length < 3518437208883 then (some ((y212 ++ l0_0), a0_1, a0_2, a0_3)) else (none))
set_option maxHeartbeats 8000000 in
set_option maxRecDepth 100000 in
theorem spec_l10Own.calls (A0_0 : Option Addr) (c0_0 : Nat) (l0_0 : List (S26)) (a0_1 : Int) (a0_2 : Int) (a0_3 : Int) (r1 : List (S26)) (r2 : Int) (r3 : Int) (r4 : Int) (w : World) (hr0_0 : Kd.C k26 w A0_0 l0_0.length l0_0) (hc0_0 : l0_0.length ≤ c0_0) (h : spec_l10Own.f l0_0 a0_1 a0_2 a0_3 = some (r1, r2, r3, r4)) :
  Calls Tryd.prog 68 #[.agg #[.slice A0_0 l0_0.length c0_0, .int .i64 a0_1, .int .i64 a0_2, .int .i64 a0_3]] w fun e w' => ∃ v0_ : Value, e = .returned (.agg #[v0_, .int .i64 r2, .int .i64 r3, .int .i64 r4]) ∧ Kd.R k26 26 w' w.heap.size (fun _ => True) v0_ r1 ∧ Below w.heap.size w w' := by
 have hu36 := Tryd.underlying36
 have HR0_0 := Aside0.mk hr0_0
 have HC0_0 := Aside0.mk hc0_0
 clear hr0_0 hc0_0
 have HB := Aside0.mk (Below.refl w.heap.size w)
 have H : ((some (([] : List (S26)) : List (S26))).bind fun y212 => (if y212.length + l0_0.length < 3518437208883 then (some ((y212 ++ l0_0), a0_1, a0_2, a0_3)) else (none))) = some (r1, r2, r3, r4) := h
 clear h
 obtain ⟨y212, hy212⟩ : ∃ y_ : List (S26), y_ = (([] : List (S26))) := ⟨_, rfl⟩
 replace H : (if y212.length + l0_0.length < 3518437208883 then (some ((y212 ++ l0_0), a0_1, a0_2, a0_3)) else (none)) = some (r1, r2, r3, r4) := by first | (rw [hy212]; with_reducible exact H) | (have H2_ := (Option.bind_some _ _).symm.trans H; rw [hy212]; with_reducible exact H2_) | (have H2_ := (Option.bind_some _ _).symm.trans H; with_reducible exact H2_) | with_reducible exact H | (rw [hy212]; exact H) | exact H
 have Ny212 := Aside0.mk hy212
 clear hy212
 by_cases c2 : y212.length + l0_0.length < 3518437208883
 ·
  rw [if_pos c2] at H
  have LMc2 := Aside0.mk c2
  clear c2
  obtain ⟨y215, hy215⟩ : ∃ y_ : List (S26), y_ = (y212 ++ l0_0) := ⟨_, rfl⟩
  replace H : (some (y215, a0_1, a0_2, a0_3)) = some (r1, r2, r3, r4) := by first | (rw [hy215]; with_reducible exact H) | (have H2_ := (Option.bind_some _ _).symm.trans H; rw [hy215]; with_reducible exact H2_) | (have H2_ := (Option.bind_some _ _).symm.trans H; with_reducible exact H2_) | with_reducible exact H | (rw [hy215]; exact H) | exact H
  have Ny215 := Aside0.mk hy215
  clear hy215
  simp only [Option.some.injEq, Prod.mk.injEq] at H
  obtain ⟨rfl, rfl, rfl, rfl⟩ := H
  go_enter Tryd.func68, Tryd.ntmps68
  go_wp2_with (first | ((with_reducible refine gate_dst (N := 1) rfl ?_); refine box_event ?hg (N := 1) ?hd (cs := #[.slice A0_0 l0_0.length c0_0, .int .i64 a0_1, .int .i64 a0_2, .int .i64 a0_3]) (t := 36) ?hr ?_; (case hd => rfl); (case hg => rfl); (case hr => first | (go_simp; done) | (go_simp; rfl)); intro gb210 hg w3 hbox hb; have BK210 := Aside0.mk (hbox); have GW210 := Aside0.mk ((by rw [hg]; exact (below_size (bs HB)) : w.heap.size ≤ gb210)); have GE210 := Aside0.mk ((by rw [hg]; exact (below_size (bs HB)) : w.heap.size ≤ gb210)); replace HB := Aside0.mk (below_step (bs HB) hb); clear hb hbox hg) | ((with_reducible refine gate_dst (N := 2) rfl ?_); refine box_event ?hg (N := 2) ?hd (cs := #[.slice none 0 0, .int .i64 0, .int .i64 0, .int .i64 0]) (t := 36) ?hr ?_; (case hd => rfl); (case hg => rfl); (case hr => first | (go_simp; done) | (go_simp; rfl)); intro gb211 hg w4 hbox hb; have BK211 := Aside0.mk (hbox); have GW211 := Aside0.mk ((by rw [hg]; exact (below_size (bs1 HB GE210)) : w.heap.size ≤ gb211)); have GE211 := Aside0.mk ((by rw [hg]; exact (below_size (bs1 HB GE210)) : w.heap.size ≤ gb211)); replace HB := Aside0.mk (below_step (bs1 HB GE210) hb); have NB210_211 := Aside0.mk ((bn BK210 hg : gb210 ≠ gb211)); have NB211_210 := Aside0.mk ((bm BK210 hg : gb211 ≠ gb210)); replace BK210 := nb BK210 hb; clear hb hbox hg) | ((with_reducible refine gate_dst (N := 3) rfl ?_); refine Kd.R_lit k26 _ 26 ?hg (N := 3) ?hd (xs := ([] : List (S26))) (inner := []) (ok := fun _ => True) (okp := fun _ => True) ?hr ?hp (fun _ hk => hk) trivial (Below.refl _ _) (Nat.le_refl _) (by simp) ?_; (case hd => rfl); (case hg => rfl); (case hr => first | (go_simp; done) | (go_simp; rfl)); (case hp => exact (Reps.none _ _)); intro v213 w5 ho6 hb hg_ hnew_; clear hg_ hnew_; (first | rw [← Ny212.out] at ho6 | (simp only [Int.reduceToNat] at ho6; rw [← Ny212.out] at ho6)); have HO214 := Aside0.mk (Kd.R_lower ho6 (below_size (bs2 HB GE210 GE211))); replace BK210 := nb BK210 hb; replace BK211 := nb BK211 hb; replace HB := Aside0.mk (below_step (bs2 HB GE210 GE211) hb); clear hb ho6; have hnb7 := NB210_211.out; have hnc7 := NB211_210.out; obtain ⟨hcz8_0, hcz8_1, hcz8_2, hcz8_3⟩ := cz4 BK210; obtain ⟨hfz8_0, hfz8_1, hfz8_2, hfz8_3⟩ := fz4 BK210) | ((with_reducible refine gate_builtin (b := .append) (xs := #[.tmp 3, .tmp 5]) rfl ?_); at_builtin; refine Kd.R_append_rows k26 (w0 := w) w.heap.size rfl (.tmp 3) (.tmp 5) 34 26 (.agg #[(.int .i64 0), (.int .i64 0), (.string ⟨#[]⟩), (.int .i64 0)]) 40 rfl Tryd.underlying34 info26 rfl (by decide) (by omega) v213 y212 l0_0 _ _ _ (fun _ => True) (fun _ => False) rfl rfl ?aO ?aR (fun _ _ h => h) (fun _ h => h.elim) ?aF ?aB ?aS ?aL ?_; (case aR => exact cb HR0_0 HB); (case aB => exact (bs2 HB GE210 GE211)); (case aF => exact (fun _ _ => trivial)); (case aO => exact (rr HO214.out)); (case aS => exact (below_size (bs2 HB GE210 GE211))); (case aL => have := LMc2.out; omega); intro v216 w9 ho hb hg hat; rw [← Ny215.out] at ho; replace BK210 := Aside0.mk (blk_grown (bk BK210) hg (Kd.R_ne HO214.out BK210.out (by decide))); replace BK211 := Aside0.mk (blk_grown (bk BK211) hg (Kd.R_ne HO214.out BK211.out (by decide))); replace HB := Aside0.mk (hb); have HO217 := Aside0.mk (ho); clear HO214; clear ho hb hg hat; obtain ⟨Ao10, co10, eo10⟩ := Kd.R_slice HO217.out; subst eo10; obtain ⟨hcz11_0, hcz11_1, hcz11_2, hcz11_3⟩ := cz4 BK210; obtain ⟨hfz11_0, hfz11_1, hfz11_2, hfz11_3⟩ := fz4 BK210; obtain ⟨hcz12_0, hcz12_1, hcz12_2, hcz12_3⟩ := cz4 BK211; obtain ⟨hfz12_0, hfz12_1, hfz12_2, hfz12_3⟩ := fz4 BK211))
  refine bodyPost_ret (results_cell_row rfl _ _ gb211 36 #[.slice Ao10 y215.length co10, .int .i64 a0_1, .int .i64 a0_2, .int .i64 a0_3] (0, 0) _ rfl (by (with_reducible repeat (first | refine blk_drewN ?_ _ | refine blk_drew ?_ | refine blk_alloc ?_ _)); refine blk_put (cs := #[.slice Ao10 y215.length co10, .int .i64 a0_1, .int .i64 a0_2, .int .i64 0]) ?_ 3 _ rfl; (with_reducible repeat (first | refine blk_drewN ?_ _ | refine blk_drew ?_ | refine blk_alloc ?_ _)); refine blk_put (cs := #[.slice Ao10 y215.length co10, .int .i64 a0_1, .int .i64 0, .int .i64 0]) ?_ 2 _ rfl; (with_reducible repeat (first | refine blk_drewN ?_ _ | refine blk_drew ?_ | refine blk_alloc ?_ _)); refine blk_put (cs := #[.slice Ao10 y215.length co10, .int .i64 0, .int .i64 0, .int .i64 0]) ?_ 1 _ rfl; (with_reducible repeat (first | refine blk_drewN ?_ _ | refine blk_drew ?_ | refine blk_alloc ?_ _)); refine blk_put (cs := #[.slice none 0 0, .int .i64 0, .int .i64 0, .int .i64 0]) ?_ 0 _ rfl; (with_reducible repeat (first | refine blk_drewN ?_ _ | refine blk_drew ?_ | refine blk_alloc ?_ _)); refine blk_far ?_ NB211_210.out _; (with_reducible repeat (first | refine blk_drewN ?_ _ | refine blk_drew ?_ | refine blk_alloc ?_ _)); exact BK211.out) Tryd.underlying36 rfl (by kernel_rfl)) rfl ?_
  exact ⟨_, by first | rfl | (simp [errW_none, errW_some] <;> rfl) | (simp [*, errW_none, errW_some] <;> rfl), by (with_reducible repeat (first | apply Kd.R_alloc | apply Kd.R_drewN | apply Kd.R_drew)); exact Kd.R_mono (Kd.R_far (p := ⟨gb211, 3, none⟩) (Kd.R_far (p := ⟨gb211, 2, none⟩) (Kd.R_far (p := ⟨gb211, 1, none⟩) (Kd.R_far (p := ⟨gb211, 0, none⟩) (Kd.R_far (p := ⟨gb210, 0, none⟩) (Kd.R_types (Kd.R_types HO217.out BK210.out (by decide)) BK211.out (by decide)) (fun _ hk => hk.1.2) (.slice Ao10 y215.length co10)) (fun _ hk => hk.2) (.slice Ao10 y215.length co10)) (fun _ hk => hk.2) (.int .i64 a0_1)) (fun _ hk => hk.2) (.int .i64 a0_2)) (fun _ hk => hk.2) (.int .i64 a0_3)) (fun _ hk => trivial), bs2 HB GE210 GE211⟩
 ·
  rw [if_neg c2] at H
  exact absurd H (by simp)

end Go.Proofs.YthlifcbkpafofaaDoor.G
