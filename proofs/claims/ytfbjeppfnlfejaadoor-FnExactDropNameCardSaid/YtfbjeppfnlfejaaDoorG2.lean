-- Printed by a program of this session (drive.py, by way of the kit's print). Not trusted: Lean checks it.
import Derived.Test.YtfbjeppfnlfejaaDoorG0
import Derived.Test.YtfbjeppfnlfejaaDoorG1
namespace Go.Proofs.YtfbjeppfnlfejaaDoor.G
open Go.RowKit Go.Proofs.YtfbjeppfnlfejaaDoorW.PrintWords Go.Proofs.YtfbjeppfnlfejaaDoorW.PrintLast Go.Proofs.YtfbjeppfnlfejaaDoorW.PrintMore
attribute [local go_sem] max2_int min2_int max_two min_two max_three min_three max_four min_four   -- for this text's walks alone
set_option linter.unusedVariables false
set_option linter.unusedSimpArgs false

/-! ### spec_GoodDir: function 13 -/
mutual
def spec_GoodDir.j0 : Nat → Bool → Int → List Int → List (S46) → Option (Bool)
 | 0, _, _, _, _ => none
 | k + 1, x34, x113000, x113001, x113002 => if x34 = true then (some false) else (spec_GoodDir.l0 k 0 x113001 (x113001.length : Int) 0 x113000 x113001 x113002)
def spec_GoodDir.l0 : Nat → Int → List Int → Int → Int → Int → List Int → List (S46) → Option (Bool)
 | 0, _, _, _, _, _, _, _ => none
 | k + 1, x3, x36, x37, x38, x113000, x113001, x113002 => if x38 < x37 then (if 0 ≤ x38 then (if x38 < (x36.length : Int) then ((spec_l1In.f (rd x36 x38) 0 (wrap64 ((x113002.length : Int) - 1))).bind fun t115 => (if t115 = true then (if (rd x36 x38) > x3 then (spec_GoodDir.j2 k x3 x38 (rd x36 x38) x36 x37 x38 true x113000 x113001 x113002) else (if 0 ≤ (rd x36 x38) then (if (rd x36 x38) < (x113002.length : Int) then ((spec_l1In.f ((rd_T46 x113002 (rd x36 x38)).f0) 0 x113000).bind fun t117 => (spec_GoodDir.j2 k x3 x38 (rd x36 x38) x36 x37 x38 (!t117) x113000 x113001 x113002)) else (none)) else (none))) else (spec_GoodDir.j2 k x3 x38 (rd x36 x38) x36 x37 x38 true x113000 x113001 x113002))) else (none)) else (none)) else (spec_GoodDir.l2 k x3 x113002 (x113002.length : Int) 0 x113000 x113001 x113002)
def spec_GoodDir.j2 : Nat → Int → Int → Int → List Int → Int → Int → Bool → Int → List Int → List (S46) → Option (Bool)
 | 0, _, _, _, _, _, _, _, _, _, _ => none
 | k + 1, x3, x4, x5, x36, x37, x38, x66, x113000, x113001, x113002 => if x66 = true then (some false) else (if x5 = x3 then (spec_GoodDir.j3 k (wrap64 (x3 + 1)) x4 x5 x36 x37 x38 x113000 x113001 x113002) else (spec_GoodDir.j3 k x3 x4 x5 x36 x37 x38 x113000 x113001 x113002))
def spec_GoodDir.j3 : Nat → Int → Int → Int → List Int → Int → Int → Int → List Int → List (S46) → Option (Bool)
 | 0, _, _, _, _, _, _, _, _, _ => none
 | k + 1, x3, x4, x5, x36, x37, x38, x113000, x113001, x113002 => if 0 ≤ x4 then (if x4 ≤ (x113001.length : Int) then (spec_GoodDir.l1 k x3 x4 x5 x36 x37 x38 (x113001.take (x4 : Int).toNat) ((x113001.take (x4 : Int).toNat).length : Int) 0 x113000 x113001 x113002) else (none)) else (none)
def spec_GoodDir.l1 : Nat → Int → Int → Int → List Int → Int → Int → List Int → Int → Int → Int → List Int → List (S46) → Option (Bool)
 | 0, _, _, _, _, _, _, _, _, _, _, _, _ => none
 | k + 1, x3, x4, x5, x36, x37, x38, x75, x76, x77, x113000, x113001, x113002 => if x77 < x76 then (if 0 ≤ x77 then (if x77 < (x75.length : Int) then (if 0 ≤ x5 then (if x5 < (x113002.length : Int) then ((spec_l8Low.f x4 ((rd_T46 x113002 x5).f0)).bind fun t121 => ((spec_l8Low.f x77 ((rd_T46 x113002 x5).f0)).bind fun t123 => (if (((rd x75 x77) == x5) != (t121 == t123)) = true then (some false) else (if 0 ≤ (rd x75 x77) then (if (rd x75 x77) < (x113002.length : Int) then ((spec_l8Low.f x4 ((rd_T46 x113002 (rd x75 x77)).f0)).bind fun t125 => ((spec_l8Low.f x77 ((rd_T46 x113002 (rd x75 x77)).f0)).bind fun t127 => (if (((rd x75 x77) == x5) != (t125 == t127)) = true then (some false) else (spec_GoodDir.l1 k x3 x4 x5 x36 x37 x38 x75 x76 (wrap64 (x77 + 1)) x113000 x113001 x113002)))) else (none)) else (none))))) else (none)) else (none)) else (none)) else (none)) else (spec_GoodDir.l0 k x3 x36 x37 (wrap64 (x38 + 1)) x113000 x113001 x113002)
def spec_GoodDir.l2 : Nat → Int → List (S46) → Int → Int → Int → List Int → List (S46) → Option (Bool)
 | 0, _, _, _, _, _, _, _ => none
 | k + 1, x3, x129, x130, x131, x113000, x113001, x113002 => if x131 < x130 then (if 0 ≤ x131 then (if x131 < (x129.length : Int) then (spec_GoodDir.l3 k x3 x131 x129 x130 x131 ((rd_T46 x129 x131).f1) (((rd_T46 x129 x131).f1).length : Int) 0 x113000 x113001 x113002 ((rd_T46 x129 x131).f0) ((rd_T46 x129 x131).f1)) else (none)) else (none)) else (some (x3 == (x113002.length : Int)))
def spec_GoodDir.l3 : Nat → Int → Int → List (S46) → Int → Int → List (S53) → Int → Int → Int → List Int → List (S46) → Int → List (S53) → Option (Bool)
 | 0, _, _, _, _, _, _, _, _, _, _, _, _, _ => none
 | k + 1, x3, x8, x129, x130, x131, x137, x138, x139, x113000, x113001, x113002, x130000, x130001 => if x139 < x138 then (if 0 ≤ x139 then (if x139 < (x137.length : Int) then ((spec_l8Name.f k ((rd_T53 x137 x139).f0)).bind fun t132 => (if t132 = true then ((spec_l1In.f ((rd_T53 x137 x139).f1) 0 1000).bind fun t133 => (if t133 = true then (if x139 > 0 then (if 0 ≤ (wrap64 (x139 - 1)) then (if (wrap64 (x139 - 1)) < (x130001.length : Int) then (if ((Op.bytesLess (((rd_T53 x130001 (wrap64 (x139 - 1))).f0).toList) (((rd_T53 x137 x139).f0).toList)) = true) then ((spec_NameHash.f k ((rd_T53 x137 x139).f0)).bind fun t135 => ((spec_l8Low.f t135 x113000).bind fun t136 => (if 0 ≤ t136 then (if t136 < (x113001.length : Int) then (if (rd x113001 t136) = x8 then (spec_GoodDir.l3 k x3 x8 x129 x130 x131 x137 x138 (wrap64 (x139 + 1)) x113000 x113001 x113002 x130000 x130001) else (some false)) else (none)) else (none)))) else (some false)) else (none)) else (none)) else ((spec_NameHash.f k ((rd_T53 x137 x139).f0)).bind fun t138 => ((spec_l8Low.f t138 x113000).bind fun t139 => (if 0 ≤ t139 then (if t139 < (x113001.length : Int) then (if (rd x113001 t139) = x8 then (spec_GoodDir.l3 k x3 x8 x129 x130 x131 x137 x138 (wrap64 (x139 + 1)) x113000 x113001 x113002 x130000 x130001) else (some false)) else (none)) else (none))))) else (some false))) else (some false))) else (none)) else (none)) else (if (x130001.length : Int) > 4 then (some false) else (spec_GoodDir.l2 k x3 x129 x130 (wrap64 (x131 + 1)) x113000 x113001 x113002))
end
def spec_GoodDir.f (k : Nat) (a0_0 : Int) (l0_1 : List Int) (l0_2 : List (S46)) : Option (Bool) := (spec_l1In.f a0_0 0 8).bind fun t113 => (if t113 = true then (if 0 ≤ (IntKind.u64.wrap (a0_0)) then (if (l0_1.length : Int) = (shl .i64 1 (IntKind.u64.wrap (a0_0))) then (spec_GoodDir.j0 k (decide ((l0_2.length : Int) > (l0_1.length : Int))) a0_0 l0_1 l0_2) else (spec_GoodDir.j0 k true a0_0 l0_1 l0_2)) else (none)) else (spec_GoodDir.j0 k true a0_0 l0_1 l0_2))
theorem spec_GoodDir.mono_l : ∀ k, (∀ y0 y1 y2 y3, LeO (spec_GoodDir.j0 k y0 y1 y2 y3) (spec_GoodDir.j0 (k + 1) y0 y1 y2 y3)) ∧ (∀ y0 y1 y2 y3 y4 y5 y6, LeO (spec_GoodDir.l0 k y0 y1 y2 y3 y4 y5 y6) (spec_GoodDir.l0 (k + 1) y0 y1 y2 y3 y4 y5 y6)) ∧ (∀ y0 y1 y2 y3 y4 y5 y6 y7 y8 y9, LeO (spec_GoodDir.j2 k y0 y1 y2 y3 y4 y5 y6 y7 y8 y9) (spec_GoodDir.j2 (k + 1) y0 y1 y2 y3 y4 y5 y6 y7 y8 y9)) ∧ (∀ y0 y1 y2 y3 y4 y5 y6 y7 y8, LeO (spec_GoodDir.j3 k y0 y1 y2 y3 y4 y5 y6 y7 y8) (spec_GoodDir.j3 (k + 1) y0 y1 y2 y3 y4 y5 y6 y7 y8)) ∧ (∀ y0 y1 y2 y3 y4 y5 y6 y7 y8 y9 y10 y11, LeO (spec_GoodDir.l1 k y0 y1 y2 y3 y4 y5 y6 y7 y8 y9 y10 y11) (spec_GoodDir.l1 (k + 1) y0 y1 y2 y3 y4 y5 y6 y7 y8 y9 y10 y11)) ∧ (∀ y0 y1 y2 y3 y4 y5 y6, LeO (spec_GoodDir.l2 k y0 y1 y2 y3 y4 y5 y6) (spec_GoodDir.l2 (k + 1) y0 y1 y2 y3 y4 y5 y6)) ∧ (∀ y0 y1 y2 y3 y4 y5 y6 y7 y8 y9 y10 y11 y12, LeO (spec_GoodDir.l3 k y0 y1 y2 y3 y4 y5 y6 y7 y8 y9 y10 y11 y12) (spec_GoodDir.l3 (k + 1) y0 y1 y2 y3 y4 y5 y6 y7 y8 y9 y10 y11 y12))
 | 0 => ⟨fun _ _ _ _ r h => by simp [spec_GoodDir.j0] at h, fun _ _ _ _ _ _ _ r h => by simp [spec_GoodDir.l0] at h, fun _ _ _ _ _ _ _ _ _ _ r h => by simp [spec_GoodDir.j2] at h, fun _ _ _ _ _ _ _ _ _ r h => by simp [spec_GoodDir.j3] at h, fun _ _ _ _ _ _ _ _ _ _ _ _ r h => by simp [spec_GoodDir.l1] at h, fun _ _ _ _ _ _ _ r h => by simp [spec_GoodDir.l2] at h, fun _ _ _ _ _ _ _ _ _ _ _ _ _ r h => by simp [spec_GoodDir.l3] at h⟩
 | k + 1 => by
  obtain ⟨ih0, ih1, ih2, ih3, ih4, ih5, ih6⟩ := spec_GoodDir.mono_l k
  refine ⟨?_, ?_, ?_, ?_, ?_, ?_, ?_⟩ <;> intros <;> first | unfold spec_GoodDir.j0 | unfold spec_GoodDir.l0 | unfold spec_GoodDir.j2 | unfold spec_GoodDir.j3 | unfold spec_GoodDir.l1 | unfold spec_GoodDir.l2 | unfold spec_GoodDir.l3
  all_goals repeat' first
   | (with_reducible exact ih0 _ _ _ _)
   | (with_reducible exact ih1 _ _ _ _ _ _ _)
   | (with_reducible exact ih2 _ _ _ _ _ _ _ _ _ _)
   | (with_reducible exact ih3 _ _ _ _ _ _ _ _ _)
   | (with_reducible exact ih4 _ _ _ _ _ _ _ _ _ _ _ _)
   | (with_reducible exact ih5 _ _ _ _ _ _ _)
   | (with_reducible exact ih6 _ _ _ _ _ _ _ _ _ _ _ _ _)
   | (with_reducible exact spec_NameHash.mono _ _)
   | (with_reducible exact spec_l8Name.mono _ _)
   | (with_reducible exact LeO.refl _)
   | (with_reducible exact LeO.none _)
   | (with_reducible refine LeO.ite ?_ ?_)
   | (with_reducible refine LeO.bind ?_ (fun _ => ?_))
   | exact ih0 _ _ _ _
   | exact ih1 _ _ _ _ _ _ _
   | exact ih2 _ _ _ _ _ _ _ _ _ _
   | exact ih3 _ _ _ _ _ _ _ _ _
   | exact ih4 _ _ _ _ _ _ _ _ _ _ _ _
   | exact ih5 _ _ _ _ _ _ _
   | exact ih6 _ _ _ _ _ _ _ _ _ _ _ _ _
   | exact spec_NameHash.mono _ _
   | exact spec_l8Name.mono _ _
   | exact LeO.none _
   | refine LeO.ite ?_ ?_
   | refine LeO.bind ?_ (fun _ => ?_)
theorem spec_GoodDir.mono : ∀ a0 a1 a2 k, LeO (spec_GoodDir.f k a0 a1 a2) (spec_GoodDir.f (k + 1) a0 a1 a2) := by
 intro a0 a1 a2 k
 obtain ⟨ih0, ih1, ih2, ih3, ih4, ih5, ih6⟩ := spec_GoodDir.mono_l k
 unfold spec_GoodDir.f
 repeat' first
   | (with_reducible exact ih0 _ _ _ _)
   | (with_reducible exact ih1 _ _ _ _ _ _ _)
   | (with_reducible exact ih2 _ _ _ _ _ _ _ _ _ _)
   | (with_reducible exact ih3 _ _ _ _ _ _ _ _ _)
   | (with_reducible exact ih4 _ _ _ _ _ _ _ _ _ _ _ _)
   | (with_reducible exact ih5 _ _ _ _ _ _ _)
   | (with_reducible exact ih6 _ _ _ _ _ _ _ _ _ _ _ _ _)
   | (with_reducible exact spec_NameHash.mono _ _)
   | (with_reducible exact spec_l8Name.mono _ _)
   | (with_reducible exact LeO.refl _)
   | (with_reducible exact LeO.none _)
   | (with_reducible refine LeO.ite ?_ ?_)
   | (with_reducible refine LeO.bind ?_ (fun _ => ?_))
   | exact ih0 _ _ _ _
   | exact ih1 _ _ _ _ _ _ _
   | exact ih2 _ _ _ _ _ _ _ _ _ _
   | exact ih3 _ _ _ _ _ _ _ _ _
   | exact ih4 _ _ _ _ _ _ _ _ _ _ _ _
   | exact ih5 _ _ _ _ _ _ _
   | exact ih6 _ _ _ _ _ _ _ _ _ _ _ _ _
   | exact spec_NameHash.mono _ _
   | exact spec_l8Name.mono _ _
   | exact LeO.none _
   | refine LeO.ite ?_ ?_
   | refine LeO.bind ?_ (fun _ => ?_)
def spec_GoodDir.T7 : Bool × List (List Nat × List Nat) := (true, [([], []), ([], []), ([1], [1]), ([2], [2]), ([3], [3]), ([0, 4], [0, 4]), ([5], [5]), ([6, 5], [6]), ([7], [7]), ([7], [7]), ([8, 9, 7], [7, 8, 9]), ([7, 10], [7, 10]), ([11, 7], [11]), ([12], [12]), ([13, 12], [12, 13]), ([12], [12]), ([14, 15, 12], [12, 14, 15]), ([16, 12], [12, 16]), ([17, 12], [12, 17]), ([12], [12]), ([19, 12], [12, 19]), ([18, 20, 12, 12], [12, 18, 20]), ([21, 12], [12, 21]), ([12, 22], [12, 22])])
def spec_GoodDir.B7 : List Nat := [0, 0, 2, 6, 14, 31, 63, 127, 255, 255, 1023, 2047, 4095, 8191, 16383, 8191, 65535, 131071, 262143, 8191, 532479, 2097151, 4194303, 8388607]
theorem spec_GoodDir.tab7 : rtab .any (opsOf Tryd.f13 7) = spec_GoodDir.T7 := by kernel_rfl
theorem spec_GoodDir.bits7 : waitsOk spec_GoodDir.T7.2 spec_GoodDir.B7 = true := by kernel_rfl
def spec_GoodDir.T14 : Bool × List (List Nat × List Nat) := (true, [([], []), ([], []), ([0, 1], [0, 1]), ([], []), ([], []), ([4], [4]), ([], []), ([5, 6], [5, 6]), ([7], [7]), ([8], [8]), ([3, 9], [3, 9]), ([], []), ([], []), ([12], [12]), ([], []), ([13, 14], [13, 14]), ([15], [15]), ([16], [16]), ([11, 17, 10], [11, 17]), ([10, 18], [10, 18]), ([2, 19], [2, 19]), ([20, 18], [20]), ([21], [21]), ([21], [21]), ([22, 23, 21], [21, 22, 23]), ([21], [21]), ([21], [21]), ([26, 21], [21, 26]), ([21], [21]), ([27, 28, 21], [21, 27, 28]), ([29, 21], [21, 29]), ([30, 21], [21, 30]), ([25, 31, 21, 21], [21, 25, 31]), ([21], [21]), ([21], [21]), ([34, 21], [21, 34]), ([21], [21]), ([35, 36, 21], [21, 35, 36]), ([37, 21], [21, 37]), ([38, 21], [21, 38]), ([33, 39, 32, 21], [21, 33, 39]), ([32, 40, 21], [21, 32, 40]), ([24, 41, 21], [21, 24, 41]), ([21, 42], [21, 42])])
def spec_GoodDir.B14 : List Nat := [0, 0, 3, 0, 0, 16, 0, 112, 240, 496, 1016, 0, 0, 4096, 0, 28672, 61440, 126976, 262136, 524280, 1048575, 2097151, 4194303, 4194303, 16777215, 4194303, 4194303, 71303167, 4194303, 473956351, 1010827263, 2084569087, 4265607167, 4194303, 4194303, 17184063487, 4194303, 120263278591, 257702232063, 532580139007, 1099482267647, 2198993895423, 4398046511103, 8796093022207]
theorem spec_GoodDir.tab14 : rtab .any (opsOf Tryd.f13 14) = spec_GoodDir.T14 := by kernel_rfl
theorem spec_GoodDir.bits14 : waitsOk spec_GoodDir.T14.2 spec_GoodDir.B14 = true := by kernel_rfl
def spec_GoodDir.T24 : Bool × List (List Nat × List Nat) := (true, [([], []), ([0], [0]), ([1], [1]), ([2], [2]), ([3, 2], [3]), ([4], [4]), ([5, 4], [4, 5]), ([6, 4, 4], [4, 6]), ([7, 4], [4, 7]), ([4, 8], [4, 8]), ([9, 7], [9]), ([10], [10]), ([11, 10], [10, 11]), ([12, 10, 10], [10, 12]), ([13], [13]), ([14, 13], [13, 14]), ([13], [13]), ([16, 13], [13, 16]), ([15, 17, 13], [13, 15, 17]), ([18, 13], [13, 18]), ([19, 13], [13, 19]), ([13], [13]), ([21, 13], [13, 21]), ([20, 22, 13], [13, 20, 22]), ([13, 23, 10], [10, 13, 23]), ([10, 24], [10, 24]), ([25, 13], [25]), ([26], [26]), ([27, 26], [26, 27]), ([26], [26]), ([29, 26], [26, 29]), ([30, 26, 26], [26, 30]), ([26], [26]), ([32, 26], [26, 32]), ([31, 33, 31, 26], [26, 31, 33]), ([28, 34, 26], [26, 28, 34]), ([35, 26], [26, 35]), ([26], [26]), ([36, 37, 26], [26, 36, 37]), ([26, 38], [26, 38])])
def spec_GoodDir.B24 : List Nat := [0, 1, 3, 7, 15, 31, 63, 127, 255, 511, 1023, 2047, 4095, 8191, 16383, 32767, 16383, 81919, 262143, 524287, 1048575, 16383, 2113535, 8388607, 16777215, 33554431, 67108863, 134217727, 268435455, 134217727, 671088639, 1744830463, 134217727, 4429185023, 16777215999, 34359738367, 68719476735, 134217727, 274877906943, 549755813887]
theorem spec_GoodDir.tab24 : rtab .any (opsOf Tryd.f13 24) = spec_GoodDir.T24 := by kernel_rfl
theorem spec_GoodDir.bits24 : waitsOk spec_GoodDir.T24.2 spec_GoodDir.B24 = true := by kernel_rfl
set_option maxHeartbeats 8000000 in
set_option maxRecDepth 100000 in
theorem spec_GoodDir.calls (k : Nat) (a0_0 : Int) (A0_1 : Option Addr) (c0_1 : Nat) (l0_1 : List Int) (A0_2 : Option Addr) (c0_2 : Nat) (l0_2 : List (S46)) (r : Bool) (w : World) (hr0_1 : Kd.C (Kd.int .i64) w A0_1 l0_1.length l0_1) (hc0_1 : l0_1.length ≤ c0_1) (hr0_2 : Kd.C k46 w A0_2 l0_2.length l0_2) (hc0_2 : l0_2.length ≤ c0_2) (h : spec_GoodDir.f k a0_0 l0_1 l0_2 = some r) :
  Calls Tryd.prog 13 #[.agg #[.int .i64 a0_0, .slice A0_1 l0_1.length c0_1, .slice A0_2 l0_2.length c0_2]] w fun e w' => e = .returned (.bool r) ∧ Below w.heap.size w w' := by
 have hu29 := Tryd.underlying29
 have hu46 := Tryd.underlying46
 have hu53 := Tryd.underlying53
 have HR0_1 := Ah hr0_1
 have HC0_1 := Ah hc0_1
 clear hr0_1 hc0_1
 have HR0_2 := Ah hr0_2
 have HC0_2 := Ah hc0_2
 clear hr0_2 hc0_2
 have HB := Ah (Below.refl w.heap.size w)
 have H : ((spec_l1In.f a0_0 0 8).bind fun t113 => (if t113 = true then (if 0 ≤ (IntKind.u64.wrap (a0_0)) then (if (l0_1.length : Int) = (shl .i64 1 (IntKind.u64.wrap (a0_0))) then (spec_GoodDir.j0 k (decide ((l0_2.length : Int) > (l0_1.length : Int))) a0_0 l0_1 l0_2) else (spec_GoodDir.j0 k true a0_0 l0_1 l0_2)) else (none)) else (spec_GoodDir.j0 k true a0_0 l0_1 l0_2))) = some r := h
 clear h
 have HC2 := Ah H
 clear H
 go_enter Tryd.func13, Tryd.ntmps13
 go_upto_region 1 with (first | ((with_reducible refine gate_dst (N := 1) rfl ?_); (try (refine gate_guard (by rfl) ?_; dsimp only)); refine boxL 1 29 #[.int .i64 a0_0, .slice A0_1 l0_1.length c0_1, .slice A0_2 l0_2.length c0_2] ?_; intro gb112 hg w3 BK112 hb; have GW112 := gw hg (bs HB); have GE112 := gw hg (bs HB); replace HB := Ah (below_step (bs HB) hb); clear hb hg))
 (try simp only [Act.put, List.setIfInBounds_toArray, List.set_cons_zero, List.set_cons_succ])
 go_cut [34] (fun v34 wc => ∃ (kq : Nat) (x34_1 : Bool), v34 = .bool x34_1 ∧ Aside0 (spec_GoodDir.j0 kq x34_1 a0_0 l0_1 l0_2 = some r) ∧ Aside0 (kq ≤ k) ∧ Aside0 (wc.heap[gb112]? = some (.cells #[.int .i64 a0_0, (.slice A0_1 l0_1.length c0_1), (.slice A0_2 l0_2.length c0_2)] 29 (0, 0))) ∧ Aside0 (Below w.heap.size w wc))
 case first =>
  have H := HC2.out
  clear HC2
  replace H := Option.bind_eq_some_iff.mp H
  obtain ⟨t113, A40, H⟩ := H
  try dsimp only at H
  have A4 := Ah A40
  clear A40
  by_cases c5 : t113 = true
  rotate_left
  ·
   replace c5 := Bool.eq_false_iff.mpr c5
   subst c5
   rw [if_neg fne] at H
   as_aux_lemma =>
    have H' := Ah H
    clear H
    obtain ⟨hcz12_0, hcz12_1, hcz12_2⟩ := cz3 BK112
    obtain ⟨hfz12_0, hfz12_1, hfz12_2⟩ := fz3 BK112
    go_wp2_with (first | ((with_reducible refine gate_callee (f := 32) rfl ?_); refine gL (some 14) rfl rfl Tryd.func32 (by kernel_rfl) rfl #[.int .i64 a0_0, .int .i64 0, .int .i64 8] rfl ?_; (with_reducible refine (spec_l1In.calls a0_0 0 8 false _ A4.out).mono ?_); rintro e w' ⟨rfl, ⟨nd, rfl⟩⟩; refine ⟨_, rfl, ?_⟩))
    go_meet
    case rel => exact ⟨_, (true), e3, H', ⟨by first | omega | exact Nat.le_refl _⟩, ⟨bk BK112⟩, ⟨bs1 HB GE112⟩⟩
  subst c5
  rw [if_pos rfl] at H
  obtain ⟨ji6, hji6⟩ : ∃ j_ : Int, (IntKind.u64.wrap (a0_0)) = j_ := ⟨_, rfl⟩
  replace H : (if 0 ≤ (ji6) then (if (l0_1.length : Int) = (shl .i64 1 (ji6)) then (spec_GoodDir.j0 k (decide ((l0_2.length : Int) > (l0_1.length : Int))) a0_0 l0_1 l0_2) else (spec_GoodDir.j0 k true a0_0 l0_1 l0_2)) else (none)) = some r := by first | (rw [hji6] at H; exact H) | (simp only [hji6] at H ⊢; exact H)
  (try rw [hji6] at A4)
  by_cases c7 : 0 ≤ (ji6)
  rotate_left
  ·
   rw [if_neg c7] at H
   exact absurd H (by simp)
  rw [if_pos c7] at H
  have c7b0 := eq_true c7
  have c7b1 : decide (0 ≤ (ji6)) = true := decide_eq_true c7
  clear c7
  obtain ⟨ji8, hji8⟩ : ∃ j_ : Int, (shl .i64 1 (ji6)) = j_ := ⟨_, rfl⟩
  replace H : (if (l0_1.length : Int) = (ji8) then (spec_GoodDir.j0 k (decide ((l0_2.length : Int) > (l0_1.length : Int))) a0_0 l0_1 l0_2) else (spec_GoodDir.j0 k true a0_0 l0_1 l0_2)) = some r := by first | (rw [hji8] at H; exact H) | (simp only [hji8] at H ⊢; exact H)
  (try rw [hji8] at A4)
  have hji8_ : (IntKind.i64.wrap (1 * 2 ^ min (ji6).toNat 64)) = ji8 := hji8
  have hji8z : (ji6) ≤ 64 → (IntKind.i64.wrap (1 * 2 ^ (ji6).toNat)) = ji8 := shl_small hji8
  have hji8u : (IntKind.i64.wrap (2 ^ min (ji6).toNat 64)) = ji8 := by have h_ := hji8_; rw [Int.one_mul] at h_; exact h_
  have hji8v : (ji6) ≤ 64 → (IntKind.i64.wrap (2 ^ (ji6).toNat)) = ji8 := fun hle_ => by have h_ := hji8z hle_; rw [Int.one_mul] at h_; exact h_
  have hji8y : (wrap64 (1 * 2 ^ min (ji6).toNat 64)) = ji8 := (i64_w _).symm.trans hji8_
  have hji8x : (ji6) ≤ 64 → (wrap64 (1 * 2 ^ (ji6).toNat)) = ji8 := fun h_ => (i64_w _).symm.trans (hji8z h_)
  by_cases c9 : (l0_1.length : Int) = (ji8)
  rotate_left
  ·
   rw [if_neg c9] at H
   have c9b0 : ((l0_1.length : Int) == (ji8)) = false := beq_eq_false_iff_ne.mpr c9
   have c9b1 : ((l0_1.length : Int) != (ji8)) = true := bne_iff_ne.mpr c9
   (first | rw [c9b0] | (simp only [i64_w, i32_w]; rw [c9b0]) | (simp only [c9b2, Bool.not_false, Bool.not_true]) | skip)
   as_aux_lemma =>
    have H' := Ah H
    clear H
    obtain ⟨hcz11_0, hcz11_1, hcz11_2⟩ := cz3 BK112
    obtain ⟨hfz11_0, hfz11_1, hfz11_2⟩ := fz3 BK112
    go_wp2_with (first | ((with_reducible refine gate_callee (f := 32) rfl ?_); refine gL (some 14) rfl rfl Tryd.func32 (by kernel_rfl) rfl #[.int .i64 a0_0, .int .i64 0, .int .i64 8] rfl ?_; (with_reducible refine (spec_l1In.calls a0_0 0 8 true _ A4.out).mono ?_); rintro e w' ⟨rfl, ⟨nd, rfl⟩⟩; refine ⟨_, rfl, ?_⟩))
    go_meet
    case rel => exact ⟨_, (true), e3, H', ⟨by first | omega | exact Nat.le_refl _⟩, ⟨bk BK112⟩, ⟨bs1 HB GE112⟩⟩
  rw [if_pos c9] at H
  have c9b0 : ((l0_1.length : Int) == (ji8)) = true := beq_iff_eq.mpr c9
  have c9b1 : ((l0_1.length : Int) != (ji8)) = false := bne_eq_false_iff_eq.mpr c9
  clear c9
  (first | rw [c9b0] | (simp only [i64_w, i32_w]; rw [c9b0]) | (simp only [c9b2, Bool.not_false, Bool.not_true]) | skip)
  as_aux_lemma =>
   have H' := Ah H
   clear H
   obtain ⟨hcz10_0, hcz10_1, hcz10_2⟩ := cz3 BK112
   obtain ⟨hfz10_0, hfz10_1, hfz10_2⟩ := fz3 BK112
   go_wp2_with (first | ((with_reducible refine gate_callee (f := 32) rfl ?_); refine gL (some 14) rfl rfl Tryd.func32 (by kernel_rfl) rfl #[.int .i64 a0_0, .int .i64 0, .int .i64 8] rfl ?_; (with_reducible refine (spec_l1In.calls a0_0 0 8 true _ A4.out).mono ?_); rintro e w' ⟨rfl, ⟨nd, rfl⟩⟩; refine ⟨_, rfl, ?_⟩))
   go_meet
   case rel => exact ⟨_, (decide ((l0_2.length : Int) > (l0_1.length : Int))), e3, H', ⟨by first | omega | exact Nat.le_refl _⟩, ⟨bk BK112⟩, ⟨bs1 HB GE112⟩⟩
 case rest =>
  clear HC2
  try clear c1
  try clear p2
  try clear c3
  try clear c5
  try clear p6
  try clear c7
  try clear c7b0
  try clear c7b1
  try clear c9
  try clear c9b0
  try clear c9b1
  try clear hcz10_0 hcz10_1 hcz10_2
  try clear hcz11_0 hcz11_1 hcz11_2
  try clear hcz12_0 hcz12_1 hcz12_2
  try clear hfz10_0 hfz10_1 hfz10_2
  try clear hfz11_0 hfz11_1 hfz11_2
  try clear hfz12_0 hfz12_1 hfz12_2
  obtain ⟨kq, x34_1, rfl, HA, HJ1, BK112, HB⟩ := hcut
  cases kq with
  | zero => exact absurd HA.out (by simp [spec_GoodDir.j0])
  | succ kj1 =>
   have H := HA.out
   clear HA
   simp only [spec_GoodDir.j0] at H
   by_cases c13 : x34_1 = true
   ·
    subst c13
    rw [if_pos rfl] at H
    as_aux_lemma =>
     obtain rfl := Option.some.inj H
     go_wp2
     go_ret
     exact ⟨er, bs1 HB GE112⟩
   replace c13 := Bool.eq_false_iff.mpr c13
   subst c13
   rw [if_neg fne] at H
   have H' := Ah H
   clear H
   obtain ⟨hcz14_0, hcz14_1, hcz14_2⟩ := cz3 BK112
   obtain ⟨hfz14_0, hfz14_1, hfz14_2⟩ := fz3 BK112
   go_wp2
   go_loopg [3, 38] kj1 (fun kq v3 v38 w' => ∃ (x3_2 : Int) (x38_2 : Int), v3 = .int .i64 x3_2 ∧ v38 = .int .i64 x38_2 ∧ Aside0 (spec_GoodDir.l0 kq x3_2 l0_1 (l0_1.length : Int) x38_2 a0_0 l0_1 l0_2 = some r) ∧ Aside0 (kq ≤ kj1) ∧ Aside0 (w'.heap[gb112]? = some (.cells #[.int .i64 a0_0, (.slice A0_1 l0_1.length c0_1), (.slice A0_2 l0_2.length c0_2)] 29 (0, 0))) ∧ Aside0 (Below w.heap.size w w'))
   case atStart => exact ⟨(0), (0), e3, e3, H', ⟨Nat.le_refl _⟩, ⟨bk BK112⟩, ⟨bs1 HB GE112⟩⟩
   case round =>
    clear H'
    try clear c1
    try clear p2
    try clear c3
    try clear c5
    try clear p6
    try clear c7
    try clear c7b0
    try clear c7b1
    try clear c9
    try clear c9b0
    try clear c9b1
    try clear c13
    try clear hcz10_0 hcz10_1 hcz10_2
    try clear hcz11_0 hcz11_1 hcz11_2
    try clear hcz12_0 hcz12_1 hcz12_2
    try clear hcz14_0 hcz14_1 hcz14_2
    try clear hfz10_0 hfz10_1 hfz10_2
    try clear hfz11_0 hfz11_1 hfz11_2
    try clear hfz12_0 hfz12_1 hfz12_2
    try clear hfz14_0 hfz14_1 hfz14_2
    try clear p2
    try clear p6
    obtain ⟨x3_2, x38_2, rfl, rfl, HA, HK2, BK112, HB⟩ := hrel
    cases gk with
    | zero => exact absurd HA.out (by simp [spec_GoodDir.l0])
    | succ k2 =>
     have H := HA.out
     clear HA
     simp only [spec_GoodDir.l0] at H
     by_cases c15 : x38_2 < (l0_1.length : Int)
     ·
      rw [if_pos c15] at H
      have c15b0 : decide (x38_2 < (l0_1.length : Int)) = true := decide_eq_true c15
      clear c15
      by_cases c16 : 0 ≤ x38_2
      rotate_left
      ·
       rw [if_neg c16] at H
       exact absurd H (by simp)
      rw [if_pos c16] at H
      have c16b0 : decide (0 ≤ x38_2) = true := decide_eq_true c16
      clear c16
      by_cases c17 : x38_2 < (l0_1.length : Int)
      rotate_left
      ·
       rw [if_neg c17] at H
       exact absurd H (by simp)
      rw [if_pos c17] at H
      have c17b0 : decide (x38_2 < (l0_1.length : Int)) = true := decide_eq_true c17
      clear c17
      have HC18 := Ah H
      clear H
      have p114 : 0 ≤ (x38_2 : Int) := od
      have q114 : x38_2 < (l0_1.length : Int) := od
      obtain ⟨ad114, e114, hx114_0⟩ := Kd.at_int HR0_1.out x38_2 p114 q114
      cases e114
      replace hx114_0 := (HB.out.cell (World.block_lt_of_cell? w _ hx114_0)).trans hx114_0
      replace p114 := eq_true p114
      replace q114 := eq_true q114
      go_upto_region 7 with (fail)
      go_cut [66] (fun v66 wc => ∃ (kq : Nat) (x66_17 : Bool), v66 = .bool x66_17 ∧ Aside0 (spec_GoodDir.j2 kq x3_2 x38_2 (rd l0_1 x38_2) l0_1 (l0_1.length : Int) x38_2 x66_17 a0_0 l0_1 l0_2 = some r) ∧ Aside0 (kq ≤ k2) ∧ Aside0 (wc.heap[gb112]? = some (.cells #[.int .i64 a0_0, (.slice (some ad114) l0_1.length c0_1), (.slice A0_2 l0_2.length c0_2)] 29 (0, 0))) ∧ Aside0 (Below w.heap.size w wc))
      case first =>
       have H := HC18.out
       clear HC18
       replace H := Option.bind_eq_some_iff.mp H
       obtain ⟨t115, A190, H⟩ := H
       try dsimp only at H
       have A19 := Ah A190
       clear A190
       by_cases c20 : t115 = true
       rotate_left
       ·
        replace c20 := Bool.eq_false_iff.mpr c20
        subst c20
        rw [if_neg fne] at H
        as_aux_lemma =>
         have H' := Ah H
         clear H
         try go_wp2
         have n0_ := Ah (blk_drew BK112.out)
         have n1_ := Ah (below_drew1 HB.out)
         clear BK112 HB
         have BK112 := n0_
         have HB := n1_
         clear n0_ n1_
         refine start_ (n := 24) (S := fun w' => w'.cell? ⟨gb112, 0, none⟩ = some (.int .i64 a0_0) ∧ w'.cell? ⟨gb112, 1, none⟩ = some (.slice (some ad114) l0_1.length c0_1) ∧ w'.cell? ⟨gb112, 2, none⟩ = some (.slice A0_2 l0_2.length c0_2)) (ds := []) #[false, false, false, false, false, false, false, false, false, false, false, false, false, false, false, false, false, false, false, false, false, false, false, false] (by kernel_rfl) rfl rfl ⟨(blk_cell BK112.out 0).trans rfl, (blk_cell BK112.out 1).trans rfl, (blk_cell BK112.out 2).trans rfl⟩ (fun hHeld => ?_); refine with_tabW spec_GoodDir.tab7 spec_GoodDir.bits7 (fun HT_ HW_ => ?_)
         generalize wr.drew = w27 at BK112 HB hHeld ⊢
         refine pureS 0 43 HT_.out ?_
         refine pureS 1 44 HT_.out ?_
         refine takeS 2 45 HT_.out HW_.out hHeld (hr := by rintro w' ⟨s0, s1, s2⟩; go_simp; with_reducible rfl) (h := ?_)
         refine pureS 3 46 HT_.out ?_
         refine pureS 4 47 HT_.out ?_
         refine one_ (i := 5) (N := some 48) #[true, true, true, true, true, true, false, false, false, false, false, false, false, false, false, false, false, false, false, false, false, false, false, false] rfl rfl (one_of HT_.out (by kernel_rfl)) (by decide) (fun K hK => ?_)
         refine goes_ Tryd.func32 (by kernel_rfl) rfl #[.int .i64 (rd l0_1 x38_2), .int .i64 0, .int .i64 (wrap64 ((l0_2.length : Int) - 1))] (by rfl) rfl rfl (by (try simp only [List.map_toArray, List.map_cons, List.map_nil]); first | done | rfl | (simp only [List.length_drop, List.length_take]; rfl)) ?_
         with_reducible refine (spec_l1In.calls (rd l0_1 x38_2) 0 (wrap64 ((l0_2.length : Int) - 1)) false _ A19.out).mono ?_
         rintro e w' ⟨rfl, ⟨nd, rfl⟩⟩
         refine ⟨_, rfl, ?_⟩
         refine hK.out _ _ ⟨(blk_cell BK112.out 0).trans rfl, (blk_cell BK112.out 1).trans rfl, (blk_cell BK112.out 2).trans rfl⟩ (fun hHeld => ?_)
         clear hK K
         refine norm_ (a' := ?_) ?_ ?_
         rotate_left
         ·
          show Act.put _ (some 48) _ = _
          simp only [Act.put, List.setIfInBounds_toArray, List.set_cons_zero, List.set_cons_succ, i64_w, i32_w]
          rfl
         refine pureS 6 49 HT_.out ?_
         refine pureS 7 50 HT_.out ?_
         refine pureU 8 51 HT_.out ?_
         refine pureU 9 52 HT_.out ?_
         refine pureU 10 53 HT_.out ?_
         refine pureS 11 54 HT_.out ?_
         refine pureS 12 55 HT_.out ?_
         refine pureU 13 56 HT_.out ?_
         refine pureU 14 57 HT_.out ?_
         refine pureU 15 58 HT_.out ?_
         refine pureU 16 59 HT_.out ?_
         refine pureU 17 60 HT_.out ?_
         refine pureU 18 61 HT_.out ?_
         refine pureU 19 62 HT_.out ?_
         refine pureU 20 63 HT_.out ?_
         refine pureU 21 64 HT_.out ?_
         refine pureU 22 65 HT_.out ?_
         refine pureS 23 66 HT_.out ?_
         refine done_ (done_of HT_.out (by kernel_rfl)) ?_
         try go_wp2
         go_meet
         case rel => exact ⟨_, (true), e3, H', ⟨by have := HJ1.out; have := HK2.out; first | omega | exact Nat.le_refl _⟩, ⟨bk BK112⟩, ⟨bs1 HB GE112⟩⟩
       subst c20
       rw [if_pos rfl] at H
       by_cases c21 : (rd l0_1 x38_2) > x3_2
       ·
        rw [if_pos c21] at H
        have c21b0 : decide (x3_2 < (rd l0_1 x38_2)) = true := decide_eq_true c21
        clear c21
        (first | rw [c21b0] | (simp only [i64_w, i32_w]; rw [c21b0]) | (simp only [c21b2, Bool.not_false, Bool.not_true]) | skip)
        as_aux_lemma =>
         have H' := Ah H
         clear H
         try go_wp2
         have n0_ := Ah (blk_drew BK112.out)
         have n1_ := Ah (below_drew1 HB.out)
         clear BK112 HB
         have BK112 := n0_
         have HB := n1_
         clear n0_ n1_
         refine start_ (n := 24) (S := fun w' => w'.cell? ⟨gb112, 0, none⟩ = some (.int .i64 a0_0) ∧ w'.cell? ⟨gb112, 1, none⟩ = some (.slice (some ad114) l0_1.length c0_1) ∧ w'.cell? ⟨gb112, 2, none⟩ = some (.slice A0_2 l0_2.length c0_2)) (ds := []) #[false, false, false, false, false, false, false, false, false, false, false, false, false, false, false, false, false, false, false, false, false, false, false, false] (by kernel_rfl) rfl rfl ⟨(blk_cell BK112.out 0).trans rfl, (blk_cell BK112.out 1).trans rfl, (blk_cell BK112.out 2).trans rfl⟩ (fun hHeld => ?_); refine with_tabW spec_GoodDir.tab7 spec_GoodDir.bits7 (fun HT_ HW_ => ?_)
         generalize wr.drew = w22 at BK112 HB hHeld ⊢
         refine pureS 0 43 HT_.out ?_
         refine pureS 1 44 HT_.out ?_
         refine takeS 2 45 HT_.out HW_.out hHeld (hr := by rintro w' ⟨s0, s1, s2⟩; go_simp; with_reducible rfl) (h := ?_)
         refine pureS 3 46 HT_.out ?_
         refine pureS 4 47 HT_.out ?_
         refine one_ (i := 5) (N := some 48) #[true, true, true, true, true, true, false, false, false, false, false, false, false, false, false, false, false, false, false, false, false, false, false, false] rfl rfl (one_of HT_.out (by kernel_rfl)) (by decide) (fun K hK => ?_)
         refine goes_ Tryd.func32 (by kernel_rfl) rfl #[.int .i64 (rd l0_1 x38_2), .int .i64 0, .int .i64 (wrap64 ((l0_2.length : Int) - 1))] (by rfl) rfl rfl (by (try simp only [List.map_toArray, List.map_cons, List.map_nil]); first | done | rfl | (simp only [List.length_drop, List.length_take]; rfl)) ?_
         with_reducible refine (spec_l1In.calls (rd l0_1 x38_2) 0 (wrap64 ((l0_2.length : Int) - 1)) true _ A19.out).mono ?_
         rintro e w' ⟨rfl, ⟨nd, rfl⟩⟩
         refine ⟨_, rfl, ?_⟩
         refine hK.out _ _ ⟨(blk_cell BK112.out 0).trans rfl, (blk_cell BK112.out 1).trans rfl, (blk_cell BK112.out 2).trans rfl⟩ (fun hHeld => ?_)
         clear hK K
         refine norm_ (a' := ?_) ?_ ?_
         rotate_left
         ·
          show Act.put _ (some 48) _ = _
          simp only [Act.put, List.setIfInBounds_toArray, List.set_cons_zero, List.set_cons_succ, i64_w, i32_w]
          rfl
         refine pureS 6 49 HT_.out ?_
         refine pureS 7 50 HT_.out ?_
         refine pureS 8 51 HT_.out ?_
         refine pureS 9 52 HT_.out ?_
         refine pureS 10 53 HT_.out ?_
         refine pureS 11 54 HT_.out ?_
         refine pureS 12 55 HT_.out ?_
         refine pureU 13 56 HT_.out ?_
         refine pureU 14 57 HT_.out ?_
         refine pureU 15 58 HT_.out ?_
         refine pureU 16 59 HT_.out ?_
         refine pureU 17 60 HT_.out ?_
         refine pureU 18 61 HT_.out ?_
         refine pureU 19 62 HT_.out ?_
         refine pureU 20 63 HT_.out ?_
         refine pureU 21 64 HT_.out ?_
         refine pureU 22 65 HT_.out ?_
         refine pureS 23 66 HT_.out ?_
         refine done_ (done_of HT_.out (by kernel_rfl)) ?_
         try go_wp2
         go_meet
         case rel => exact ⟨_, (true), e3, H', ⟨by have := HJ1.out; have := HK2.out; first | omega | exact Nat.le_refl _⟩, ⟨bk BK112⟩, ⟨bs1 HB GE112⟩⟩
       rw [if_neg c21] at H
       have c21b0 : decide (x3_2 < (rd l0_1 x38_2)) = false := decide_eq_false c21
       clear c21
       (first | rw [c21b0] | (simp only [i64_w, i32_w]; rw [c21b0]) | (simp only [c21b2, Bool.not_false, Bool.not_true]) | skip)
       by_cases c23 : 0 ≤ (rd l0_1 x38_2)
       rotate_left
       ·
        rw [if_neg c23] at H
        exact absurd H (by simp)
       rw [if_pos c23] at H
       have c23b0 : decide (0 ≤ (rd l0_1 x38_2)) = true := decide_eq_true c23
       clear c23
       by_cases c24 : (rd l0_1 x38_2) < (l0_2.length : Int)
       rotate_left
       ·
        rw [if_neg c24] at H
        exact absurd H (by simp)
       rw [if_pos c24] at H
       have c24b0 : decide ((rd l0_1 x38_2) < (l0_2.length : Int)) = true := decide_eq_true c24
       clear c24
       replace H := Option.bind_eq_some_iff.mp H
       obtain ⟨t117, A250, H⟩ := H
       try dsimp only at H
       have A25 := Ah A250
       clear A250
       as_aux_lemma =>
        have H' := Ah H
        clear H
        try go_wp2
        have n0_ := Ah (blk_drew BK112.out)
        have n1_ := Ah (below_drew1 HB.out)
        clear BK112 HB
        have BK112 := n0_
        have HB := n1_
        clear n0_ n1_
        have p116 : 0 ≤ ((rd l0_1 x38_2) : Int) := od
        have q116 : (rd l0_1 x38_2) < (l0_2.length : Int) := od
        obtain ⟨ad116, A116_1, c116_1, e116, hx116_0, hx116_1, hl116_1, hi116_1⟩ := at_T46 HR0_2.out (rd l0_1 x38_2) p116 q116
        have hw116_1 := hx116_1
        have hw116_0 := hx116_0
        cases e116
        replace hx116_0 := (HB.out.cell (World.block_lt_of_cell? w _ hx116_0)).trans hx116_0
        replace hx116_1 := (HB.out.cell (World.block_lt_of_cell? w _ hx116_1)).trans hx116_1
        have HR116_1 := Ah hi116_1
        have HC116_1 := Ah hl116_1
        clear hi116_1 hl116_1
        replace p116 := eq_true p116
        replace q116 := eq_true q116
        refine start_ (n := 24) (S := fun w' => w'.cell? ⟨gb112, 0, none⟩ = some (.int .i64 a0_0) ∧ w'.cell? ⟨gb112, 1, none⟩ = some (.slice (some ad114) l0_1.length c0_1) ∧ w'.cell? ⟨gb112, 2, none⟩ = some (.slice (some ad116) l0_2.length c0_2) ∧ w'.cell? (ad116.add (((rd l0_1 x38_2)).toNat * 2)) = some (.int .i64 ((rd_T46 l0_2 (rd l0_1 x38_2)).f0)) ∧ w'.cell? ⟨(ad116.add (((rd l0_1 x38_2)).toNat * 2)).block, (ad116.add (((rd l0_1 x38_2)).toNat * 2)).off + 1, none⟩ = some (.slice A116_1 ((rd_T46 l0_2 (rd l0_1 x38_2)).f1).length c116_1)) (ds := []) #[false, false, false, false, false, false, false, false, false, false, false, false, false, false, false, false, false, false, false, false, false, false, false, false] (by kernel_rfl) rfl rfl ⟨(blk_cell BK112.out 0).trans rfl, (blk_cell BK112.out 1).trans rfl, (blk_cell BK112.out 2).trans rfl, ((HB.out.cell (World.block_lt_of_cell? w _ hw116_0)).trans hw116_0), ((HB.out.cell (World.block_lt_of_cell? w _ hw116_1)).trans hw116_1)⟩ (fun hHeld => ?_); refine with_tabW spec_GoodDir.tab7 spec_GoodDir.bits7 (fun HT_ HW_ => ?_)
        generalize wr.drew = w26 at BK112 HB HR116_1 hx116_0 hx116_1 hHeld ⊢
        refine pureS 0 43 HT_.out ?_
        refine pureS 1 44 HT_.out ?_
        refine takeS 2 45 HT_.out HW_.out hHeld (hr := by rintro w' ⟨s0, s1, s2, s3, s4⟩; go_simp; with_reducible rfl) (h := ?_)
        refine pureS 3 46 HT_.out ?_
        refine pureS 4 47 HT_.out ?_
        refine one_ (i := 5) (N := some 48) #[true, true, true, true, true, true, false, false, false, false, false, false, false, false, false, false, false, false, false, false, false, false, false, false] rfl rfl (one_of HT_.out (by kernel_rfl)) (by decide) (fun K hK => ?_)
        refine goes_ Tryd.func32 (by kernel_rfl) rfl #[.int .i64 (rd l0_1 x38_2), .int .i64 0, .int .i64 (wrap64 ((l0_2.length : Int) - 1))] (by rfl) rfl rfl (by (try simp only [List.map_toArray, List.map_cons, List.map_nil]); first | done | rfl | (simp only [List.length_drop, List.length_take]; rfl)) ?_
        with_reducible refine (spec_l1In.calls (rd l0_1 x38_2) 0 (wrap64 ((l0_2.length : Int) - 1)) true _ A19.out).mono ?_
        rintro e w' ⟨rfl, ⟨nd, rfl⟩⟩
        refine ⟨_, rfl, ?_⟩
        refine hK.out _ _ ⟨(blk_cell BK112.out 0).trans rfl, (blk_cell BK112.out 1).trans rfl, (blk_cell BK112.out 2).trans rfl, ((HB.out.cell (World.block_lt_of_cell? w _ hw116_0)).trans hw116_0), ((HB.out.cell (World.block_lt_of_cell? w _ hw116_1)).trans hw116_1)⟩ (fun hHeld => ?_)
        clear hK K
        refine norm_ (a' := ?_) ?_ ?_
        rotate_left
        ·
         show Act.put _ (some 48) _ = _
         simp only [Act.put, List.setIfInBounds_toArray, List.set_cons_zero, List.set_cons_succ, i64_w, i32_w]
         rfl
        refine pureS 6 49 HT_.out ?_
        refine pureS 7 50 HT_.out ?_
        refine pureS 8 51 HT_.out ?_
        refine pureS 9 52 HT_.out ?_
        refine pureS 10 53 HT_.out ?_
        refine pureS 11 54 HT_.out ?_
        refine pureS 12 55 HT_.out ?_
        refine pureS 13 56 HT_.out ?_
        refine pureS 15 58 HT_.out ?_
        refine pureS 19 62 HT_.out ?_
        refine takeS 14 57 HT_.out HW_.out hHeld (hr := by rintro w' ⟨s0, s1, s2, s3, s4⟩; go_simp; with_reducible rfl) (h := ?_)
        refine pureS 16 59 HT_.out ?_
        refine pureS 17 60 HT_.out ?_
        refine takeS 18 61 HT_.out HW_.out hHeld (hr := by rintro w' ⟨s0, s1, s2, s3, s4⟩; go_simp; with_reducible rfl) (h := ?_)
        refine takeS 20 63 HT_.out HW_.out hHeld (hr := by rintro w' ⟨s0, s1, s2, s3, s4⟩; go_simp; with_reducible rfl) (h := ?_)
        refine one_ (i := 21) (N := some 64) #[true, true, true, true, true, true, true, true, true, true, true, true, true, true, true, true, true, true, true, true, true, true, false, false] rfl rfl (one_of HT_.out (by kernel_rfl)) (by decide) (fun K hK => ?_)
        refine goes_ Tryd.func32 (by kernel_rfl) rfl #[.int .i64 ((rd_T46 l0_2 (rd l0_1 x38_2)).f0), .int .i64 0, .int .i64 a0_0] (by rfl) rfl rfl (by (try simp only [List.map_toArray, List.map_cons, List.map_nil]); first | done | rfl | (simp only [List.length_drop, List.length_take]; rfl)) ?_
        with_reducible refine (spec_l1In.calls ((rd_T46 l0_2 (rd l0_1 x38_2)).f0) 0 a0_0 t117 _ A25.out).mono ?_
        rintro e w' ⟨rfl, ⟨nd, rfl⟩⟩
        refine ⟨_, rfl, ?_⟩
        refine hK.out _ _ ⟨(blk_cell BK112.out 0).trans rfl, (blk_cell BK112.out 1).trans rfl, (blk_cell BK112.out 2).trans rfl, ((HB.out.cell (World.block_lt_of_cell? w _ hw116_0)).trans hw116_0), ((HB.out.cell (World.block_lt_of_cell? w _ hw116_1)).trans hw116_1)⟩ (fun hHeld => ?_)
        clear hK K
        refine norm_ (a' := ?_) ?_ ?_
        rotate_left
        ·
         show Act.put _ (some 64) _ = _
         simp only [Act.put, List.setIfInBounds_toArray, List.set_cons_zero, List.set_cons_succ, i64_w, i32_w]
         rfl
        refine pureS 22 65 HT_.out ?_
        refine pureS 23 66 HT_.out ?_
        refine done_ (done_of HT_.out (by kernel_rfl)) ?_
        try go_wp2
        go_meet
        case rel => exact ⟨_, (!t117), e3, H', ⟨by have := HJ1.out; have := HK2.out; first | omega | exact Nat.le_refl _⟩, ⟨bk BK112⟩, ⟨bs1 HB GE112⟩⟩
      case rest =>
       clear HC18
       try clear c1
       try clear p1
       try clear q1
       try clear hx1
       try clear c2
       try clear p2
       try clear c3
       try clear p6
       try clear c11
       try clear p11
       try clear q11
       try clear hx11
       try clear c20
       try clear c21
       try clear c21b0
       try clear c23
       try clear c23b0
       try clear c24
       try clear c24b0
       try clear hx116_0
       try clear hx116_1
       try clear p116
       try clear q116
       obtain ⟨kq, x66_17, rfl, HA, HJ17, BK112, HB⟩ := hcut
       cases kq with
       | zero => exact absurd HA.out (by simp [spec_GoodDir.j2])
       | succ kj17 =>
        have H := HA.out
        clear HA
        simp only [spec_GoodDir.j2] at H
        by_cases c28 : x66_17 = true
        ·
         subst c28
         rw [if_pos rfl] at H
         as_aux_lemma =>
          obtain rfl := Option.some.inj H
          go_wp2
          go_ret
          exact ⟨er, bs1 HB GE112⟩
        replace c28 := Bool.eq_false_iff.mpr c28
        subst c28
        rw [if_neg fne] at H
        have HC29 := Ah H
        clear H
        go_upto_if 69 with (fail)
        go_cut [3] (fun v3 wc => ∃ (kq : Nat) (x3_28 : Int), v3 = .int .i64 x3_28 ∧ Aside0 (spec_GoodDir.j3 kq x3_28 x38_2 (rd l0_1 x38_2) l0_1 (l0_1.length : Int) x38_2 a0_0 l0_1 l0_2 = some r) ∧ Aside0 (kq ≤ kj17) ∧ Aside0 (wc.heap[gb112]? = some (.cells #[.int .i64 a0_0, (.slice (some ad114) l0_1.length c0_1), (.slice A0_2 l0_2.length c0_2)] 29 (0, 0))) ∧ Aside0 (Below w.heap.size w wc))
        case first =>
         have H := HC29.out
         clear HC29
         by_cases c30 : (rd l0_1 x38_2) = x3_2
         rotate_left
         ·
          rw [if_neg c30] at H
          have c30b0 : ((rd l0_1 x38_2) == x3_2) = false := beq_eq_false_iff_ne.mpr c30
          have c30b1 : ((rd l0_1 x38_2) != x3_2) = true := bne_iff_ne.mpr c30
          (first | rw [c30b0] | (simp only [i64_w, i32_w]; rw [c30b0]) | (simp only [c30b2, Bool.not_false, Bool.not_true]) | skip)
          as_aux_lemma =>
           have H' := Ah H
           clear H
           go_wp2
           go_meet
           case rel => exact ⟨_, (x3_2), e3, H', ⟨by have := HJ1.out; have := HK2.out; have := HJ17.out; first | omega | exact Nat.le_refl _⟩, ⟨bk BK112⟩, ⟨bs1 HB GE112⟩⟩
         rw [if_pos c30] at H
         have c30b0 : ((rd l0_1 x38_2) == x3_2) = true := beq_iff_eq.mpr c30
         have c30b1 : ((rd l0_1 x38_2) != x3_2) = false := bne_eq_false_iff_eq.mpr c30
         clear c30
         (first | rw [c30b0] | (simp only [i64_w, i32_w]; rw [c30b0]) | (simp only [c30b2, Bool.not_false, Bool.not_true]) | skip)
         as_aux_lemma =>
          have H' := Ah H
          clear H
          go_wp2
          go_meet
          case rel => exact ⟨_, (wrap64 (x3_2 + 1)), e3, H', ⟨by have := HJ1.out; have := HK2.out; have := HJ17.out; first | omega | exact Nat.le_refl _⟩, ⟨bk BK112⟩, ⟨bs1 HB GE112⟩⟩
        case rest =>
         clear HC29
         try clear c1
         try clear p1
         try clear q1
         try clear hx1
         try clear c2
         try clear p2
         try clear c3
         try clear p6
         try clear c11
         try clear p11
         try clear q11
         try clear hx11
         try clear c20
         try clear c21
         try clear c21b0
         try clear c23
         try clear c23b0
         try clear c24
         try clear c24b0
         try clear c28
         try clear c30
         try clear c30b0
         try clear c30b1
         try clear hx116_0
         try clear hx116_1
         try clear p1
         try clear p11
         try clear p116
         try clear p2
         try clear p6
         try clear q1
         try clear q11
         try clear q116
         obtain ⟨kq, x3_28, rfl, HA, HJ28, BK112, HB⟩ := hcut
         cases kq with
         | zero => exact absurd HA.out (by simp [spec_GoodDir.j3])
         | succ kj28 =>
          have H := HA.out
          clear HA
          simp only [spec_GoodDir.j3] at H
          by_cases c31 : 0 ≤ x38_2
          rotate_left
          ·
           rw [if_neg c31] at H
           exact absurd H (by simp)
          rw [if_pos c31] at H
          have c31b0 := eq_true c31
          have c31b1 : decide (0 ≤ x38_2) = true := decide_eq_true c31
          clear c31
          by_cases c32 : x38_2 ≤ (l0_1.length : Int)
          rotate_left
          ·
           rw [if_neg c32] at H
           exact absurd H (by simp)
          rw [if_pos c32] at H
          have c32b0 := eq_true c32
          have c32b1 : decide (x38_2 ≤ (l0_1.length : Int)) = true := decide_eq_true c32
          clear c32
          have H' := Ah H
          clear H
          obtain ⟨hcz33_0, hcz33_1, hcz33_2⟩ := cz3 BK112
          obtain ⟨hfz33_0, hfz33_1, hfz33_2⟩ := fz3 BK112
          obtain ⟨i034, hi034, _, hsz34, _⟩ := info_parts info3
          obtain ⟨hcut34, hA34, hC34⟩ := print_take_of (P := Tryd.prog) (Value.int .i64) 0 22 3 .i64 Tryd.underlying22 hi034 hsz34 (some ad114) c0_1 l0_1 x38_2 (od) (od) HC0_1.out
          have HR118 := Ah (Kd.C_of_reads (h1 := fun _ => rfl) (hA34 _ (Kd.reads_of_C HR0_1.out)))
          have HC118 := Ah hC34
          clear hA34 hC34 hi034 hsz34
          generalize l0_1.take (x38_2 : Int).toNat = T34 at hcut34 HR118 HC118 H' ⊢
          go_wp2
          go_loopg [77] kj28 (fun kq v77 w' => ∃ (x77_5 : Int), v77 = .int .i64 x77_5 ∧ Aside0 (spec_GoodDir.l1 kq x3_28 x38_2 (rd l0_1 x38_2) l0_1 (l0_1.length : Int) x38_2 T34 (T34.length : Int) x77_5 a0_0 l0_1 l0_2 = some r) ∧ Aside0 (kq ≤ kj28) ∧ Aside0 (w'.heap[gb112]? = some (.cells #[.int .i64 a0_0, (.slice (some ad114) l0_1.length c0_1), (.slice A0_2 l0_2.length c0_2)] 29 (0, 0))) ∧ Aside0 (Below w.heap.size w w'))
          case atStart => exact ⟨(0), e3, H', ⟨Nat.le_refl _⟩, ⟨bk BK112⟩, ⟨bs1 HB GE112⟩⟩
          case round =>
           clear H'
           try clear c1
           try clear p1
           try clear q1
           try clear hx1
           try clear c2
           try clear p2
           try clear c3
           try clear p6
           try clear c11
           try clear p11
           try clear q11
           try clear hx11
           try clear c20
           try clear c21
           try clear c21b0
           try clear c23
           try clear c23b0
           try clear c24
           try clear c24b0
           try clear c28
           try clear c30
           try clear c30b0
           try clear c30b1
           try clear c31
           try clear c31b0
           try clear c31b1
           try clear c32
           try clear c32b0
           try clear c32b1
           try clear hcz33_0 hcz33_1 hcz33_2
           try clear hfz33_0 hfz33_1 hfz33_2
           try clear hx116_0
           try clear hx116_1
           try clear p1
           try clear p11
           try clear p116
           try clear p2
           try clear p6
           try clear q1
           try clear q11
           try clear q116
           obtain ⟨x77_5, rfl, HA, HK5, BK112, HB⟩ := hrel
           cases gk with
           | zero => exact absurd HA.out (by simp [spec_GoodDir.l1])
           | succ k5 =>
            have H := HA.out
            clear HA
            simp only [spec_GoodDir.l1] at H
            by_cases c35 : x77_5 < (T34.length : Int)
            rotate_left
            ·
             rw [if_neg c35] at H
             have c35b0 : decide (x77_5 < (T34.length : Int)) = false := decide_eq_false c35
             clear c35
             as_aux_lemma =>
              have H' := Ah H
              clear H
              go_wp2
              go_roundg k5
              case measure => have := HJ1.out; have := HK2.out; have := HJ17.out; have := HJ28.out; have := HK5.out; omega
              case rel => exact ⟨(x3_28), (wrap64 (x38_2 + 1)), e3, e3, H', ⟨by have := HJ1.out; have := HK2.out; have := HJ17.out; have := HJ28.out; have := HK5.out; omega⟩, ⟨bk BK112⟩, ⟨bs1 HB GE112⟩⟩
            rw [if_pos c35] at H
            have c35b0 : decide (x77_5 < (T34.length : Int)) = true := decide_eq_true c35
            clear c35
            by_cases c36 : 0 ≤ x77_5
            rotate_left
            ·
             rw [if_neg c36] at H
             exact absurd H (by simp)
            rw [if_pos c36] at H
            have c36b0 : decide (0 ≤ x77_5) = true := decide_eq_true c36
            clear c36
            by_cases c37 : x77_5 < (T34.length : Int)
            rotate_left
            ·
             rw [if_neg c37] at H
             exact absurd H (by simp)
            rw [if_pos c37] at H
            have c37b0 : decide (x77_5 < (T34.length : Int)) = true := decide_eq_true c37
            clear c37
            by_cases c38 : 0 ≤ (rd l0_1 x38_2)
            rotate_left
            ·
             rw [if_neg c38] at H
             exact absurd H (by simp)
            rw [if_pos c38] at H
            have c38b0 : decide (0 ≤ (rd l0_1 x38_2)) = true := decide_eq_true c38
            clear c38
            by_cases c39 : (rd l0_1 x38_2) < (l0_2.length : Int)
            rotate_left
            ·
             rw [if_neg c39] at H
             exact absurd H (by simp)
            rw [if_pos c39] at H
            have c39b0 : decide ((rd l0_1 x38_2) < (l0_2.length : Int)) = true := decide_eq_true c39
            clear c39
            replace H := Option.bind_eq_some_iff.mp H
            obtain ⟨t121, A400, H⟩ := H
            try dsimp only at H
            have A40 := Ah A400
            clear A400
            replace H := Option.bind_eq_some_iff.mp H
            obtain ⟨t123, A410, H⟩ := H
            try dsimp only at H
            have A41 := Ah A410
            clear A410
            by_cases c42 : (((rd T34 x77_5) == (rd l0_1 x38_2)) != (t121 == t123)) = true
            ·
             rw [if_pos c42] at H
             have c42b0 : (((rd T34 x77_5) == (rd l0_1 x38_2)) != (t121 == t123)) = true := c42
             (try (have c42b1 : decide (((rd T34 x77_5) == (rd l0_1 x38_2)) = (t121 == t123)) = false := by simpa using c42))
             (try (have c42b2 : (((rd T34 x77_5) == (rd l0_1 x38_2)) == (t121 == t123)) = false := by simpa using c42))
             (try (have c42b3 : ¬ (((rd T34 x77_5) == (rd l0_1 x38_2)) = (t121 == t123)) := by simpa using c42))
             clear c42
             as_aux_lemma =>
              obtain rfl := Option.some.inj H
              have p119 : 0 ≤ (x77_5 : Int) := od
              have q119 : x77_5 < (T34.length : Int) := od
              obtain ⟨ad119, e119, hx119_0⟩ := Kd.at_int HR118.out x77_5 p119 q119
              obtain rfl : ad114 = ad119 := (by injection e119)
              replace hx119_0 := (HB.out.cell (World.block_lt_of_cell? w _ hx119_0)).trans hx119_0
              replace p119 := eq_true p119
              replace q119 := eq_true q119
              try go_wp2
              have n0_ := Ah (blk_drew BK112.out)
              have n1_ := Ah (below_drew1 HB.out)
              clear BK112 HB
              have BK112 := n0_
              have HB := n1_
              clear n0_ n1_
              have p120 : 0 ≤ ((rd l0_1 x38_2) : Int) := od
              have q120 : (rd l0_1 x38_2) < (l0_2.length : Int) := od
              obtain ⟨ad120, A120_1, c120_1, e120, hx120_0, hx120_1, hl120_1, hi120_1⟩ := at_T46 HR0_2.out (rd l0_1 x38_2) p120 q120
              have hw120_1 := hx120_1
              have hw120_0 := hx120_0
              cases e120
              replace hx120_0 := (HB.out.cell (World.block_lt_of_cell? w _ hx120_0)).trans hx120_0
              replace hx120_1 := (HB.out.cell (World.block_lt_of_cell? w _ hx120_1)).trans hx120_1
              have HR120_1 := Ah hi120_1
              have HC120_1 := Ah hl120_1
              clear hi120_1 hl120_1
              replace p120 := eq_true p120
              replace q120 := eq_true q120
              have p122 : 0 ≤ ((rd l0_1 x38_2) : Int) := od
              have q122 : (rd l0_1 x38_2) < (l0_2.length : Int) := od
              obtain ⟨ad122, A122_1, c122_1, e122, hx122_0, hx122_1, hl122_1, hi122_1⟩ := at_T46 HR0_2.out (rd l0_1 x38_2) p122 q122
              have hw122_1 := hx122_1
              have hw122_0 := hx122_0
              obtain rfl : ad120 = ad122 := (by injection e122)
              replace hx122_0 := (HB.out.cell (World.block_lt_of_cell? w _ hx122_0)).trans hx122_0
              replace hx122_1 := (HB.out.cell (World.block_lt_of_cell? w _ hx122_1)).trans hx122_1
              have HR122_1 := Ah hi122_1
              have HC122_1 := Ah hl122_1
              clear hi122_1 hl122_1
              replace p122 := eq_true p122
              replace q122 := eq_true q122
              have ea_ := Option.some.inj (hx120_1.symm.trans hx122_1)
              injection ea_ with ea_ en_ ec_
              subst ea_
              subst ec_
              clear en_
              refine start_ (n := 44) (S := fun w' => w'.cell? ⟨gb112, 0, none⟩ = some (.int .i64 a0_0) ∧ w'.cell? ⟨gb112, 1, none⟩ = some (.slice (some ad114) l0_1.length c0_1) ∧ w'.cell? ⟨gb112, 2, none⟩ = some (.slice (some ad120) l0_2.length c0_2) ∧ w'.cell? (ad120.add (((rd l0_1 x38_2)).toNat * 2)) = some (.int .i64 ((rd_T46 l0_2 (rd l0_1 x38_2)).f0)) ∧ w'.cell? ⟨(ad120.add (((rd l0_1 x38_2)).toNat * 2)).block, (ad120.add (((rd l0_1 x38_2)).toNat * 2)).off + 1, none⟩ = some (.slice A120_1 ((rd_T46 l0_2 (rd l0_1 x38_2)).f1).length c120_1) ∧ w'.cell? (ad120.add (((rd l0_1 x38_2)).toNat * 2)) = some (.int .i64 ((rd_T46 l0_2 (rd l0_1 x38_2)).f0)) ∧ w'.cell? ⟨(ad120.add (((rd l0_1 x38_2)).toNat * 2)).block, (ad120.add (((rd l0_1 x38_2)).toNat * 2)).off + 1, none⟩ = some (.slice A120_1 ((rd_T46 l0_2 (rd l0_1 x38_2)).f1).length c120_1)) (ds := []) #[false, false, false, false, false, false, false, false, false, false, false, false, false, false, false, false, false, false, false, false, false, false, false, false, false, false, false, false, false, false, false, false, false, false, false, false, false, false, false, false, false, false, false, false] (by kernel_rfl) rfl rfl ⟨(blk_cell BK112.out 0).trans rfl, (blk_cell BK112.out 1).trans rfl, (blk_cell BK112.out 2).trans rfl, ((HB.out.cell (World.block_lt_of_cell? w _ hw120_0)).trans hw120_0), ((HB.out.cell (World.block_lt_of_cell? w _ hw120_1)).trans hw120_1), ((HB.out.cell (World.block_lt_of_cell? w _ hw122_0)).trans hw122_0), ((HB.out.cell (World.block_lt_of_cell? w _ hw122_1)).trans hw122_1)⟩ (fun hHeld => ?_); refine with_tabW spec_GoodDir.tab14 spec_GoodDir.bits14 (fun HT_ HW_ => ?_)
              generalize wr.drew = w43 at BK112 HB HR120_1 HR122_1 hx120_0 hx120_1 hx122_0 hx122_1 hHeld ⊢
              refine pureS 0 82 HT_.out ?_
              refine pureS 1 83 HT_.out ?_
              refine pureS 2 84 HT_.out ?_
              refine pureS 3 85 HT_.out ?_
              refine pureS 4 86 HT_.out ?_
              refine pureS 6 88 HT_.out ?_
              refine pureS 11 93 HT_.out ?_
              refine pureS 12 94 HT_.out ?_
              refine pureS 14 96 HT_.out ?_
              refine takeS 5 87 HT_.out HW_.out hHeld (hr := by rintro w' ⟨s0, s1, s2, s3, s4, s5, s6⟩; go_simp; with_reducible rfl) (h := ?_)
              refine pureS 7 89 HT_.out ?_
              refine pureS 8 90 HT_.out ?_
              refine takeS 9 91 HT_.out HW_.out hHeld (hr := by rintro w' ⟨s0, s1, s2, s3, s4, s5, s6⟩; go_simp; with_reducible rfl) (h := ?_)
              refine takeS 13 95 HT_.out HW_.out hHeld (hr := by rintro w' ⟨s0, s1, s2, s3, s4, s5, s6⟩; go_simp; with_reducible rfl) (h := ?_)
              refine pureS 15 97 HT_.out ?_
              refine pureS 16 98 HT_.out ?_
              refine takeS 17 99 HT_.out HW_.out hHeld (hr := by rintro w' ⟨s0, s1, s2, s3, s4, s5, s6⟩; go_simp; with_reducible rfl) (h := ?_)
              refine one_ (i := 10) (N := some 92) #[true, true, true, true, true, true, true, true, true, true, true, true, true, true, true, true, true, true, false, false, false, false, false, false, false, false, false, false, false, false, false, false, false, false, false, false, false, false, false, false, false, false, false, false] rfl rfl (one_of HT_.out (by kernel_rfl)) (by decide) (fun K hK => ?_)
              refine goes_ Tryd.func33 (by kernel_rfl) rfl #[.int .i64 x38_2, .int .i64 ((rd_T46 l0_2 (rd l0_1 x38_2)).f0)] (by rfl) rfl rfl (by (try simp only [List.map_toArray, List.map_cons, List.map_nil]); first | done | rfl | (simp only [List.length_drop, List.length_take]; rfl)) ?_
              with_reducible refine (spec_l8Low.calls x38_2 ((rd_T46 l0_2 (rd l0_1 x38_2)).f0) t121 _ A40.out).mono ?_
              rintro e w' ⟨rfl, ⟨nd, rfl⟩⟩
              refine ⟨_, rfl, ?_⟩
              refine hK.out _ _ ⟨(blk_cell BK112.out 0).trans rfl, (blk_cell BK112.out 1).trans rfl, (blk_cell BK112.out 2).trans rfl, ((HB.out.cell (World.block_lt_of_cell? w _ hw120_0)).trans hw120_0), ((HB.out.cell (World.block_lt_of_cell? w _ hw120_1)).trans hw120_1), ((HB.out.cell (World.block_lt_of_cell? w _ hw122_0)).trans hw122_0), ((HB.out.cell (World.block_lt_of_cell? w _ hw122_1)).trans hw122_1)⟩ (fun hHeld => ?_)
              clear hK K
              refine norm_ (a' := ?_) ?_ ?_
              rotate_left
              ·
               show Act.put _ (some 92) _ = _
               simp only [Act.put, List.setIfInBounds_toArray, List.set_cons_zero, List.set_cons_succ, i64_w, i32_w]
               rfl
              refine one_ (i := 18) (N := some 100) #[true, true, true, true, true, true, true, true, true, true, true, true, true, true, true, true, true, true, true, false, false, false, false, false, false, false, false, false, false, false, false, false, false, false, false, false, false, false, false, false, false, false, false, false] rfl rfl (one_of HT_.out (by kernel_rfl)) (by decide) (fun K hK => ?_)
              refine goes_ Tryd.func33 (by kernel_rfl) rfl #[.int .i64 x77_5, .int .i64 ((rd_T46 l0_2 (rd l0_1 x38_2)).f0)] (by rfl) rfl rfl (by (try simp only [List.map_toArray, List.map_cons, List.map_nil]); first | done | rfl | (simp only [List.length_drop, List.length_take]; rfl)) ?_
              with_reducible refine (spec_l8Low.calls x77_5 ((rd_T46 l0_2 (rd l0_1 x38_2)).f0) t123 _ A41.out).mono ?_
              rintro e w' ⟨rfl, ⟨nd, rfl⟩⟩
              refine ⟨_, rfl, ?_⟩
              refine hK.out _ _ ⟨(blk_cell BK112.out 0).trans rfl, (blk_cell BK112.out 1).trans rfl, (blk_cell BK112.out 2).trans rfl, ((HB.out.cell (World.block_lt_of_cell? w _ hw120_0)).trans hw120_0), ((HB.out.cell (World.block_lt_of_cell? w _ hw120_1)).trans hw120_1), ((HB.out.cell (World.block_lt_of_cell? w _ hw122_0)).trans hw122_0), ((HB.out.cell (World.block_lt_of_cell? w _ hw122_1)).trans hw122_1)⟩ (fun hHeld => ?_)
              clear hK K
              refine norm_ (a' := ?_) ?_ ?_
              rotate_left
              ·
               show Act.put _ (some 100) _ = _
               simp only [Act.put, List.setIfInBounds_toArray, List.set_cons_zero, List.set_cons_succ, i64_w, i32_w]
               rfl
              refine pureS 19 101 HT_.out ?_
              refine pureS 20 102 HT_.out ?_
              refine pureS 21 103 HT_.out ?_
              refine pureU 22 104 HT_.out ?_
              refine pureU 23 105 HT_.out ?_
              refine pureU 24 106 HT_.out ?_
              refine pureU 25 107 HT_.out ?_
              refine pureU 26 108 HT_.out ?_
              refine pureU 27 109 HT_.out ?_
              refine pureU 28 110 HT_.out ?_
              refine pureU 29 111 HT_.out ?_
              refine pureU 30 112 HT_.out ?_
              refine pureU 31 113 HT_.out ?_
              refine pureU 32 114 HT_.out ?_
              refine pureU 33 115 HT_.out ?_
              refine pureU 34 116 HT_.out ?_
              refine pureU 35 117 HT_.out ?_
              refine pureU 36 118 HT_.out ?_
              refine pureU 37 119 HT_.out ?_
              refine pureU 38 120 HT_.out ?_
              refine pureU 39 121 HT_.out ?_
              refine pureU 40 122 HT_.out ?_
              refine pureU 41 123 HT_.out ?_
              refine pureU 42 124 HT_.out ?_
              refine pureS 43 125 HT_.out ?_
              refine done_ (done_of HT_.out (by kernel_rfl)) ?_
              try go_wp2
              go_ret
              exact ⟨er, bs1 HB GE112⟩
            rw [if_neg c42] at H
            have c42b0 : (((rd T34 x77_5) == (rd l0_1 x38_2)) != (t121 == t123)) = false := by simpa using c42
            (try (have c42b1 : decide (((rd T34 x77_5) == (rd l0_1 x38_2)) = (t121 == t123)) = true := by simpa using c42))
            (try (have c42b2 : (((rd T34 x77_5) == (rd l0_1 x38_2)) == (t121 == t123)) = true := by simpa using c42))
            clear c42
            by_cases c44 : 0 ≤ (rd T34 x77_5)
            rotate_left
            ·
             rw [if_neg c44] at H
             exact absurd H (by simp)
            rw [if_pos c44] at H
            have c44b0 : decide (0 ≤ (rd T34 x77_5)) = true := decide_eq_true c44
            clear c44
            by_cases c45 : (rd T34 x77_5) < (l0_2.length : Int)
            rotate_left
            ·
             rw [if_neg c45] at H
             exact absurd H (by simp)
            rw [if_pos c45] at H
            have c45b0 : decide ((rd T34 x77_5) < (l0_2.length : Int)) = true := decide_eq_true c45
            clear c45
            replace H := Option.bind_eq_some_iff.mp H
            obtain ⟨t125, A460, H⟩ := H
            try dsimp only at H
            have A46 := Ah A460
            clear A460
            replace H := Option.bind_eq_some_iff.mp H
            obtain ⟨t127, A470, H⟩ := H
            try dsimp only at H
            have A47 := Ah A470
            clear A470
            by_cases c48 : (((rd T34 x77_5) == (rd l0_1 x38_2)) != (t125 == t127)) = true
            ·
             rw [if_pos c48] at H
             have c48b0 : (((rd T34 x77_5) == (rd l0_1 x38_2)) != (t125 == t127)) = true := c48
             (try (have c48b1 : decide (((rd T34 x77_5) == (rd l0_1 x38_2)) = (t125 == t127)) = false := by simpa using c48))
             (try (have c48b2 : (((rd T34 x77_5) == (rd l0_1 x38_2)) == (t125 == t127)) = false := by simpa using c48))
             (try (have c48b3 : ¬ (((rd T34 x77_5) == (rd l0_1 x38_2)) = (t125 == t127)) := by simpa using c48))
             clear c48
             as_aux_lemma =>
              obtain rfl := Option.some.inj H
              have p119 : 0 ≤ (x77_5 : Int) := od
              have q119 : x77_5 < (T34.length : Int) := od
              obtain ⟨ad119, e119, hx119_0⟩ := Kd.at_int HR118.out x77_5 p119 q119
              obtain rfl : ad114 = ad119 := (by injection e119)
              replace hx119_0 := (HB.out.cell (World.block_lt_of_cell? w _ hx119_0)).trans hx119_0
              replace p119 := eq_true p119
              replace q119 := eq_true q119
              try go_wp2
              have n0_ := Ah (blk_drew BK112.out)
              have n1_ := Ah (below_drew1 HB.out)
              clear BK112 HB
              have BK112 := n0_
              have HB := n1_
              clear n0_ n1_
              have p120 : 0 ≤ ((rd l0_1 x38_2) : Int) := od
              have q120 : (rd l0_1 x38_2) < (l0_2.length : Int) := od
              obtain ⟨ad120, A120_1, c120_1, e120, hx120_0, hx120_1, hl120_1, hi120_1⟩ := at_T46 HR0_2.out (rd l0_1 x38_2) p120 q120
              have hw120_1 := hx120_1
              have hw120_0 := hx120_0
              cases e120
              replace hx120_0 := (HB.out.cell (World.block_lt_of_cell? w _ hx120_0)).trans hx120_0
              replace hx120_1 := (HB.out.cell (World.block_lt_of_cell? w _ hx120_1)).trans hx120_1
              have HR120_1 := Ah hi120_1
              have HC120_1 := Ah hl120_1
              clear hi120_1 hl120_1
              replace p120 := eq_true p120
              replace q120 := eq_true q120
              have p122 : 0 ≤ ((rd l0_1 x38_2) : Int) := od
              have q122 : (rd l0_1 x38_2) < (l0_2.length : Int) := od
              obtain ⟨ad122, A122_1, c122_1, e122, hx122_0, hx122_1, hl122_1, hi122_1⟩ := at_T46 HR0_2.out (rd l0_1 x38_2) p122 q122
              have hw122_1 := hx122_1
              have hw122_0 := hx122_0
              obtain rfl : ad120 = ad122 := (by injection e122)
              replace hx122_0 := (HB.out.cell (World.block_lt_of_cell? w _ hx122_0)).trans hx122_0
              replace hx122_1 := (HB.out.cell (World.block_lt_of_cell? w _ hx122_1)).trans hx122_1
              have HR122_1 := Ah hi122_1
              have HC122_1 := Ah hl122_1
              clear hi122_1 hl122_1
              replace p122 := eq_true p122
              replace q122 := eq_true q122
              have ea_ := Option.some.inj (hx120_1.symm.trans hx122_1)
              injection ea_ with ea_ en_ ec_
              subst ea_
              subst ec_
              clear en_
              have p124 : 0 ≤ ((rd T34 x77_5) : Int) := od
              have q124 : (rd T34 x77_5) < (l0_2.length : Int) := od
              obtain ⟨ad124, A124_1, c124_1, e124, hx124_0, hx124_1, hl124_1, hi124_1⟩ := at_T46 HR0_2.out (rd T34 x77_5) p124 q124
              have hw124_1 := hx124_1
              have hw124_0 := hx124_0
              obtain rfl : ad120 = ad124 := (by injection e124)
              replace hx124_0 := (HB.out.cell (World.block_lt_of_cell? w _ hx124_0)).trans hx124_0
              replace hx124_1 := (HB.out.cell (World.block_lt_of_cell? w _ hx124_1)).trans hx124_1
              have HR124_1 := Ah hi124_1
              have HC124_1 := Ah hl124_1
              clear hi124_1 hl124_1
              replace p124 := eq_true p124
              replace q124 := eq_true q124
              have p126 : 0 ≤ ((rd T34 x77_5) : Int) := od
              have q126 : (rd T34 x77_5) < (l0_2.length : Int) := od
              obtain ⟨ad126, A126_1, c126_1, e126, hx126_0, hx126_1, hl126_1, hi126_1⟩ := at_T46 HR0_2.out (rd T34 x77_5) p126 q126
              have hw126_1 := hx126_1
              have hw126_0 := hx126_0
              obtain rfl : ad120 = ad126 := (by injection e126)
              replace hx126_0 := (HB.out.cell (World.block_lt_of_cell? w _ hx126_0)).trans hx126_0
              replace hx126_1 := (HB.out.cell (World.block_lt_of_cell? w _ hx126_1)).trans hx126_1
              have HR126_1 := Ah hi126_1
              have HC126_1 := Ah hl126_1
              clear hi126_1 hl126_1
              replace p126 := eq_true p126
              replace q126 := eq_true q126
              have ea_ := Option.some.inj (hx124_1.symm.trans hx126_1)
              injection ea_ with ea_ en_ ec_
              subst ea_
              subst ec_
              clear en_
              refine start_ (n := 44) (S := fun w' => w'.cell? ⟨gb112, 0, none⟩ = some (.int .i64 a0_0) ∧ w'.cell? ⟨gb112, 1, none⟩ = some (.slice (some ad114) l0_1.length c0_1) ∧ w'.cell? ⟨gb112, 2, none⟩ = some (.slice (some ad120) l0_2.length c0_2) ∧ w'.cell? (ad120.add (((rd l0_1 x38_2)).toNat * 2)) = some (.int .i64 ((rd_T46 l0_2 (rd l0_1 x38_2)).f0)) ∧ w'.cell? ⟨(ad120.add (((rd l0_1 x38_2)).toNat * 2)).block, (ad120.add (((rd l0_1 x38_2)).toNat * 2)).off + 1, none⟩ = some (.slice A120_1 ((rd_T46 l0_2 (rd l0_1 x38_2)).f1).length c120_1) ∧ w'.cell? (ad120.add (((rd l0_1 x38_2)).toNat * 2)) = some (.int .i64 ((rd_T46 l0_2 (rd l0_1 x38_2)).f0)) ∧ w'.cell? ⟨(ad120.add (((rd l0_1 x38_2)).toNat * 2)).block, (ad120.add (((rd l0_1 x38_2)).toNat * 2)).off + 1, none⟩ = some (.slice A120_1 ((rd_T46 l0_2 (rd l0_1 x38_2)).f1).length c120_1) ∧ w'.cell? (ad120.add (((rd T34 x77_5)).toNat * 2)) = some (.int .i64 ((rd_T46 l0_2 (rd T34 x77_5)).f0)) ∧ w'.cell? ⟨(ad120.add (((rd T34 x77_5)).toNat * 2)).block, (ad120.add (((rd T34 x77_5)).toNat * 2)).off + 1, none⟩ = some (.slice A124_1 ((rd_T46 l0_2 (rd T34 x77_5)).f1).length c124_1) ∧ w'.cell? (ad120.add (((rd T34 x77_5)).toNat * 2)) = some (.int .i64 ((rd_T46 l0_2 (rd T34 x77_5)).f0)) ∧ w'.cell? ⟨(ad120.add (((rd T34 x77_5)).toNat * 2)).block, (ad120.add (((rd T34 x77_5)).toNat * 2)).off + 1, none⟩ = some (.slice A124_1 ((rd_T46 l0_2 (rd T34 x77_5)).f1).length c124_1)) (ds := []) #[false, false, false, false, false, false, false, false, false, false, false, false, false, false, false, false, false, false, false, false, false, false, false, false, false, false, false, false, false, false, false, false, false, false, false, false, false, false, false, false, false, false, false, false] (by kernel_rfl) rfl rfl ⟨(blk_cell BK112.out 0).trans rfl, (blk_cell BK112.out 1).trans rfl, (blk_cell BK112.out 2).trans rfl, ((HB.out.cell (World.block_lt_of_cell? w _ hw120_0)).trans hw120_0), ((HB.out.cell (World.block_lt_of_cell? w _ hw120_1)).trans hw120_1), ((HB.out.cell (World.block_lt_of_cell? w _ hw122_0)).trans hw122_0), ((HB.out.cell (World.block_lt_of_cell? w _ hw122_1)).trans hw122_1), ((HB.out.cell (World.block_lt_of_cell? w _ hw124_0)).trans hw124_0), ((HB.out.cell (World.block_lt_of_cell? w _ hw124_1)).trans hw124_1), ((HB.out.cell (World.block_lt_of_cell? w _ hw126_0)).trans hw126_0), ((HB.out.cell (World.block_lt_of_cell? w _ hw126_1)).trans hw126_1)⟩ (fun hHeld => ?_); refine with_tabW spec_GoodDir.tab14 spec_GoodDir.bits14 (fun HT_ HW_ => ?_)
              generalize wr.drew = w49 at BK112 HB HR120_1 HR122_1 HR124_1 HR126_1 hx120_0 hx120_1 hx122_0 hx122_1 hx124_0 hx124_1 hx126_0 hx126_1 hHeld ⊢
              refine pureS 0 82 HT_.out ?_
              refine pureS 1 83 HT_.out ?_
              refine pureS 2 84 HT_.out ?_
              refine pureS 3 85 HT_.out ?_
              refine pureS 4 86 HT_.out ?_
              refine pureS 6 88 HT_.out ?_
              refine pureS 11 93 HT_.out ?_
              refine pureS 12 94 HT_.out ?_
              refine pureS 14 96 HT_.out ?_
              refine takeS 5 87 HT_.out HW_.out hHeld (hr := by rintro w' ⟨s0, s1, s2, s3, s4, s5, s6, s7, s8, s9, s10⟩; go_simp; with_reducible rfl) (h := ?_)
              refine pureS 7 89 HT_.out ?_
              refine pureS 8 90 HT_.out ?_
              refine takeS 9 91 HT_.out HW_.out hHeld (hr := by rintro w' ⟨s0, s1, s2, s3, s4, s5, s6, s7, s8, s9, s10⟩; go_simp; with_reducible rfl) (h := ?_)
              refine takeS 13 95 HT_.out HW_.out hHeld (hr := by rintro w' ⟨s0, s1, s2, s3, s4, s5, s6, s7, s8, s9, s10⟩; go_simp; with_reducible rfl) (h := ?_)
              refine pureS 15 97 HT_.out ?_
              refine pureS 16 98 HT_.out ?_
              refine takeS 17 99 HT_.out HW_.out hHeld (hr := by rintro w' ⟨s0, s1, s2, s3, s4, s5, s6, s7, s8, s9, s10⟩; go_simp; with_reducible rfl) (h := ?_)
              refine one_ (i := 10) (N := some 92) #[true, true, true, true, true, true, true, true, true, true, true, true, true, true, true, true, true, true, false, false, false, false, false, false, false, false, false, false, false, false, false, false, false, false, false, false, false, false, false, false, false, false, false, false] rfl rfl (one_of HT_.out (by kernel_rfl)) (by decide) (fun K hK => ?_)
              refine goes_ Tryd.func33 (by kernel_rfl) rfl #[.int .i64 x38_2, .int .i64 ((rd_T46 l0_2 (rd l0_1 x38_2)).f0)] (by rfl) rfl rfl (by (try simp only [List.map_toArray, List.map_cons, List.map_nil]); first | done | rfl | (simp only [List.length_drop, List.length_take]; rfl)) ?_
              with_reducible refine (spec_l8Low.calls x38_2 ((rd_T46 l0_2 (rd l0_1 x38_2)).f0) t121 _ A40.out).mono ?_
              rintro e w' ⟨rfl, ⟨nd, rfl⟩⟩
              refine ⟨_, rfl, ?_⟩
              refine hK.out _ _ ⟨(blk_cell BK112.out 0).trans rfl, (blk_cell BK112.out 1).trans rfl, (blk_cell BK112.out 2).trans rfl, ((HB.out.cell (World.block_lt_of_cell? w _ hw120_0)).trans hw120_0), ((HB.out.cell (World.block_lt_of_cell? w _ hw120_1)).trans hw120_1), ((HB.out.cell (World.block_lt_of_cell? w _ hw122_0)).trans hw122_0), ((HB.out.cell (World.block_lt_of_cell? w _ hw122_1)).trans hw122_1), ((HB.out.cell (World.block_lt_of_cell? w _ hw124_0)).trans hw124_0), ((HB.out.cell (World.block_lt_of_cell? w _ hw124_1)).trans hw124_1), ((HB.out.cell (World.block_lt_of_cell? w _ hw126_0)).trans hw126_0), ((HB.out.cell (World.block_lt_of_cell? w _ hw126_1)).trans hw126_1)⟩ (fun hHeld => ?_)
              clear hK K
              refine norm_ (a' := ?_) ?_ ?_
              rotate_left
              ·
               show Act.put _ (some 92) _ = _
               simp only [Act.put, List.setIfInBounds_toArray, List.set_cons_zero, List.set_cons_succ, i64_w, i32_w]
               rfl
              refine one_ (i := 18) (N := some 100) #[true, true, true, true, true, true, true, true, true, true, true, true, true, true, true, true, true, true, true, false, false, false, false, false, false, false, false, false, false, false, false, false, false, false, false, false, false, false, false, false, false, false, false, false] rfl rfl (one_of HT_.out (by kernel_rfl)) (by decide) (fun K hK => ?_)
              refine goes_ Tryd.func33 (by kernel_rfl) rfl #[.int .i64 x77_5, .int .i64 ((rd_T46 l0_2 (rd l0_1 x38_2)).f0)] (by rfl) rfl rfl (by (try simp only [List.map_toArray, List.map_cons, List.map_nil]); first | done | rfl | (simp only [List.length_drop, List.length_take]; rfl)) ?_
              with_reducible refine (spec_l8Low.calls x77_5 ((rd_T46 l0_2 (rd l0_1 x38_2)).f0) t123 _ A41.out).mono ?_
              rintro e w' ⟨rfl, ⟨nd, rfl⟩⟩
              refine ⟨_, rfl, ?_⟩
              refine hK.out _ _ ⟨(blk_cell BK112.out 0).trans rfl, (blk_cell BK112.out 1).trans rfl, (blk_cell BK112.out 2).trans rfl, ((HB.out.cell (World.block_lt_of_cell? w _ hw120_0)).trans hw120_0), ((HB.out.cell (World.block_lt_of_cell? w _ hw120_1)).trans hw120_1), ((HB.out.cell (World.block_lt_of_cell? w _ hw122_0)).trans hw122_0), ((HB.out.cell (World.block_lt_of_cell? w _ hw122_1)).trans hw122_1), ((HB.out.cell (World.block_lt_of_cell? w _ hw124_0)).trans hw124_0), ((HB.out.cell (World.block_lt_of_cell? w _ hw124_1)).trans hw124_1), ((HB.out.cell (World.block_lt_of_cell? w _ hw126_0)).trans hw126_0), ((HB.out.cell (World.block_lt_of_cell? w _ hw126_1)).trans hw126_1)⟩ (fun hHeld => ?_)
              clear hK K
              refine norm_ (a' := ?_) ?_ ?_
              rotate_left
              ·
               show Act.put _ (some 100) _ = _
               simp only [Act.put, List.setIfInBounds_toArray, List.set_cons_zero, List.set_cons_succ, i64_w, i32_w]
               rfl
              refine pureS 19 101 HT_.out ?_
              refine pureS 20 102 HT_.out ?_
              refine pureS 21 103 HT_.out ?_
              refine pureS 22 104 HT_.out ?_
              refine pureS 23 105 HT_.out ?_
              refine pureS 24 106 HT_.out ?_
              refine pureS 25 107 HT_.out ?_
              refine pureS 26 108 HT_.out ?_
              refine pureS 28 110 HT_.out ?_
              refine pureS 33 115 HT_.out ?_
              refine pureS 34 116 HT_.out ?_
              refine pureS 36 118 HT_.out ?_
              refine takeS 27 109 HT_.out HW_.out hHeld (hr := by rintro w' ⟨s0, s1, s2, s3, s4, s5, s6, s7, s8, s9, s10⟩; go_simp; with_reducible rfl) (h := ?_)
              refine pureS 29 111 HT_.out ?_
              refine pureS 30 112 HT_.out ?_
              refine takeS 31 113 HT_.out HW_.out hHeld (hr := by rintro w' ⟨s0, s1, s2, s3, s4, s5, s6, s7, s8, s9, s10⟩; go_simp; with_reducible rfl) (h := ?_)
              refine takeS 35 117 HT_.out HW_.out hHeld (hr := by rintro w' ⟨s0, s1, s2, s3, s4, s5, s6, s7, s8, s9, s10⟩; go_simp; with_reducible rfl) (h := ?_)
              refine pureS 37 119 HT_.out ?_
              refine pureS 38 120 HT_.out ?_
              refine takeS 39 121 HT_.out HW_.out hHeld (hr := by rintro w' ⟨s0, s1, s2, s3, s4, s5, s6, s7, s8, s9, s10⟩; go_simp; with_reducible rfl) (h := ?_)
              refine one_ (i := 32) (N := some 114) #[true, true, true, true, true, true, true, true, true, true, true, true, true, true, true, true, true, true, true, true, true, true, true, true, true, true, true, true, true, true, true, true, true, true, true, true, true, true, true, true, false, false, false, false] rfl rfl (one_of HT_.out (by kernel_rfl)) (by decide) (fun K hK => ?_)
              refine goes_ Tryd.func33 (by kernel_rfl) rfl #[.int .i64 x38_2, .int .i64 ((rd_T46 l0_2 (rd T34 x77_5)).f0)] (by rfl) rfl rfl (by (try simp only [List.map_toArray, List.map_cons, List.map_nil]); first | done | rfl | (simp only [List.length_drop, List.length_take]; rfl)) ?_
              with_reducible refine (spec_l8Low.calls x38_2 ((rd_T46 l0_2 (rd T34 x77_5)).f0) t125 _ A46.out).mono ?_
              rintro e w' ⟨rfl, ⟨nd, rfl⟩⟩
              refine ⟨_, rfl, ?_⟩
              refine hK.out _ _ ⟨(blk_cell BK112.out 0).trans rfl, (blk_cell BK112.out 1).trans rfl, (blk_cell BK112.out 2).trans rfl, ((HB.out.cell (World.block_lt_of_cell? w _ hw120_0)).trans hw120_0), ((HB.out.cell (World.block_lt_of_cell? w _ hw120_1)).trans hw120_1), ((HB.out.cell (World.block_lt_of_cell? w _ hw122_0)).trans hw122_0), ((HB.out.cell (World.block_lt_of_cell? w _ hw122_1)).trans hw122_1), ((HB.out.cell (World.block_lt_of_cell? w _ hw124_0)).trans hw124_0), ((HB.out.cell (World.block_lt_of_cell? w _ hw124_1)).trans hw124_1), ((HB.out.cell (World.block_lt_of_cell? w _ hw126_0)).trans hw126_0), ((HB.out.cell (World.block_lt_of_cell? w _ hw126_1)).trans hw126_1)⟩ (fun hHeld => ?_)
              clear hK K
              refine norm_ (a' := ?_) ?_ ?_
              rotate_left
              ·
               show Act.put _ (some 114) _ = _
               simp only [Act.put, List.setIfInBounds_toArray, List.set_cons_zero, List.set_cons_succ, i64_w, i32_w]
               rfl
              refine one_ (i := 40) (N := some 122) #[true, true, true, true, true, true, true, true, true, true, true, true, true, true, true, true, true, true, true, true, true, true, true, true, true, true, true, true, true, true, true, true, true, true, true, true, true, true, true, true, true, false, false, false] rfl rfl (one_of HT_.out (by kernel_rfl)) (by decide) (fun K hK => ?_)
              refine goes_ Tryd.func33 (by kernel_rfl) rfl #[.int .i64 x77_5, .int .i64 ((rd_T46 l0_2 (rd T34 x77_5)).f0)] (by rfl) rfl rfl (by (try simp only [List.map_toArray, List.map_cons, List.map_nil]); first | done | rfl | (simp only [List.length_drop, List.length_take]; rfl)) ?_
              with_reducible refine (spec_l8Low.calls x77_5 ((rd_T46 l0_2 (rd T34 x77_5)).f0) t127 _ A47.out).mono ?_
              rintro e w' ⟨rfl, ⟨nd, rfl⟩⟩
              refine ⟨_, rfl, ?_⟩
              refine hK.out _ _ ⟨(blk_cell BK112.out 0).trans rfl, (blk_cell BK112.out 1).trans rfl, (blk_cell BK112.out 2).trans rfl, ((HB.out.cell (World.block_lt_of_cell? w _ hw120_0)).trans hw120_0), ((HB.out.cell (World.block_lt_of_cell? w _ hw120_1)).trans hw120_1), ((HB.out.cell (World.block_lt_of_cell? w _ hw122_0)).trans hw122_0), ((HB.out.cell (World.block_lt_of_cell? w _ hw122_1)).trans hw122_1), ((HB.out.cell (World.block_lt_of_cell? w _ hw124_0)).trans hw124_0), ((HB.out.cell (World.block_lt_of_cell? w _ hw124_1)).trans hw124_1), ((HB.out.cell (World.block_lt_of_cell? w _ hw126_0)).trans hw126_0), ((HB.out.cell (World.block_lt_of_cell? w _ hw126_1)).trans hw126_1)⟩ (fun hHeld => ?_)
              clear hK K
              refine norm_ (a' := ?_) ?_ ?_
              rotate_left
              ·
               show Act.put _ (some 122) _ = _
               simp only [Act.put, List.setIfInBounds_toArray, List.set_cons_zero, List.set_cons_succ, i64_w, i32_w]
               rfl
              refine pureS 41 123 HT_.out ?_
              refine pureS 42 124 HT_.out ?_
              refine pureS 43 125 HT_.out ?_
              refine done_ (done_of HT_.out (by kernel_rfl)) ?_
              try go_wp2
              go_ret
              exact ⟨er, bs1 HB GE112⟩
            rw [if_neg c48] at H
            have c48b0 : (((rd T34 x77_5) == (rd l0_1 x38_2)) != (t125 == t127)) = false := by simpa using c48
            (try (have c48b1 : decide (((rd T34 x77_5) == (rd l0_1 x38_2)) = (t125 == t127)) = true := by simpa using c48))
            (try (have c48b2 : (((rd T34 x77_5) == (rd l0_1 x38_2)) == (t125 == t127)) = true := by simpa using c48))
            clear c48
            as_aux_lemma =>
             have H' := Ah H
             clear H
             have p119 : 0 ≤ (x77_5 : Int) := od
             have q119 : x77_5 < (T34.length : Int) := od
             obtain ⟨ad119, e119, hx119_0⟩ := Kd.at_int HR118.out x77_5 p119 q119
             obtain rfl : ad114 = ad119 := (by injection e119)
             replace hx119_0 := (HB.out.cell (World.block_lt_of_cell? w _ hx119_0)).trans hx119_0
             replace p119 := eq_true p119
             replace q119 := eq_true q119
             try go_wp2
             have n0_ := Ah (blk_drew BK112.out)
             have n1_ := Ah (below_drew1 HB.out)
             clear BK112 HB
             have BK112 := n0_
             have HB := n1_
             clear n0_ n1_
             have p120 : 0 ≤ ((rd l0_1 x38_2) : Int) := od
             have q120 : (rd l0_1 x38_2) < (l0_2.length : Int) := od
             obtain ⟨ad120, A120_1, c120_1, e120, hx120_0, hx120_1, hl120_1, hi120_1⟩ := at_T46 HR0_2.out (rd l0_1 x38_2) p120 q120
             have hw120_1 := hx120_1
             have hw120_0 := hx120_0
             cases e120
             replace hx120_0 := (HB.out.cell (World.block_lt_of_cell? w _ hx120_0)).trans hx120_0
             replace hx120_1 := (HB.out.cell (World.block_lt_of_cell? w _ hx120_1)).trans hx120_1
             have HR120_1 := Ah hi120_1
             have HC120_1 := Ah hl120_1
             clear hi120_1 hl120_1
             replace p120 := eq_true p120
             replace q120 := eq_true q120
             have p122 : 0 ≤ ((rd l0_1 x38_2) : Int) := od
             have q122 : (rd l0_1 x38_2) < (l0_2.length : Int) := od
             obtain ⟨ad122, A122_1, c122_1, e122, hx122_0, hx122_1, hl122_1, hi122_1⟩ := at_T46 HR0_2.out (rd l0_1 x38_2) p122 q122
             have hw122_1 := hx122_1
             have hw122_0 := hx122_0
             obtain rfl : ad120 = ad122 := (by injection e122)
             replace hx122_0 := (HB.out.cell (World.block_lt_of_cell? w _ hx122_0)).trans hx122_0
             replace hx122_1 := (HB.out.cell (World.block_lt_of_cell? w _ hx122_1)).trans hx122_1
             have HR122_1 := Ah hi122_1
             have HC122_1 := Ah hl122_1
             clear hi122_1 hl122_1
             replace p122 := eq_true p122
             replace q122 := eq_true q122
             have ea_ := Option.some.inj (hx120_1.symm.trans hx122_1)
             injection ea_ with ea_ en_ ec_
             subst ea_
             subst ec_
             clear en_
             have p124 : 0 ≤ ((rd T34 x77_5) : Int) := od
             have q124 : (rd T34 x77_5) < (l0_2.length : Int) := od
             obtain ⟨ad124, A124_1, c124_1, e124, hx124_0, hx124_1, hl124_1, hi124_1⟩ := at_T46 HR0_2.out (rd T34 x77_5) p124 q124
             have hw124_1 := hx124_1
             have hw124_0 := hx124_0
             obtain rfl : ad120 = ad124 := (by injection e124)
             replace hx124_0 := (HB.out.cell (World.block_lt_of_cell? w _ hx124_0)).trans hx124_0
             replace hx124_1 := (HB.out.cell (World.block_lt_of_cell? w _ hx124_1)).trans hx124_1
             have HR124_1 := Ah hi124_1
             have HC124_1 := Ah hl124_1
             clear hi124_1 hl124_1
             replace p124 := eq_true p124
             replace q124 := eq_true q124
             have p126 : 0 ≤ ((rd T34 x77_5) : Int) := od
             have q126 : (rd T34 x77_5) < (l0_2.length : Int) := od
             obtain ⟨ad126, A126_1, c126_1, e126, hx126_0, hx126_1, hl126_1, hi126_1⟩ := at_T46 HR0_2.out (rd T34 x77_5) p126 q126
             have hw126_1 := hx126_1
             have hw126_0 := hx126_0
             obtain rfl : ad120 = ad126 := (by injection e126)
             replace hx126_0 := (HB.out.cell (World.block_lt_of_cell? w _ hx126_0)).trans hx126_0
             replace hx126_1 := (HB.out.cell (World.block_lt_of_cell? w _ hx126_1)).trans hx126_1
             have HR126_1 := Ah hi126_1
             have HC126_1 := Ah hl126_1
             clear hi126_1 hl126_1
             replace p126 := eq_true p126
             replace q126 := eq_true q126
             have ea_ := Option.some.inj (hx124_1.symm.trans hx126_1)
             injection ea_ with ea_ en_ ec_
             subst ea_
             subst ec_
             clear en_
             refine start_ (n := 44) (S := fun w' => w'.cell? ⟨gb112, 0, none⟩ = some (.int .i64 a0_0) ∧ w'.cell? ⟨gb112, 1, none⟩ = some (.slice (some ad114) l0_1.length c0_1) ∧ w'.cell? ⟨gb112, 2, none⟩ = some (.slice (some ad120) l0_2.length c0_2) ∧ w'.cell? (ad120.add (((rd l0_1 x38_2)).toNat * 2)) = some (.int .i64 ((rd_T46 l0_2 (rd l0_1 x38_2)).f0)) ∧ w'.cell? ⟨(ad120.add (((rd l0_1 x38_2)).toNat * 2)).block, (ad120.add (((rd l0_1 x38_2)).toNat * 2)).off + 1, none⟩ = some (.slice A120_1 ((rd_T46 l0_2 (rd l0_1 x38_2)).f1).length c120_1) ∧ w'.cell? (ad120.add (((rd l0_1 x38_2)).toNat * 2)) = some (.int .i64 ((rd_T46 l0_2 (rd l0_1 x38_2)).f0)) ∧ w'.cell? ⟨(ad120.add (((rd l0_1 x38_2)).toNat * 2)).block, (ad120.add (((rd l0_1 x38_2)).toNat * 2)).off + 1, none⟩ = some (.slice A120_1 ((rd_T46 l0_2 (rd l0_1 x38_2)).f1).length c120_1) ∧ w'.cell? (ad120.add (((rd T34 x77_5)).toNat * 2)) = some (.int .i64 ((rd_T46 l0_2 (rd T34 x77_5)).f0)) ∧ w'.cell? ⟨(ad120.add (((rd T34 x77_5)).toNat * 2)).block, (ad120.add (((rd T34 x77_5)).toNat * 2)).off + 1, none⟩ = some (.slice A124_1 ((rd_T46 l0_2 (rd T34 x77_5)).f1).length c124_1) ∧ w'.cell? (ad120.add (((rd T34 x77_5)).toNat * 2)) = some (.int .i64 ((rd_T46 l0_2 (rd T34 x77_5)).f0)) ∧ w'.cell? ⟨(ad120.add (((rd T34 x77_5)).toNat * 2)).block, (ad120.add (((rd T34 x77_5)).toNat * 2)).off + 1, none⟩ = some (.slice A124_1 ((rd_T46 l0_2 (rd T34 x77_5)).f1).length c124_1)) (ds := []) #[false, false, false, false, false, false, false, false, false, false, false, false, false, false, false, false, false, false, false, false, false, false, false, false, false, false, false, false, false, false, false, false, false, false, false, false, false, false, false, false, false, false, false, false] (by kernel_rfl) rfl rfl ⟨(blk_cell BK112.out 0).trans rfl, (blk_cell BK112.out 1).trans rfl, (blk_cell BK112.out 2).trans rfl, ((HB.out.cell (World.block_lt_of_cell? w _ hw120_0)).trans hw120_0), ((HB.out.cell (World.block_lt_of_cell? w _ hw120_1)).trans hw120_1), ((HB.out.cell (World.block_lt_of_cell? w _ hw122_0)).trans hw122_0), ((HB.out.cell (World.block_lt_of_cell? w _ hw122_1)).trans hw122_1), ((HB.out.cell (World.block_lt_of_cell? w _ hw124_0)).trans hw124_0), ((HB.out.cell (World.block_lt_of_cell? w _ hw124_1)).trans hw124_1), ((HB.out.cell (World.block_lt_of_cell? w _ hw126_0)).trans hw126_0), ((HB.out.cell (World.block_lt_of_cell? w _ hw126_1)).trans hw126_1)⟩ (fun hHeld => ?_); refine with_tabW spec_GoodDir.tab14 spec_GoodDir.bits14 (fun HT_ HW_ => ?_)
             generalize wr.drew = w50 at BK112 HB HR120_1 HR122_1 HR124_1 HR126_1 hx120_0 hx120_1 hx122_0 hx122_1 hx124_0 hx124_1 hx126_0 hx126_1 hHeld ⊢
             refine pureS 0 82 HT_.out ?_
             refine pureS 1 83 HT_.out ?_
             refine pureS 2 84 HT_.out ?_
             refine pureS 3 85 HT_.out ?_
             refine pureS 4 86 HT_.out ?_
             refine pureS 6 88 HT_.out ?_
             refine pureS 11 93 HT_.out ?_
             refine pureS 12 94 HT_.out ?_
             refine pureS 14 96 HT_.out ?_
             refine takeS 5 87 HT_.out HW_.out hHeld (hr := by rintro w' ⟨s0, s1, s2, s3, s4, s5, s6, s7, s8, s9, s10⟩; go_simp; with_reducible rfl) (h := ?_)
             refine pureS 7 89 HT_.out ?_
             refine pureS 8 90 HT_.out ?_
             refine takeS 9 91 HT_.out HW_.out hHeld (hr := by rintro w' ⟨s0, s1, s2, s3, s4, s5, s6, s7, s8, s9, s10⟩; go_simp; with_reducible rfl) (h := ?_)
             refine takeS 13 95 HT_.out HW_.out hHeld (hr := by rintro w' ⟨s0, s1, s2, s3, s4, s5, s6, s7, s8, s9, s10⟩; go_simp; with_reducible rfl) (h := ?_)
             refine pureS 15 97 HT_.out ?_
             refine pureS 16 98 HT_.out ?_
             refine takeS 17 99 HT_.out HW_.out hHeld (hr := by rintro w' ⟨s0, s1, s2, s3, s4, s5, s6, s7, s8, s9, s10⟩; go_simp; with_reducible rfl) (h := ?_)
             refine one_ (i := 10) (N := some 92) #[true, true, true, true, true, true, true, true, true, true, true, true, true, true, true, true, true, true, false, false, false, false, false, false, false, false, false, false, false, false, false, false, false, false, false, false, false, false, false, false, false, false, false, false] rfl rfl (one_of HT_.out (by kernel_rfl)) (by decide) (fun K hK => ?_)
             refine goes_ Tryd.func33 (by kernel_rfl) rfl #[.int .i64 x38_2, .int .i64 ((rd_T46 l0_2 (rd l0_1 x38_2)).f0)] (by rfl) rfl rfl (by (try simp only [List.map_toArray, List.map_cons, List.map_nil]); first | done | rfl | (simp only [List.length_drop, List.length_take]; rfl)) ?_
             with_reducible refine (spec_l8Low.calls x38_2 ((rd_T46 l0_2 (rd l0_1 x38_2)).f0) t121 _ A40.out).mono ?_
             rintro e w' ⟨rfl, ⟨nd, rfl⟩⟩
             refine ⟨_, rfl, ?_⟩
             refine hK.out _ _ ⟨(blk_cell BK112.out 0).trans rfl, (blk_cell BK112.out 1).trans rfl, (blk_cell BK112.out 2).trans rfl, ((HB.out.cell (World.block_lt_of_cell? w _ hw120_0)).trans hw120_0), ((HB.out.cell (World.block_lt_of_cell? w _ hw120_1)).trans hw120_1), ((HB.out.cell (World.block_lt_of_cell? w _ hw122_0)).trans hw122_0), ((HB.out.cell (World.block_lt_of_cell? w _ hw122_1)).trans hw122_1), ((HB.out.cell (World.block_lt_of_cell? w _ hw124_0)).trans hw124_0), ((HB.out.cell (World.block_lt_of_cell? w _ hw124_1)).trans hw124_1), ((HB.out.cell (World.block_lt_of_cell? w _ hw126_0)).trans hw126_0), ((HB.out.cell (World.block_lt_of_cell? w _ hw126_1)).trans hw126_1)⟩ (fun hHeld => ?_)
             clear hK K
             refine norm_ (a' := ?_) ?_ ?_
             rotate_left
             ·
              show Act.put _ (some 92) _ = _
              simp only [Act.put, List.setIfInBounds_toArray, List.set_cons_zero, List.set_cons_succ, i64_w, i32_w]
              rfl
             refine one_ (i := 18) (N := some 100) #[true, true, true, true, true, true, true, true, true, true, true, true, true, true, true, true, true, true, true, false, false, false, false, false, false, false, false, false, false, false, false, false, false, false, false, false, false, false, false, false, false, false, false, false] rfl rfl (one_of HT_.out (by kernel_rfl)) (by decide) (fun K hK => ?_)
             refine goes_ Tryd.func33 (by kernel_rfl) rfl #[.int .i64 x77_5, .int .i64 ((rd_T46 l0_2 (rd l0_1 x38_2)).f0)] (by rfl) rfl rfl (by (try simp only [List.map_toArray, List.map_cons, List.map_nil]); first | done | rfl | (simp only [List.length_drop, List.length_take]; rfl)) ?_
             with_reducible refine (spec_l8Low.calls x77_5 ((rd_T46 l0_2 (rd l0_1 x38_2)).f0) t123 _ A41.out).mono ?_
             rintro e w' ⟨rfl, ⟨nd, rfl⟩⟩
             refine ⟨_, rfl, ?_⟩
             refine hK.out _ _ ⟨(blk_cell BK112.out 0).trans rfl, (blk_cell BK112.out 1).trans rfl, (blk_cell BK112.out 2).trans rfl, ((HB.out.cell (World.block_lt_of_cell? w _ hw120_0)).trans hw120_0), ((HB.out.cell (World.block_lt_of_cell? w _ hw120_1)).trans hw120_1), ((HB.out.cell (World.block_lt_of_cell? w _ hw122_0)).trans hw122_0), ((HB.out.cell (World.block_lt_of_cell? w _ hw122_1)).trans hw122_1), ((HB.out.cell (World.block_lt_of_cell? w _ hw124_0)).trans hw124_0), ((HB.out.cell (World.block_lt_of_cell? w _ hw124_1)).trans hw124_1), ((HB.out.cell (World.block_lt_of_cell? w _ hw126_0)).trans hw126_0), ((HB.out.cell (World.block_lt_of_cell? w _ hw126_1)).trans hw126_1)⟩ (fun hHeld => ?_)
             clear hK K
             refine norm_ (a' := ?_) ?_ ?_
             rotate_left
             ·
              show Act.put _ (some 100) _ = _
              simp only [Act.put, List.setIfInBounds_toArray, List.set_cons_zero, List.set_cons_succ, i64_w, i32_w]
              rfl
             refine pureS 19 101 HT_.out ?_
             refine pureS 20 102 HT_.out ?_
             refine pureS 21 103 HT_.out ?_
             refine pureS 22 104 HT_.out ?_
             refine pureS 23 105 HT_.out ?_
             refine pureS 24 106 HT_.out ?_
             refine pureS 25 107 HT_.out ?_
             refine pureS 26 108 HT_.out ?_
             refine pureS 28 110 HT_.out ?_
             refine pureS 33 115 HT_.out ?_
             refine pureS 34 116 HT_.out ?_
             refine pureS 36 118 HT_.out ?_
             refine takeS 27 109 HT_.out HW_.out hHeld (hr := by rintro w' ⟨s0, s1, s2, s3, s4, s5, s6, s7, s8, s9, s10⟩; go_simp; with_reducible rfl) (h := ?_)
             refine pureS 29 111 HT_.out ?_
             refine pureS 30 112 HT_.out ?_
             refine takeS 31 113 HT_.out HW_.out hHeld (hr := by rintro w' ⟨s0, s1, s2, s3, s4, s5, s6, s7, s8, s9, s10⟩; go_simp; with_reducible rfl) (h := ?_)
             refine takeS 35 117 HT_.out HW_.out hHeld (hr := by rintro w' ⟨s0, s1, s2, s3, s4, s5, s6, s7, s8, s9, s10⟩; go_simp; with_reducible rfl) (h := ?_)
             refine pureS 37 119 HT_.out ?_
             refine pureS 38 120 HT_.out ?_
             refine takeS 39 121 HT_.out HW_.out hHeld (hr := by rintro w' ⟨s0, s1, s2, s3, s4, s5, s6, s7, s8, s9, s10⟩; go_simp; with_reducible rfl) (h := ?_)
             refine one_ (i := 32) (N := some 114) #[true, true, true, true, true, true, true, true, true, true, true, true, true, true, true, true, true, true, true, true, true, true, true, true, true, true, true, true, true, true, true, true, true, true, true, true, true, true, true, true, false, false, false, false] rfl rfl (one_of HT_.out (by kernel_rfl)) (by decide) (fun K hK => ?_)
             refine goes_ Tryd.func33 (by kernel_rfl) rfl #[.int .i64 x38_2, .int .i64 ((rd_T46 l0_2 (rd T34 x77_5)).f0)] (by rfl) rfl rfl (by (try simp only [List.map_toArray, List.map_cons, List.map_nil]); first | done | rfl | (simp only [List.length_drop, List.length_take]; rfl)) ?_
             with_reducible refine (spec_l8Low.calls x38_2 ((rd_T46 l0_2 (rd T34 x77_5)).f0) t125 _ A46.out).mono ?_
             rintro e w' ⟨rfl, ⟨nd, rfl⟩⟩
             refine ⟨_, rfl, ?_⟩
             refine hK.out _ _ ⟨(blk_cell BK112.out 0).trans rfl, (blk_cell BK112.out 1).trans rfl, (blk_cell BK112.out 2).trans rfl, ((HB.out.cell (World.block_lt_of_cell? w _ hw120_0)).trans hw120_0), ((HB.out.cell (World.block_lt_of_cell? w _ hw120_1)).trans hw120_1), ((HB.out.cell (World.block_lt_of_cell? w _ hw122_0)).trans hw122_0), ((HB.out.cell (World.block_lt_of_cell? w _ hw122_1)).trans hw122_1), ((HB.out.cell (World.block_lt_of_cell? w _ hw124_0)).trans hw124_0), ((HB.out.cell (World.block_lt_of_cell? w _ hw124_1)).trans hw124_1), ((HB.out.cell (World.block_lt_of_cell? w _ hw126_0)).trans hw126_0), ((HB.out.cell (World.block_lt_of_cell? w _ hw126_1)).trans hw126_1)⟩ (fun hHeld => ?_)
             clear hK K
             refine norm_ (a' := ?_) ?_ ?_
             rotate_left
             ·
              show Act.put _ (some 114) _ = _
              simp only [Act.put, List.setIfInBounds_toArray, List.set_cons_zero, List.set_cons_succ, i64_w, i32_w]
              rfl
             refine one_ (i := 40) (N := some 122) #[true, true, true, true, true, true, true, true, true, true, true, true, true, true, true, true, true, true, true, true, true, true, true, true, true, true, true, true, true, true, true, true, true, true, true, true, true, true, true, true, true, false, false, false] rfl rfl (one_of HT_.out (by kernel_rfl)) (by decide) (fun K hK => ?_)
             refine goes_ Tryd.func33 (by kernel_rfl) rfl #[.int .i64 x77_5, .int .i64 ((rd_T46 l0_2 (rd T34 x77_5)).f0)] (by rfl) rfl rfl (by (try simp only [List.map_toArray, List.map_cons, List.map_nil]); first | done | rfl | (simp only [List.length_drop, List.length_take]; rfl)) ?_
             with_reducible refine (spec_l8Low.calls x77_5 ((rd_T46 l0_2 (rd T34 x77_5)).f0) t127 _ A47.out).mono ?_
             rintro e w' ⟨rfl, ⟨nd, rfl⟩⟩
             refine ⟨_, rfl, ?_⟩
             refine hK.out _ _ ⟨(blk_cell BK112.out 0).trans rfl, (blk_cell BK112.out 1).trans rfl, (blk_cell BK112.out 2).trans rfl, ((HB.out.cell (World.block_lt_of_cell? w _ hw120_0)).trans hw120_0), ((HB.out.cell (World.block_lt_of_cell? w _ hw120_1)).trans hw120_1), ((HB.out.cell (World.block_lt_of_cell? w _ hw122_0)).trans hw122_0), ((HB.out.cell (World.block_lt_of_cell? w _ hw122_1)).trans hw122_1), ((HB.out.cell (World.block_lt_of_cell? w _ hw124_0)).trans hw124_0), ((HB.out.cell (World.block_lt_of_cell? w _ hw124_1)).trans hw124_1), ((HB.out.cell (World.block_lt_of_cell? w _ hw126_0)).trans hw126_0), ((HB.out.cell (World.block_lt_of_cell? w _ hw126_1)).trans hw126_1)⟩ (fun hHeld => ?_)
             clear hK K
             refine norm_ (a' := ?_) ?_ ?_
             rotate_left
             ·
              show Act.put _ (some 122) _ = _
              simp only [Act.put, List.setIfInBounds_toArray, List.set_cons_zero, List.set_cons_succ, i64_w, i32_w]
              rfl
             refine pureS 41 123 HT_.out ?_
             refine pureS 42 124 HT_.out ?_
             refine pureS 43 125 HT_.out ?_
             refine done_ (done_of HT_.out (by kernel_rfl)) ?_
             try go_wp2
             go_roundg k5
             case measure => have := HJ1.out; have := HK2.out; have := HJ17.out; have := HJ28.out; have := HK5.out; omega
             case rel => exact ⟨(wrap64 (x77_5 + 1)), e3, H', ⟨by have := HJ1.out; have := HK2.out; have := HJ17.out; have := HJ28.out; have := HK5.out; omega⟩, ⟨bk BK112⟩, ⟨bs1 HB GE112⟩⟩
     rw [if_neg c15] at H
     have c15b0 : decide (x38_2 < (l0_1.length : Int)) = false := decide_eq_false c15
     clear c15
     have H' := Ah H
     clear H
     obtain ⟨hcz51_0, hcz51_1, hcz51_2⟩ := cz3 BK112
     obtain ⟨hfz51_0, hfz51_1, hfz51_2⟩ := fz3 BK112
     go_wp2
     go_loopg [131] k2 (fun kq v131 w' => ∃ (x131_3 : Int), v131 = .int .i64 x131_3 ∧ Aside0 (spec_GoodDir.l2 kq x3_2 l0_2 (l0_2.length : Int) x131_3 a0_0 l0_1 l0_2 = some r) ∧ Aside0 (kq ≤ k2) ∧ Aside0 (w'.heap[gb112]? = some (.cells #[.int .i64 a0_0, (.slice A0_1 l0_1.length c0_1), (.slice A0_2 l0_2.length c0_2)] 29 (0, 0))) ∧ Aside0 (Below w.heap.size w w'))
     case atStart => exact ⟨(0), e3, H', ⟨Nat.le_refl _⟩, ⟨bk BK112⟩, ⟨bs1 HB GE112⟩⟩
     case round =>
      clear H'
      try clear c1
      try clear p1
      try clear q1
      try clear hx1
      try clear p2
      try clear c3
      try clear c4
      try clear p6
      try clear p11
      try clear q11
      try clear hx11
      try clear c12
      try clear p12
      try clear q12
      try clear hx12
      try clear c15
      try clear c15b0
      try clear c16
      try clear c17
      try clear c31
      try clear c32
      try clear c33
      try clear c35
      try clear c35b0
      try clear c36
      try clear c37
      try clear c38
      try clear c39
      try clear c44
      try clear c45
      try clear c48
      try clear c48b0
      try clear c48b1
      try clear c48b2
      try clear hcz51_0 hcz51_1 hcz51_2
      try clear hfz51_0 hfz51_1 hfz51_2
      try clear hx119_0
      try clear hx120_0
      try clear hx120_1
      try clear hx122_0
      try clear hx122_1
      try clear hx124_0
      try clear hx124_1
      try clear hx126_0
      try clear hx126_1
      try clear p119
      try clear p120
      try clear p122
      try clear p124
      try clear p126
      try clear q119
      try clear q120
      try clear q122
      try clear q124
      try clear q126
      obtain ⟨x131_3, rfl, HA, HK3, BK112, HB⟩ := hrel
      cases gk with
      | zero => exact absurd HA.out (by simp [spec_GoodDir.l2])
      | succ k3 =>
       have H := HA.out
       clear HA
       simp only [spec_GoodDir.l2] at H
       by_cases c52 : x131_3 < (l0_2.length : Int)
       rotate_left
       ·
        rw [if_neg c52] at H
        have c52b0 : decide (x131_3 < (l0_2.length : Int)) = false := decide_eq_false c52
        clear c52
        as_aux_lemma =>
         obtain rfl := Option.some.inj H
         obtain ⟨hcz127_0, hcz127_1, hcz127_2⟩ := cz3 BK112
         obtain ⟨hfz127_0, hfz127_1, hfz127_2⟩ := fz3 BK112
         go_wp2
         go_ret
         exact ⟨er, bs1 HB GE112⟩
       rw [if_pos c52] at H
       have c52b0 : decide (x131_3 < (l0_2.length : Int)) = true := decide_eq_true c52
       clear c52
       by_cases c53 : 0 ≤ x131_3
       rotate_left
       ·
        rw [if_neg c53] at H
        exact absurd H (by simp)
       rw [if_pos c53] at H
       have c53b0 : decide (0 ≤ x131_3) = true := decide_eq_true c53
       clear c53
       by_cases c54 : x131_3 < (l0_2.length : Int)
       rotate_left
       ·
        rw [if_neg c54] at H
        exact absurd H (by simp)
       rw [if_pos c54] at H
       have c54b0 : decide (x131_3 < (l0_2.length : Int)) = true := decide_eq_true c54
       clear c54
       have H' := Ah H
       clear H
       have p128 : 0 ≤ (x131_3 : Int) := od
       have q128 : x131_3 < (l0_2.length : Int) := od
       obtain ⟨ad128, A128_1, c128_1, e128, hx128_0, hx128_1, hl128_1, hi128_1⟩ := at_T46 HR0_2.out x131_3 p128 q128
       cases e128
       replace hx128_0 := (HB.out.cell (World.block_lt_of_cell? w _ hx128_0)).trans hx128_0
       replace hx128_1 := (HB.out.cell (World.block_lt_of_cell? w _ hx128_1)).trans hx128_1
       have HR128_1 := Ah hi128_1
       have HC128_1 := Ah hl128_1
       clear hi128_1 hl128_1
       replace p128 := eq_true p128
       replace q128 := eq_true q128
       go_wp2_with (first | ((with_reducible refine gate_dst (N := 9) rfl ?_); (try (refine gate_guard (by rfl) ?_; dsimp only)); refine boxL 9 46 #[.int .i64 0, .slice none 0 0] ?_; intro gb129 hg w55 BK129 hb; have GW129 := gw hg (bs1 HB GE112); have GE129 := gw hg (bs1 HB GE112); replace HB := Ah (below_step (bs1 HB GE112) hb); have NB112_129 := nn BK112 hg; have NB129_112 := nm BK112 hg; replace BK112 := nb BK112 hb; clear hb hg; have hnb56 := NB129_112.out; have hnc56 := NB112_129.out; obtain ⟨hcz57_0, hcz57_1⟩ := cz2 BK129; obtain ⟨hfz57_0, hfz57_1⟩ := fz2 BK129))
       go_loopg [139] k3 (fun kq v139 w' => ∃ (x139_4 : Int), v139 = .int .i64 x139_4 ∧ Aside0 (spec_GoodDir.l3 kq x3_2 x131_3 l0_2 (l0_2.length : Int) x131_3 ((rd_T46 l0_2 x131_3).f1) (((rd_T46 l0_2 x131_3).f1).length : Int) x139_4 a0_0 l0_1 l0_2 ((rd_T46 l0_2 x131_3).f0) ((rd_T46 l0_2 x131_3).f1) = some r) ∧ Aside0 (kq ≤ k3) ∧ Aside0 (w'.heap[gb112]? = some (.cells #[.int .i64 a0_0, (.slice A0_1 l0_1.length c0_1), (.slice (some ad128) l0_2.length c0_2)] 29 (0, 0))) ∧ Aside0 (w'.heap[gb129]? = some (.cells #[.int .i64 ((rd_T46 l0_2 x131_3).f0), (.slice A128_1 ((rd_T46 l0_2 x131_3).f1).length c128_1)] 46 (0, 0))) ∧ Aside0 (Below w.heap.size w w'))
       case atStart => exact ⟨(0), e3, H', ⟨Nat.le_refl _⟩, ⟨bf BK112 NB112_129⟩, ⟨by (with_reducible repeat (first | refine blk_drewN ?_ _ | refine blk_drew ?_ | refine blk_alloc ?_ _)); refine blk_put (cs := #[.int .i64 ((rd_T46 l0_2 x131_3).f0), .slice none 0 0]) ?_ 1 _ rfl; (with_reducible repeat (first | refine blk_drewN ?_ _ | refine blk_drew ?_ | refine blk_alloc ?_ _)); refine blk_put (cs := #[.int .i64 0, .slice none 0 0]) ?_ 0 _ rfl; (with_reducible repeat (first | refine blk_drewN ?_ _ | refine blk_drew ?_ | refine blk_alloc ?_ _)); exact BK129.out⟩, ⟨bs2 HB GE112 GE129⟩⟩
       case round =>
        clear H'
        try clear c1
        try clear p1
        try clear q1
        try clear hx1
        try clear p2
        try clear c3
        try clear c4
        try clear c5
        try clear p6
        try clear p11
        try clear q11
        try clear hx11
        try clear c12
        try clear p12
        try clear q12
        try clear hx12
        try clear c15
        try clear c15b0
        try clear c16
        try clear c17
        try clear c31
        try clear c32
        try clear c33
        try clear c35
        try clear c35b0
        try clear c36
        try clear c37
        try clear c38
        try clear c39
        try clear c44
        try clear c45
        try clear c48
        try clear c48b0
        try clear c48b1
        try clear c48b2
        try clear c52
        try clear c52b0
        try clear c53
        try clear c53b0
        try clear c54
        try clear c54b0
        try clear c56
        try clear hcz51_0 hcz51_1 hcz51_2
        try clear hcz57_0 hcz57_1
        try clear hfz51_0 hfz51_1 hfz51_2
        try clear hfz57_0 hfz57_1
        try clear hx119_0
        try clear hx120_0
        try clear hx120_1
        try clear hx122_0
        try clear hx122_1
        try clear hx124_0
        try clear hx124_1
        try clear hx126_0
        try clear hx126_1
        try clear hx128_0
        try clear hx128_1
        try clear p1
        try clear p11
        try clear p119
        try clear p12
        try clear p120
        try clear p122
        try clear p124
        try clear p126
        try clear p128
        try clear p2
        try clear p6
        try clear q1
        try clear q11
        try clear q119
        try clear q12
        try clear q120
        try clear q122
        try clear q124
        try clear q126
        try clear q128
        obtain ⟨x139_4, rfl, HA, HK4, BK112, BK129, HB⟩ := hrel
        cases gk with
        | zero => exact absurd HA.out (by simp [spec_GoodDir.l3])
        | succ k4 =>
         have H := HA.out
         clear HA
         simp only [spec_GoodDir.l3] at H
         by_cases c58 : x139_4 < (((rd_T46 l0_2 x131_3).f1).length : Int)
         rotate_left
         ·
          rw [if_neg c58] at H
          have c58b0 : decide (x139_4 < (((rd_T46 l0_2 x131_3).f1).length : Int)) = false := decide_eq_false c58
          clear c58
          by_cases c122 : (((rd_T46 l0_2 x131_3).f1).length : Int) > 4
          ·
           rw [if_pos c122] at H
           have c122b0 : decide (4 < (((rd_T46 l0_2 x131_3).f1).length : Int)) = true := decide_eq_true c122
           have c122b1 : decide (4 < ((rd_T46 l0_2 x131_3).f1).length) = true := decide_eq_true (by omega)
           clear c122
           as_aux_lemma =>
            obtain rfl := Option.some.inj H
            have hnb123 := NB129_112.out
            have hnc123 := NB112_129.out
            obtain ⟨hcz124_0, hcz124_1⟩ := cz2 BK129
            obtain ⟨hfz124_0, hfz124_1⟩ := fz2 BK129
            go_wp2
            go_ret
            exact ⟨er, bs2 HB GE112 GE129⟩
          rw [if_neg c122] at H
          have c122b0 : decide (4 < (((rd_T46 l0_2 x131_3).f1).length : Int)) = false := decide_eq_false c122
          have c122b1 : decide (4 < ((rd_T46 l0_2 x131_3).f1).length) = false := decide_eq_false (by omega)
          clear c122
          as_aux_lemma =>
           have H' := Ah H
           clear H
           have hnb125 := NB129_112.out
           have hnc125 := NB112_129.out
           obtain ⟨hcz126_0, hcz126_1⟩ := cz2 BK129
           obtain ⟨hfz126_0, hfz126_1⟩ := fz2 BK129
           go_wp2
           go_roundg k4
           case measure => have := HJ1.out; have := HK2.out; have := HK3.out; have := HK4.out; omega
           case rel => exact ⟨(wrap64 (x131_3 + 1)), e3, H', ⟨by have := HJ1.out; have := HK2.out; have := HK3.out; have := HK4.out; omega⟩, ⟨bk BK112⟩, ⟨bs2 HB GE112 GE129⟩⟩
         rw [if_pos c58] at H
         have c58b0 : decide (x139_4 < (((rd_T46 l0_2 x131_3).f1).length : Int)) = true := decide_eq_true c58
         clear c58
         by_cases c59 : 0 ≤ x139_4
         rotate_left
         ·
          rw [if_neg c59] at H
          exact absurd H (by simp)
         rw [if_pos c59] at H
         have c59b0 : decide (0 ≤ x139_4) = true := decide_eq_true c59
         clear c59
         by_cases c60 : x139_4 < (((rd_T46 l0_2 x131_3).f1).length : Int)
         rotate_left
         ·
          rw [if_neg c60] at H
          exact absurd H (by simp)
         rw [if_pos c60] at H
         have c60b0 : decide (x139_4 < (((rd_T46 l0_2 x131_3).f1).length : Int)) = true := decide_eq_true c60
         clear c60
         replace H := Option.bind_eq_some_iff.mp H
         obtain ⟨t132, A610, H⟩ := H
         try dsimp only at H
         have A61 := Ah A610
         clear A610
         by_cases c62 : t132 = true
         rotate_left
         ·
          replace c62 := Bool.eq_false_iff.mpr c62
          subst c62
          rw [if_neg fne] at H
          as_aux_lemma =>
           obtain rfl := Option.some.inj H
           have p130 : 0 ≤ (x139_4 : Int) := od
           have q130 : x139_4 < (((rd_T46 l0_2 x131_3).f1).length : Int) := od
           obtain ⟨ad130, e130, hx130_0, hx130_1⟩ := at_T53 HR128_1.out x139_4 p130 q130
           cases e130
           replace hx130_0 := (HB.out.cell (World.block_lt_of_cell? w _ hx130_0)).trans hx130_0
           replace hx130_1 := (HB.out.cell (World.block_lt_of_cell? w _ hx130_1)).trans hx130_1
           replace p130 := eq_true p130
           replace q130 := eq_true q130
           try go_wp2_with (first | ((with_reducible refine gate_dst (N := 11) rfl ?_); (try (refine gate_guard (by rfl) ?_; dsimp only)); refine boxL 11 53 #[.string (⟨#[]⟩ : ByteArray), .int .i64 0] ?_; intro gb131 hg w116 BK131 hb; have GW131 := gw hg (bs2 HB GE112 GE129); have GE131 := gw hg (bs2 HB GE112 GE129); replace HB := Ah (below_step (bs2 HB GE112 GE129) hb); have NB112_131 := nn BK112 hg; have NB131_112 := nm BK112 hg; replace BK112 := nb BK112 hb; have NB129_131 := nn BK129 hg; have NB131_129 := nm BK129 hg; replace BK129 := nb BK129 hb; clear hb hg; have hnb117 := NB131_112.out; have hnc117 := NB112_131.out; have hnb118 := NB131_129.out; have hnc118 := NB129_131.out; obtain ⟨hcz119_0, hcz119_1⟩ := cz2 BK131; obtain ⟨hfz119_0, hfz119_1⟩ := fz2 BK131))
           have n0_ : Aside0 (((w116.setCell ⟨gb131, 0, none⟩ (.string ((rd_T53 ((rd_T46 l0_2 x131_3).f1) x139_4).f0))).setCell ⟨gb131, 1, none⟩ (.int .i64 ((rd_T53 ((rd_T46 l0_2 x131_3).f1) x139_4).f1))).heap[gb112]? = some (.cells #[.int .i64 a0_0, .slice A0_1 l0_1.length c0_1, .slice (some ad128) l0_2.length c0_2] 29 (0, 0))) := ⟨bf BK112 NB112_131⟩
           have n1_ : Aside0 (((w116.setCell ⟨gb131, 0, none⟩ (.string ((rd_T53 ((rd_T46 l0_2 x131_3).f1) x139_4).f0))).setCell ⟨gb131, 1, none⟩ (.int .i64 ((rd_T53 ((rd_T46 l0_2 x131_3).f1) x139_4).f1))).heap[gb129]? = some (.cells #[.int .i64 ((rd_T46 l0_2 x131_3).f0), .slice (some ad130) ((rd_T46 l0_2 x131_3).f1).length c128_1] 46 (0, 0))) := ⟨bf BK129 NB129_131⟩
           have n2_ : Aside0 (((w116.setCell ⟨gb131, 0, none⟩ (.string ((rd_T53 ((rd_T46 l0_2 x131_3).f1) x139_4).f0))).setCell ⟨gb131, 1, none⟩ (.int .i64 ((rd_T53 ((rd_T46 l0_2 x131_3).f1) x139_4).f1))).heap[gb131]? = some (.cells #[.string ((rd_T53 ((rd_T46 l0_2 x131_3).f1) x139_4).f0), .int .i64 ((rd_T53 ((rd_T46 l0_2 x131_3).f1) x139_4).f1)] 53 (0, 0))) := ⟨by (with_reducible repeat (first | refine blk_drewN ?_ _ | refine blk_drew ?_ | refine blk_alloc ?_ _)); refine blk_put (cs := #[.string ((rd_T53 ((rd_T46 l0_2 x131_3).f1) x139_4).f0), .int .i64 0]) ?_ 1 _ rfl; (with_reducible repeat (first | refine blk_drewN ?_ _ | refine blk_drew ?_ | refine blk_alloc ?_ _)); refine blk_put (cs := #[.string (⟨#[]⟩ : ByteArray), .int .i64 0]) ?_ 0 _ rfl; (with_reducible repeat (first | refine blk_drewN ?_ _ | refine blk_drew ?_ | refine blk_alloc ?_ _)); exact BK131.out⟩
           have n3_ : Aside0 (Below w.heap.size w ((w116.setCell ⟨gb131, 0, none⟩ (.string ((rd_T53 ((rd_T46 l0_2 x131_3).f1) x139_4).f0))).setCell ⟨gb131, 1, none⟩ (.int .i64 ((rd_T53 ((rd_T46 l0_2 x131_3).f1) x139_4).f1)))) := ⟨bs3 HB GE112 GE129 GE131⟩
           (try clear BK112)
           (try clear BK129)
           (try clear BK131)
           (try clear HB)
           generalize ((w116.setCell ⟨gb131, 0, none⟩ (.string ((rd_T53 ((rd_T46 l0_2 x131_3).f1) x139_4).f0))).setCell ⟨gb131, 1, none⟩ (.int .i64 ((rd_T53 ((rd_T46 l0_2 x131_3).f1) x139_4).f1))) = w120 at n0_ n1_ n2_ n3_ ⊢
           have BK112 := n0_
           have BK129 := n1_
           have BK131 := n2_
           have HB := n3_
           clear n0_ n1_ n2_ n3_
           have n0_ := Ah (blk_drew BK112.out)
           have n1_ := Ah (blk_drew BK129.out)
           have n2_ := Ah (blk_drew BK131.out)
           have n3_ := Ah (below_drew1 HB.out)
           clear BK112 BK129 BK131 HB
           have BK112 := n0_
           have BK129 := n1_
           have BK131 := n2_
           have HB := n3_
           clear n0_ n1_ n2_ n3_
           refine start_ (n := 40) (S := fun w' => w'.cell? ⟨gb131, 0, none⟩ = some (.string ((rd_T53 ((rd_T46 l0_2 x131_3).f1) x139_4).f0)) ∧ w'.cell? ⟨gb131, 1, none⟩ = some (.int .i64 ((rd_T53 ((rd_T46 l0_2 x131_3).f1) x139_4).f1))) (ds := []) #[false, false, false, false, false, false, false, false, false, false, false, false, false, false, false, false, false, false, false, false, false, false, false, false, false, false, false, false, false, false, false, false, false, false, false, false, false, false, false, false] (by kernel_rfl) rfl rfl ⟨(blk_cell BK131.out 0).trans rfl, (blk_cell BK131.out 1).trans rfl⟩ (fun hHeld => ?_); refine with_tabW spec_GoodDir.tab24 spec_GoodDir.bits24 (fun HT_ HW_ => ?_)
           generalize w120.drew = w121 at BK112 BK129 BK131 HB hHeld ⊢
           refine pureS 0 144 HT_.out ?_
           refine takeS 1 145 HT_.out HW_.out hHeld (hr := by rintro w' ⟨s0, s1⟩; go_simp; with_reducible rfl) (h := ?_)
           refine one_ (i := 2) (N := some 146) #[true, true, true, false, false, false, false, false, false, false, false, false, false, false, false, false, false, false, false, false, false, false, false, false, false, false, false, false, false, false, false, false, false, false, false, false, false, false, false, false] rfl rfl (one_of HT_.out (by kernel_rfl)) (by decide) (fun K hK => ?_)
           refine goes_ Tryd.func14 (by kernel_rfl) rfl #[.string ((rd_T53 ((rd_T46 l0_2 x131_3).f1) x139_4).f0)] (by rfl) rfl rfl (by (try simp only [List.map_toArray, List.map_cons, List.map_nil]); first | done | rfl | (simp only [List.length_drop, List.length_take]; rfl)) ?_
           with_reducible refine (spec_l8Name.calls k4 ((rd_T53 ((rd_T46 l0_2 x131_3).f1) x139_4).f0) false _ A61.out).mono ?_
           rintro e w' ⟨rfl, ⟨nd, rfl⟩⟩
           refine ⟨_, rfl, ?_⟩
           refine hK.out _ _ ⟨(blk_cell BK131.out 0).trans rfl, (blk_cell BK131.out 1).trans rfl⟩ (fun hHeld => ?_)
           clear hK K
           refine norm_ (a' := ?_) ?_ ?_
           rotate_left
           ·
            show Act.put _ (some 146) _ = _
            simp only [Act.put, List.setIfInBounds_toArray, List.set_cons_zero, List.set_cons_succ, i64_w, i32_w]
            rfl
           refine pureS 3 147 HT_.out ?_
           refine pureS 4 148 HT_.out ?_
           refine pureU 5 149 HT_.out ?_
           refine pureU 6 150 HT_.out ?_
           refine pureU 7 151 HT_.out ?_
           refine pureU 8 152 HT_.out ?_
           refine pureS 9 153 HT_.out ?_
           refine pureS 10 154 HT_.out ?_
           refine pureU 11 155 HT_.out ?_
           refine pureU 12 156 HT_.out ?_
           refine pureU 13 157 HT_.out ?_
           refine pureU 14 158 HT_.out ?_
           refine pureU 15 159 HT_.out ?_
           refine pureU 16 160 HT_.out ?_
           refine pureU 17 161 HT_.out ?_
           refine pureU 18 162 HT_.out ?_
           refine pureU 19 163 HT_.out ?_
           refine pureU 20 164 HT_.out ?_
           refine pureU 21 165 HT_.out ?_
           refine pureU 22 166 HT_.out ?_
           refine pureU 23 167 HT_.out ?_
           refine pureU 24 168 HT_.out ?_
           refine pureS 25 169 HT_.out ?_
           refine pureS 26 170 HT_.out ?_
           refine pureU 27 171 HT_.out ?_
           refine pureU 28 172 HT_.out ?_
           refine pureU 29 173 HT_.out ?_
           refine pureU 30 174 HT_.out ?_
           refine pureU 31 175 HT_.out ?_
           refine pureU 32 176 HT_.out ?_
           refine pureU 33 177 HT_.out ?_
           refine pureU 34 178 HT_.out ?_
           refine pureU 35 179 HT_.out ?_
           refine pureU 36 180 HT_.out ?_
           refine pureU 37 181 HT_.out ?_
           refine pureU 38 182 HT_.out ?_
           refine pureS 39 183 HT_.out ?_
           refine done_ (done_of HT_.out (by kernel_rfl)) ?_
           try go_wp2
           go_ret
           exact ⟨er, bs3 HB GE112 GE129 GE131⟩
         subst c62
         rw [if_pos rfl] at H
         replace H := Option.bind_eq_some_iff.mp H
         obtain ⟨t133, A630, H⟩ := H
         try dsimp only at H
         have A63 := Ah A630
         clear A630
         by_cases c64 : t133 = true
         rotate_left
         ·
          replace c64 := Bool.eq_false_iff.mpr c64
          subst c64
          rw [if_neg fne] at H
          as_aux_lemma =>
           obtain rfl := Option.some.inj H
           have p130 : 0 ≤ (x139_4 : Int) := od
           have q130 : x139_4 < (((rd_T46 l0_2 x131_3).f1).length : Int) := od
           obtain ⟨ad130, e130, hx130_0, hx130_1⟩ := at_T53 HR128_1.out x139_4 p130 q130
           cases e130
           replace hx130_0 := (HB.out.cell (World.block_lt_of_cell? w _ hx130_0)).trans hx130_0
           replace hx130_1 := (HB.out.cell (World.block_lt_of_cell? w _ hx130_1)).trans hx130_1
           replace p130 := eq_true p130
           replace q130 := eq_true q130
           try go_wp2_with (first | ((with_reducible refine gate_dst (N := 11) rfl ?_); (try (refine gate_guard (by rfl) ?_; dsimp only)); refine boxL 11 53 #[.string (⟨#[]⟩ : ByteArray), .int .i64 0] ?_; intro gb131 hg w110 BK131 hb; have GW131 := gw hg (bs2 HB GE112 GE129); have GE131 := gw hg (bs2 HB GE112 GE129); replace HB := Ah (below_step (bs2 HB GE112 GE129) hb); have NB112_131 := nn BK112 hg; have NB131_112 := nm BK112 hg; replace BK112 := nb BK112 hb; have NB129_131 := nn BK129 hg; have NB131_129 := nm BK129 hg; replace BK129 := nb BK129 hb; clear hb hg; have hnb111 := NB131_112.out; have hnc111 := NB112_131.out; have hnb112 := NB131_129.out; have hnc112 := NB129_131.out; obtain ⟨hcz113_0, hcz113_1⟩ := cz2 BK131; obtain ⟨hfz113_0, hfz113_1⟩ := fz2 BK131))
           have n0_ : Aside0 (((w110.setCell ⟨gb131, 0, none⟩ (.string ((rd_T53 ((rd_T46 l0_2 x131_3).f1) x139_4).f0))).setCell ⟨gb131, 1, none⟩ (.int .i64 ((rd_T53 ((rd_T46 l0_2 x131_3).f1) x139_4).f1))).heap[gb112]? = some (.cells #[.int .i64 a0_0, .slice A0_1 l0_1.length c0_1, .slice (some ad128) l0_2.length c0_2] 29 (0, 0))) := ⟨bf BK112 NB112_131⟩
           have n1_ : Aside0 (((w110.setCell ⟨gb131, 0, none⟩ (.string ((rd_T53 ((rd_T46 l0_2 x131_3).f1) x139_4).f0))).setCell ⟨gb131, 1, none⟩ (.int .i64 ((rd_T53 ((rd_T46 l0_2 x131_3).f1) x139_4).f1))).heap[gb129]? = some (.cells #[.int .i64 ((rd_T46 l0_2 x131_3).f0), .slice (some ad130) ((rd_T46 l0_2 x131_3).f1).length c128_1] 46 (0, 0))) := ⟨bf BK129 NB129_131⟩
           have n2_ : Aside0 (((w110.setCell ⟨gb131, 0, none⟩ (.string ((rd_T53 ((rd_T46 l0_2 x131_3).f1) x139_4).f0))).setCell ⟨gb131, 1, none⟩ (.int .i64 ((rd_T53 ((rd_T46 l0_2 x131_3).f1) x139_4).f1))).heap[gb131]? = some (.cells #[.string ((rd_T53 ((rd_T46 l0_2 x131_3).f1) x139_4).f0), .int .i64 ((rd_T53 ((rd_T46 l0_2 x131_3).f1) x139_4).f1)] 53 (0, 0))) := ⟨by (with_reducible repeat (first | refine blk_drewN ?_ _ | refine blk_drew ?_ | refine blk_alloc ?_ _)); refine blk_put (cs := #[.string ((rd_T53 ((rd_T46 l0_2 x131_3).f1) x139_4).f0), .int .i64 0]) ?_ 1 _ rfl; (with_reducible repeat (first | refine blk_drewN ?_ _ | refine blk_drew ?_ | refine blk_alloc ?_ _)); refine blk_put (cs := #[.string (⟨#[]⟩ : ByteArray), .int .i64 0]) ?_ 0 _ rfl; (with_reducible repeat (first | refine blk_drewN ?_ _ | refine blk_drew ?_ | refine blk_alloc ?_ _)); exact BK131.out⟩
           have n3_ : Aside0 (Below w.heap.size w ((w110.setCell ⟨gb131, 0, none⟩ (.string ((rd_T53 ((rd_T46 l0_2 x131_3).f1) x139_4).f0))).setCell ⟨gb131, 1, none⟩ (.int .i64 ((rd_T53 ((rd_T46 l0_2 x131_3).f1) x139_4).f1)))) := ⟨bs3 HB GE112 GE129 GE131⟩
           (try clear BK112)
           (try clear BK129)
           (try clear BK131)
           (try clear HB)
           generalize ((w110.setCell ⟨gb131, 0, none⟩ (.string ((rd_T53 ((rd_T46 l0_2 x131_3).f1) x139_4).f0))).setCell ⟨gb131, 1, none⟩ (.int .i64 ((rd_T53 ((rd_T46 l0_2 x131_3).f1) x139_4).f1))) = w114 at n0_ n1_ n2_ n3_ ⊢
           have BK112 := n0_
           have BK129 := n1_
           have BK131 := n2_
           have HB := n3_
           clear n0_ n1_ n2_ n3_
           have n0_ := Ah (blk_drew BK112.out)
           have n1_ := Ah (blk_drew BK129.out)
           have n2_ := Ah (blk_drew BK131.out)
           have n3_ := Ah (below_drew1 HB.out)
           clear BK112 BK129 BK131 HB
           have BK112 := n0_
           have BK129 := n1_
           have BK131 := n2_
           have HB := n3_
           clear n0_ n1_ n2_ n3_
           refine start_ (n := 40) (S := fun w' => w'.cell? ⟨gb131, 0, none⟩ = some (.string ((rd_T53 ((rd_T46 l0_2 x131_3).f1) x139_4).f0)) ∧ w'.cell? ⟨gb131, 1, none⟩ = some (.int .i64 ((rd_T53 ((rd_T46 l0_2 x131_3).f1) x139_4).f1))) (ds := []) #[false, false, false, false, false, false, false, false, false, false, false, false, false, false, false, false, false, false, false, false, false, false, false, false, false, false, false, false, false, false, false, false, false, false, false, false, false, false, false, false] (by kernel_rfl) rfl rfl ⟨(blk_cell BK131.out 0).trans rfl, (blk_cell BK131.out 1).trans rfl⟩ (fun hHeld => ?_); refine with_tabW spec_GoodDir.tab24 spec_GoodDir.bits24 (fun HT_ HW_ => ?_)
           generalize w114.drew = w115 at BK112 BK129 BK131 HB hHeld ⊢
           refine pureS 0 144 HT_.out ?_
           refine takeS 1 145 HT_.out HW_.out hHeld (hr := by rintro w' ⟨s0, s1⟩; go_simp; with_reducible rfl) (h := ?_)
           refine one_ (i := 2) (N := some 146) #[true, true, true, false, false, false, false, false, false, false, false, false, false, false, false, false, false, false, false, false, false, false, false, false, false, false, false, false, false, false, false, false, false, false, false, false, false, false, false, false] rfl rfl (one_of HT_.out (by kernel_rfl)) (by decide) (fun K hK => ?_)
           refine goes_ Tryd.func14 (by kernel_rfl) rfl #[.string ((rd_T53 ((rd_T46 l0_2 x131_3).f1) x139_4).f0)] (by rfl) rfl rfl (by (try simp only [List.map_toArray, List.map_cons, List.map_nil]); first | done | rfl | (simp only [List.length_drop, List.length_take]; rfl)) ?_
           with_reducible refine (spec_l8Name.calls k4 ((rd_T53 ((rd_T46 l0_2 x131_3).f1) x139_4).f0) true _ A61.out).mono ?_
           rintro e w' ⟨rfl, ⟨nd, rfl⟩⟩
           refine ⟨_, rfl, ?_⟩
           refine hK.out _ _ ⟨(blk_cell BK131.out 0).trans rfl, (blk_cell BK131.out 1).trans rfl⟩ (fun hHeld => ?_)
           clear hK K
           refine norm_ (a' := ?_) ?_ ?_
           rotate_left
           ·
            show Act.put _ (some 146) _ = _
            simp only [Act.put, List.setIfInBounds_toArray, List.set_cons_zero, List.set_cons_succ, i64_w, i32_w]
            rfl
           refine pureS 3 147 HT_.out ?_
           refine pureS 4 148 HT_.out ?_
           refine pureS 5 149 HT_.out ?_
           refine takeS 6 150 HT_.out HW_.out hHeld (hr := by rintro w' ⟨s0, s1⟩; go_simp; with_reducible rfl) (h := ?_)
           refine one_ (i := 7) (N := some 151) #[true, true, true, true, true, true, true, true, false, false, false, false, false, false, false, false, false, false, false, false, false, false, false, false, false, false, false, false, false, false, false, false, false, false, false, false, false, false, false, false] rfl rfl (one_of HT_.out (by kernel_rfl)) (by decide) (fun K hK => ?_)
           refine goes_ Tryd.func32 (by kernel_rfl) rfl #[.int .i64 ((rd_T53 ((rd_T46 l0_2 x131_3).f1) x139_4).f1), .int .i64 0, .int .i64 1000] (by rfl) rfl rfl (by (try simp only [List.map_toArray, List.map_cons, List.map_nil]); first | done | rfl | (simp only [List.length_drop, List.length_take]; rfl)) ?_
           with_reducible refine (spec_l1In.calls ((rd_T53 ((rd_T46 l0_2 x131_3).f1) x139_4).f1) 0 1000 false _ A63.out).mono ?_
           rintro e w' ⟨rfl, ⟨nd, rfl⟩⟩
           refine ⟨_, rfl, ?_⟩
           refine hK.out _ _ ⟨(blk_cell BK131.out 0).trans rfl, (blk_cell BK131.out 1).trans rfl⟩ (fun hHeld => ?_)
           clear hK K
           refine norm_ (a' := ?_) ?_ ?_
           rotate_left
           ·
            show Act.put _ (some 151) _ = _
            simp only [Act.put, List.setIfInBounds_toArray, List.set_cons_zero, List.set_cons_succ, i64_w, i32_w]
            rfl
           refine pureS 8 152 HT_.out ?_
           refine pureS 9 153 HT_.out ?_
           refine pureS 10 154 HT_.out ?_
           refine pureU 11 155 HT_.out ?_
           refine pureU 12 156 HT_.out ?_
           refine pureU 13 157 HT_.out ?_
           refine pureU 14 158 HT_.out ?_
           refine pureU 15 159 HT_.out ?_
           refine pureU 16 160 HT_.out ?_
           refine pureU 17 161 HT_.out ?_
           refine pureU 18 162 HT_.out ?_
           refine pureU 19 163 HT_.out ?_
           refine pureU 20 164 HT_.out ?_
           refine pureU 21 165 HT_.out ?_
           refine pureU 22 166 HT_.out ?_
           refine pureU 23 167 HT_.out ?_
           refine pureU 24 168 HT_.out ?_
           refine pureS 25 169 HT_.out ?_
           refine pureS 26 170 HT_.out ?_
           refine pureU 27 171 HT_.out ?_
           refine pureU 28 172 HT_.out ?_
           refine pureU 29 173 HT_.out ?_
           refine pureU 30 174 HT_.out ?_
           refine pureU 31 175 HT_.out ?_
           refine pureU 32 176 HT_.out ?_
           refine pureU 33 177 HT_.out ?_
           refine pureU 34 178 HT_.out ?_
           refine pureU 35 179 HT_.out ?_
           refine pureU 36 180 HT_.out ?_
           refine pureU 37 181 HT_.out ?_
           refine pureU 38 182 HT_.out ?_
           refine pureS 39 183 HT_.out ?_
           refine done_ (done_of HT_.out (by kernel_rfl)) ?_
           try go_wp2
           go_ret
           exact ⟨er, bs3 HB GE112 GE129 GE131⟩
         subst c64
         rw [if_pos rfl] at H
         by_cases c65 : x139_4 > 0
         rotate_left
         ·
          rw [if_neg c65] at H
          have c65b0 : decide (0 < x139_4) = false := decide_eq_false c65
          clear c65
          replace H := Option.bind_eq_some_iff.mp H
          obtain ⟨t138, A930, H⟩ := H
          try dsimp only at H
          have A93 := Ah A930
          clear A930
          replace H := Option.bind_eq_some_iff.mp H
          obtain ⟨t139, A940, H⟩ := H
          try dsimp only at H
          have A94 := Ah A940
          clear A940
          by_cases c95 : 0 ≤ t139
          rotate_left
          ·
           rw [if_neg c95] at H
           exact absurd H (by simp)
          rw [if_pos c95] at H
          have c95b0 : decide (0 ≤ t139) = true := decide_eq_true c95
          clear c95
          by_cases c96 : t139 < (l0_1.length : Int)
          rotate_left
          ·
           rw [if_neg c96] at H
           exact absurd H (by simp)
          rw [if_pos c96] at H
          have c96b0 : decide (t139 < (l0_1.length : Int)) = true := decide_eq_true c96
          clear c96
          by_cases c97 : (rd l0_1 t139) = x131_3
          rotate_left
          ·
           rw [if_neg c97] at H
           have c97b0 : ((rd l0_1 t139) == x131_3) = false := beq_eq_false_iff_ne.mpr c97
           have c97b1 : ((rd l0_1 t139) != x131_3) = true := bne_iff_ne.mpr c97
           as_aux_lemma =>
            obtain rfl := Option.some.inj H
            have p130 : 0 ≤ (x139_4 : Int) := od
            have q130 : x139_4 < (((rd_T46 l0_2 x131_3).f1).length : Int) := od
            obtain ⟨ad130, e130, hx130_0, hx130_1⟩ := at_T53 HR128_1.out x139_4 p130 q130
            cases e130
            replace hx130_0 := (HB.out.cell (World.block_lt_of_cell? w _ hx130_0)).trans hx130_0
            replace hx130_1 := (HB.out.cell (World.block_lt_of_cell? w _ hx130_1)).trans hx130_1
            replace p130 := eq_true p130
            replace q130 := eq_true q130
            try go_wp2_with (first | ((with_reducible refine gate_dst (N := 11) rfl ?_); (try (refine gate_guard (by rfl) ?_; dsimp only)); refine boxL 11 53 #[.string (⟨#[]⟩ : ByteArray), .int .i64 0] ?_; intro gb131 hg w104 BK131 hb; have GW131 := gw hg (bs2 HB GE112 GE129); have GE131 := gw hg (bs2 HB GE112 GE129); replace HB := Ah (below_step (bs2 HB GE112 GE129) hb); have NB112_131 := nn BK112 hg; have NB131_112 := nm BK112 hg; replace BK112 := nb BK112 hb; have NB129_131 := nn BK129 hg; have NB131_129 := nm BK129 hg; replace BK129 := nb BK129 hb; clear hb hg; have hnb105 := NB131_112.out; have hnc105 := NB112_131.out; have hnb106 := NB131_129.out; have hnc106 := NB129_131.out; obtain ⟨hcz107_0, hcz107_1⟩ := cz2 BK131; obtain ⟨hfz107_0, hfz107_1⟩ := fz2 BK131))
            have n0_ : Aside0 (((w104.setCell ⟨gb131, 0, none⟩ (.string ((rd_T53 ((rd_T46 l0_2 x131_3).f1) x139_4).f0))).setCell ⟨gb131, 1, none⟩ (.int .i64 ((rd_T53 ((rd_T46 l0_2 x131_3).f1) x139_4).f1))).heap[gb112]? = some (.cells #[.int .i64 a0_0, .slice A0_1 l0_1.length c0_1, .slice (some ad128) l0_2.length c0_2] 29 (0, 0))) := ⟨bf BK112 NB112_131⟩
            have n1_ : Aside0 (((w104.setCell ⟨gb131, 0, none⟩ (.string ((rd_T53 ((rd_T46 l0_2 x131_3).f1) x139_4).f0))).setCell ⟨gb131, 1, none⟩ (.int .i64 ((rd_T53 ((rd_T46 l0_2 x131_3).f1) x139_4).f1))).heap[gb129]? = some (.cells #[.int .i64 ((rd_T46 l0_2 x131_3).f0), .slice (some ad130) ((rd_T46 l0_2 x131_3).f1).length c128_1] 46 (0, 0))) := ⟨bf BK129 NB129_131⟩
            have n2_ : Aside0 (((w104.setCell ⟨gb131, 0, none⟩ (.string ((rd_T53 ((rd_T46 l0_2 x131_3).f1) x139_4).f0))).setCell ⟨gb131, 1, none⟩ (.int .i64 ((rd_T53 ((rd_T46 l0_2 x131_3).f1) x139_4).f1))).heap[gb131]? = some (.cells #[.string ((rd_T53 ((rd_T46 l0_2 x131_3).f1) x139_4).f0), .int .i64 ((rd_T53 ((rd_T46 l0_2 x131_3).f1) x139_4).f1)] 53 (0, 0))) := ⟨by (with_reducible repeat (first | refine blk_drewN ?_ _ | refine blk_drew ?_ | refine blk_alloc ?_ _)); refine blk_put (cs := #[.string ((rd_T53 ((rd_T46 l0_2 x131_3).f1) x139_4).f0), .int .i64 0]) ?_ 1 _ rfl; (with_reducible repeat (first | refine blk_drewN ?_ _ | refine blk_drew ?_ | refine blk_alloc ?_ _)); refine blk_put (cs := #[.string (⟨#[]⟩ : ByteArray), .int .i64 0]) ?_ 0 _ rfl; (with_reducible repeat (first | refine blk_drewN ?_ _ | refine blk_drew ?_ | refine blk_alloc ?_ _)); exact BK131.out⟩
            have n3_ : Aside0 (Below w.heap.size w ((w104.setCell ⟨gb131, 0, none⟩ (.string ((rd_T53 ((rd_T46 l0_2 x131_3).f1) x139_4).f0))).setCell ⟨gb131, 1, none⟩ (.int .i64 ((rd_T53 ((rd_T46 l0_2 x131_3).f1) x139_4).f1)))) := ⟨bs3 HB GE112 GE129 GE131⟩
            (try clear BK112)
            (try clear BK129)
            (try clear BK131)
            (try clear HB)
            generalize ((w104.setCell ⟨gb131, 0, none⟩ (.string ((rd_T53 ((rd_T46 l0_2 x131_3).f1) x139_4).f0))).setCell ⟨gb131, 1, none⟩ (.int .i64 ((rd_T53 ((rd_T46 l0_2 x131_3).f1) x139_4).f1))) = w108 at n0_ n1_ n2_ n3_ ⊢
            have BK112 := n0_
            have BK129 := n1_
            have BK131 := n2_
            have HB := n3_
            clear n0_ n1_ n2_ n3_
            have n0_ := Ah (blk_drew BK112.out)
            have n1_ := Ah (blk_drew BK129.out)
            have n2_ := Ah (blk_drew BK131.out)
            have n3_ := Ah (below_drew1 HB.out)
            clear BK112 BK129 BK131 HB
            have BK112 := n0_
            have BK129 := n1_
            have BK131 := n2_
            have HB := n3_
            clear n0_ n1_ n2_ n3_
            have p140 : 0 ≤ (t139 : Int) := od
            have q140 : t139 < (l0_1.length : Int) := od
            obtain ⟨ad140, e140, hx140_0⟩ := Kd.at_int HR0_1.out t139 p140 q140
            have hw140_0 := hx140_0
            cases e140
            replace hx140_0 := (HB.out.cell (World.block_lt_of_cell? w _ hx140_0)).trans hx140_0
            replace p140 := eq_true p140
            replace q140 := eq_true q140
            refine start_ (n := 40) (S := fun w' => w'.cell? ⟨gb131, 0, none⟩ = some (.string ((rd_T53 ((rd_T46 l0_2 x131_3).f1) x139_4).f0)) ∧ w'.cell? ⟨gb131, 1, none⟩ = some (.int .i64 ((rd_T53 ((rd_T46 l0_2 x131_3).f1) x139_4).f1)) ∧ w'.cell? ⟨gb112, 0, none⟩ = some (.int .i64 a0_0) ∧ w'.cell? ⟨gb112, 1, none⟩ = some (.slice (some ad140) l0_1.length c0_1) ∧ w'.cell? ⟨gb112, 2, none⟩ = some (.slice (some ad128) l0_2.length c0_2) ∧ w'.cell? (ad140.add (t139).toNat) = some (.int .i64 (rd l0_1 t139))) (ds := []) #[false, false, false, false, false, false, false, false, false, false, false, false, false, false, false, false, false, false, false, false, false, false, false, false, false, false, false, false, false, false, false, false, false, false, false, false, false, false, false, false] (by kernel_rfl) rfl rfl ⟨(blk_cell BK131.out 0).trans rfl, (blk_cell BK131.out 1).trans rfl, (blk_cell BK112.out 0).trans rfl, (blk_cell BK112.out 1).trans rfl, (blk_cell BK112.out 2).trans rfl, ((HB.out.cell (World.block_lt_of_cell? w _ hw140_0)).trans hw140_0)⟩ (fun hHeld => ?_); refine with_tabW spec_GoodDir.tab24 spec_GoodDir.bits24 (fun HT_ HW_ => ?_)
            generalize w108.drew = w109 at BK112 BK129 BK131 HB hx140_0 hHeld ⊢
            refine pureS 0 144 HT_.out ?_
            refine takeS 1 145 HT_.out HW_.out hHeld (hr := by rintro w' ⟨s0, s1, s2, s3, s4, s5⟩; go_simp; with_reducible rfl) (h := ?_)
            refine one_ (i := 2) (N := some 146) #[true, true, true, false, false, false, false, false, false, false, false, false, false, false, false, false, false, false, false, false, false, false, false, false, false, false, false, false, false, false, false, false, false, false, false, false, false, false, false, false] rfl rfl (one_of HT_.out (by kernel_rfl)) (by decide) (fun K hK => ?_)
            refine goes_ Tryd.func14 (by kernel_rfl) rfl #[.string ((rd_T53 ((rd_T46 l0_2 x131_3).f1) x139_4).f0)] (by rfl) rfl rfl (by (try simp only [List.map_toArray, List.map_cons, List.map_nil]); first | done | rfl | (simp only [List.length_drop, List.length_take]; rfl)) ?_
            with_reducible refine (spec_l8Name.calls k4 ((rd_T53 ((rd_T46 l0_2 x131_3).f1) x139_4).f0) true _ A61.out).mono ?_
            rintro e w' ⟨rfl, ⟨nd, rfl⟩⟩
            refine ⟨_, rfl, ?_⟩
            refine hK.out _ _ ⟨(blk_cell BK131.out 0).trans rfl, (blk_cell BK131.out 1).trans rfl, (blk_cell BK112.out 0).trans rfl, (blk_cell BK112.out 1).trans rfl, (blk_cell BK112.out 2).trans rfl, ((HB.out.cell (World.block_lt_of_cell? w _ hw140_0)).trans hw140_0)⟩ (fun hHeld => ?_)
            clear hK K
            refine norm_ (a' := ?_) ?_ ?_
            rotate_left
            ·
             show Act.put _ (some 146) _ = _
             simp only [Act.put, List.setIfInBounds_toArray, List.set_cons_zero, List.set_cons_succ, i64_w, i32_w]
             rfl
            refine pureS 3 147 HT_.out ?_
            refine pureS 4 148 HT_.out ?_
            refine pureS 5 149 HT_.out ?_
            refine takeS 6 150 HT_.out HW_.out hHeld (hr := by rintro w' ⟨s0, s1, s2, s3, s4, s5⟩; go_simp; with_reducible rfl) (h := ?_)
            refine one_ (i := 7) (N := some 151) #[true, true, true, true, true, true, true, true, false, false, false, false, false, false, false, false, false, false, false, false, false, false, false, false, false, false, false, false, false, false, false, false, false, false, false, false, false, false, false, false] rfl rfl (one_of HT_.out (by kernel_rfl)) (by decide) (fun K hK => ?_)
            refine goes_ Tryd.func32 (by kernel_rfl) rfl #[.int .i64 ((rd_T53 ((rd_T46 l0_2 x131_3).f1) x139_4).f1), .int .i64 0, .int .i64 1000] (by rfl) rfl rfl (by (try simp only [List.map_toArray, List.map_cons, List.map_nil]); first | done | rfl | (simp only [List.length_drop, List.length_take]; rfl)) ?_
            with_reducible refine (spec_l1In.calls ((rd_T53 ((rd_T46 l0_2 x131_3).f1) x139_4).f1) 0 1000 true _ A63.out).mono ?_
            rintro e w' ⟨rfl, ⟨nd, rfl⟩⟩
            refine ⟨_, rfl, ?_⟩
            refine hK.out _ _ ⟨(blk_cell BK131.out 0).trans rfl, (blk_cell BK131.out 1).trans rfl, (blk_cell BK112.out 0).trans rfl, (blk_cell BK112.out 1).trans rfl, (blk_cell BK112.out 2).trans rfl, ((HB.out.cell (World.block_lt_of_cell? w _ hw140_0)).trans hw140_0)⟩ (fun hHeld => ?_)
            clear hK K
            refine norm_ (a' := ?_) ?_ ?_
            rotate_left
            ·
             show Act.put _ (some 151) _ = _
             simp only [Act.put, List.setIfInBounds_toArray, List.set_cons_zero, List.set_cons_succ, i64_w, i32_w]
             rfl
            refine pureS 8 152 HT_.out ?_
            refine pureS 9 153 HT_.out ?_
            refine pureS 10 154 HT_.out ?_
            refine pureS 11 155 HT_.out ?_
            refine pureS 12 156 HT_.out ?_
            refine pureS 13 157 HT_.out ?_
            refine pureU 14 158 HT_.out ?_
            refine pureU 15 159 HT_.out ?_
            refine pureU 16 160 HT_.out ?_
            refine pureU 17 161 HT_.out ?_
            refine pureU 18 162 HT_.out ?_
            refine pureU 19 163 HT_.out ?_
            refine pureU 20 164 HT_.out ?_
            refine pureU 21 165 HT_.out ?_
            refine pureU 22 166 HT_.out ?_
            refine pureU 23 167 HT_.out ?_
            refine pureS 24 168 HT_.out ?_
            refine pureS 25 169 HT_.out ?_
            refine pureS 26 170 HT_.out ?_
            refine pureS 27 171 HT_.out ?_
            refine pureS 29 173 HT_.out ?_
            refine pureS 32 176 HT_.out ?_
            refine pureS 37 181 HT_.out ?_
            refine takeS 28 172 HT_.out HW_.out hHeld (hr := by rintro w' ⟨s0, s1, s2, s3, s4, s5⟩; go_simp; with_reducible rfl) (h := ?_)
            refine takeS 30 174 HT_.out HW_.out hHeld (hr := by rintro w' ⟨s0, s1, s2, s3, s4, s5⟩; go_simp; with_reducible rfl) (h := ?_)
            refine takeS 33 177 HT_.out HW_.out hHeld (hr := by rintro w' ⟨s0, s1, s2, s3, s4, s5⟩; go_simp; with_reducible rfl) (h := ?_)
            refine one_ (i := 31) (N := some 175) #[true, true, true, true, true, true, true, true, true, true, true, true, true, true, true, true, true, true, true, true, true, true, true, true, true, true, true, true, true, true, true, true, true, true, false, false, false, true, false, false] rfl rfl (one_of HT_.out (by kernel_rfl)) (by decide) (fun K hK => ?_)
            refine goes_ Tryd.func34 (by kernel_rfl) rfl #[.string ((rd_T53 ((rd_T46 l0_2 x131_3).f1) x139_4).f0)] (by rfl) rfl rfl (by (try simp only [List.map_toArray, List.map_cons, List.map_nil]); first | done | rfl | (simp only [List.length_drop, List.length_take]; rfl)) ?_
            with_reducible refine (spec_NameHash.calls k4 ((rd_T53 ((rd_T46 l0_2 x131_3).f1) x139_4).f0) t138 _ A93.out).mono ?_
            rintro e w' ⟨rfl, ⟨nd, rfl⟩⟩
            refine ⟨_, rfl, ?_⟩
            refine hK.out _ _ ⟨(blk_cell BK131.out 0).trans rfl, (blk_cell BK131.out 1).trans rfl, (blk_cell BK112.out 0).trans rfl, (blk_cell BK112.out 1).trans rfl, (blk_cell BK112.out 2).trans rfl, ((HB.out.cell (World.block_lt_of_cell? w _ hw140_0)).trans hw140_0)⟩ (fun hHeld => ?_)
            clear hK K
            refine norm_ (a' := ?_) ?_ ?_
            rotate_left
            ·
             show Act.put _ (some 175) _ = _
             simp only [Act.put, List.setIfInBounds_toArray, List.set_cons_zero, List.set_cons_succ, i64_w, i32_w]
             rfl
            refine one_ (i := 34) (N := some 178) #[true, true, true, true, true, true, true, true, true, true, true, true, true, true, true, true, true, true, true, true, true, true, true, true, true, true, true, true, true, true, true, true, true, true, true, false, false, true, false, false] rfl rfl (one_of HT_.out (by kernel_rfl)) (by decide) (fun K hK => ?_)
            refine goes_ Tryd.func33 (by kernel_rfl) rfl #[.int .i64 t138, .int .i64 a0_0] (by rfl) rfl rfl (by (try simp only [List.map_toArray, List.map_cons, List.map_nil]); first | done | rfl | (simp only [List.length_drop, List.length_take]; rfl)) ?_
            with_reducible refine (spec_l8Low.calls t138 a0_0 t139 _ A94.out).mono ?_
            rintro e w' ⟨rfl, ⟨nd, rfl⟩⟩
            refine ⟨_, rfl, ?_⟩
            refine hK.out _ _ ⟨(blk_cell BK131.out 0).trans rfl, (blk_cell BK131.out 1).trans rfl, (blk_cell BK112.out 0).trans rfl, (blk_cell BK112.out 1).trans rfl, (blk_cell BK112.out 2).trans rfl, ((HB.out.cell (World.block_lt_of_cell? w _ hw140_0)).trans hw140_0)⟩ (fun hHeld => ?_)
            clear hK K
            refine norm_ (a' := ?_) ?_ ?_
            rotate_left
            ·
             show Act.put _ (some 178) _ = _
             simp only [Act.put, List.setIfInBounds_toArray, List.set_cons_zero, List.set_cons_succ, i64_w, i32_w]
             rfl
            refine pureS 35 179 HT_.out ?_
            refine takeS 36 180 HT_.out HW_.out hHeld (hr := by rintro w' ⟨s0, s1, s2, s3, s4, s5⟩; go_simp; with_reducible rfl) (h := ?_)
            refine pureS 38 182 HT_.out ?_
            refine pureS 39 183 HT_.out ?_
            refine done_ (done_of HT_.out (by kernel_rfl)) ?_
            try go_wp2
            go_ret
            exact ⟨er, bs3 HB GE112 GE129 GE131⟩
          rw [if_pos c97] at H
          have c97b0 : ((rd l0_1 t139) == x131_3) = true := beq_iff_eq.mpr c97
          have c97b1 : ((rd l0_1 t139) != x131_3) = false := bne_eq_false_iff_eq.mpr c97
          clear c97
          as_aux_lemma =>
           have H' := Ah H
           clear H
           have p130 : 0 ≤ (x139_4 : Int) := od
           have q130 : x139_4 < (((rd_T46 l0_2 x131_3).f1).length : Int) := od
           obtain ⟨ad130, e130, hx130_0, hx130_1⟩ := at_T53 HR128_1.out x139_4 p130 q130
           cases e130
           replace hx130_0 := (HB.out.cell (World.block_lt_of_cell? w _ hx130_0)).trans hx130_0
           replace hx130_1 := (HB.out.cell (World.block_lt_of_cell? w _ hx130_1)).trans hx130_1
           replace p130 := eq_true p130
           replace q130 := eq_true q130
           try go_wp2_with (first | ((with_reducible refine gate_dst (N := 11) rfl ?_); (try (refine gate_guard (by rfl) ?_; dsimp only)); refine boxL 11 53 #[.string (⟨#[]⟩ : ByteArray), .int .i64 0] ?_; intro gb131 hg w98 BK131 hb; have GW131 := gw hg (bs2 HB GE112 GE129); have GE131 := gw hg (bs2 HB GE112 GE129); replace HB := Ah (below_step (bs2 HB GE112 GE129) hb); have NB112_131 := nn BK112 hg; have NB131_112 := nm BK112 hg; replace BK112 := nb BK112 hb; have NB129_131 := nn BK129 hg; have NB131_129 := nm BK129 hg; replace BK129 := nb BK129 hb; clear hb hg; have hnb99 := NB131_112.out; have hnc99 := NB112_131.out; have hnb100 := NB131_129.out; have hnc100 := NB129_131.out; obtain ⟨hcz101_0, hcz101_1⟩ := cz2 BK131; obtain ⟨hfz101_0, hfz101_1⟩ := fz2 BK131))
           have n0_ : Aside0 (((w98.setCell ⟨gb131, 0, none⟩ (.string ((rd_T53 ((rd_T46 l0_2 x131_3).f1) x139_4).f0))).setCell ⟨gb131, 1, none⟩ (.int .i64 ((rd_T53 ((rd_T46 l0_2 x131_3).f1) x139_4).f1))).heap[gb112]? = some (.cells #[.int .i64 a0_0, .slice A0_1 l0_1.length c0_1, .slice (some ad128) l0_2.length c0_2] 29 (0, 0))) := ⟨bf BK112 NB112_131⟩
           have n1_ : Aside0 (((w98.setCell ⟨gb131, 0, none⟩ (.string ((rd_T53 ((rd_T46 l0_2 x131_3).f1) x139_4).f0))).setCell ⟨gb131, 1, none⟩ (.int .i64 ((rd_T53 ((rd_T46 l0_2 x131_3).f1) x139_4).f1))).heap[gb129]? = some (.cells #[.int .i64 ((rd_T46 l0_2 x131_3).f0), .slice (some ad130) ((rd_T46 l0_2 x131_3).f1).length c128_1] 46 (0, 0))) := ⟨bf BK129 NB129_131⟩
           have n2_ : Aside0 (((w98.setCell ⟨gb131, 0, none⟩ (.string ((rd_T53 ((rd_T46 l0_2 x131_3).f1) x139_4).f0))).setCell ⟨gb131, 1, none⟩ (.int .i64 ((rd_T53 ((rd_T46 l0_2 x131_3).f1) x139_4).f1))).heap[gb131]? = some (.cells #[.string ((rd_T53 ((rd_T46 l0_2 x131_3).f1) x139_4).f0), .int .i64 ((rd_T53 ((rd_T46 l0_2 x131_3).f1) x139_4).f1)] 53 (0, 0))) := ⟨by (with_reducible repeat (first | refine blk_drewN ?_ _ | refine blk_drew ?_ | refine blk_alloc ?_ _)); refine blk_put (cs := #[.string ((rd_T53 ((rd_T46 l0_2 x131_3).f1) x139_4).f0), .int .i64 0]) ?_ 1 _ rfl; (with_reducible repeat (first | refine blk_drewN ?_ _ | refine blk_drew ?_ | refine blk_alloc ?_ _)); refine blk_put (cs := #[.string (⟨#[]⟩ : ByteArray), .int .i64 0]) ?_ 0 _ rfl; (with_reducible repeat (first | refine blk_drewN ?_ _ | refine blk_drew ?_ | refine blk_alloc ?_ _)); exact BK131.out⟩
           have n3_ : Aside0 (Below w.heap.size w ((w98.setCell ⟨gb131, 0, none⟩ (.string ((rd_T53 ((rd_T46 l0_2 x131_3).f1) x139_4).f0))).setCell ⟨gb131, 1, none⟩ (.int .i64 ((rd_T53 ((rd_T46 l0_2 x131_3).f1) x139_4).f1)))) := ⟨bs3 HB GE112 GE129 GE131⟩
           (try clear BK112)
           (try clear BK129)
           (try clear BK131)
           (try clear HB)
           generalize ((w98.setCell ⟨gb131, 0, none⟩ (.string ((rd_T53 ((rd_T46 l0_2 x131_3).f1) x139_4).f0))).setCell ⟨gb131, 1, none⟩ (.int .i64 ((rd_T53 ((rd_T46 l0_2 x131_3).f1) x139_4).f1))) = w102 at n0_ n1_ n2_ n3_ ⊢
           have BK112 := n0_
           have BK129 := n1_
           have BK131 := n2_
           have HB := n3_
           clear n0_ n1_ n2_ n3_
           have n0_ := Ah (blk_drew BK112.out)
           have n1_ := Ah (blk_drew BK129.out)
           have n2_ := Ah (blk_drew BK131.out)
           have n3_ := Ah (below_drew1 HB.out)
           clear BK112 BK129 BK131 HB
           have BK112 := n0_
           have BK129 := n1_
           have BK131 := n2_
           have HB := n3_
           clear n0_ n1_ n2_ n3_
           have p140 : 0 ≤ (t139 : Int) := od
           have q140 : t139 < (l0_1.length : Int) := od
           obtain ⟨ad140, e140, hx140_0⟩ := Kd.at_int HR0_1.out t139 p140 q140
           have hw140_0 := hx140_0
           cases e140
           replace hx140_0 := (HB.out.cell (World.block_lt_of_cell? w _ hx140_0)).trans hx140_0
           replace p140 := eq_true p140
           replace q140 := eq_true q140
           refine start_ (n := 40) (S := fun w' => w'.cell? ⟨gb131, 0, none⟩ = some (.string ((rd_T53 ((rd_T46 l0_2 x131_3).f1) x139_4).f0)) ∧ w'.cell? ⟨gb131, 1, none⟩ = some (.int .i64 ((rd_T53 ((rd_T46 l0_2 x131_3).f1) x139_4).f1)) ∧ w'.cell? ⟨gb112, 0, none⟩ = some (.int .i64 a0_0) ∧ w'.cell? ⟨gb112, 1, none⟩ = some (.slice (some ad140) l0_1.length c0_1) ∧ w'.cell? ⟨gb112, 2, none⟩ = some (.slice (some ad128) l0_2.length c0_2) ∧ w'.cell? (ad140.add (t139).toNat) = some (.int .i64 (rd l0_1 t139))) (ds := []) #[false, false, false, false, false, false, false, false, false, false, false, false, false, false, false, false, false, false, false, false, false, false, false, false, false, false, false, false, false, false, false, false, false, false, false, false, false, false, false, false] (by kernel_rfl) rfl rfl ⟨(blk_cell BK131.out 0).trans rfl, (blk_cell BK131.out 1).trans rfl, (blk_cell BK112.out 0).trans rfl, (blk_cell BK112.out 1).trans rfl, (blk_cell BK112.out 2).trans rfl, ((HB.out.cell (World.block_lt_of_cell? w _ hw140_0)).trans hw140_0)⟩ (fun hHeld => ?_); refine with_tabW spec_GoodDir.tab24 spec_GoodDir.bits24 (fun HT_ HW_ => ?_)
           generalize w102.drew = w103 at BK112 BK129 BK131 HB hx140_0 hHeld ⊢
           refine pureS 0 144 HT_.out ?_
           refine takeS 1 145 HT_.out HW_.out hHeld (hr := by rintro w' ⟨s0, s1, s2, s3, s4, s5⟩; go_simp; with_reducible rfl) (h := ?_)
           refine one_ (i := 2) (N := some 146) #[true, true, true, false, false, false, false, false, false, false, false, false, false, false, false, false, false, false, false, false, false, false, false, false, false, false, false, false, false, false, false, false, false, false, false, false, false, false, false, false] rfl rfl (one_of HT_.out (by kernel_rfl)) (by decide) (fun K hK => ?_)
           refine goes_ Tryd.func14 (by kernel_rfl) rfl #[.string ((rd_T53 ((rd_T46 l0_2 x131_3).f1) x139_4).f0)] (by rfl) rfl rfl (by (try simp only [List.map_toArray, List.map_cons, List.map_nil]); first | done | rfl | (simp only [List.length_drop, List.length_take]; rfl)) ?_
           with_reducible refine (spec_l8Name.calls k4 ((rd_T53 ((rd_T46 l0_2 x131_3).f1) x139_4).f0) true _ A61.out).mono ?_
           rintro e w' ⟨rfl, ⟨nd, rfl⟩⟩
           refine ⟨_, rfl, ?_⟩
           refine hK.out _ _ ⟨(blk_cell BK131.out 0).trans rfl, (blk_cell BK131.out 1).trans rfl, (blk_cell BK112.out 0).trans rfl, (blk_cell BK112.out 1).trans rfl, (blk_cell BK112.out 2).trans rfl, ((HB.out.cell (World.block_lt_of_cell? w _ hw140_0)).trans hw140_0)⟩ (fun hHeld => ?_)
           clear hK K
           refine norm_ (a' := ?_) ?_ ?_
           rotate_left
           ·
            show Act.put _ (some 146) _ = _
            simp only [Act.put, List.setIfInBounds_toArray, List.set_cons_zero, List.set_cons_succ, i64_w, i32_w]
            rfl
           refine pureS 3 147 HT_.out ?_
           refine pureS 4 148 HT_.out ?_
           refine pureS 5 149 HT_.out ?_
           refine takeS 6 150 HT_.out HW_.out hHeld (hr := by rintro w' ⟨s0, s1, s2, s3, s4, s5⟩; go_simp; with_reducible rfl) (h := ?_)
           refine one_ (i := 7) (N := some 151) #[true, true, true, true, true, true, true, true, false, false, false, false, false, false, false, false, false, false, false, false, false, false, false, false, false, false, false, false, false, false, false, false, false, false, false, false, false, false, false, false] rfl rfl (one_of HT_.out (by kernel_rfl)) (by decide) (fun K hK => ?_)
           refine goes_ Tryd.func32 (by kernel_rfl) rfl #[.int .i64 ((rd_T53 ((rd_T46 l0_2 x131_3).f1) x139_4).f1), .int .i64 0, .int .i64 1000] (by rfl) rfl rfl (by (try simp only [List.map_toArray, List.map_cons, List.map_nil]); first | done | rfl | (simp only [List.length_drop, List.length_take]; rfl)) ?_
           with_reducible refine (spec_l1In.calls ((rd_T53 ((rd_T46 l0_2 x131_3).f1) x139_4).f1) 0 1000 true _ A63.out).mono ?_
           rintro e w' ⟨rfl, ⟨nd, rfl⟩⟩
           refine ⟨_, rfl, ?_⟩
           refine hK.out _ _ ⟨(blk_cell BK131.out 0).trans rfl, (blk_cell BK131.out 1).trans rfl, (blk_cell BK112.out 0).trans rfl, (blk_cell BK112.out 1).trans rfl, (blk_cell BK112.out 2).trans rfl, ((HB.out.cell (World.block_lt_of_cell? w _ hw140_0)).trans hw140_0)⟩ (fun hHeld => ?_)
           clear hK K
           refine norm_ (a' := ?_) ?_ ?_
           rotate_left
           ·
            show Act.put _ (some 151) _ = _
            simp only [Act.put, List.setIfInBounds_toArray, List.set_cons_zero, List.set_cons_succ, i64_w, i32_w]
            rfl
           refine pureS 8 152 HT_.out ?_
           refine pureS 9 153 HT_.out ?_
           refine pureS 10 154 HT_.out ?_
           refine pureS 11 155 HT_.out ?_
           refine pureS 12 156 HT_.out ?_
           refine pureS 13 157 HT_.out ?_
           refine pureU 14 158 HT_.out ?_
           refine pureU 15 159 HT_.out ?_
           refine pureU 16 160 HT_.out ?_
           refine pureU 17 161 HT_.out ?_
           refine pureU 18 162 HT_.out ?_
           refine pureU 19 163 HT_.out ?_
           refine pureU 20 164 HT_.out ?_
           refine pureU 21 165 HT_.out ?_
           refine pureU 22 166 HT_.out ?_
           refine pureU 23 167 HT_.out ?_
           refine pureS 24 168 HT_.out ?_
           refine pureS 25 169 HT_.out ?_
           refine pureS 26 170 HT_.out ?_
           refine pureS 27 171 HT_.out ?_
           refine pureS 29 173 HT_.out ?_
           refine pureS 32 176 HT_.out ?_
           refine pureS 37 181 HT_.out ?_
           refine takeS 28 172 HT_.out HW_.out hHeld (hr := by rintro w' ⟨s0, s1, s2, s3, s4, s5⟩; go_simp; with_reducible rfl) (h := ?_)
           refine takeS 30 174 HT_.out HW_.out hHeld (hr := by rintro w' ⟨s0, s1, s2, s3, s4, s5⟩; go_simp; with_reducible rfl) (h := ?_)
           refine takeS 33 177 HT_.out HW_.out hHeld (hr := by rintro w' ⟨s0, s1, s2, s3, s4, s5⟩; go_simp; with_reducible rfl) (h := ?_)
           refine one_ (i := 31) (N := some 175) #[true, true, true, true, true, true, true, true, true, true, true, true, true, true, true, true, true, true, true, true, true, true, true, true, true, true, true, true, true, true, true, true, true, true, false, false, false, true, false, false] rfl rfl (one_of HT_.out (by kernel_rfl)) (by decide) (fun K hK => ?_)
           refine goes_ Tryd.func34 (by kernel_rfl) rfl #[.string ((rd_T53 ((rd_T46 l0_2 x131_3).f1) x139_4).f0)] (by rfl) rfl rfl (by (try simp only [List.map_toArray, List.map_cons, List.map_nil]); first | done | rfl | (simp only [List.length_drop, List.length_take]; rfl)) ?_
           with_reducible refine (spec_NameHash.calls k4 ((rd_T53 ((rd_T46 l0_2 x131_3).f1) x139_4).f0) t138 _ A93.out).mono ?_
           rintro e w' ⟨rfl, ⟨nd, rfl⟩⟩
           refine ⟨_, rfl, ?_⟩
           refine hK.out _ _ ⟨(blk_cell BK131.out 0).trans rfl, (blk_cell BK131.out 1).trans rfl, (blk_cell BK112.out 0).trans rfl, (blk_cell BK112.out 1).trans rfl, (blk_cell BK112.out 2).trans rfl, ((HB.out.cell (World.block_lt_of_cell? w _ hw140_0)).trans hw140_0)⟩ (fun hHeld => ?_)
           clear hK K
           refine norm_ (a' := ?_) ?_ ?_
           rotate_left
           ·
            show Act.put _ (some 175) _ = _
            simp only [Act.put, List.setIfInBounds_toArray, List.set_cons_zero, List.set_cons_succ, i64_w, i32_w]
            rfl
           refine one_ (i := 34) (N := some 178) #[true, true, true, true, true, true, true, true, true, true, true, true, true, true, true, true, true, true, true, true, true, true, true, true, true, true, true, true, true, true, true, true, true, true, true, false, false, true, false, false] rfl rfl (one_of HT_.out (by kernel_rfl)) (by decide) (fun K hK => ?_)
           refine goes_ Tryd.func33 (by kernel_rfl) rfl #[.int .i64 t138, .int .i64 a0_0] (by rfl) rfl rfl (by (try simp only [List.map_toArray, List.map_cons, List.map_nil]); first | done | rfl | (simp only [List.length_drop, List.length_take]; rfl)) ?_
           with_reducible refine (spec_l8Low.calls t138 a0_0 t139 _ A94.out).mono ?_
           rintro e w' ⟨rfl, ⟨nd, rfl⟩⟩
           refine ⟨_, rfl, ?_⟩
           refine hK.out _ _ ⟨(blk_cell BK131.out 0).trans rfl, (blk_cell BK131.out 1).trans rfl, (blk_cell BK112.out 0).trans rfl, (blk_cell BK112.out 1).trans rfl, (blk_cell BK112.out 2).trans rfl, ((HB.out.cell (World.block_lt_of_cell? w _ hw140_0)).trans hw140_0)⟩ (fun hHeld => ?_)
           clear hK K
           refine norm_ (a' := ?_) ?_ ?_
           rotate_left
           ·
            show Act.put _ (some 178) _ = _
            simp only [Act.put, List.setIfInBounds_toArray, List.set_cons_zero, List.set_cons_succ, i64_w, i32_w]
            rfl
           refine pureS 35 179 HT_.out ?_
           refine takeS 36 180 HT_.out HW_.out hHeld (hr := by rintro w' ⟨s0, s1, s2, s3, s4, s5⟩; go_simp; with_reducible rfl) (h := ?_)
           refine pureS 38 182 HT_.out ?_
           refine pureS 39 183 HT_.out ?_
           refine done_ (done_of HT_.out (by kernel_rfl)) ?_
           try go_wp2
           go_roundg k4
           case measure => have := HJ1.out; have := HK2.out; have := HK3.out; have := HK4.out; omega
           case rel => exact ⟨(wrap64 (x139_4 + 1)), e3, H', ⟨by have := HJ1.out; have := HK2.out; have := HK3.out; have := HK4.out; omega⟩, ⟨bk BK112⟩, ⟨bk BK129⟩, ⟨bs3 HB GE112 GE129 GE131⟩⟩
         rw [if_pos c65] at H
         have c65b0 : decide (0 < x139_4) = true := decide_eq_true c65
         clear c65
         obtain ⟨ji66, hji66⟩ : ∃ j_ : Int, (wrap64 (x139_4 - 1)) = j_ := ⟨_, rfl⟩
         replace H : (if 0 ≤ (ji66) then (if (ji66) < (((rd_T46 l0_2 x131_3).f1).length : Int) then (if ((Op.bytesLess (((rd_T53 ((rd_T46 l0_2 x131_3).f1) (ji66)).f0).toList) (((rd_T53 ((rd_T46 l0_2 x131_3).f1) x139_4).f0).toList)) = true) then ((spec_NameHash.f k4 ((rd_T53 ((rd_T46 l0_2 x131_3).f1) x139_4).f0)).bind fun t135 => ((spec_l8Low.f t135 a0_0).bind fun t136 => (if 0 ≤ t136 then (if t136 < (l0_1.length : Int) then (if (rd l0_1 t136) = x131_3 then (spec_GoodDir.l3 k4 x3_2 x131_3 l0_2 (l0_2.length : Int) x131_3 ((rd_T46 l0_2 x131_3).f1) (((rd_T46 l0_2 x131_3).f1).length : Int) (wrap64 (x139_4 + 1)) a0_0 l0_1 l0_2 ((rd_T46 l0_2 x131_3).f0) ((rd_T46 l0_2 x131_3).f1)) else (some false)) else (none)) else (none)))) else (some false)) else (none)) else (none)) = some r := by first | (rw [hji66] at H; exact H) | (simp only [hji66] at H ⊢; exact H)
         (try rw [hji66] at A61)
         (try rw [hji66] at A63)
         have hji66w : (IntKind.i64.wrap (x139_4 - 1)) = ji66 := (i64_w _).trans hji66
         by_cases c67 : 0 ≤ (ji66)
         rotate_left
         ·
          rw [if_neg c67] at H
          exact absurd H (by simp)
         rw [if_pos c67] at H
         have c67b0 : decide (0 ≤ (ji66)) = true := decide_eq_true c67
         clear c67
         by_cases c68 : (ji66) < (((rd_T46 l0_2 x131_3).f1).length : Int)
         rotate_left
         ·
          rw [if_neg c68] at H
          exact absurd H (by simp)
         rw [if_pos c68] at H
         have c68b0 : decide ((ji66) < (((rd_T46 l0_2 x131_3).f1).length : Int)) = true := decide_eq_true c68
         clear c68
         by_cases c69 : ((Op.bytesLess (((rd_T53 ((rd_T46 l0_2 x131_3).f1) (ji66)).f0).toList) (((rd_T53 ((rd_T46 l0_2 x131_3).f1) x139_4).f0).toList)) = true)
         rotate_left
         ·
          rw [if_neg c69] at H
          have c69b0 : (Op.bytesLess (((rd_T53 ((rd_T46 l0_2 x131_3).f1) (ji66)).f0).toList) (((rd_T53 ((rd_T46 l0_2 x131_3).f1) x139_4).f0).toList)) = false := by simpa using c69
          clear c69
          as_aux_lemma =>
           obtain rfl := Option.some.inj H
           have p130 : 0 ≤ (x139_4 : Int) := od
           have q130 : x139_4 < (((rd_T46 l0_2 x131_3).f1).length : Int) := od
           obtain ⟨ad130, e130, hx130_0, hx130_1⟩ := at_T53 HR128_1.out x139_4 p130 q130
           cases e130
           replace hx130_0 := (HB.out.cell (World.block_lt_of_cell? w _ hx130_0)).trans hx130_0
           replace hx130_1 := (HB.out.cell (World.block_lt_of_cell? w _ hx130_1)).trans hx130_1
           replace p130 := eq_true p130
           replace q130 := eq_true q130
           try go_wp2_with (first | ((with_reducible refine gate_dst (N := 11) rfl ?_); (try (refine gate_guard (by rfl) ?_; dsimp only)); refine boxL 11 53 #[.string (⟨#[]⟩ : ByteArray), .int .i64 0] ?_; intro gb131 hg w87 BK131 hb; have GW131 := gw hg (bs2 HB GE112 GE129); have GE131 := gw hg (bs2 HB GE112 GE129); replace HB := Ah (below_step (bs2 HB GE112 GE129) hb); have NB112_131 := nn BK112 hg; have NB131_112 := nm BK112 hg; replace BK112 := nb BK112 hb; have NB129_131 := nn BK129 hg; have NB131_129 := nm BK129 hg; replace BK129 := nb BK129 hb; clear hb hg; have hnb88 := NB131_112.out; have hnc88 := NB112_131.out; have hnb89 := NB131_129.out; have hnc89 := NB129_131.out; obtain ⟨hcz90_0, hcz90_1⟩ := cz2 BK131; obtain ⟨hfz90_0, hfz90_1⟩ := fz2 BK131))
           have n0_ : Aside0 (((w87.setCell ⟨gb131, 0, none⟩ (.string ((rd_T53 ((rd_T46 l0_2 x131_3).f1) x139_4).f0))).setCell ⟨gb131, 1, none⟩ (.int .i64 ((rd_T53 ((rd_T46 l0_2 x131_3).f1) x139_4).f1))).heap[gb112]? = some (.cells #[.int .i64 a0_0, .slice A0_1 l0_1.length c0_1, .slice (some ad128) l0_2.length c0_2] 29 (0, 0))) := ⟨bf BK112 NB112_131⟩
           have n1_ : Aside0 (((w87.setCell ⟨gb131, 0, none⟩ (.string ((rd_T53 ((rd_T46 l0_2 x131_3).f1) x139_4).f0))).setCell ⟨gb131, 1, none⟩ (.int .i64 ((rd_T53 ((rd_T46 l0_2 x131_3).f1) x139_4).f1))).heap[gb129]? = some (.cells #[.int .i64 ((rd_T46 l0_2 x131_3).f0), .slice (some ad130) ((rd_T46 l0_2 x131_3).f1).length c128_1] 46 (0, 0))) := ⟨bf BK129 NB129_131⟩
           have n2_ : Aside0 (((w87.setCell ⟨gb131, 0, none⟩ (.string ((rd_T53 ((rd_T46 l0_2 x131_3).f1) x139_4).f0))).setCell ⟨gb131, 1, none⟩ (.int .i64 ((rd_T53 ((rd_T46 l0_2 x131_3).f1) x139_4).f1))).heap[gb131]? = some (.cells #[.string ((rd_T53 ((rd_T46 l0_2 x131_3).f1) x139_4).f0), .int .i64 ((rd_T53 ((rd_T46 l0_2 x131_3).f1) x139_4).f1)] 53 (0, 0))) := ⟨by (with_reducible repeat (first | refine blk_drewN ?_ _ | refine blk_drew ?_ | refine blk_alloc ?_ _)); refine blk_put (cs := #[.string ((rd_T53 ((rd_T46 l0_2 x131_3).f1) x139_4).f0), .int .i64 0]) ?_ 1 _ rfl; (with_reducible repeat (first | refine blk_drewN ?_ _ | refine blk_drew ?_ | refine blk_alloc ?_ _)); refine blk_put (cs := #[.string (⟨#[]⟩ : ByteArray), .int .i64 0]) ?_ 0 _ rfl; (with_reducible repeat (first | refine blk_drewN ?_ _ | refine blk_drew ?_ | refine blk_alloc ?_ _)); exact BK131.out⟩
           have n3_ : Aside0 (Below w.heap.size w ((w87.setCell ⟨gb131, 0, none⟩ (.string ((rd_T53 ((rd_T46 l0_2 x131_3).f1) x139_4).f0))).setCell ⟨gb131, 1, none⟩ (.int .i64 ((rd_T53 ((rd_T46 l0_2 x131_3).f1) x139_4).f1)))) := ⟨bs3 HB GE112 GE129 GE131⟩
           (try clear BK112)
           (try clear BK129)
           (try clear BK131)
           (try clear HB)
           generalize ((w87.setCell ⟨gb131, 0, none⟩ (.string ((rd_T53 ((rd_T46 l0_2 x131_3).f1) x139_4).f0))).setCell ⟨gb131, 1, none⟩ (.int .i64 ((rd_T53 ((rd_T46 l0_2 x131_3).f1) x139_4).f1))) = w91 at n0_ n1_ n2_ n3_ ⊢
           have BK112 := n0_
           have BK129 := n1_
           have BK131 := n2_
           have HB := n3_
           clear n0_ n1_ n2_ n3_
           have n0_ := Ah (blk_drew BK112.out)
           have n1_ := Ah (blk_drew BK129.out)
           have n2_ := Ah (blk_drew BK131.out)
           have n3_ := Ah (below_drew1 HB.out)
           clear BK112 BK129 BK131 HB
           have BK112 := n0_
           have BK129 := n1_
           have BK131 := n2_
           have HB := n3_
           clear n0_ n1_ n2_ n3_
           have p134 : 0 ≤ ((ji66) : Int) := od
           have q134 : (ji66) < (((rd_T46 l0_2 x131_3).f1).length : Int) := od
           obtain ⟨ad134, e134, hx134_0, hx134_1⟩ := at_T53 HR128_1.out (ji66) p134 q134
           have hw134_1 := hx134_1
           have hw134_0 := hx134_0
           obtain rfl : ad130 = ad134 := (by injection e134)
           replace hx134_0 := (HB.out.cell (World.block_lt_of_cell? w _ hx134_0)).trans hx134_0
           replace hx134_1 := (HB.out.cell (World.block_lt_of_cell? w _ hx134_1)).trans hx134_1
           replace p134 := eq_true p134
           replace q134 := eq_true q134
           refine start_ (n := 40) (S := fun w' => w'.cell? ⟨gb131, 0, none⟩ = some (.string ((rd_T53 ((rd_T46 l0_2 x131_3).f1) x139_4).f0)) ∧ w'.cell? ⟨gb131, 1, none⟩ = some (.int .i64 ((rd_T53 ((rd_T46 l0_2 x131_3).f1) x139_4).f1)) ∧ w'.cell? ⟨gb129, 0, none⟩ = some (.int .i64 ((rd_T46 l0_2 x131_3).f0)) ∧ w'.cell? ⟨gb129, 1, none⟩ = some (.slice (some ad130) ((rd_T46 l0_2 x131_3).f1).length c128_1) ∧ w'.cell? (ad130.add (((ji66)).toNat * 2)) = some (.string ((rd_T53 ((rd_T46 l0_2 x131_3).f1) (ji66)).f0)) ∧ w'.cell? ⟨(ad130.add (((ji66)).toNat * 2)).block, (ad130.add (((ji66)).toNat * 2)).off + 1, none⟩ = some (.int .i64 ((rd_T53 ((rd_T46 l0_2 x131_3).f1) (ji66)).f1))) (ds := []) #[false, false, false, false, false, false, false, false, false, false, false, false, false, false, false, false, false, false, false, false, false, false, false, false, false, false, false, false, false, false, false, false, false, false, false, false, false, false, false, false] (by kernel_rfl) rfl rfl ⟨(blk_cell BK131.out 0).trans rfl, (blk_cell BK131.out 1).trans rfl, (blk_cell BK129.out 0).trans rfl, (blk_cell BK129.out 1).trans rfl, ((HB.out.cell (World.block_lt_of_cell? w _ hw134_0)).trans hw134_0), ((HB.out.cell (World.block_lt_of_cell? w _ hw134_1)).trans hw134_1)⟩ (fun hHeld => ?_); refine with_tabW spec_GoodDir.tab24 spec_GoodDir.bits24 (fun HT_ HW_ => ?_)
           generalize w91.drew = w92 at BK112 BK129 BK131 HB hx134_0 hx134_1 hHeld ⊢
           refine pureS 0 144 HT_.out ?_
           refine takeS 1 145 HT_.out HW_.out hHeld (hr := by rintro w' ⟨s0, s1, s2, s3, s4, s5⟩; go_simp; with_reducible rfl) (h := ?_)
           refine one_ (i := 2) (N := some 146) #[true, true, true, false, false, false, false, false, false, false, false, false, false, false, false, false, false, false, false, false, false, false, false, false, false, false, false, false, false, false, false, false, false, false, false, false, false, false, false, false] rfl rfl (one_of HT_.out (by kernel_rfl)) (by decide) (fun K hK => ?_)
           refine goes_ Tryd.func14 (by kernel_rfl) rfl #[.string ((rd_T53 ((rd_T46 l0_2 x131_3).f1) x139_4).f0)] (by rfl) rfl rfl (by (try simp only [List.map_toArray, List.map_cons, List.map_nil]); first | done | rfl | (simp only [List.length_drop, List.length_take]; rfl)) ?_
           with_reducible refine (spec_l8Name.calls k4 ((rd_T53 ((rd_T46 l0_2 x131_3).f1) x139_4).f0) true _ A61.out).mono ?_
           rintro e w' ⟨rfl, ⟨nd, rfl⟩⟩
           refine ⟨_, rfl, ?_⟩
           refine hK.out _ _ ⟨(blk_cell BK131.out 0).trans rfl, (blk_cell BK131.out 1).trans rfl, (blk_cell BK129.out 0).trans rfl, (blk_cell BK129.out 1).trans rfl, ((HB.out.cell (World.block_lt_of_cell? w _ hw134_0)).trans hw134_0), ((HB.out.cell (World.block_lt_of_cell? w _ hw134_1)).trans hw134_1)⟩ (fun hHeld => ?_)
           clear hK K
           refine norm_ (a' := ?_) ?_ ?_
           rotate_left
           ·
            show Act.put _ (some 146) _ = _
            simp only [Act.put, List.setIfInBounds_toArray, List.set_cons_zero, List.set_cons_succ, i64_w, i32_w]
            rfl
           refine pureS 3 147 HT_.out ?_
           refine pureS 4 148 HT_.out ?_
           refine pureS 5 149 HT_.out ?_
           refine takeS 6 150 HT_.out HW_.out hHeld (hr := by rintro w' ⟨s0, s1, s2, s3, s4, s5⟩; go_simp; with_reducible rfl) (h := ?_)
           refine one_ (i := 7) (N := some 151) #[true, true, true, true, true, true, true, true, false, false, false, false, false, false, false, false, false, false, false, false, false, false, false, false, false, false, false, false, false, false, false, false, false, false, false, false, false, false, false, false] rfl rfl (one_of HT_.out (by kernel_rfl)) (by decide) (fun K hK => ?_)
           refine goes_ Tryd.func32 (by kernel_rfl) rfl #[.int .i64 ((rd_T53 ((rd_T46 l0_2 x131_3).f1) x139_4).f1), .int .i64 0, .int .i64 1000] (by rfl) rfl rfl (by (try simp only [List.map_toArray, List.map_cons, List.map_nil]); first | done | rfl | (simp only [List.length_drop, List.length_take]; rfl)) ?_
           with_reducible refine (spec_l1In.calls ((rd_T53 ((rd_T46 l0_2 x131_3).f1) x139_4).f1) 0 1000 true _ A63.out).mono ?_
           rintro e w' ⟨rfl, ⟨nd, rfl⟩⟩
           refine ⟨_, rfl, ?_⟩
           refine hK.out _ _ ⟨(blk_cell BK131.out 0).trans rfl, (blk_cell BK131.out 1).trans rfl, (blk_cell BK129.out 0).trans rfl, (blk_cell BK129.out 1).trans rfl, ((HB.out.cell (World.block_lt_of_cell? w _ hw134_0)).trans hw134_0), ((HB.out.cell (World.block_lt_of_cell? w _ hw134_1)).trans hw134_1)⟩ (fun hHeld => ?_)
           clear hK K
           refine norm_ (a' := ?_) ?_ ?_
           rotate_left
           ·
            show Act.put _ (some 151) _ = _
            simp only [Act.put, List.setIfInBounds_toArray, List.set_cons_zero, List.set_cons_succ, i64_w, i32_w]
            rfl
           refine pureS 8 152 HT_.out ?_
           refine pureS 9 153 HT_.out ?_
           refine pureS 10 154 HT_.out ?_
           refine pureS 11 155 HT_.out ?_
           refine pureS 12 156 HT_.out ?_
           refine pureS 13 157 HT_.out ?_
           refine pureS 14 158 HT_.out ?_
           refine pureS 16 160 HT_.out ?_
           refine pureS 17 161 HT_.out ?_
           refine pureS 21 165 HT_.out ?_
           refine takeS 15 159 HT_.out HW_.out hHeld (hr := by rintro w' ⟨s0, s1, s2, s3, s4, s5⟩; go_simp; with_reducible rfl) (h := ?_)
           refine pureS 18 162 HT_.out ?_
           refine pureS 19 163 HT_.out ?_
           refine takeS 20 164 HT_.out HW_.out hHeld (hr := by rintro w' ⟨s0, s1, s2, s3, s4, s5⟩; go_simp; with_reducible rfl) (h := ?_)
           refine takeS 22 166 HT_.out HW_.out hHeld (hr := by rintro w' ⟨s0, s1, s2, s3, s4, s5⟩; go_simp; with_reducible rfl) (h := ?_)
           refine pureS 23 167 HT_.out ?_
           refine pureS 24 168 HT_.out ?_
           refine pureS 25 169 HT_.out ?_
           refine pureS 26 170 HT_.out ?_
           refine pureU 27 171 HT_.out ?_
           refine pureU 28 172 HT_.out ?_
           refine pureU 29 173 HT_.out ?_
           refine pureU 30 174 HT_.out ?_
           refine pureU 31 175 HT_.out ?_
           refine pureU 32 176 HT_.out ?_
           refine pureU 33 177 HT_.out ?_
           refine pureU 34 178 HT_.out ?_
           refine pureU 35 179 HT_.out ?_
           refine pureU 36 180 HT_.out ?_
           refine pureU 37 181 HT_.out ?_
           refine pureU 38 182 HT_.out ?_
           refine pureS 39 183 HT_.out ?_
           refine done_ (done_of HT_.out (by kernel_rfl)) ?_
           try go_wp2
           go_ret
           exact ⟨by first | rfl | (simp [errW_none, errW_some] <;> rfl) | (simp only [← hji66]; first | rfl | (simp [errW_none, errW_some] <;> rfl)) | (simp [*, errW_none, errW_some] <;> rfl), bs3 HB GE112 GE129 GE131⟩
         rw [if_pos c69] at H
         have c69b0 : (Op.bytesLess (((rd_T53 ((rd_T46 l0_2 x131_3).f1) (ji66)).f0).toList) (((rd_T53 ((rd_T46 l0_2 x131_3).f1) x139_4).f0).toList)) = true := c69
         clear c69
         replace H := Option.bind_eq_some_iff.mp H
         obtain ⟨t135, A700, H⟩ := H
         try dsimp only at H
         have A70 := Ah A700
         clear A700
         replace H := Option.bind_eq_some_iff.mp H
         obtain ⟨t136, A710, H⟩ := H
         try dsimp only at H
         have A71 := Ah A710
         clear A710
         by_cases c72 : 0 ≤ t136
         rotate_left
         ·
          rw [if_neg c72] at H
          exact absurd H (by simp)
         rw [if_pos c72] at H
         have c72b0 : decide (0 ≤ t136) = true := decide_eq_true c72
         clear c72
         by_cases c73 : t136 < (l0_1.length : Int)
         rotate_left
         ·
          rw [if_neg c73] at H
          exact absurd H (by simp)
         rw [if_pos c73] at H
         have c73b0 : decide (t136 < (l0_1.length : Int)) = true := decide_eq_true c73
         clear c73
         by_cases c74 : (rd l0_1 t136) = x131_3
         rotate_left
         ·
          rw [if_neg c74] at H
          have c74b0 : ((rd l0_1 t136) == x131_3) = false := beq_eq_false_iff_ne.mpr c74
          have c74b1 : ((rd l0_1 t136) != x131_3) = true := bne_iff_ne.mpr c74
          as_aux_lemma =>
           obtain rfl := Option.some.inj H
           have p130 : 0 ≤ (x139_4 : Int) := od
           have q130 : x139_4 < (((rd_T46 l0_2 x131_3).f1).length : Int) := od
           obtain ⟨ad130, e130, hx130_0, hx130_1⟩ := at_T53 HR128_1.out x139_4 p130 q130
           cases e130
           replace hx130_0 := (HB.out.cell (World.block_lt_of_cell? w _ hx130_0)).trans hx130_0
           replace hx130_1 := (HB.out.cell (World.block_lt_of_cell? w _ hx130_1)).trans hx130_1
           replace p130 := eq_true p130
           replace q130 := eq_true q130
           try go_wp2_with (first | ((with_reducible refine gate_dst (N := 11) rfl ?_); (try (refine gate_guard (by rfl) ?_; dsimp only)); refine boxL 11 53 #[.string (⟨#[]⟩ : ByteArray), .int .i64 0] ?_; intro gb131 hg w81 BK131 hb; have GW131 := gw hg (bs2 HB GE112 GE129); have GE131 := gw hg (bs2 HB GE112 GE129); replace HB := Ah (below_step (bs2 HB GE112 GE129) hb); have NB112_131 := nn BK112 hg; have NB131_112 := nm BK112 hg; replace BK112 := nb BK112 hb; have NB129_131 := nn BK129 hg; have NB131_129 := nm BK129 hg; replace BK129 := nb BK129 hb; clear hb hg; have hnb82 := NB131_112.out; have hnc82 := NB112_131.out; have hnb83 := NB131_129.out; have hnc83 := NB129_131.out; obtain ⟨hcz84_0, hcz84_1⟩ := cz2 BK131; obtain ⟨hfz84_0, hfz84_1⟩ := fz2 BK131))
           have n0_ : Aside0 (((w81.setCell ⟨gb131, 0, none⟩ (.string ((rd_T53 ((rd_T46 l0_2 x131_3).f1) x139_4).f0))).setCell ⟨gb131, 1, none⟩ (.int .i64 ((rd_T53 ((rd_T46 l0_2 x131_3).f1) x139_4).f1))).heap[gb112]? = some (.cells #[.int .i64 a0_0, .slice A0_1 l0_1.length c0_1, .slice (some ad128) l0_2.length c0_2] 29 (0, 0))) := ⟨bf BK112 NB112_131⟩
           have n1_ : Aside0 (((w81.setCell ⟨gb131, 0, none⟩ (.string ((rd_T53 ((rd_T46 l0_2 x131_3).f1) x139_4).f0))).setCell ⟨gb131, 1, none⟩ (.int .i64 ((rd_T53 ((rd_T46 l0_2 x131_3).f1) x139_4).f1))).heap[gb129]? = some (.cells #[.int .i64 ((rd_T46 l0_2 x131_3).f0), .slice (some ad130) ((rd_T46 l0_2 x131_3).f1).length c128_1] 46 (0, 0))) := ⟨bf BK129 NB129_131⟩
           have n2_ : Aside0 (((w81.setCell ⟨gb131, 0, none⟩ (.string ((rd_T53 ((rd_T46 l0_2 x131_3).f1) x139_4).f0))).setCell ⟨gb131, 1, none⟩ (.int .i64 ((rd_T53 ((rd_T46 l0_2 x131_3).f1) x139_4).f1))).heap[gb131]? = some (.cells #[.string ((rd_T53 ((rd_T46 l0_2 x131_3).f1) x139_4).f0), .int .i64 ((rd_T53 ((rd_T46 l0_2 x131_3).f1) x139_4).f1)] 53 (0, 0))) := ⟨by (with_reducible repeat (first | refine blk_drewN ?_ _ | refine blk_drew ?_ | refine blk_alloc ?_ _)); refine blk_put (cs := #[.string ((rd_T53 ((rd_T46 l0_2 x131_3).f1) x139_4).f0), .int .i64 0]) ?_ 1 _ rfl; (with_reducible repeat (first | refine blk_drewN ?_ _ | refine blk_drew ?_ | refine blk_alloc ?_ _)); refine blk_put (cs := #[.string (⟨#[]⟩ : ByteArray), .int .i64 0]) ?_ 0 _ rfl; (with_reducible repeat (first | refine blk_drewN ?_ _ | refine blk_drew ?_ | refine blk_alloc ?_ _)); exact BK131.out⟩
           have n3_ : Aside0 (Below w.heap.size w ((w81.setCell ⟨gb131, 0, none⟩ (.string ((rd_T53 ((rd_T46 l0_2 x131_3).f1) x139_4).f0))).setCell ⟨gb131, 1, none⟩ (.int .i64 ((rd_T53 ((rd_T46 l0_2 x131_3).f1) x139_4).f1)))) := ⟨bs3 HB GE112 GE129 GE131⟩
           (try clear BK112)
           (try clear BK129)
           (try clear BK131)
           (try clear HB)
           generalize ((w81.setCell ⟨gb131, 0, none⟩ (.string ((rd_T53 ((rd_T46 l0_2 x131_3).f1) x139_4).f0))).setCell ⟨gb131, 1, none⟩ (.int .i64 ((rd_T53 ((rd_T46 l0_2 x131_3).f1) x139_4).f1))) = w85 at n0_ n1_ n2_ n3_ ⊢
           have BK112 := n0_
           have BK129 := n1_
           have BK131 := n2_
           have HB := n3_
           clear n0_ n1_ n2_ n3_
           have n0_ := Ah (blk_drew BK112.out)
           have n1_ := Ah (blk_drew BK129.out)
           have n2_ := Ah (blk_drew BK131.out)
           have n3_ := Ah (below_drew1 HB.out)
           clear BK112 BK129 BK131 HB
           have BK112 := n0_
           have BK129 := n1_
           have BK131 := n2_
           have HB := n3_
           clear n0_ n1_ n2_ n3_
           have p134 : 0 ≤ ((ji66) : Int) := od
           have q134 : (ji66) < (((rd_T46 l0_2 x131_3).f1).length : Int) := od
           obtain ⟨ad134, e134, hx134_0, hx134_1⟩ := at_T53 HR128_1.out (ji66) p134 q134
           have hw134_1 := hx134_1
           have hw134_0 := hx134_0
           obtain rfl : ad130 = ad134 := (by injection e134)
           replace hx134_0 := (HB.out.cell (World.block_lt_of_cell? w _ hx134_0)).trans hx134_0
           replace hx134_1 := (HB.out.cell (World.block_lt_of_cell? w _ hx134_1)).trans hx134_1
           replace p134 := eq_true p134
           replace q134 := eq_true q134
           have p137 : 0 ≤ (t136 : Int) := od
           have q137 : t136 < (l0_1.length : Int) := od
           obtain ⟨ad137, e137, hx137_0⟩ := Kd.at_int HR0_1.out t136 p137 q137
           have hw137_0 := hx137_0
           cases e137
           replace hx137_0 := (HB.out.cell (World.block_lt_of_cell? w _ hx137_0)).trans hx137_0
           replace p137 := eq_true p137
           replace q137 := eq_true q137
           refine start_ (n := 40) (S := fun w' => w'.cell? ⟨gb131, 0, none⟩ = some (.string ((rd_T53 ((rd_T46 l0_2 x131_3).f1) x139_4).f0)) ∧ w'.cell? ⟨gb131, 1, none⟩ = some (.int .i64 ((rd_T53 ((rd_T46 l0_2 x131_3).f1) x139_4).f1)) ∧ w'.cell? ⟨gb129, 0, none⟩ = some (.int .i64 ((rd_T46 l0_2 x131_3).f0)) ∧ w'.cell? ⟨gb129, 1, none⟩ = some (.slice (some ad130) ((rd_T46 l0_2 x131_3).f1).length c128_1) ∧ w'.cell? ⟨gb112, 0, none⟩ = some (.int .i64 a0_0) ∧ w'.cell? ⟨gb112, 1, none⟩ = some (.slice (some ad137) l0_1.length c0_1) ∧ w'.cell? ⟨gb112, 2, none⟩ = some (.slice (some ad128) l0_2.length c0_2) ∧ w'.cell? (ad130.add (((ji66)).toNat * 2)) = some (.string ((rd_T53 ((rd_T46 l0_2 x131_3).f1) (ji66)).f0)) ∧ w'.cell? ⟨(ad130.add (((ji66)).toNat * 2)).block, (ad130.add (((ji66)).toNat * 2)).off + 1, none⟩ = some (.int .i64 ((rd_T53 ((rd_T46 l0_2 x131_3).f1) (ji66)).f1)) ∧ w'.cell? (ad137.add (t136).toNat) = some (.int .i64 (rd l0_1 t136))) (ds := []) #[false, false, false, false, false, false, false, false, false, false, false, false, false, false, false, false, false, false, false, false, false, false, false, false, false, false, false, false, false, false, false, false, false, false, false, false, false, false, false, false] (by kernel_rfl) rfl rfl ⟨(blk_cell BK131.out 0).trans rfl, (blk_cell BK131.out 1).trans rfl, (blk_cell BK129.out 0).trans rfl, (blk_cell BK129.out 1).trans rfl, (blk_cell BK112.out 0).trans rfl, (blk_cell BK112.out 1).trans rfl, (blk_cell BK112.out 2).trans rfl, ((HB.out.cell (World.block_lt_of_cell? w _ hw134_0)).trans hw134_0), ((HB.out.cell (World.block_lt_of_cell? w _ hw134_1)).trans hw134_1), ((HB.out.cell (World.block_lt_of_cell? w _ hw137_0)).trans hw137_0)⟩ (fun hHeld => ?_); refine with_tabW spec_GoodDir.tab24 spec_GoodDir.bits24 (fun HT_ HW_ => ?_)
           generalize w85.drew = w86 at BK112 BK129 BK131 HB hx134_0 hx134_1 hx137_0 hHeld ⊢
           refine pureS 0 144 HT_.out ?_
           refine takeS 1 145 HT_.out HW_.out hHeld (hr := by rintro w' ⟨s0, s1, s2, s3, s4, s5, s6, s7, s8, s9⟩; go_simp; with_reducible rfl) (h := ?_)
           refine one_ (i := 2) (N := some 146) #[true, true, true, false, false, false, false, false, false, false, false, false, false, false, false, false, false, false, false, false, false, false, false, false, false, false, false, false, false, false, false, false, false, false, false, false, false, false, false, false] rfl rfl (one_of HT_.out (by kernel_rfl)) (by decide) (fun K hK => ?_)
           refine goes_ Tryd.func14 (by kernel_rfl) rfl #[.string ((rd_T53 ((rd_T46 l0_2 x131_3).f1) x139_4).f0)] (by rfl) rfl rfl (by (try simp only [List.map_toArray, List.map_cons, List.map_nil]); first | done | rfl | (simp only [List.length_drop, List.length_take]; rfl)) ?_
           with_reducible refine (spec_l8Name.calls k4 ((rd_T53 ((rd_T46 l0_2 x131_3).f1) x139_4).f0) true _ A61.out).mono ?_
           rintro e w' ⟨rfl, ⟨nd, rfl⟩⟩
           refine ⟨_, rfl, ?_⟩
           refine hK.out _ _ ⟨(blk_cell BK131.out 0).trans rfl, (blk_cell BK131.out 1).trans rfl, (blk_cell BK129.out 0).trans rfl, (blk_cell BK129.out 1).trans rfl, (blk_cell BK112.out 0).trans rfl, (blk_cell BK112.out 1).trans rfl, (blk_cell BK112.out 2).trans rfl, ((HB.out.cell (World.block_lt_of_cell? w _ hw134_0)).trans hw134_0), ((HB.out.cell (World.block_lt_of_cell? w _ hw134_1)).trans hw134_1), ((HB.out.cell (World.block_lt_of_cell? w _ hw137_0)).trans hw137_0)⟩ (fun hHeld => ?_)
           clear hK K
           refine norm_ (a' := ?_) ?_ ?_
           rotate_left
           ·
            show Act.put _ (some 146) _ = _
            simp only [Act.put, List.setIfInBounds_toArray, List.set_cons_zero, List.set_cons_succ, i64_w, i32_w]
            rfl
           refine pureS 3 147 HT_.out ?_
           refine pureS 4 148 HT_.out ?_
           refine pureS 5 149 HT_.out ?_
           refine takeS 6 150 HT_.out HW_.out hHeld (hr := by rintro w' ⟨s0, s1, s2, s3, s4, s5, s6, s7, s8, s9⟩; go_simp; with_reducible rfl) (h := ?_)
           refine one_ (i := 7) (N := some 151) #[true, true, true, true, true, true, true, true, false, false, false, false, false, false, false, false, false, false, false, false, false, false, false, false, false, false, false, false, false, false, false, false, false, false, false, false, false, false, false, false] rfl rfl (one_of HT_.out (by kernel_rfl)) (by decide) (fun K hK => ?_)
           refine goes_ Tryd.func32 (by kernel_rfl) rfl #[.int .i64 ((rd_T53 ((rd_T46 l0_2 x131_3).f1) x139_4).f1), .int .i64 0, .int .i64 1000] (by rfl) rfl rfl (by (try simp only [List.map_toArray, List.map_cons, List.map_nil]); first | done | rfl | (simp only [List.length_drop, List.length_take]; rfl)) ?_
           with_reducible refine (spec_l1In.calls ((rd_T53 ((rd_T46 l0_2 x131_3).f1) x139_4).f1) 0 1000 true _ A63.out).mono ?_
           rintro e w' ⟨rfl, ⟨nd, rfl⟩⟩
           refine ⟨_, rfl, ?_⟩
           refine hK.out _ _ ⟨(blk_cell BK131.out 0).trans rfl, (blk_cell BK131.out 1).trans rfl, (blk_cell BK129.out 0).trans rfl, (blk_cell BK129.out 1).trans rfl, (blk_cell BK112.out 0).trans rfl, (blk_cell BK112.out 1).trans rfl, (blk_cell BK112.out 2).trans rfl, ((HB.out.cell (World.block_lt_of_cell? w _ hw134_0)).trans hw134_0), ((HB.out.cell (World.block_lt_of_cell? w _ hw134_1)).trans hw134_1), ((HB.out.cell (World.block_lt_of_cell? w _ hw137_0)).trans hw137_0)⟩ (fun hHeld => ?_)
           clear hK K
           refine norm_ (a' := ?_) ?_ ?_
           rotate_left
           ·
            show Act.put _ (some 151) _ = _
            simp only [Act.put, List.setIfInBounds_toArray, List.set_cons_zero, List.set_cons_succ, i64_w, i32_w]
            rfl
           refine pureS 8 152 HT_.out ?_
           refine pureS 9 153 HT_.out ?_
           refine pureS 10 154 HT_.out ?_
           refine pureS 11 155 HT_.out ?_
           refine pureS 12 156 HT_.out ?_
           refine pureS 13 157 HT_.out ?_
           refine pureS 14 158 HT_.out ?_
           refine pureS 16 160 HT_.out ?_
           refine pureS 17 161 HT_.out ?_
           refine pureS 21 165 HT_.out ?_
           refine takeS 15 159 HT_.out HW_.out hHeld (hr := by rintro w' ⟨s0, s1, s2, s3, s4, s5, s6, s7, s8, s9⟩; go_simp; with_reducible rfl) (h := ?_)
           refine pureS 18 162 HT_.out ?_
           refine pureS 19 163 HT_.out ?_
           refine takeS 20 164 HT_.out HW_.out hHeld (hr := by rintro w' ⟨s0, s1, s2, s3, s4, s5, s6, s7, s8, s9⟩; go_simp; with_reducible rfl) (h := ?_)
           refine takeS 22 166 HT_.out HW_.out hHeld (hr := by rintro w' ⟨s0, s1, s2, s3, s4, s5, s6, s7, s8, s9⟩; go_simp; with_reducible rfl) (h := ?_)
           refine pureS 23 167 HT_.out ?_
           refine pureS 24 168 HT_.out ?_
           refine pureS 25 169 HT_.out ?_
           refine pureS 26 170 HT_.out ?_
           refine pureS 27 171 HT_.out ?_
           refine pureS 29 173 HT_.out ?_
           refine pureS 32 176 HT_.out ?_
           refine pureS 37 181 HT_.out ?_
           refine takeS 28 172 HT_.out HW_.out hHeld (hr := by rintro w' ⟨s0, s1, s2, s3, s4, s5, s6, s7, s8, s9⟩; go_simp; with_reducible rfl) (h := ?_)
           refine takeS 30 174 HT_.out HW_.out hHeld (hr := by rintro w' ⟨s0, s1, s2, s3, s4, s5, s6, s7, s8, s9⟩; go_simp; with_reducible rfl) (h := ?_)
           refine takeS 33 177 HT_.out HW_.out hHeld (hr := by rintro w' ⟨s0, s1, s2, s3, s4, s5, s6, s7, s8, s9⟩; go_simp; with_reducible rfl) (h := ?_)
           refine one_ (i := 31) (N := some 175) #[true, true, true, true, true, true, true, true, true, true, true, true, true, true, true, true, true, true, true, true, true, true, true, true, true, true, true, true, true, true, true, true, true, true, false, false, false, true, false, false] rfl rfl (one_of HT_.out (by kernel_rfl)) (by decide) (fun K hK => ?_)
           refine goes_ Tryd.func34 (by kernel_rfl) rfl #[.string ((rd_T53 ((rd_T46 l0_2 x131_3).f1) x139_4).f0)] (by rfl) rfl rfl (by (try simp only [List.map_toArray, List.map_cons, List.map_nil]); first | done | rfl | (simp only [List.length_drop, List.length_take]; rfl)) ?_
           with_reducible refine (spec_NameHash.calls k4 ((rd_T53 ((rd_T46 l0_2 x131_3).f1) x139_4).f0) t135 _ A70.out).mono ?_
           rintro e w' ⟨rfl, ⟨nd, rfl⟩⟩
           refine ⟨_, rfl, ?_⟩
           refine hK.out _ _ ⟨(blk_cell BK131.out 0).trans rfl, (blk_cell BK131.out 1).trans rfl, (blk_cell BK129.out 0).trans rfl, (blk_cell BK129.out 1).trans rfl, (blk_cell BK112.out 0).trans rfl, (blk_cell BK112.out 1).trans rfl, (blk_cell BK112.out 2).trans rfl, ((HB.out.cell (World.block_lt_of_cell? w _ hw134_0)).trans hw134_0), ((HB.out.cell (World.block_lt_of_cell? w _ hw134_1)).trans hw134_1), ((HB.out.cell (World.block_lt_of_cell? w _ hw137_0)).trans hw137_0)⟩ (fun hHeld => ?_)
           clear hK K
           refine norm_ (a' := ?_) ?_ ?_
           rotate_left
           ·
            show Act.put _ (some 175) _ = _
            simp only [Act.put, List.setIfInBounds_toArray, List.set_cons_zero, List.set_cons_succ, i64_w, i32_w]
            rfl
           refine one_ (i := 34) (N := some 178) #[true, true, true, true, true, true, true, true, true, true, true, true, true, true, true, true, true, true, true, true, true, true, true, true, true, true, true, true, true, true, true, true, true, true, true, false, false, true, false, false] rfl rfl (one_of HT_.out (by kernel_rfl)) (by decide) (fun K hK => ?_)
           refine goes_ Tryd.func33 (by kernel_rfl) rfl #[.int .i64 t135, .int .i64 a0_0] (by rfl) rfl rfl (by (try simp only [List.map_toArray, List.map_cons, List.map_nil]); first | done | rfl | (simp only [List.length_drop, List.length_take]; rfl)) ?_
           with_reducible refine (spec_l8Low.calls t135 a0_0 t136 _ A71.out).mono ?_
           rintro e w' ⟨rfl, ⟨nd, rfl⟩⟩
           refine ⟨_, rfl, ?_⟩
           refine hK.out _ _ ⟨(blk_cell BK131.out 0).trans rfl, (blk_cell BK131.out 1).trans rfl, (blk_cell BK129.out 0).trans rfl, (blk_cell BK129.out 1).trans rfl, (blk_cell BK112.out 0).trans rfl, (blk_cell BK112.out 1).trans rfl, (blk_cell BK112.out 2).trans rfl, ((HB.out.cell (World.block_lt_of_cell? w _ hw134_0)).trans hw134_0), ((HB.out.cell (World.block_lt_of_cell? w _ hw134_1)).trans hw134_1), ((HB.out.cell (World.block_lt_of_cell? w _ hw137_0)).trans hw137_0)⟩ (fun hHeld => ?_)
           clear hK K
           refine norm_ (a' := ?_) ?_ ?_
           rotate_left
           ·
            show Act.put _ (some 178) _ = _
            simp only [Act.put, List.setIfInBounds_toArray, List.set_cons_zero, List.set_cons_succ, i64_w, i32_w]
            rfl
           refine pureS 35 179 HT_.out ?_
           refine takeS 36 180 HT_.out HW_.out hHeld (hr := by rintro w' ⟨s0, s1, s2, s3, s4, s5, s6, s7, s8, s9⟩; go_simp; with_reducible rfl) (h := ?_)
           refine pureS 38 182 HT_.out ?_
           refine pureS 39 183 HT_.out ?_
           refine done_ (done_of HT_.out (by kernel_rfl)) ?_
           try go_wp2
           go_ret
           exact ⟨by first | rfl | (simp [errW_none, errW_some] <;> rfl) | (simp only [← hji66]; first | rfl | (simp [errW_none, errW_some] <;> rfl)) | (simp [*, errW_none, errW_some] <;> rfl), bs3 HB GE112 GE129 GE131⟩
         rw [if_pos c74] at H
         have c74b0 : ((rd l0_1 t136) == x131_3) = true := beq_iff_eq.mpr c74
         have c74b1 : ((rd l0_1 t136) != x131_3) = false := bne_eq_false_iff_eq.mpr c74
         clear c74
         as_aux_lemma =>
          have H' := Ah H
          clear H
          have p130 : 0 ≤ (x139_4 : Int) := od
          have q130 : x139_4 < (((rd_T46 l0_2 x131_3).f1).length : Int) := od
          obtain ⟨ad130, e130, hx130_0, hx130_1⟩ := at_T53 HR128_1.out x139_4 p130 q130
          cases e130
          replace hx130_0 := (HB.out.cell (World.block_lt_of_cell? w _ hx130_0)).trans hx130_0
          replace hx130_1 := (HB.out.cell (World.block_lt_of_cell? w _ hx130_1)).trans hx130_1
          replace p130 := eq_true p130
          replace q130 := eq_true q130
          try go_wp2_with (first | ((with_reducible refine gate_dst (N := 11) rfl ?_); (try (refine gate_guard (by rfl) ?_; dsimp only)); refine boxL 11 53 #[.string (⟨#[]⟩ : ByteArray), .int .i64 0] ?_; intro gb131 hg w75 BK131 hb; have GW131 := gw hg (bs2 HB GE112 GE129); have GE131 := gw hg (bs2 HB GE112 GE129); replace HB := Ah (below_step (bs2 HB GE112 GE129) hb); have NB112_131 := nn BK112 hg; have NB131_112 := nm BK112 hg; replace BK112 := nb BK112 hb; have NB129_131 := nn BK129 hg; have NB131_129 := nm BK129 hg; replace BK129 := nb BK129 hb; clear hb hg; have hnb76 := NB131_112.out; have hnc76 := NB112_131.out; have hnb77 := NB131_129.out; have hnc77 := NB129_131.out; obtain ⟨hcz78_0, hcz78_1⟩ := cz2 BK131; obtain ⟨hfz78_0, hfz78_1⟩ := fz2 BK131))
          have n0_ : Aside0 (((w75.setCell ⟨gb131, 0, none⟩ (.string ((rd_T53 ((rd_T46 l0_2 x131_3).f1) x139_4).f0))).setCell ⟨gb131, 1, none⟩ (.int .i64 ((rd_T53 ((rd_T46 l0_2 x131_3).f1) x139_4).f1))).heap[gb112]? = some (.cells #[.int .i64 a0_0, .slice A0_1 l0_1.length c0_1, .slice (some ad128) l0_2.length c0_2] 29 (0, 0))) := ⟨bf BK112 NB112_131⟩
          have n1_ : Aside0 (((w75.setCell ⟨gb131, 0, none⟩ (.string ((rd_T53 ((rd_T46 l0_2 x131_3).f1) x139_4).f0))).setCell ⟨gb131, 1, none⟩ (.int .i64 ((rd_T53 ((rd_T46 l0_2 x131_3).f1) x139_4).f1))).heap[gb129]? = some (.cells #[.int .i64 ((rd_T46 l0_2 x131_3).f0), .slice (some ad130) ((rd_T46 l0_2 x131_3).f1).length c128_1] 46 (0, 0))) := ⟨bf BK129 NB129_131⟩
          have n2_ : Aside0 (((w75.setCell ⟨gb131, 0, none⟩ (.string ((rd_T53 ((rd_T46 l0_2 x131_3).f1) x139_4).f0))).setCell ⟨gb131, 1, none⟩ (.int .i64 ((rd_T53 ((rd_T46 l0_2 x131_3).f1) x139_4).f1))).heap[gb131]? = some (.cells #[.string ((rd_T53 ((rd_T46 l0_2 x131_3).f1) x139_4).f0), .int .i64 ((rd_T53 ((rd_T46 l0_2 x131_3).f1) x139_4).f1)] 53 (0, 0))) := ⟨by (with_reducible repeat (first | refine blk_drewN ?_ _ | refine blk_drew ?_ | refine blk_alloc ?_ _)); refine blk_put (cs := #[.string ((rd_T53 ((rd_T46 l0_2 x131_3).f1) x139_4).f0), .int .i64 0]) ?_ 1 _ rfl; (with_reducible repeat (first | refine blk_drewN ?_ _ | refine blk_drew ?_ | refine blk_alloc ?_ _)); refine blk_put (cs := #[.string (⟨#[]⟩ : ByteArray), .int .i64 0]) ?_ 0 _ rfl; (with_reducible repeat (first | refine blk_drewN ?_ _ | refine blk_drew ?_ | refine blk_alloc ?_ _)); exact BK131.out⟩
          have n3_ : Aside0 (Below w.heap.size w ((w75.setCell ⟨gb131, 0, none⟩ (.string ((rd_T53 ((rd_T46 l0_2 x131_3).f1) x139_4).f0))).setCell ⟨gb131, 1, none⟩ (.int .i64 ((rd_T53 ((rd_T46 l0_2 x131_3).f1) x139_4).f1)))) := ⟨bs3 HB GE112 GE129 GE131⟩
          (try clear BK112)
          (try clear BK129)
          (try clear BK131)
          (try clear HB)
          generalize ((w75.setCell ⟨gb131, 0, none⟩ (.string ((rd_T53 ((rd_T46 l0_2 x131_3).f1) x139_4).f0))).setCell ⟨gb131, 1, none⟩ (.int .i64 ((rd_T53 ((rd_T46 l0_2 x131_3).f1) x139_4).f1))) = w79 at n0_ n1_ n2_ n3_ ⊢
          have BK112 := n0_
          have BK129 := n1_
          have BK131 := n2_
          have HB := n3_
          clear n0_ n1_ n2_ n3_
          have n0_ := Ah (blk_drew BK112.out)
          have n1_ := Ah (blk_drew BK129.out)
          have n2_ := Ah (blk_drew BK131.out)
          have n3_ := Ah (below_drew1 HB.out)
          clear BK112 BK129 BK131 HB
          have BK112 := n0_
          have BK129 := n1_
          have BK131 := n2_
          have HB := n3_
          clear n0_ n1_ n2_ n3_
          have p134 : 0 ≤ ((ji66) : Int) := od
          have q134 : (ji66) < (((rd_T46 l0_2 x131_3).f1).length : Int) := od
          obtain ⟨ad134, e134, hx134_0, hx134_1⟩ := at_T53 HR128_1.out (ji66) p134 q134
          have hw134_1 := hx134_1
          have hw134_0 := hx134_0
          obtain rfl : ad130 = ad134 := (by injection e134)
          replace hx134_0 := (HB.out.cell (World.block_lt_of_cell? w _ hx134_0)).trans hx134_0
          replace hx134_1 := (HB.out.cell (World.block_lt_of_cell? w _ hx134_1)).trans hx134_1
          replace p134 := eq_true p134
          replace q134 := eq_true q134
          have p137 : 0 ≤ (t136 : Int) := od
          have q137 : t136 < (l0_1.length : Int) := od
          obtain ⟨ad137, e137, hx137_0⟩ := Kd.at_int HR0_1.out t136 p137 q137
          have hw137_0 := hx137_0
          cases e137
          replace hx137_0 := (HB.out.cell (World.block_lt_of_cell? w _ hx137_0)).trans hx137_0
          replace p137 := eq_true p137
          replace q137 := eq_true q137
          refine start_ (n := 40) (S := fun w' => w'.cell? ⟨gb131, 0, none⟩ = some (.string ((rd_T53 ((rd_T46 l0_2 x131_3).f1) x139_4).f0)) ∧ w'.cell? ⟨gb131, 1, none⟩ = some (.int .i64 ((rd_T53 ((rd_T46 l0_2 x131_3).f1) x139_4).f1)) ∧ w'.cell? ⟨gb129, 0, none⟩ = some (.int .i64 ((rd_T46 l0_2 x131_3).f0)) ∧ w'.cell? ⟨gb129, 1, none⟩ = some (.slice (some ad130) ((rd_T46 l0_2 x131_3).f1).length c128_1) ∧ w'.cell? ⟨gb112, 0, none⟩ = some (.int .i64 a0_0) ∧ w'.cell? ⟨gb112, 1, none⟩ = some (.slice (some ad137) l0_1.length c0_1) ∧ w'.cell? ⟨gb112, 2, none⟩ = some (.slice (some ad128) l0_2.length c0_2) ∧ w'.cell? (ad130.add (((ji66)).toNat * 2)) = some (.string ((rd_T53 ((rd_T46 l0_2 x131_3).f1) (ji66)).f0)) ∧ w'.cell? ⟨(ad130.add (((ji66)).toNat * 2)).block, (ad130.add (((ji66)).toNat * 2)).off + 1, none⟩ = some (.int .i64 ((rd_T53 ((rd_T46 l0_2 x131_3).f1) (ji66)).f1)) ∧ w'.cell? (ad137.add (t136).toNat) = some (.int .i64 (rd l0_1 t136))) (ds := []) #[false, false, false, false, false, false, false, false, false, false, false, false, false, false, false, false, false, false, false, false, false, false, false, false, false, false, false, false, false, false, false, false, false, false, false, false, false, false, false, false] (by kernel_rfl) rfl rfl ⟨(blk_cell BK131.out 0).trans rfl, (blk_cell BK131.out 1).trans rfl, (blk_cell BK129.out 0).trans rfl, (blk_cell BK129.out 1).trans rfl, (blk_cell BK112.out 0).trans rfl, (blk_cell BK112.out 1).trans rfl, (blk_cell BK112.out 2).trans rfl, ((HB.out.cell (World.block_lt_of_cell? w _ hw134_0)).trans hw134_0), ((HB.out.cell (World.block_lt_of_cell? w _ hw134_1)).trans hw134_1), ((HB.out.cell (World.block_lt_of_cell? w _ hw137_0)).trans hw137_0)⟩ (fun hHeld => ?_); refine with_tabW spec_GoodDir.tab24 spec_GoodDir.bits24 (fun HT_ HW_ => ?_)
          generalize w79.drew = w80 at BK112 BK129 BK131 HB hx134_0 hx134_1 hx137_0 hHeld ⊢
          refine pureS 0 144 HT_.out ?_
          refine takeS 1 145 HT_.out HW_.out hHeld (hr := by rintro w' ⟨s0, s1, s2, s3, s4, s5, s6, s7, s8, s9⟩; go_simp; with_reducible rfl) (h := ?_)
          refine one_ (i := 2) (N := some 146) #[true, true, true, false, false, false, false, false, false, false, false, false, false, false, false, false, false, false, false, false, false, false, false, false, false, false, false, false, false, false, false, false, false, false, false, false, false, false, false, false] rfl rfl (one_of HT_.out (by kernel_rfl)) (by decide) (fun K hK => ?_)
          refine goes_ Tryd.func14 (by kernel_rfl) rfl #[.string ((rd_T53 ((rd_T46 l0_2 x131_3).f1) x139_4).f0)] (by rfl) rfl rfl (by (try simp only [List.map_toArray, List.map_cons, List.map_nil]); first | done | rfl | (simp only [List.length_drop, List.length_take]; rfl)) ?_
          with_reducible refine (spec_l8Name.calls k4 ((rd_T53 ((rd_T46 l0_2 x131_3).f1) x139_4).f0) true _ A61.out).mono ?_
          rintro e w' ⟨rfl, ⟨nd, rfl⟩⟩
          refine ⟨_, rfl, ?_⟩
          refine hK.out _ _ ⟨(blk_cell BK131.out 0).trans rfl, (blk_cell BK131.out 1).trans rfl, (blk_cell BK129.out 0).trans rfl, (blk_cell BK129.out 1).trans rfl, (blk_cell BK112.out 0).trans rfl, (blk_cell BK112.out 1).trans rfl, (blk_cell BK112.out 2).trans rfl, ((HB.out.cell (World.block_lt_of_cell? w _ hw134_0)).trans hw134_0), ((HB.out.cell (World.block_lt_of_cell? w _ hw134_1)).trans hw134_1), ((HB.out.cell (World.block_lt_of_cell? w _ hw137_0)).trans hw137_0)⟩ (fun hHeld => ?_)
          clear hK K
          refine norm_ (a' := ?_) ?_ ?_
          rotate_left
          ·
           show Act.put _ (some 146) _ = _
           simp only [Act.put, List.setIfInBounds_toArray, List.set_cons_zero, List.set_cons_succ, i64_w, i32_w]
           rfl
          refine pureS 3 147 HT_.out ?_
          refine pureS 4 148 HT_.out ?_
          refine pureS 5 149 HT_.out ?_
          refine takeS 6 150 HT_.out HW_.out hHeld (hr := by rintro w' ⟨s0, s1, s2, s3, s4, s5, s6, s7, s8, s9⟩; go_simp; with_reducible rfl) (h := ?_)
          refine one_ (i := 7) (N := some 151) #[true, true, true, true, true, true, true, true, false, false, false, false, false, false, false, false, false, false, false, false, false, false, false, false, false, false, false, false, false, false, false, false, false, false, false, false, false, false, false, false] rfl rfl (one_of HT_.out (by kernel_rfl)) (by decide) (fun K hK => ?_)
          refine goes_ Tryd.func32 (by kernel_rfl) rfl #[.int .i64 ((rd_T53 ((rd_T46 l0_2 x131_3).f1) x139_4).f1), .int .i64 0, .int .i64 1000] (by rfl) rfl rfl (by (try simp only [List.map_toArray, List.map_cons, List.map_nil]); first | done | rfl | (simp only [List.length_drop, List.length_take]; rfl)) ?_
          with_reducible refine (spec_l1In.calls ((rd_T53 ((rd_T46 l0_2 x131_3).f1) x139_4).f1) 0 1000 true _ A63.out).mono ?_
          rintro e w' ⟨rfl, ⟨nd, rfl⟩⟩
          refine ⟨_, rfl, ?_⟩
          refine hK.out _ _ ⟨(blk_cell BK131.out 0).trans rfl, (blk_cell BK131.out 1).trans rfl, (blk_cell BK129.out 0).trans rfl, (blk_cell BK129.out 1).trans rfl, (blk_cell BK112.out 0).trans rfl, (blk_cell BK112.out 1).trans rfl, (blk_cell BK112.out 2).trans rfl, ((HB.out.cell (World.block_lt_of_cell? w _ hw134_0)).trans hw134_0), ((HB.out.cell (World.block_lt_of_cell? w _ hw134_1)).trans hw134_1), ((HB.out.cell (World.block_lt_of_cell? w _ hw137_0)).trans hw137_0)⟩ (fun hHeld => ?_)
          clear hK K
          refine norm_ (a' := ?_) ?_ ?_
          rotate_left
          ·
           show Act.put _ (some 151) _ = _
           simp only [Act.put, List.setIfInBounds_toArray, List.set_cons_zero, List.set_cons_succ, i64_w, i32_w]
           rfl
          refine pureS 8 152 HT_.out ?_
          refine pureS 9 153 HT_.out ?_
          refine pureS 10 154 HT_.out ?_
          refine pureS 11 155 HT_.out ?_
          refine pureS 12 156 HT_.out ?_
          refine pureS 13 157 HT_.out ?_
          refine pureS 14 158 HT_.out ?_
          refine pureS 16 160 HT_.out ?_
          refine pureS 17 161 HT_.out ?_
          refine pureS 21 165 HT_.out ?_
          refine takeS 15 159 HT_.out HW_.out hHeld (hr := by rintro w' ⟨s0, s1, s2, s3, s4, s5, s6, s7, s8, s9⟩; go_simp; with_reducible rfl) (h := ?_)
          refine pureS 18 162 HT_.out ?_
          refine pureS 19 163 HT_.out ?_
          refine takeS 20 164 HT_.out HW_.out hHeld (hr := by rintro w' ⟨s0, s1, s2, s3, s4, s5, s6, s7, s8, s9⟩; go_simp; with_reducible rfl) (h := ?_)
          refine takeS 22 166 HT_.out HW_.out hHeld (hr := by rintro w' ⟨s0, s1, s2, s3, s4, s5, s6, s7, s8, s9⟩; go_simp; with_reducible rfl) (h := ?_)
          refine pureS 23 167 HT_.out ?_
          refine pureS 24 168 HT_.out ?_
          refine pureS 25 169 HT_.out ?_
          refine pureS 26 170 HT_.out ?_
          refine pureS 27 171 HT_.out ?_
          refine pureS 29 173 HT_.out ?_
          refine pureS 32 176 HT_.out ?_
          refine pureS 37 181 HT_.out ?_
          refine takeS 28 172 HT_.out HW_.out hHeld (hr := by rintro w' ⟨s0, s1, s2, s3, s4, s5, s6, s7, s8, s9⟩; go_simp; with_reducible rfl) (h := ?_)
          refine takeS 30 174 HT_.out HW_.out hHeld (hr := by rintro w' ⟨s0, s1, s2, s3, s4, s5, s6, s7, s8, s9⟩; go_simp; with_reducible rfl) (h := ?_)
          refine takeS 33 177 HT_.out HW_.out hHeld (hr := by rintro w' ⟨s0, s1, s2, s3, s4, s5, s6, s7, s8, s9⟩; go_simp; with_reducible rfl) (h := ?_)
          refine one_ (i := 31) (N := some 175) #[true, true, true, true, true, true, true, true, true, true, true, true, true, true, true, true, true, true, true, true, true, true, true, true, true, true, true, true, true, true, true, true, true, true, false, false, false, true, false, false] rfl rfl (one_of HT_.out (by kernel_rfl)) (by decide) (fun K hK => ?_)
          refine goes_ Tryd.func34 (by kernel_rfl) rfl #[.string ((rd_T53 ((rd_T46 l0_2 x131_3).f1) x139_4).f0)] (by rfl) rfl rfl (by (try simp only [List.map_toArray, List.map_cons, List.map_nil]); first | done | rfl | (simp only [List.length_drop, List.length_take]; rfl)) ?_
          with_reducible refine (spec_NameHash.calls k4 ((rd_T53 ((rd_T46 l0_2 x131_3).f1) x139_4).f0) t135 _ A70.out).mono ?_
          rintro e w' ⟨rfl, ⟨nd, rfl⟩⟩
          refine ⟨_, rfl, ?_⟩
          refine hK.out _ _ ⟨(blk_cell BK131.out 0).trans rfl, (blk_cell BK131.out 1).trans rfl, (blk_cell BK129.out 0).trans rfl, (blk_cell BK129.out 1).trans rfl, (blk_cell BK112.out 0).trans rfl, (blk_cell BK112.out 1).trans rfl, (blk_cell BK112.out 2).trans rfl, ((HB.out.cell (World.block_lt_of_cell? w _ hw134_0)).trans hw134_0), ((HB.out.cell (World.block_lt_of_cell? w _ hw134_1)).trans hw134_1), ((HB.out.cell (World.block_lt_of_cell? w _ hw137_0)).trans hw137_0)⟩ (fun hHeld => ?_)
          clear hK K
          refine norm_ (a' := ?_) ?_ ?_
          rotate_left
          ·
           show Act.put _ (some 175) _ = _
           simp only [Act.put, List.setIfInBounds_toArray, List.set_cons_zero, List.set_cons_succ, i64_w, i32_w]
           rfl
          refine one_ (i := 34) (N := some 178) #[true, true, true, true, true, true, true, true, true, true, true, true, true, true, true, true, true, true, true, true, true, true, true, true, true, true, true, true, true, true, true, true, true, true, true, false, false, true, false, false] rfl rfl (one_of HT_.out (by kernel_rfl)) (by decide) (fun K hK => ?_)
          refine goes_ Tryd.func33 (by kernel_rfl) rfl #[.int .i64 t135, .int .i64 a0_0] (by rfl) rfl rfl (by (try simp only [List.map_toArray, List.map_cons, List.map_nil]); first | done | rfl | (simp only [List.length_drop, List.length_take]; rfl)) ?_
          with_reducible refine (spec_l8Low.calls t135 a0_0 t136 _ A71.out).mono ?_
          rintro e w' ⟨rfl, ⟨nd, rfl⟩⟩
          refine ⟨_, rfl, ?_⟩
          refine hK.out _ _ ⟨(blk_cell BK131.out 0).trans rfl, (blk_cell BK131.out 1).trans rfl, (blk_cell BK129.out 0).trans rfl, (blk_cell BK129.out 1).trans rfl, (blk_cell BK112.out 0).trans rfl, (blk_cell BK112.out 1).trans rfl, (blk_cell BK112.out 2).trans rfl, ((HB.out.cell (World.block_lt_of_cell? w _ hw134_0)).trans hw134_0), ((HB.out.cell (World.block_lt_of_cell? w _ hw134_1)).trans hw134_1), ((HB.out.cell (World.block_lt_of_cell? w _ hw137_0)).trans hw137_0)⟩ (fun hHeld => ?_)
          clear hK K
          refine norm_ (a' := ?_) ?_ ?_
          rotate_left
          ·
           show Act.put _ (some 178) _ = _
           simp only [Act.put, List.setIfInBounds_toArray, List.set_cons_zero, List.set_cons_succ, i64_w, i32_w]
           rfl
          refine pureS 35 179 HT_.out ?_
          refine takeS 36 180 HT_.out HW_.out hHeld (hr := by rintro w' ⟨s0, s1, s2, s3, s4, s5, s6, s7, s8, s9⟩; go_simp; with_reducible rfl) (h := ?_)
          refine pureS 38 182 HT_.out ?_
          refine pureS 39 183 HT_.out ?_
          refine done_ (done_of HT_.out (by kernel_rfl)) ?_
          try go_wp2
          go_roundg k4
          case measure => have := HJ1.out; have := HK2.out; have := HK3.out; have := HK4.out; omega
          case rel => exact ⟨(wrap64 (x139_4 + 1)), e3, H', ⟨by have := HJ1.out; have := HK2.out; have := HK3.out; have := HK4.out; omega⟩, ⟨bk BK112⟩, ⟨bk BK129⟩, ⟨bs3 HB GE112 GE129 GE131⟩⟩

end Go.Proofs.YtfbjeppfnlfejaaDoor.G
