-- Printed by a program of this session (drive.py, by way of the kit's print). Not trusted: Lean checks it.
import Derived.Test.YthlifcbkpafofaaDoorG0
import Derived.Test.YthlifcbkpafofaaDoorG1
import Derived.Test.YthlifcbkpafofaaDoorG2
namespace Go.Proofs.YthlifcbkpafofaaDoor.G
open Go.RowKit Go.Proofs.YthlifcbkpafofaaDoorW.PrintWords Go.Proofs.YthlifcbkpafofaaDoorW.PrintLast Go.Proofs.YthlifcbkpafofaaDoorW.PrintMore
attribute [local go_sem] max2_int min2_int max_two min_two max_three min_three max_four min_four   -- for this text's walks alone
set_option linter.unusedVariables false
set_option linter.unusedSimpArgs false

attribute [local go_sem high] eqA26
/-! ### spec_GoodRing: function 18 -/
mutual
def spec_GoodRing.j0 : Nat → Int → Bool → List (S26) → Int → Int → Int → Option (Bool)
 | 0, _, _, _, _, _, _ => none
 | k + 1, x3, x45, x153000, x153001, x153002, x153003 => if x45 = true then (some false) else (spec_GoodRing.l0 k x3 0 (wrap64 (x153001 - x3)) x153000 x153001 x153002 x153003)
def spec_GoodRing.l0 : Nat → Int → Int → Int → List (S26) → Int → Int → Int → Option (Bool)
 | 0, _, _, _, _, _, _, _ => none
 | k + 1, x3, x4, x5, x153000, x153001, x153002, x153003 => if x5 < x153001 then (if x5 < 0 then (if 0 ≤ (wrap64 (x5 + x3)) then (if (wrap64 (x5 + x3)) < (x153000.length : Int) then ((spec_l10Zero.f k).bind fun bt157 => (if (!(((rd_T26 x153000 (wrap64 (x5 + x3))).f0) == bt157.1) || (!(((rd_T26 x153000 (wrap64 (x5 + x3))).f1) == bt157.2.1) || (!((((rd_T26 x153000 (wrap64 (x5 + x3))).f2).toList) == bt157.2.2.1.toList) || (!(((rd_T26 x153000 (wrap64 (x5 + x3))).f3) == bt157.2.2.2))))) = true then (some false) else (spec_GoodRing.l0 k x3 x4 (wrap64 (x5 + 1)) x153000 x153001 x153002 x153003))) else (none)) else (none)) else (if x3 = 0 then (none) else (if 0 ≤ (Int.tmod x5 x3) then (if (Int.tmod x5 x3) < (x153000.length : Int) then (if x5 < x153003 then ((spec_l10Zero.f k).bind fun bt163 => (spec_GoodRing.j2 k x3 x4 x5 (((rd_T26 x153000 (Int.tmod x5 x3)).f0) == bt163.1 && (((rd_T26 x153000 (Int.tmod x5 x3)).f1) == bt163.2.1 && ((((rd_T26 x153000 (Int.tmod x5 x3)).f2).toList) == bt163.2.2.1.toList && (((rd_T26 x153000 (Int.tmod x5 x3)).f3) == bt163.2.2.2)))) x153000 x153001 x153002 x153003 ((rd_T26 x153000 (Int.tmod x5 x3)).f0) ((rd_T26 x153000 (Int.tmod x5 x3)).f1) ((rd_T26 x153000 (Int.tmod x5 x3)).f2) ((rd_T26 x153000 (Int.tmod x5 x3)).f3))) else (spec_GoodRing.j2 k x3 x4 x5 false x153000 x153001 x153002 x153003 ((rd_T26 x153000 (Int.tmod x5 x3)).f0) ((rd_T26 x153000 (Int.tmod x5 x3)).f1) ((rd_T26 x153000 (Int.tmod x5 x3)).f2) ((rd_T26 x153000 (Int.tmod x5 x3)).f3))) else (none)) else (none)))) else (some true)
def spec_GoodRing.j2 : Nat → Int → Int → Int → Bool → List (S26) → Int → Int → Int → Int → Int → ByteArray → Int → Option (Bool)
 | 0, _, _, _, _, _, _, _, _, _, _, _, _ => none
 | k + 1, x3, x4, x5, x82, x153000, x153001, x153002, x153003, x163000, x163001, x163002, x163003 => if x82 = true then (spec_GoodRing.l0 k x3 x4 (wrap64 (x5 + 1)) x153000 x153001 x153002 x153003) else ((spec_l10Whole.f k x163000 x163001 x163002 x163003).bind fun t167 => (if t167 = true then (if x3 = 0 then (none) else (spec_GoodRing.j3 k x3 x4 x5 (x163000 != (wrap64 ((wrap64 (Int.tdiv x5 x3)) + 1))) x153000 x153001 x153002 x153003 x163000 x163001 x163002 x163003)) else (spec_GoodRing.j3 k x3 x4 x5 true x153000 x153001 x153002 x153003 x163000 x163001 x163002 x163003)))
def spec_GoodRing.j3 : Nat → Int → Int → Int → Bool → List (S26) → Int → Int → Int → Int → Int → ByteArray → Int → Option (Bool)
 | 0, _, _, _, _, _, _, _, _, _, _, _, _ => none
 | k + 1, x3, x4, x5, x94, x153000, x153001, x153002, x153003, x163000, x163001, x163002, x163003 => if x94 = true then (some false) else (if x163001 < x4 then (some false) else (if x163001 > x5 then (some false) else (if x163001 > x153003 then (some false) else (spec_GoodRing.l0 k x3 x163001 (wrap64 (x5 + 1)) x153000 x153001 x153002 x153003))))
end
def spec_GoodRing.f (k : Nat) (l0_0 : List (S26)) (a0_1 : Int) (a0_2 : Int) (a0_3 : Int) : Option (Bool) := (spec_l1In.f (l0_0.length : Int) 2 24).bind fun t153 => (if t153 = true then ((spec_l1In.f a0_1 0 10000000).bind fun t154 => (if t154 = true then ((spec_l1In.f a0_3 0 a0_1).bind fun t155 => (if t155 = true then (if (wrap64 (a0_1 - a0_3)) > (l0_0.length : Int) then (spec_GoodRing.j0 k (l0_0.length : Int) true l0_0 a0_1 a0_2 a0_3) else (if (l0_0.length : Int) = 0 then (none) else (spec_GoodRing.j0 k (l0_0.length : Int) (a0_2 != (wrap64 ((wrap64 (Int.tdiv a0_1 (l0_0.length : Int))) + 1))) l0_0 a0_1 a0_2 a0_3))) else (spec_GoodRing.j0 k (l0_0.length : Int) true l0_0 a0_1 a0_2 a0_3))) else (spec_GoodRing.j0 k (l0_0.length : Int) true l0_0 a0_1 a0_2 a0_3))) else (spec_GoodRing.j0 k (l0_0.length : Int) true l0_0 a0_1 a0_2 a0_3))
theorem spec_GoodRing.mono_l : ∀ k, (∀ y0 y1 y2 y3 y4 y5, LeO (spec_GoodRing.j0 k y0 y1 y2 y3 y4 y5) (spec_GoodRing.j0 (k + 1) y0 y1 y2 y3 y4 y5)) ∧ (∀ y0 y1 y2 y3 y4 y5 y6, LeO (spec_GoodRing.l0 k y0 y1 y2 y3 y4 y5 y6) (spec_GoodRing.l0 (k + 1) y0 y1 y2 y3 y4 y5 y6)) ∧ (∀ y0 y1 y2 y3 y4 y5 y6 y7 y8 y9 y10 y11, LeO (spec_GoodRing.j2 k y0 y1 y2 y3 y4 y5 y6 y7 y8 y9 y10 y11) (spec_GoodRing.j2 (k + 1) y0 y1 y2 y3 y4 y5 y6 y7 y8 y9 y10 y11)) ∧ (∀ y0 y1 y2 y3 y4 y5 y6 y7 y8 y9 y10 y11, LeO (spec_GoodRing.j3 k y0 y1 y2 y3 y4 y5 y6 y7 y8 y9 y10 y11) (spec_GoodRing.j3 (k + 1) y0 y1 y2 y3 y4 y5 y6 y7 y8 y9 y10 y11))
 | 0 => ⟨fun _ _ _ _ _ _ r h => by simp [spec_GoodRing.j0] at h, fun _ _ _ _ _ _ _ r h => by simp [spec_GoodRing.l0] at h, fun _ _ _ _ _ _ _ _ _ _ _ _ r h => by simp [spec_GoodRing.j2] at h, fun _ _ _ _ _ _ _ _ _ _ _ _ r h => by simp [spec_GoodRing.j3] at h⟩
 | k + 1 => by
  obtain ⟨ih0, ih1, ih2, ih3⟩ := spec_GoodRing.mono_l k
  refine ⟨?_, ?_, ?_, ?_⟩
  ·
   intro y0 y1 y2 y3 y4 y5
   unfold spec_GoodRing.j0
   repeat' first
   | (with_reducible exact ih0 _ _ _ _ _ _)
   | (with_reducible exact ih1 _ _ _ _ _ _ _)
   | (with_reducible exact ih2 _ _ _ _ _ _ _ _ _ _ _ _)
   | (with_reducible exact ih3 _ _ _ _ _ _ _ _ _ _ _ _)
   | (with_reducible exact spec_l10Whole.mono _ _ _ _ _)
   | (with_reducible exact spec_l10Zero.mono _)
   | (with_reducible exact LeO.refl _)
   | (with_reducible exact LeO.none _)
   | (with_reducible refine LeO.ite ?_ ?_)
   | (with_reducible refine LeO.bind ?_ (fun _ => ?_))
   | exact ih0 _ _ _ _ _ _
   | exact ih1 _ _ _ _ _ _ _
   | exact ih2 _ _ _ _ _ _ _ _ _ _ _ _
   | exact ih3 _ _ _ _ _ _ _ _ _ _ _ _
   | exact spec_l10Whole.mono _ _ _ _ _
   | exact spec_l10Zero.mono _
   | exact LeO.none _
   | refine LeO.ite ?_ ?_
   | refine LeO.bind ?_ (fun _ => ?_)
  ·
   intro y0 y1 y2 y3 y4 y5 y6
   unfold spec_GoodRing.l0
   repeat' first
   | (with_reducible exact ih0 _ _ _ _ _ _)
   | (with_reducible exact ih1 _ _ _ _ _ _ _)
   | (with_reducible exact ih2 _ _ _ _ _ _ _ _ _ _ _ _)
   | (with_reducible exact ih3 _ _ _ _ _ _ _ _ _ _ _ _)
   | (with_reducible exact spec_l10Whole.mono _ _ _ _ _)
   | (with_reducible exact spec_l10Zero.mono _)
   | (with_reducible exact LeO.refl _)
   | (with_reducible exact LeO.none _)
   | (with_reducible refine LeO.ite ?_ ?_)
   | (with_reducible refine LeO.bind ?_ (fun _ => ?_))
   | exact ih0 _ _ _ _ _ _
   | exact ih1 _ _ _ _ _ _ _
   | exact ih2 _ _ _ _ _ _ _ _ _ _ _ _
   | exact ih3 _ _ _ _ _ _ _ _ _ _ _ _
   | exact spec_l10Whole.mono _ _ _ _ _
   | exact spec_l10Zero.mono _
   | exact LeO.none _
   | refine LeO.ite ?_ ?_
   | refine LeO.bind ?_ (fun _ => ?_)
  ·
   intro y0 y1 y2 y3 y4 y5 y6 y7 y8 y9 y10 y11
   unfold spec_GoodRing.j2
   repeat' first
   | (with_reducible exact ih0 _ _ _ _ _ _)
   | (with_reducible exact ih1 _ _ _ _ _ _ _)
   | (with_reducible exact ih2 _ _ _ _ _ _ _ _ _ _ _ _)
   | (with_reducible exact ih3 _ _ _ _ _ _ _ _ _ _ _ _)
   | (with_reducible exact spec_l10Whole.mono _ _ _ _ _)
   | (with_reducible exact spec_l10Zero.mono _)
   | (with_reducible exact LeO.refl _)
   | (with_reducible exact LeO.none _)
   | (with_reducible refine LeO.ite ?_ ?_)
   | (with_reducible refine LeO.bind ?_ (fun _ => ?_))
   | exact ih0 _ _ _ _ _ _
   | exact ih1 _ _ _ _ _ _ _
   | exact ih2 _ _ _ _ _ _ _ _ _ _ _ _
   | exact ih3 _ _ _ _ _ _ _ _ _ _ _ _
   | exact spec_l10Whole.mono _ _ _ _ _
   | exact spec_l10Zero.mono _
   | exact LeO.none _
   | refine LeO.ite ?_ ?_
   | refine LeO.bind ?_ (fun _ => ?_)
  ·
   intro y0 y1 y2 y3 y4 y5 y6 y7 y8 y9 y10 y11
   unfold spec_GoodRing.j3
   repeat' first
   | (with_reducible exact ih0 _ _ _ _ _ _)
   | (with_reducible exact ih1 _ _ _ _ _ _ _)
   | (with_reducible exact ih2 _ _ _ _ _ _ _ _ _ _ _ _)
   | (with_reducible exact ih3 _ _ _ _ _ _ _ _ _ _ _ _)
   | (with_reducible exact spec_l10Whole.mono _ _ _ _ _)
   | (with_reducible exact spec_l10Zero.mono _)
   | (with_reducible exact LeO.refl _)
   | (with_reducible exact LeO.none _)
   | (with_reducible refine LeO.ite ?_ ?_)
   | (with_reducible refine LeO.bind ?_ (fun _ => ?_))
   | exact ih0 _ _ _ _ _ _
   | exact ih1 _ _ _ _ _ _ _
   | exact ih2 _ _ _ _ _ _ _ _ _ _ _ _
   | exact ih3 _ _ _ _ _ _ _ _ _ _ _ _
   | exact spec_l10Whole.mono _ _ _ _ _
   | exact spec_l10Zero.mono _
   | exact LeO.none _
   | refine LeO.ite ?_ ?_
   | refine LeO.bind ?_ (fun _ => ?_)
theorem spec_GoodRing.mono : ∀ a0 a1 a2 a3 k, LeO (spec_GoodRing.f k a0 a1 a2 a3) (spec_GoodRing.f (k + 1) a0 a1 a2 a3) := by
 intro a0 a1 a2 a3 k
 obtain ⟨ih0, ih1, ih2, ih3⟩ := spec_GoodRing.mono_l k
 unfold spec_GoodRing.f
 repeat' first
   | (with_reducible exact ih0 _ _ _ _ _ _)
   | (with_reducible exact ih1 _ _ _ _ _ _ _)
   | (with_reducible exact ih2 _ _ _ _ _ _ _ _ _ _ _ _)
   | (with_reducible exact ih3 _ _ _ _ _ _ _ _ _ _ _ _)
   | (with_reducible exact spec_l10Whole.mono _ _ _ _ _)
   | (with_reducible exact spec_l10Zero.mono _)
   | (with_reducible exact LeO.refl _)
   | (with_reducible exact LeO.none _)
   | (with_reducible refine LeO.ite ?_ ?_)
   | (with_reducible refine LeO.bind ?_ (fun _ => ?_))
   | exact ih0 _ _ _ _ _ _
   | exact ih1 _ _ _ _ _ _ _
   | exact ih2 _ _ _ _ _ _ _ _ _ _ _ _
   | exact ih3 _ _ _ _ _ _ _ _ _ _ _ _
   | exact spec_l10Whole.mono _ _ _ _ _
   | exact spec_l10Zero.mono _
   | exact LeO.none _
   | refine LeO.ite ?_ ?_
   | refine LeO.bind ?_ (fun _ => ?_)
def spec_GoodRing.T2 : Bool × List (List Nat × List Nat) := (true, [([], []), ([0], [0]), ([1], [1]), ([2, 1], [2]), ([3], [3]), ([4, 3], [3, 4]), ([5, 3, 3], [3, 5]), ([6, 3], [3, 6]), ([3, 7], [3, 7]), ([8, 6], [8]), ([9], [9]), ([10, 9], [9, 10]), ([9], [9]), ([12, 9], [9, 12]), ([11, 13, 9, 9], [9, 11, 13]), ([14, 9], [9, 14]), ([9, 15], [9, 15]), ([16, 14], [16]), ([17], [17]), ([18, 17], [17, 18]), ([17], [17]), ([20, 17], [17, 20]), ([19, 21, 17], [17, 19, 21]), ([17], [17]), ([22, 23, 17], [17, 22, 23]), ([17, 24], [17, 24]), ([25, 17], [25]), ([26], [26]), ([27, 26], [26, 27]), ([26], [26]), ([29, 26], [26, 29]), ([26], [26]), ([30, 31, 26], [26, 30, 31]), ([32, 26], [26, 32]), ([28, 33, 26], [26, 28, 33]), ([26, 34], [26, 34])])
def spec_GoodRing.B2 : List Nat := [0, 1, 3, 7, 15, 31, 63, 127, 255, 511, 1023, 2047, 1023, 5119, 16383, 32767, 65535, 131071, 262143, 524287, 262143, 1310719, 4194303, 262143, 16777215, 33554431, 67108863, 134217727, 268435455, 134217727, 671088639, 134217727, 3892314111, 8187281407, 17179869183, 34359738367]
theorem spec_GoodRing.tab2 : rtab .any (opsOf Tryd.f18 2) = spec_GoodRing.T2 := by kernel_rfl
theorem spec_GoodRing.bits2 : waitsOk spec_GoodRing.T2.2 spec_GoodRing.B2 = true := by kernel_rfl
def spec_GoodRing.T9 : Bool × List (List Nat × List Nat) := (true, [([], []), ([0], [0]), ([], []), ([], []), ([2, 3], [2, 3]), ([1, 4], [1, 4]), ([5], [5]), ([], []), ([6, 7], [6, 7])])
def spec_GoodRing.B9 : List Nat := [0, 1, 0, 0, 12, 31, 63, 0, 255]
theorem spec_GoodRing.tab9 : rtab .any (opsOf Tryd.f18 9) = spec_GoodRing.T9 := by kernel_rfl
theorem spec_GoodRing.bits9 : waitsOk spec_GoodRing.T9.2 spec_GoodRing.B9 = true := by kernel_rfl
def spec_GoodRing.T11 : Bool × List (List Nat × List Nat) := (true, [([], []), ([0], [0]), ([], []), ([], []), ([2, 3], [2, 3]), ([1, 4], [1, 4]), ([5], [5]), ([], []), ([7, 6, 0, 1, 2, 3, 4, 5, 6, 7], [6, 7])])
def spec_GoodRing.B11 : List Nat := [0, 1, 0, 0, 12, 31, 63, 0, 255]
theorem spec_GoodRing.tab11 : rtab .any (opsOf Tryd.f18 11) = spec_GoodRing.T11 := by kernel_rfl
theorem spec_GoodRing.bits11 : waitsOk spec_GoodRing.T11.2 spec_GoodRing.B11 = true := by kernel_rfl
def spec_GoodRing.T12 : Bool × List (List Nat × List Nat) := (true, [([], []), ([], []), ([1], [1]), ([0, 2], [0, 2]), ([3], [3]), ([4], [4]), ([4, 4], [4]), ([5, 6, 4], [4, 5, 6]), ([4, 7], [4, 7])])
def spec_GoodRing.B12 : List Nat := [0, 0, 2, 7, 15, 31, 31, 127, 255]
theorem spec_GoodRing.tab12 : rtab .any (opsOf Tryd.f18 12) = spec_GoodRing.T12 := by kernel_rfl
theorem spec_GoodRing.bits12 : waitsOk spec_GoodRing.T12.2 spec_GoodRing.B12 = true := by kernel_rfl
def spec_GoodRing.T13 : Bool × List (List Nat × List Nat) := (true, [([], []), ([0], [0]), ([1], [1]), ([2, 1], [2]), ([3], [3]), ([4, 3], [3, 4]), ([3], [3]), ([3], [3]), ([6, 7, 3], [3, 6, 7]), ([8, 3], [3, 8]), ([5, 9, 3], [3, 5, 9]), ([3, 10], [3, 10])])
def spec_GoodRing.B13 : List Nat := [0, 1, 3, 7, 15, 31, 15, 15, 207, 463, 1023, 2047]
theorem spec_GoodRing.tab13 : rtab .any (opsOf Tryd.f18 13) = spec_GoodRing.T13 := by kernel_rfl
theorem spec_GoodRing.bits13 : waitsOk spec_GoodRing.T13.2 spec_GoodRing.B13 = true := by kernel_rfl
set_option maxHeartbeats 8000000 in
set_option maxRecDepth 100000 in
theorem spec_GoodRing.calls (k : Nat) (A0_0 : Option Addr) (c0_0 : Nat) (l0_0 : List (S26)) (a0_1 : Int) (a0_2 : Int) (a0_3 : Int) (r : Bool) (w : World) (hr0_0 : Kd.C k26 w A0_0 l0_0.length l0_0) (hc0_0 : l0_0.length ≤ c0_0) (h : spec_GoodRing.f k l0_0 a0_1 a0_2 a0_3 = some r) :
  Calls Tryd.prog 18 #[.agg #[.slice A0_0 l0_0.length c0_0, .int .i64 a0_1, .int .i64 a0_2, .int .i64 a0_3]] w fun e w' => e = .returned (.bool r) ∧ Below w.heap.size w w' := by
 have hu36 := Tryd.underlying36
 have hu26 := Tryd.underlying26
 have HR0_0 := Aside0.mk hr0_0
 have HC0_0 := Aside0.mk hc0_0
 clear hr0_0 hc0_0
 have HB := Aside0.mk (Below.refl w.heap.size w)
 have H : ((spec_l1In.f (l0_0.length : Int) 2 24).bind fun t153 => (if t153 = true then ((spec_l1In.f a0_1 0 10000000).bind fun t154 => (if t154 = true then ((spec_l1In.f a0_3 0 a0_1).bind fun t155 => (if t155 = true then (if (wrap64 (a0_1 - a0_3)) > (l0_0.length : Int) then (spec_GoodRing.j0 k (l0_0.length : Int) true l0_0 a0_1 a0_2 a0_3) else (if (l0_0.length : Int) = 0 then (none) else (spec_GoodRing.j0 k (l0_0.length : Int) (a0_2 != (wrap64 ((wrap64 (Int.tdiv a0_1 (l0_0.length : Int))) + 1))) l0_0 a0_1 a0_2 a0_3))) else (spec_GoodRing.j0 k (l0_0.length : Int) true l0_0 a0_1 a0_2 a0_3))) else (spec_GoodRing.j0 k (l0_0.length : Int) true l0_0 a0_1 a0_2 a0_3))) else (spec_GoodRing.j0 k (l0_0.length : Int) true l0_0 a0_1 a0_2 a0_3))) = some r := h
 clear h
 have HC2 := Aside0.mk H
 clear H
 go_enter Tryd.func18, Tryd.ntmps18
 go_upto_region 2 with (first | ((with_reducible refine gate_dst (N := 1) rfl ?_); refine box_event ?hg (N := 1) ?hd (cs := #[.slice A0_0 l0_0.length c0_0, .int .i64 a0_1, .int .i64 a0_2, .int .i64 a0_3]) (t := 36) ?hr ?_; (case hd => rfl); (case hg => rfl); (case hr => first | (go_simp; done) | (go_simp; rfl)); intro gb152 hg w3 hbox hb; have BK152 := Aside0.mk (hbox); have GW152 := Aside0.mk ((by rw [hg]; exact (below_size (bs HB)) : w.heap.size ≤ gb152)); have GE152 := Aside0.mk ((by rw [hg]; exact (below_size (bs HB)) : w.heap.size ≤ gb152)); replace HB := Aside0.mk (below_step (bs HB) hb); clear hb hbox hg; obtain ⟨hcz4_0, hcz4_1, hcz4_2, hcz4_3⟩ := cz4 BK152; obtain ⟨hfz4_0, hfz4_1, hfz4_2, hfz4_3⟩ := fz4 BK152))
 (try simp only [Act.put, List.setIfInBounds_toArray, List.set_cons_zero, List.set_cons_succ])
 go_cut [45] (fun v45 wc => ∃ (kq : Nat) (x45_1 : Bool), v45 = .bool x45_1 ∧ Aside0 (spec_GoodRing.j0 kq (l0_0.length : Int) x45_1 l0_0 a0_1 a0_2 a0_3 = some r) ∧ Aside0 (kq ≤ k) ∧ Aside0 (wc.heap[gb152]? = some (.cells #[(.slice A0_0 l0_0.length c0_0), .int .i64 a0_1, .int .i64 a0_2, .int .i64 a0_3] 36 (0, 0))) ∧ Aside0 (Below w.heap.size w wc))
 case first =>
  have H := HC2.out
  clear HC2
  replace H := Option.bind_eq_some_iff.mp H
  obtain ⟨t153, A50, H⟩ := H
  replace H : (if t153 = true then ((spec_l1In.f a0_1 0 10000000).bind fun t154 => (if t154 = true then ((spec_l1In.f a0_3 0 a0_1).bind fun t155 => (if t155 = true then (if (wrap64 (a0_1 - a0_3)) > (l0_0.length : Int) then (spec_GoodRing.j0 k (l0_0.length : Int) true l0_0 a0_1 a0_2 a0_3) else (if (l0_0.length : Int) = 0 then (none) else (spec_GoodRing.j0 k (l0_0.length : Int) (a0_2 != (wrap64 ((wrap64 (Int.tdiv a0_1 (l0_0.length : Int))) + 1))) l0_0 a0_1 a0_2 a0_3))) else (spec_GoodRing.j0 k (l0_0.length : Int) true l0_0 a0_1 a0_2 a0_3))) else (spec_GoodRing.j0 k (l0_0.length : Int) true l0_0 a0_1 a0_2 a0_3))) else (spec_GoodRing.j0 k (l0_0.length : Int) true l0_0 a0_1 a0_2 a0_3)) = some r := H
  have A5 := Aside0.mk A50
  clear A50
  by_cases c6 : t153 = true
  ·
   subst c6
   rw [if_pos rfl] at H
   replace H := Option.bind_eq_some_iff.mp H
   obtain ⟨t154, A70, H⟩ := H
   replace H : (if t154 = true then ((spec_l1In.f a0_3 0 a0_1).bind fun t155 => (if t155 = true then (if (wrap64 (a0_1 - a0_3)) > (l0_0.length : Int) then (spec_GoodRing.j0 k (l0_0.length : Int) true l0_0 a0_1 a0_2 a0_3) else (if (l0_0.length : Int) = 0 then (none) else (spec_GoodRing.j0 k (l0_0.length : Int) (a0_2 != (wrap64 ((wrap64 (Int.tdiv a0_1 (l0_0.length : Int))) + 1))) l0_0 a0_1 a0_2 a0_3))) else (spec_GoodRing.j0 k (l0_0.length : Int) true l0_0 a0_1 a0_2 a0_3))) else (spec_GoodRing.j0 k (l0_0.length : Int) true l0_0 a0_1 a0_2 a0_3)) = some r := H
   have A7 := Aside0.mk A70
   clear A70
   by_cases c8 : t154 = true
   ·
    subst c8
    rw [if_pos rfl] at H
    replace H := Option.bind_eq_some_iff.mp H
    obtain ⟨t155, A90, H⟩ := H
    replace H : (if t155 = true then (if (wrap64 (a0_1 - a0_3)) > (l0_0.length : Int) then (spec_GoodRing.j0 k (l0_0.length : Int) true l0_0 a0_1 a0_2 a0_3) else (if (l0_0.length : Int) = 0 then (none) else (spec_GoodRing.j0 k (l0_0.length : Int) (a0_2 != (wrap64 ((wrap64 (Int.tdiv a0_1 (l0_0.length : Int))) + 1))) l0_0 a0_1 a0_2 a0_3))) else (spec_GoodRing.j0 k (l0_0.length : Int) true l0_0 a0_1 a0_2 a0_3)) = some r := H
    have A9 := Aside0.mk A90
    clear A90
    by_cases c10 : t155 = true
    ·
     subst c10
     rw [if_pos rfl] at H
     by_cases c11 : (wrap64 (a0_1 - a0_3)) > (l0_0.length : Int)
     ·
      rw [if_pos c11] at H
      have c11b0 : decide ((l0_0.length : Int) < (wrap64 (a0_1 - a0_3))) = true := decide_eq_true c11
      clear c11
      (first | rw [c11b0] | (simp only [i64_w, i32_w]; rw [c11b0]) | (simp only [c11b2, Bool.not_false, Bool.not_true]) | skip)
      have H' := Aside0.mk H
      clear H
      try go_wp2
      have n0_ := Aside0.mk (blk_drew BK152.out)
      have n1_ := Aside0.mk (below_drew1 HB.out)
      clear BK152
      clear HB
      have BK152 := n0_
      have HB := n1_
      clear n0_ n1_
      refine start_ (n := 36) (S := fun w' => w'.cell? ⟨gb152, 0, none⟩ = some (.slice A0_0 l0_0.length c0_0) ∧ w'.cell? ⟨gb152, 1, none⟩ = some (.int .i64 a0_1) ∧ w'.cell? ⟨gb152, 2, none⟩ = some (.int .i64 a0_2) ∧ w'.cell? ⟨gb152, 3, none⟩ = some (.int .i64 a0_3)) (ds := []) #[false, false, false, false, false, false, false, false, false, false, false, false, false, false, false, false, false, false, false, false, false, false, false, false, false, false, false, false, false, false, false, false, false, false, false, false] (by kernel_rfl) rfl rfl ⟨(blk_cell BK152.out 0).trans rfl, (blk_cell BK152.out 1).trans rfl, (blk_cell BK152.out 2).trans rfl, (blk_cell BK152.out 3).trans rfl⟩ (fun hHeld => ?_); refine with_tabW spec_GoodRing.tab2 spec_GoodRing.bits2 (fun HT_ HW_ => ?_)
      generalize w3.drew = w12 at BK152 HB hHeld ⊢
      refine pureS 0 10 HT_.out ?_
      refine one_ (i := 1) (N := some 11) #[true, true, false, false, false, false, false, false, false, false, false, false, false, false, false, false, false, false, false, false, false, false, false, false, false, false, false, false, false, false, false, false, false, false, false, false] rfl rfl (one_of HT_.out (by kernel_rfl)) (by decide) (fun K hK => ?_)
      refine goes_ Tryd.func55 (by kernel_rfl) rfl #[.int .i64 (l0_0.length : Int), .int .i64 2, .int .i64 24] (by rfl) rfl rfl (by (try simp only [List.map_toArray, List.map_cons, List.map_nil]); first | done | rfl | (simp only [List.length_drop, List.length_take]; rfl)) ?_
      with_reducible refine (spec_l1In.calls (l0_0.length : Int) 2 24 true _ A5.out).mono ?_
      rintro e w' ⟨rfl, ⟨nd, rfl⟩⟩
      refine ⟨_, rfl, ?_⟩
      refine hK.out _ _ ⟨(blk_cell BK152.out 0).trans rfl, (blk_cell BK152.out 1).trans rfl, (blk_cell BK152.out 2).trans rfl, (blk_cell BK152.out 3).trans rfl⟩ (fun hHeld => ?_)
      clear hK K
      refine norm_ (a' := ?_) ?_ ?_
      rotate_left
      ·
       show Act.put _ (some 11) _ = _
       simp only [Act.put, List.setIfInBounds_toArray, List.set_cons_zero, List.set_cons_succ, i64_w, i32_w]
       rfl
      refine pureS 2 12 HT_.out ?_
      refine pureS 3 13 HT_.out ?_
      refine pureS 4 14 HT_.out ?_
      refine takeS 5 15 HT_.out HW_.out hHeld (hr := by rintro w' ⟨s0, s1, s2, s3⟩; go_simp; with_reducible rfl) (h := ?_)
      refine one_ (i := 6) (N := some 16) #[true, true, true, true, true, true, true, false, false, false, false, false, false, false, false, false, false, false, false, false, false, false, false, false, false, false, false, false, false, false, false, false, false, false, false, false] rfl rfl (one_of HT_.out (by kernel_rfl)) (by decide) (fun K hK => ?_)
      refine goes_ Tryd.func55 (by kernel_rfl) rfl #[.int .i64 a0_1, .int .i64 0, .int .i64 10000000] (by rfl) rfl rfl (by (try simp only [List.map_toArray, List.map_cons, List.map_nil]); first | done | rfl | (simp only [List.length_drop, List.length_take]; rfl)) ?_
      with_reducible refine (spec_l1In.calls a0_1 0 10000000 true _ A7.out).mono ?_
      rintro e w' ⟨rfl, ⟨nd, rfl⟩⟩
      refine ⟨_, rfl, ?_⟩
      refine hK.out _ _ ⟨(blk_cell BK152.out 0).trans rfl, (blk_cell BK152.out 1).trans rfl, (blk_cell BK152.out 2).trans rfl, (blk_cell BK152.out 3).trans rfl⟩ (fun hHeld => ?_)
      clear hK K
      refine norm_ (a' := ?_) ?_ ?_
      rotate_left
      ·
       show Act.put _ (some 16) _ = _
       simp only [Act.put, List.setIfInBounds_toArray, List.set_cons_zero, List.set_cons_succ, i64_w, i32_w]
       rfl
      refine pureS 7 17 HT_.out ?_
      refine pureS 8 18 HT_.out ?_
      refine pureS 9 19 HT_.out ?_
      refine pureS 10 20 HT_.out ?_
      refine pureS 12 22 HT_.out ?_
      refine takeS 11 21 HT_.out HW_.out hHeld (hr := by rintro w' ⟨s0, s1, s2, s3⟩; go_simp; with_reducible rfl) (h := ?_)
      refine takeS 13 23 HT_.out HW_.out hHeld (hr := by rintro w' ⟨s0, s1, s2, s3⟩; go_simp; with_reducible rfl) (h := ?_)
      refine one_ (i := 14) (N := some 24) #[true, true, true, true, true, true, true, true, true, true, true, true, true, true, true, false, false, false, false, false, false, false, false, false, false, false, false, false, false, false, false, false, false, false, false, false] rfl rfl (one_of HT_.out (by kernel_rfl)) (by decide) (fun K hK => ?_)
      refine goes_ Tryd.func55 (by kernel_rfl) rfl #[.int .i64 a0_3, .int .i64 0, .int .i64 a0_1] (by rfl) rfl rfl (by (try simp only [List.map_toArray, List.map_cons, List.map_nil]); first | done | rfl | (simp only [List.length_drop, List.length_take]; rfl)) ?_
      with_reducible refine (spec_l1In.calls a0_3 0 a0_1 true _ A9.out).mono ?_
      rintro e w' ⟨rfl, ⟨nd, rfl⟩⟩
      refine ⟨_, rfl, ?_⟩
      refine hK.out _ _ ⟨(blk_cell BK152.out 0).trans rfl, (blk_cell BK152.out 1).trans rfl, (blk_cell BK152.out 2).trans rfl, (blk_cell BK152.out 3).trans rfl⟩ (fun hHeld => ?_)
      clear hK K
      refine norm_ (a' := ?_) ?_ ?_
      rotate_left
      ·
       show Act.put _ (some 24) _ = _
       simp only [Act.put, List.setIfInBounds_toArray, List.set_cons_zero, List.set_cons_succ, i64_w, i32_w]
       rfl
      refine pureS 15 25 HT_.out ?_
      refine pureS 16 26 HT_.out ?_
      refine pureS 17 27 HT_.out ?_
      refine pureS 18 28 HT_.out ?_
      refine pureS 20 30 HT_.out ?_
      refine pureS 23 33 HT_.out ?_
      refine takeS 19 29 HT_.out HW_.out hHeld (hr := by rintro w' ⟨s0, s1, s2, s3⟩; go_simp; with_reducible rfl) (h := ?_)
      refine takeS 21 31 HT_.out HW_.out hHeld (hr := by rintro w' ⟨s0, s1, s2, s3⟩; go_simp; with_reducible rfl) (h := ?_)
      refine pureS 22 32 HT_.out ?_
      refine pureS 24 34 HT_.out ?_
      refine pureS 25 35 HT_.out ?_
      refine pureS 26 36 HT_.out ?_
      refine pureU 27 37 HT_.out ?_
      refine pureU 28 38 HT_.out ?_
      refine pureU 29 39 HT_.out ?_
      refine pureU 30 40 HT_.out ?_
      refine pureU 31 41 HT_.out ?_
      refine pureU 32 42 HT_.out ?_
      refine pureU 33 43 HT_.out ?_
      refine pureU 34 44 HT_.out ?_
      refine pureS 35 45 HT_.out ?_
      refine done_ (done_of HT_.out (by kernel_rfl)) ?_
      try go_wp2
      go_meet
      case rel => exact ⟨_, (true), (by first | rfl | (simp; done) | (simp [*]; done)), H', ⟨by first | omega | exact Nat.le_refl _⟩, ⟨bk BK152⟩, ⟨bs1 HB GE152⟩⟩
     ·
      rw [if_neg c11] at H
      have c11b0 : decide ((l0_0.length : Int) < (wrap64 (a0_1 - a0_3))) = false := decide_eq_false c11
      clear c11
      (first | rw [c11b0] | (simp only [i64_w, i32_w]; rw [c11b0]) | (simp only [c11b2, Bool.not_false, Bool.not_true]) | skip)
      by_cases c13 : (l0_0.length : Int) = 0
      ·
       rw [if_pos c13] at H
       exact absurd H (by simp)
      ·
       rw [if_neg c13] at H
       have c13b0 : ((l0_0.length : Int) == 0) = false := beq_eq_false_iff_ne.mpr c13
       have c13b1 : ((l0_0.length : Int) != 0) = true := bne_iff_ne.mpr c13
       have c13b2 : ¬ (l0_0 = []) := fun h_ => c13 (by rw [h_]; rfl)
       have H' := Aside0.mk H
       clear H
       try go_wp2
       have n0_ := Aside0.mk (blk_drew BK152.out)
       have n1_ := Aside0.mk (below_drew1 HB.out)
       clear BK152
       clear HB
       have BK152 := n0_
       have HB := n1_
       clear n0_ n1_
       refine start_ (n := 36) (S := fun w' => w'.cell? ⟨gb152, 0, none⟩ = some (.slice A0_0 l0_0.length c0_0) ∧ w'.cell? ⟨gb152, 1, none⟩ = some (.int .i64 a0_1) ∧ w'.cell? ⟨gb152, 2, none⟩ = some (.int .i64 a0_2) ∧ w'.cell? ⟨gb152, 3, none⟩ = some (.int .i64 a0_3)) (ds := []) #[false, false, false, false, false, false, false, false, false, false, false, false, false, false, false, false, false, false, false, false, false, false, false, false, false, false, false, false, false, false, false, false, false, false, false, false] (by kernel_rfl) rfl rfl ⟨(blk_cell BK152.out 0).trans rfl, (blk_cell BK152.out 1).trans rfl, (blk_cell BK152.out 2).trans rfl, (blk_cell BK152.out 3).trans rfl⟩ (fun hHeld => ?_); refine with_tabW spec_GoodRing.tab2 spec_GoodRing.bits2 (fun HT_ HW_ => ?_)
       generalize w3.drew = w14 at BK152 HB hHeld ⊢
       refine pureS 0 10 HT_.out ?_
       refine one_ (i := 1) (N := some 11) #[true, true, false, false, false, false, false, false, false, false, false, false, false, false, false, false, false, false, false, false, false, false, false, false, false, false, false, false, false, false, false, false, false, false, false, false] rfl rfl (one_of HT_.out (by kernel_rfl)) (by decide) (fun K hK => ?_)
       refine goes_ Tryd.func55 (by kernel_rfl) rfl #[.int .i64 (l0_0.length : Int), .int .i64 2, .int .i64 24] (by rfl) rfl rfl (by (try simp only [List.map_toArray, List.map_cons, List.map_nil]); first | done | rfl | (simp only [List.length_drop, List.length_take]; rfl)) ?_
       with_reducible refine (spec_l1In.calls (l0_0.length : Int) 2 24 true _ A5.out).mono ?_
       rintro e w' ⟨rfl, ⟨nd, rfl⟩⟩
       refine ⟨_, rfl, ?_⟩
       refine hK.out _ _ ⟨(blk_cell BK152.out 0).trans rfl, (blk_cell BK152.out 1).trans rfl, (blk_cell BK152.out 2).trans rfl, (blk_cell BK152.out 3).trans rfl⟩ (fun hHeld => ?_)
       clear hK K
       refine norm_ (a' := ?_) ?_ ?_
       rotate_left
       ·
        show Act.put _ (some 11) _ = _
        simp only [Act.put, List.setIfInBounds_toArray, List.set_cons_zero, List.set_cons_succ, i64_w, i32_w]
        rfl
       refine pureS 2 12 HT_.out ?_
       refine pureS 3 13 HT_.out ?_
       refine pureS 4 14 HT_.out ?_
       refine takeS 5 15 HT_.out HW_.out hHeld (hr := by rintro w' ⟨s0, s1, s2, s3⟩; go_simp; with_reducible rfl) (h := ?_)
       refine one_ (i := 6) (N := some 16) #[true, true, true, true, true, true, true, false, false, false, false, false, false, false, false, false, false, false, false, false, false, false, false, false, false, false, false, false, false, false, false, false, false, false, false, false] rfl rfl (one_of HT_.out (by kernel_rfl)) (by decide) (fun K hK => ?_)
       refine goes_ Tryd.func55 (by kernel_rfl) rfl #[.int .i64 a0_1, .int .i64 0, .int .i64 10000000] (by rfl) rfl rfl (by (try simp only [List.map_toArray, List.map_cons, List.map_nil]); first | done | rfl | (simp only [List.length_drop, List.length_take]; rfl)) ?_
       with_reducible refine (spec_l1In.calls a0_1 0 10000000 true _ A7.out).mono ?_
       rintro e w' ⟨rfl, ⟨nd, rfl⟩⟩
       refine ⟨_, rfl, ?_⟩
       refine hK.out _ _ ⟨(blk_cell BK152.out 0).trans rfl, (blk_cell BK152.out 1).trans rfl, (blk_cell BK152.out 2).trans rfl, (blk_cell BK152.out 3).trans rfl⟩ (fun hHeld => ?_)
       clear hK K
       refine norm_ (a' := ?_) ?_ ?_
       rotate_left
       ·
        show Act.put _ (some 16) _ = _
        simp only [Act.put, List.setIfInBounds_toArray, List.set_cons_zero, List.set_cons_succ, i64_w, i32_w]
        rfl
       refine pureS 7 17 HT_.out ?_
       refine pureS 8 18 HT_.out ?_
       refine pureS 9 19 HT_.out ?_
       refine pureS 10 20 HT_.out ?_
       refine pureS 12 22 HT_.out ?_
       refine takeS 11 21 HT_.out HW_.out hHeld (hr := by rintro w' ⟨s0, s1, s2, s3⟩; go_simp; with_reducible rfl) (h := ?_)
       refine takeS 13 23 HT_.out HW_.out hHeld (hr := by rintro w' ⟨s0, s1, s2, s3⟩; go_simp; with_reducible rfl) (h := ?_)
       refine one_ (i := 14) (N := some 24) #[true, true, true, true, true, true, true, true, true, true, true, true, true, true, true, false, false, false, false, false, false, false, false, false, false, false, false, false, false, false, false, false, false, false, false, false] rfl rfl (one_of HT_.out (by kernel_rfl)) (by decide) (fun K hK => ?_)
       refine goes_ Tryd.func55 (by kernel_rfl) rfl #[.int .i64 a0_3, .int .i64 0, .int .i64 a0_1] (by rfl) rfl rfl (by (try simp only [List.map_toArray, List.map_cons, List.map_nil]); first | done | rfl | (simp only [List.length_drop, List.length_take]; rfl)) ?_
       with_reducible refine (spec_l1In.calls a0_3 0 a0_1 true _ A9.out).mono ?_
       rintro e w' ⟨rfl, ⟨nd, rfl⟩⟩
       refine ⟨_, rfl, ?_⟩
       refine hK.out _ _ ⟨(blk_cell BK152.out 0).trans rfl, (blk_cell BK152.out 1).trans rfl, (blk_cell BK152.out 2).trans rfl, (blk_cell BK152.out 3).trans rfl⟩ (fun hHeld => ?_)
       clear hK K
       refine norm_ (a' := ?_) ?_ ?_
       rotate_left
       ·
        show Act.put _ (some 24) _ = _
        simp only [Act.put, List.setIfInBounds_toArray, List.set_cons_zero, List.set_cons_succ, i64_w, i32_w]
        rfl
       refine pureS 15 25 HT_.out ?_
       refine pureS 16 26 HT_.out ?_
       refine pureS 17 27 HT_.out ?_
       refine pureS 18 28 HT_.out ?_
       refine pureS 20 30 HT_.out ?_
       refine pureS 23 33 HT_.out ?_
       refine takeS 19 29 HT_.out HW_.out hHeld (hr := by rintro w' ⟨s0, s1, s2, s3⟩; go_simp; with_reducible rfl) (h := ?_)
       refine takeS 21 31 HT_.out HW_.out hHeld (hr := by rintro w' ⟨s0, s1, s2, s3⟩; go_simp; with_reducible rfl) (h := ?_)
       refine pureS 22 32 HT_.out ?_
       refine pureS 24 34 HT_.out ?_
       refine pureS 25 35 HT_.out ?_
       refine pureS 26 36 HT_.out ?_
       refine pureS 27 37 HT_.out ?_
       refine pureS 29 39 HT_.out ?_
       refine pureS 31 41 HT_.out ?_
       refine takeS 28 38 HT_.out HW_.out hHeld (hr := by rintro w' ⟨s0, s1, s2, s3⟩; go_simp; with_reducible rfl) (h := ?_)
       refine takeS 30 40 HT_.out HW_.out hHeld (hr := by rintro w' ⟨s0, s1, s2, s3⟩; go_simp; with_reducible rfl) (h := ?_)
       refine pureS 32 42 HT_.out ?_
       refine pureS 33 43 HT_.out ?_
       refine pureS 34 44 HT_.out ?_
       refine pureS 35 45 HT_.out ?_
       refine done_ (done_of HT_.out (by kernel_rfl)) ?_
       try go_wp2
       go_meet
       case rel => exact ⟨_, ((a0_2 != (wrap64 ((wrap64 (Int.tdiv a0_1 (l0_0.length : Int))) + 1)))), (by first | rfl | (simp; done) | (simp [*]; done)), H', ⟨by first | omega | exact Nat.le_refl _⟩, ⟨bk BK152⟩, ⟨bs1 HB GE152⟩⟩
    ·
     replace c10 := Bool.eq_false_iff.mpr c10
     subst c10
     rw [if_neg (show ¬ (false = true) by decide)] at H
     have H' := Aside0.mk H
     clear H
     try go_wp2
     have n0_ := Aside0.mk (blk_drew BK152.out)
     have n1_ := Aside0.mk (below_drew1 HB.out)
     clear BK152
     clear HB
     have BK152 := n0_
     have HB := n1_
     clear n0_ n1_
     refine start_ (n := 36) (S := fun w' => w'.cell? ⟨gb152, 0, none⟩ = some (.slice A0_0 l0_0.length c0_0) ∧ w'.cell? ⟨gb152, 1, none⟩ = some (.int .i64 a0_1) ∧ w'.cell? ⟨gb152, 2, none⟩ = some (.int .i64 a0_2) ∧ w'.cell? ⟨gb152, 3, none⟩ = some (.int .i64 a0_3)) (ds := []) #[false, false, false, false, false, false, false, false, false, false, false, false, false, false, false, false, false, false, false, false, false, false, false, false, false, false, false, false, false, false, false, false, false, false, false, false] (by kernel_rfl) rfl rfl ⟨(blk_cell BK152.out 0).trans rfl, (blk_cell BK152.out 1).trans rfl, (blk_cell BK152.out 2).trans rfl, (blk_cell BK152.out 3).trans rfl⟩ (fun hHeld => ?_); refine with_tabW spec_GoodRing.tab2 spec_GoodRing.bits2 (fun HT_ HW_ => ?_)
     generalize w3.drew = w15 at BK152 HB hHeld ⊢
     refine pureS 0 10 HT_.out ?_
     refine one_ (i := 1) (N := some 11) #[true, true, false, false, false, false, false, false, false, false, false, false, false, false, false, false, false, false, false, false, false, false, false, false, false, false, false, false, false, false, false, false, false, false, false, false] rfl rfl (one_of HT_.out (by kernel_rfl)) (by decide) (fun K hK => ?_)
     refine goes_ Tryd.func55 (by kernel_rfl) rfl #[.int .i64 (l0_0.length : Int), .int .i64 2, .int .i64 24] (by rfl) rfl rfl (by (try simp only [List.map_toArray, List.map_cons, List.map_nil]); first | done | rfl | (simp only [List.length_drop, List.length_take]; rfl)) ?_
     with_reducible refine (spec_l1In.calls (l0_0.length : Int) 2 24 true _ A5.out).mono ?_
     rintro e w' ⟨rfl, ⟨nd, rfl⟩⟩
     refine ⟨_, rfl, ?_⟩
     refine hK.out _ _ ⟨(blk_cell BK152.out 0).trans rfl, (blk_cell BK152.out 1).trans rfl, (blk_cell BK152.out 2).trans rfl, (blk_cell BK152.out 3).trans rfl⟩ (fun hHeld => ?_)
     clear hK K
     refine norm_ (a' := ?_) ?_ ?_
     rotate_left
     ·
      show Act.put _ (some 11) _ = _
      simp only [Act.put, List.setIfInBounds_toArray, List.set_cons_zero, List.set_cons_succ, i64_w, i32_w]
      rfl
     refine pureS 2 12 HT_.out ?_
     refine pureS 3 13 HT_.out ?_
     refine pureS 4 14 HT_.out ?_
     refine takeS 5 15 HT_.out HW_.out hHeld (hr := by rintro w' ⟨s0, s1, s2, s3⟩; go_simp; with_reducible rfl) (h := ?_)
     refine one_ (i := 6) (N := some 16) #[true, true, true, true, true, true, true, false, false, false, false, false, false, false, false, false, false, false, false, false, false, false, false, false, false, false, false, false, false, false, false, false, false, false, false, false] rfl rfl (one_of HT_.out (by kernel_rfl)) (by decide) (fun K hK => ?_)
     refine goes_ Tryd.func55 (by kernel_rfl) rfl #[.int .i64 a0_1, .int .i64 0, .int .i64 10000000] (by rfl) rfl rfl (by (try simp only [List.map_toArray, List.map_cons, List.map_nil]); first | done | rfl | (simp only [List.length_drop, List.length_take]; rfl)) ?_
     with_reducible refine (spec_l1In.calls a0_1 0 10000000 true _ A7.out).mono ?_
     rintro e w' ⟨rfl, ⟨nd, rfl⟩⟩
     refine ⟨_, rfl, ?_⟩
     refine hK.out _ _ ⟨(blk_cell BK152.out 0).trans rfl, (blk_cell BK152.out 1).trans rfl, (blk_cell BK152.out 2).trans rfl, (blk_cell BK152.out 3).trans rfl⟩ (fun hHeld => ?_)
     clear hK K
     refine norm_ (a' := ?_) ?_ ?_
     rotate_left
     ·
      show Act.put _ (some 16) _ = _
      simp only [Act.put, List.setIfInBounds_toArray, List.set_cons_zero, List.set_cons_succ, i64_w, i32_w]
      rfl
     refine pureS 7 17 HT_.out ?_
     refine pureS 8 18 HT_.out ?_
     refine pureS 9 19 HT_.out ?_
     refine pureS 10 20 HT_.out ?_
     refine pureS 12 22 HT_.out ?_
     refine takeS 11 21 HT_.out HW_.out hHeld (hr := by rintro w' ⟨s0, s1, s2, s3⟩; go_simp; with_reducible rfl) (h := ?_)
     refine takeS 13 23 HT_.out HW_.out hHeld (hr := by rintro w' ⟨s0, s1, s2, s3⟩; go_simp; with_reducible rfl) (h := ?_)
     refine one_ (i := 14) (N := some 24) #[true, true, true, true, true, true, true, true, true, true, true, true, true, true, true, false, false, false, false, false, false, false, false, false, false, false, false, false, false, false, false, false, false, false, false, false] rfl rfl (one_of HT_.out (by kernel_rfl)) (by decide) (fun K hK => ?_)
     refine goes_ Tryd.func55 (by kernel_rfl) rfl #[.int .i64 a0_3, .int .i64 0, .int .i64 a0_1] (by rfl) rfl rfl (by (try simp only [List.map_toArray, List.map_cons, List.map_nil]); first | done | rfl | (simp only [List.length_drop, List.length_take]; rfl)) ?_
     with_reducible refine (spec_l1In.calls a0_3 0 a0_1 false _ A9.out).mono ?_
     rintro e w' ⟨rfl, ⟨nd, rfl⟩⟩
     refine ⟨_, rfl, ?_⟩
     refine hK.out _ _ ⟨(blk_cell BK152.out 0).trans rfl, (blk_cell BK152.out 1).trans rfl, (blk_cell BK152.out 2).trans rfl, (blk_cell BK152.out 3).trans rfl⟩ (fun hHeld => ?_)
     clear hK K
     refine norm_ (a' := ?_) ?_ ?_
     rotate_left
     ·
      show Act.put _ (some 24) _ = _
      simp only [Act.put, List.setIfInBounds_toArray, List.set_cons_zero, List.set_cons_succ, i64_w, i32_w]
      rfl
     refine pureS 15 25 HT_.out ?_
     refine pureS 16 26 HT_.out ?_
     refine pureS 17 27 HT_.out ?_
     refine pureU 18 28 HT_.out ?_
     refine pureU 19 29 HT_.out ?_
     refine pureU 20 30 HT_.out ?_
     refine pureU 21 31 HT_.out ?_
     refine pureU 22 32 HT_.out ?_
     refine pureU 23 33 HT_.out ?_
     refine pureU 24 34 HT_.out ?_
     refine pureS 25 35 HT_.out ?_
     refine pureS 26 36 HT_.out ?_
     refine pureU 27 37 HT_.out ?_
     refine pureU 28 38 HT_.out ?_
     refine pureU 29 39 HT_.out ?_
     refine pureU 30 40 HT_.out ?_
     refine pureU 31 41 HT_.out ?_
     refine pureU 32 42 HT_.out ?_
     refine pureU 33 43 HT_.out ?_
     refine pureU 34 44 HT_.out ?_
     refine pureS 35 45 HT_.out ?_
     refine done_ (done_of HT_.out (by kernel_rfl)) ?_
     try go_wp2
     go_meet
     case rel => exact ⟨_, (true), (by first | rfl | (simp; done) | (simp [*]; done)), H', ⟨by first | omega | exact Nat.le_refl _⟩, ⟨bk BK152⟩, ⟨bs1 HB GE152⟩⟩
   ·
    replace c8 := Bool.eq_false_iff.mpr c8
    subst c8
    rw [if_neg (show ¬ (false = true) by decide)] at H
    have H' := Aside0.mk H
    clear H
    try go_wp2
    have n0_ := Aside0.mk (blk_drew BK152.out)
    have n1_ := Aside0.mk (below_drew1 HB.out)
    clear BK152
    clear HB
    have BK152 := n0_
    have HB := n1_
    clear n0_ n1_
    refine start_ (n := 36) (S := fun w' => w'.cell? ⟨gb152, 0, none⟩ = some (.slice A0_0 l0_0.length c0_0) ∧ w'.cell? ⟨gb152, 1, none⟩ = some (.int .i64 a0_1) ∧ w'.cell? ⟨gb152, 2, none⟩ = some (.int .i64 a0_2) ∧ w'.cell? ⟨gb152, 3, none⟩ = some (.int .i64 a0_3)) (ds := []) #[false, false, false, false, false, false, false, false, false, false, false, false, false, false, false, false, false, false, false, false, false, false, false, false, false, false, false, false, false, false, false, false, false, false, false, false] (by kernel_rfl) rfl rfl ⟨(blk_cell BK152.out 0).trans rfl, (blk_cell BK152.out 1).trans rfl, (blk_cell BK152.out 2).trans rfl, (blk_cell BK152.out 3).trans rfl⟩ (fun hHeld => ?_); refine with_tabW spec_GoodRing.tab2 spec_GoodRing.bits2 (fun HT_ HW_ => ?_)
    generalize w3.drew = w16 at BK152 HB hHeld ⊢
    refine pureS 0 10 HT_.out ?_
    refine one_ (i := 1) (N := some 11) #[true, true, false, false, false, false, false, false, false, false, false, false, false, false, false, false, false, false, false, false, false, false, false, false, false, false, false, false, false, false, false, false, false, false, false, false] rfl rfl (one_of HT_.out (by kernel_rfl)) (by decide) (fun K hK => ?_)
    refine goes_ Tryd.func55 (by kernel_rfl) rfl #[.int .i64 (l0_0.length : Int), .int .i64 2, .int .i64 24] (by rfl) rfl rfl (by (try simp only [List.map_toArray, List.map_cons, List.map_nil]); first | done | rfl | (simp only [List.length_drop, List.length_take]; rfl)) ?_
    with_reducible refine (spec_l1In.calls (l0_0.length : Int) 2 24 true _ A5.out).mono ?_
    rintro e w' ⟨rfl, ⟨nd, rfl⟩⟩
    refine ⟨_, rfl, ?_⟩
    refine hK.out _ _ ⟨(blk_cell BK152.out 0).trans rfl, (blk_cell BK152.out 1).trans rfl, (blk_cell BK152.out 2).trans rfl, (blk_cell BK152.out 3).trans rfl⟩ (fun hHeld => ?_)
    clear hK K
    refine norm_ (a' := ?_) ?_ ?_
    rotate_left
    ·
     show Act.put _ (some 11) _ = _
     simp only [Act.put, List.setIfInBounds_toArray, List.set_cons_zero, List.set_cons_succ, i64_w, i32_w]
     rfl
    refine pureS 2 12 HT_.out ?_
    refine pureS 3 13 HT_.out ?_
    refine pureS 4 14 HT_.out ?_
    refine takeS 5 15 HT_.out HW_.out hHeld (hr := by rintro w' ⟨s0, s1, s2, s3⟩; go_simp; with_reducible rfl) (h := ?_)
    refine one_ (i := 6) (N := some 16) #[true, true, true, true, true, true, true, false, false, false, false, false, false, false, false, false, false, false, false, false, false, false, false, false, false, false, false, false, false, false, false, false, false, false, false, false] rfl rfl (one_of HT_.out (by kernel_rfl)) (by decide) (fun K hK => ?_)
    refine goes_ Tryd.func55 (by kernel_rfl) rfl #[.int .i64 a0_1, .int .i64 0, .int .i64 10000000] (by rfl) rfl rfl (by (try simp only [List.map_toArray, List.map_cons, List.map_nil]); first | done | rfl | (simp only [List.length_drop, List.length_take]; rfl)) ?_
    with_reducible refine (spec_l1In.calls a0_1 0 10000000 false _ A7.out).mono ?_
    rintro e w' ⟨rfl, ⟨nd, rfl⟩⟩
    refine ⟨_, rfl, ?_⟩
    refine hK.out _ _ ⟨(blk_cell BK152.out 0).trans rfl, (blk_cell BK152.out 1).trans rfl, (blk_cell BK152.out 2).trans rfl, (blk_cell BK152.out 3).trans rfl⟩ (fun hHeld => ?_)
    clear hK K
    refine norm_ (a' := ?_) ?_ ?_
    rotate_left
    ·
     show Act.put _ (some 16) _ = _
     simp only [Act.put, List.setIfInBounds_toArray, List.set_cons_zero, List.set_cons_succ, i64_w, i32_w]
     rfl
    refine pureS 7 17 HT_.out ?_
    refine pureS 8 18 HT_.out ?_
    refine pureS 9 19 HT_.out ?_
    refine pureU 10 20 HT_.out ?_
    refine pureU 11 21 HT_.out ?_
    refine pureU 12 22 HT_.out ?_
    refine pureU 13 23 HT_.out ?_
    refine pureU 14 24 HT_.out ?_
    refine pureU 15 25 HT_.out ?_
    refine pureS 16 26 HT_.out ?_
    refine pureS 17 27 HT_.out ?_
    refine pureU 18 28 HT_.out ?_
    refine pureU 19 29 HT_.out ?_
    refine pureU 20 30 HT_.out ?_
    refine pureU 21 31 HT_.out ?_
    refine pureU 22 32 HT_.out ?_
    refine pureU 23 33 HT_.out ?_
    refine pureU 24 34 HT_.out ?_
    refine pureS 25 35 HT_.out ?_
    refine pureS 26 36 HT_.out ?_
    refine pureU 27 37 HT_.out ?_
    refine pureU 28 38 HT_.out ?_
    refine pureU 29 39 HT_.out ?_
    refine pureU 30 40 HT_.out ?_
    refine pureU 31 41 HT_.out ?_
    refine pureU 32 42 HT_.out ?_
    refine pureU 33 43 HT_.out ?_
    refine pureU 34 44 HT_.out ?_
    refine pureS 35 45 HT_.out ?_
    refine done_ (done_of HT_.out (by kernel_rfl)) ?_
    try go_wp2
    go_meet
    case rel => exact ⟨_, (true), (by first | rfl | (simp; done) | (simp [*]; done)), H', ⟨by first | omega | exact Nat.le_refl _⟩, ⟨bk BK152⟩, ⟨bs1 HB GE152⟩⟩
  ·
   replace c6 := Bool.eq_false_iff.mpr c6
   subst c6
   rw [if_neg (show ¬ (false = true) by decide)] at H
   have H' := Aside0.mk H
   clear H
   try go_wp2
   have n0_ := Aside0.mk (blk_drew BK152.out)
   have n1_ := Aside0.mk (below_drew1 HB.out)
   clear BK152
   clear HB
   have BK152 := n0_
   have HB := n1_
   clear n0_ n1_
   refine start_ (n := 36) (S := fun w' => True) (ds := []) #[false, false, false, false, false, false, false, false, false, false, false, false, false, false, false, false, false, false, false, false, false, false, false, false, false, false, false, false, false, false, false, false, false, false, false, false] (by kernel_rfl) rfl rfl trivial (fun hHeld => ?_); refine with_tabW spec_GoodRing.tab2 spec_GoodRing.bits2 (fun HT_ HW_ => ?_)
   generalize w3.drew = w17 at BK152 HB hHeld ⊢
   refine pureS 0 10 HT_.out ?_
   refine one_ (i := 1) (N := some 11) #[true, true, false, false, false, false, false, false, false, false, false, false, false, false, false, false, false, false, false, false, false, false, false, false, false, false, false, false, false, false, false, false, false, false, false, false] rfl rfl (one_of HT_.out (by kernel_rfl)) (by decide) (fun K hK => ?_)
   refine goes_ Tryd.func55 (by kernel_rfl) rfl #[.int .i64 (l0_0.length : Int), .int .i64 2, .int .i64 24] (by rfl) rfl rfl (by (try simp only [List.map_toArray, List.map_cons, List.map_nil]); first | done | rfl | (simp only [List.length_drop, List.length_take]; rfl)) ?_
   with_reducible refine (spec_l1In.calls (l0_0.length : Int) 2 24 false _ A5.out).mono ?_
   rintro e w' ⟨rfl, ⟨nd, rfl⟩⟩
   refine ⟨_, rfl, ?_⟩
   refine hK.out _ _ trivial (fun hHeld => ?_)
   clear hK K
   refine norm_ (a' := ?_) ?_ ?_
   rotate_left
   ·
    show Act.put _ (some 11) _ = _
    simp only [Act.put, List.setIfInBounds_toArray, List.set_cons_zero, List.set_cons_succ, i64_w, i32_w]
    rfl
   refine pureS 2 12 HT_.out ?_
   refine pureS 3 13 HT_.out ?_
   refine pureU 4 14 HT_.out ?_
   refine pureU 5 15 HT_.out ?_
   refine pureU 6 16 HT_.out ?_
   refine pureU 7 17 HT_.out ?_
   refine pureS 8 18 HT_.out ?_
   refine pureS 9 19 HT_.out ?_
   refine pureU 10 20 HT_.out ?_
   refine pureU 11 21 HT_.out ?_
   refine pureU 12 22 HT_.out ?_
   refine pureU 13 23 HT_.out ?_
   refine pureU 14 24 HT_.out ?_
   refine pureU 15 25 HT_.out ?_
   refine pureS 16 26 HT_.out ?_
   refine pureS 17 27 HT_.out ?_
   refine pureU 18 28 HT_.out ?_
   refine pureU 19 29 HT_.out ?_
   refine pureU 20 30 HT_.out ?_
   refine pureU 21 31 HT_.out ?_
   refine pureU 22 32 HT_.out ?_
   refine pureU 23 33 HT_.out ?_
   refine pureU 24 34 HT_.out ?_
   refine pureS 25 35 HT_.out ?_
   refine pureS 26 36 HT_.out ?_
   refine pureU 27 37 HT_.out ?_
   refine pureU 28 38 HT_.out ?_
   refine pureU 29 39 HT_.out ?_
   refine pureU 30 40 HT_.out ?_
   refine pureU 31 41 HT_.out ?_
   refine pureU 32 42 HT_.out ?_
   refine pureU 33 43 HT_.out ?_
   refine pureU 34 44 HT_.out ?_
   refine pureS 35 45 HT_.out ?_
   refine done_ (done_of HT_.out (by kernel_rfl)) ?_
   try go_wp2
   go_meet
   case rel => exact ⟨_, (true), (by first | rfl | (simp; done) | (simp [*]; done)), H', ⟨by first | omega | exact Nat.le_refl _⟩, ⟨bk BK152⟩, ⟨bs1 HB GE152⟩⟩
 case rest =>
  clear HC2
  try clear p2
  try clear c5
  try clear c6
  try clear c8
  obtain ⟨kq, x45_1, rfl, HA, HJ1, BK152, HB⟩ := hcut
  cases kq with
  | zero => exact absurd HA.out (by simp [spec_GoodRing.j0])
  | succ kj1 =>
   have H := HA.out
   clear HA
   simp only [spec_GoodRing.j0] at H
   by_cases c18 : x45_1 = true
   ·
    subst c18
    rw [if_pos rfl] at H
    obtain rfl := Option.some.inj H
    go_wp2
    go_ret
    exact ⟨by first | rfl | (simp [errW_none, errW_some] <;> rfl) | (simp [*, errW_none, errW_some] <;> rfl), bs1 HB GE152⟩
   ·
    replace c18 := Bool.eq_false_iff.mpr c18
    subst c18
    rw [if_neg (show ¬ (false = true) by decide)] at H
    have H' := Aside0.mk H
    clear H
    obtain ⟨hcz19_0, hcz19_1, hcz19_2, hcz19_3⟩ := cz4 BK152
    obtain ⟨hfz19_0, hfz19_1, hfz19_2, hfz19_3⟩ := fz4 BK152
    go_wp2
    go_loopg [4, 5] kj1 (fun kq v4 v5 w' => ∃ (x4_2 : Int) (x5_2 : Int), v4 = .int .i64 x4_2 ∧ v5 = .int .i64 x5_2 ∧ Aside0 (spec_GoodRing.l0 kq (l0_0.length : Int) x4_2 x5_2 l0_0 a0_1 a0_2 a0_3 = some r) ∧ Aside0 (kq ≤ kj1) ∧ Aside0 (w'.heap[gb152]? = some (.cells #[(.slice A0_0 l0_0.length c0_0), .int .i64 a0_1, .int .i64 a0_2, .int .i64 a0_3] 36 (0, 0))) ∧ Aside0 (Below w.heap.size w w'))
    case atStart => exact ⟨(0), (wrap64 (a0_1 - (l0_0.length : Int))), (by first | rfl | (simp; done) | (simp [*]; done)), (by first | rfl | (simp; done) | (simp [*]; done)), H', ⟨Nat.le_refl _⟩, ⟨bk BK152⟩, ⟨bs1 HB GE152⟩⟩
    case round =>
     clear H'
     try clear c1
     try clear p2
     try clear c5
     try clear c6
     try clear p6
     try clear c8
     try clear c18
     try clear hcz19_0 hcz19_1 hcz19_2 hcz19_3
     try clear hfz19_0 hfz19_1 hfz19_2 hfz19_3
     try clear p2
     obtain ⟨x4_2, x5_2, rfl, rfl, HA, HK2, BK152, HB⟩ := hrel
     cases gk with
     | zero => exact absurd HA.out (by simp [spec_GoodRing.l0])
     | succ k2 =>
      have H := HA.out
      clear HA
      simp only [spec_GoodRing.l0] at H
      by_cases c20 : x5_2 < a0_1
      ·
       rw [if_pos c20] at H
       have c20b0 : decide (x5_2 < a0_1) = true := decide_eq_true c20
       clear c20
       by_cases c21 : x5_2 < 0
       ·
        rw [if_pos c21] at H
        have c21b0 : decide (x5_2 < 0) = true := decide_eq_true c21
        clear c21
        obtain ⟨ji22, hji22⟩ : ∃ j_ : Int, (wrap64 (x5_2 + (l0_0.length : Int))) = j_ := ⟨_, rfl⟩
        replace H : (if 0 ≤ (ji22) then (if (ji22) < (l0_0.length : Int) then ((spec_l10Zero.f k2).bind fun bt157 => (if (!(((rd_T26 l0_0 (ji22)).f0) == bt157.1) || (!(((rd_T26 l0_0 (ji22)).f1) == bt157.2.1) || (!((((rd_T26 l0_0 (ji22)).f2).toList) == bt157.2.2.1.toList) || (!(((rd_T26 l0_0 (ji22)).f3) == bt157.2.2.2))))) = true then (some false) else (spec_GoodRing.l0 k2 (l0_0.length : Int) x4_2 (wrap64 (x5_2 + 1)) l0_0 a0_1 a0_2 a0_3))) else (none)) else (none)) = some r := by first | (rw [hji22] at H; exact H) | (simp only [hji22] at H ⊢; exact H)
        have hji22w : (IntKind.i64.wrap (x5_2 + (l0_0.length : Int))) = ji22 := (i64_w _).trans hji22
        by_cases c23 : 0 ≤ (ji22)
        ·
         rw [if_pos c23] at H
         have c23b0 : decide (0 ≤ (ji22)) = true := decide_eq_true c23
         clear c23
         by_cases c24 : (ji22) < (l0_0.length : Int)
         ·
          rw [if_pos c24] at H
          have c24b0 : decide ((ji22) < (l0_0.length : Int)) = true := decide_eq_true c24
          clear c24
          replace H := Option.bind_eq_some_iff.mp H
          obtain ⟨⟨t157, t158, t159, t160⟩, A250, H⟩ := H
          replace H : (if (!(((rd_T26 l0_0 (ji22)).f0) == t157) || (!(((rd_T26 l0_0 (ji22)).f1) == t158) || (!((((rd_T26 l0_0 (ji22)).f2).toList) == t159.toList) || (!(((rd_T26 l0_0 (ji22)).f3) == t160))))) = true then (some false) else (spec_GoodRing.l0 k2 (l0_0.length : Int) x4_2 (wrap64 (x5_2 + 1)) l0_0 a0_1 a0_2 a0_3)) = some r := H
          have A25 := Aside0.mk A250
          clear A250
          by_cases c26 : (!(((rd_T26 l0_0 (ji22)).f0) == t157) || (!(((rd_T26 l0_0 (ji22)).f1) == t158) || (!((((rd_T26 l0_0 (ji22)).f2).toList) == t159.toList) || (!(((rd_T26 l0_0 (ji22)).f3) == t160))))) = true
          ·
           rw [if_pos c26] at H
           have c26b0 : (!(((rd_T26 l0_0 (ji22)).f0) == t157) || (!(((rd_T26 l0_0 (ji22)).f1) == t158) || (!((((rd_T26 l0_0 (ji22)).f2).toList) == t159.toList) || (!(((rd_T26 l0_0 (ji22)).f3) == t160))))) = true := c26
           clear c26
           obtain rfl := Option.some.inj H
           obtain ⟨hcz27_0, hcz27_1, hcz27_2, hcz27_3⟩ := cz4 BK152
           obtain ⟨hfz27_0, hfz27_1, hfz27_2, hfz27_3⟩ := fz4 BK152
           try go_wp2
           have n0_ := Aside0.mk (blk_drew BK152.out)
           have n1_ := Aside0.mk (below_drew1 HB.out)
           clear BK152
           clear HB
           have BK152 := n0_
           have HB := n1_
           clear n0_ n1_
           have p156 : 0 ≤ ((ji22) : Int) := of_decide_eq_true (by first | (with_reducible assumption) | assumption)
           have q156 : (ji22) < (l0_0.length : Int) := of_decide_eq_true (by first | (with_reducible assumption) | assumption)
           obtain ⟨ad156, e156, hx156_0, hx156_1, hx156_2, hx156_3⟩ := at_T26 HR0_0.out (ji22) p156 q156
           have hw156_3 := hx156_3
           have hw156_2 := hx156_2
           have hw156_1 := hx156_1
           have hw156_0 := hx156_0
           cases e156
           replace hx156_0 := (HB.out.cell (World.block_lt_of_cell? w _ hx156_0)).trans hx156_0
           replace hx156_1 := (HB.out.cell (World.block_lt_of_cell? w _ hx156_1)).trans hx156_1
           replace hx156_2 := (HB.out.cell (World.block_lt_of_cell? w _ hx156_2)).trans hx156_2
           replace hx156_3 := (HB.out.cell (World.block_lt_of_cell? w _ hx156_3)).trans hx156_3
           replace p156 := eq_true p156
           replace q156 := eq_true q156
           refine start_ (n := 9) (S := fun w' => w'.cell? ⟨gb152, 0, none⟩ = some (.slice (some ad156) l0_0.length c0_0) ∧ w'.cell? ⟨gb152, 1, none⟩ = some (.int .i64 a0_1) ∧ w'.cell? ⟨gb152, 2, none⟩ = some (.int .i64 a0_2) ∧ w'.cell? ⟨gb152, 3, none⟩ = some (.int .i64 a0_3) ∧ w'.cell? (ad156.add (((ji22)).toNat * 4)) = some (.int .i64 ((rd_T26 l0_0 (ji22)).f0)) ∧ w'.cell? ⟨(ad156.add (((ji22)).toNat * 4)).block, (ad156.add (((ji22)).toNat * 4)).off + 1, none⟩ = some (.int .i64 ((rd_T26 l0_0 (ji22)).f1)) ∧ w'.cell? ⟨(ad156.add (((ji22)).toNat * 4)).block, (ad156.add (((ji22)).toNat * 4)).off + 2, none⟩ = some (.string ((rd_T26 l0_0 (ji22)).f2)) ∧ w'.cell? ⟨(ad156.add (((ji22)).toNat * 4)).block, (ad156.add (((ji22)).toNat * 4)).off + 3, none⟩ = some (.int .i64 ((rd_T26 l0_0 (ji22)).f3))) (ds := []) #[false, false, false, false, false, false, false, false, false] (by kernel_rfl) rfl rfl ⟨(blk_cell BK152.out 0).trans rfl, (blk_cell BK152.out 1).trans rfl, (blk_cell BK152.out 2).trans rfl, (blk_cell BK152.out 3).trans rfl, ((HB.out.cell (World.block_lt_of_cell? w _ hw156_0)).trans hw156_0), ((HB.out.cell (World.block_lt_of_cell? w _ hw156_1)).trans hw156_1), ((HB.out.cell (World.block_lt_of_cell? w _ hw156_2)).trans hw156_2), ((HB.out.cell (World.block_lt_of_cell? w _ hw156_3)).trans hw156_3)⟩ (fun hHeld => ?_); refine with_tabW spec_GoodRing.tab9 spec_GoodRing.bits9 (fun HT_ HW_ => ?_)
           generalize wr.drew = w28 at BK152 HB hx156_0 hx156_1 hx156_2 hx156_3 hHeld ⊢
           refine pureS 0 58 HT_.out ?_
           refine pureS 2 60 HT_.out ?_
           refine pureS 3 61 HT_.out ?_
           refine pureS 4 62 HT_.out ?_
           refine takeS 1 59 HT_.out HW_.out hHeld (hr := by rintro w' ⟨s0, s1, s2, s3, s4, s5, s6, s7⟩; go_simp; with_reducible rfl) (h := ?_)
           refine pureS 5 63 HT_.out ?_
           refine takeS 6 64 HT_.out HW_.out hHeld (hr := by rintro w' ⟨s0, s1, s2, s3, s4, s5, s6, s7⟩; go_simp; with_reducible rfl) (h := ?_)
           refine one_ (i := 7) (N := some 65) #[true, true, true, true, true, true, true, true, false] rfl rfl (one_of HT_.out (by kernel_rfl)) (by decide) (fun K hK => ?_)
           refine goes_ Tryd.func56 (by kernel_rfl) rfl #[] (by rfl) rfl rfl (by (try simp only [List.map_toArray, List.map_cons, List.map_nil]); first | done | rfl | (simp only [List.length_drop, List.length_take]; rfl)) ?_
           with_reducible refine (spec_l10Zero.calls k2  t157 t158 t159 t160 _ A25.out).mono ?_
           rintro e w29 ⟨rfl, hb⟩
           refine ⟨_, rfl, ?_⟩
           have n0_ := Aside0.mk (bb BK152 hb)
           have n1_ := Aside0.mk (below_step (bs1 HB GE152) hb)
           clear BK152
           clear HB
           have BK152 := n0_
           have HB := n1_
           clear n0_ n1_
           (try clear hb)
           (try clear hb2)
           (try clear hk)
           (try clear hi)
           refine hK.out _ _ ⟨(blk_cell BK152.out 0).trans rfl, (blk_cell BK152.out 1).trans rfl, (blk_cell BK152.out 2).trans rfl, (blk_cell BK152.out 3).trans rfl, ((HB.out.cell (World.block_lt_of_cell? w _ hw156_0)).trans hw156_0), ((HB.out.cell (World.block_lt_of_cell? w _ hw156_1)).trans hw156_1), ((HB.out.cell (World.block_lt_of_cell? w _ hw156_2)).trans hw156_2), ((HB.out.cell (World.block_lt_of_cell? w _ hw156_3)).trans hw156_3)⟩ (fun hHeld => ?_)
           clear hK K
           refine norm_ (a' := ?_) ?_ ?_
           rotate_left
           ·
            show Act.put _ (some 65) _ = _
            simp only [Act.put, List.setIfInBounds_toArray, List.set_cons_zero, List.set_cons_succ, i64_w, i32_w]
            rfl
           refine pureS 8 66 HT_.out ?_
           refine done_ (done_of HT_.out (by kernel_rfl)) ?_
           try go_wp2
           go_ret
           exact ⟨by first | rfl | (simp [errW_none, errW_some] <;> rfl) | (simp only [← hji22]; first | rfl | (simp [errW_none, errW_some] <;> rfl)) | (simp [*, errW_none, errW_some] <;> rfl), bs1 HB GE152⟩
          ·
           rw [if_neg c26] at H
           have c26b0 : (!(((rd_T26 l0_0 (ji22)).f0) == t157) || (!(((rd_T26 l0_0 (ji22)).f1) == t158) || (!((((rd_T26 l0_0 (ji22)).f2).toList) == t159.toList) || (!(((rd_T26 l0_0 (ji22)).f3) == t160))))) = false := by simpa using c26
           clear c26
           have H' := Aside0.mk H
           clear H
           obtain ⟨hcz30_0, hcz30_1, hcz30_2, hcz30_3⟩ := cz4 BK152
           obtain ⟨hfz30_0, hfz30_1, hfz30_2, hfz30_3⟩ := fz4 BK152
           try go_wp2
           have n0_ := Aside0.mk (blk_drew BK152.out)
           have n1_ := Aside0.mk (below_drew1 HB.out)
           clear BK152
           clear HB
           have BK152 := n0_
           have HB := n1_
           clear n0_ n1_
           have p156 : 0 ≤ ((ji22) : Int) := of_decide_eq_true (by first | (with_reducible assumption) | assumption)
           have q156 : (ji22) < (l0_0.length : Int) := of_decide_eq_true (by first | (with_reducible assumption) | assumption)
           obtain ⟨ad156, e156, hx156_0, hx156_1, hx156_2, hx156_3⟩ := at_T26 HR0_0.out (ji22) p156 q156
           have hw156_3 := hx156_3
           have hw156_2 := hx156_2
           have hw156_1 := hx156_1
           have hw156_0 := hx156_0
           cases e156
           replace hx156_0 := (HB.out.cell (World.block_lt_of_cell? w _ hx156_0)).trans hx156_0
           replace hx156_1 := (HB.out.cell (World.block_lt_of_cell? w _ hx156_1)).trans hx156_1
           replace hx156_2 := (HB.out.cell (World.block_lt_of_cell? w _ hx156_2)).trans hx156_2
           replace hx156_3 := (HB.out.cell (World.block_lt_of_cell? w _ hx156_3)).trans hx156_3
           replace p156 := eq_true p156
           replace q156 := eq_true q156
           refine start_ (n := 9) (S := fun w' => w'.cell? ⟨gb152, 0, none⟩ = some (.slice (some ad156) l0_0.length c0_0) ∧ w'.cell? ⟨gb152, 1, none⟩ = some (.int .i64 a0_1) ∧ w'.cell? ⟨gb152, 2, none⟩ = some (.int .i64 a0_2) ∧ w'.cell? ⟨gb152, 3, none⟩ = some (.int .i64 a0_3) ∧ w'.cell? (ad156.add (((ji22)).toNat * 4)) = some (.int .i64 ((rd_T26 l0_0 (ji22)).f0)) ∧ w'.cell? ⟨(ad156.add (((ji22)).toNat * 4)).block, (ad156.add (((ji22)).toNat * 4)).off + 1, none⟩ = some (.int .i64 ((rd_T26 l0_0 (ji22)).f1)) ∧ w'.cell? ⟨(ad156.add (((ji22)).toNat * 4)).block, (ad156.add (((ji22)).toNat * 4)).off + 2, none⟩ = some (.string ((rd_T26 l0_0 (ji22)).f2)) ∧ w'.cell? ⟨(ad156.add (((ji22)).toNat * 4)).block, (ad156.add (((ji22)).toNat * 4)).off + 3, none⟩ = some (.int .i64 ((rd_T26 l0_0 (ji22)).f3))) (ds := []) #[false, false, false, false, false, false, false, false, false] (by kernel_rfl) rfl rfl ⟨(blk_cell BK152.out 0).trans rfl, (blk_cell BK152.out 1).trans rfl, (blk_cell BK152.out 2).trans rfl, (blk_cell BK152.out 3).trans rfl, ((HB.out.cell (World.block_lt_of_cell? w _ hw156_0)).trans hw156_0), ((HB.out.cell (World.block_lt_of_cell? w _ hw156_1)).trans hw156_1), ((HB.out.cell (World.block_lt_of_cell? w _ hw156_2)).trans hw156_2), ((HB.out.cell (World.block_lt_of_cell? w _ hw156_3)).trans hw156_3)⟩ (fun hHeld => ?_); refine with_tabW spec_GoodRing.tab9 spec_GoodRing.bits9 (fun HT_ HW_ => ?_)
           generalize wr.drew = w31 at BK152 HB hx156_0 hx156_1 hx156_2 hx156_3 hHeld ⊢
           refine pureS 0 58 HT_.out ?_
           refine pureS 2 60 HT_.out ?_
           refine pureS 3 61 HT_.out ?_
           refine pureS 4 62 HT_.out ?_
           refine takeS 1 59 HT_.out HW_.out hHeld (hr := by rintro w' ⟨s0, s1, s2, s3, s4, s5, s6, s7⟩; go_simp; with_reducible rfl) (h := ?_)
           refine pureS 5 63 HT_.out ?_
           refine takeS 6 64 HT_.out HW_.out hHeld (hr := by rintro w' ⟨s0, s1, s2, s3, s4, s5, s6, s7⟩; go_simp; with_reducible rfl) (h := ?_)
           refine one_ (i := 7) (N := some 65) #[true, true, true, true, true, true, true, true, false] rfl rfl (one_of HT_.out (by kernel_rfl)) (by decide) (fun K hK => ?_)
           refine goes_ Tryd.func56 (by kernel_rfl) rfl #[] (by rfl) rfl rfl (by (try simp only [List.map_toArray, List.map_cons, List.map_nil]); first | done | rfl | (simp only [List.length_drop, List.length_take]; rfl)) ?_
           with_reducible refine (spec_l10Zero.calls k2  t157 t158 t159 t160 _ A25.out).mono ?_
           rintro e w32 ⟨rfl, hb⟩
           refine ⟨_, rfl, ?_⟩
           have n0_ := Aside0.mk (bb BK152 hb)
           have n1_ := Aside0.mk (below_step (bs1 HB GE152) hb)
           clear BK152
           clear HB
           have BK152 := n0_
           have HB := n1_
           clear n0_ n1_
           (try clear hb)
           (try clear hb2)
           (try clear hk)
           (try clear hi)
           refine hK.out _ _ ⟨(blk_cell BK152.out 0).trans rfl, (blk_cell BK152.out 1).trans rfl, (blk_cell BK152.out 2).trans rfl, (blk_cell BK152.out 3).trans rfl, ((HB.out.cell (World.block_lt_of_cell? w _ hw156_0)).trans hw156_0), ((HB.out.cell (World.block_lt_of_cell? w _ hw156_1)).trans hw156_1), ((HB.out.cell (World.block_lt_of_cell? w _ hw156_2)).trans hw156_2), ((HB.out.cell (World.block_lt_of_cell? w _ hw156_3)).trans hw156_3)⟩ (fun hHeld => ?_)
           clear hK K
           refine norm_ (a' := ?_) ?_ ?_
           rotate_left
           ·
            show Act.put _ (some 65) _ = _
            simp only [Act.put, List.setIfInBounds_toArray, List.set_cons_zero, List.set_cons_succ, i64_w, i32_w]
            rfl
           refine pureS 8 66 HT_.out ?_
           refine done_ (done_of HT_.out (by kernel_rfl)) ?_
           try go_wp2
           go_roundg k2
           case measure => have := HJ1.out; have := HK2.out; omega
           case rel => exact ⟨(x4_2), (wrap64 (x5_2 + 1)), (by first | rfl | (simp; done) | (simp [*]; done)), (by first | rfl | (simp; done) | (simp [*]; done)), H', ⟨by have := HJ1.out; have := HK2.out; omega⟩, ⟨bk BK152⟩, ⟨bs1 HB GE152⟩⟩
         ·
          rw [if_neg c24] at H
          exact absurd H (by simp)
        ·
         rw [if_neg c23] at H
         exact absurd H (by simp)
       ·
        rw [if_neg c21] at H
        have c21b0 : decide (x5_2 < 0) = false := decide_eq_false c21
        clear c21
        by_cases c33 : (l0_0.length : Int) = 0
        ·
         rw [if_pos c33] at H
         exact absurd H (by simp)
        ·
         rw [if_neg c33] at H
         have c33b0 : ((l0_0.length : Int) == 0) = false := beq_eq_false_iff_ne.mpr c33
         have c33b1 : ((l0_0.length : Int) != 0) = true := bne_iff_ne.mpr c33
         have c33b2 : ¬ (l0_0 = []) := fun h_ => c33 (by rw [h_]; rfl)
         obtain ⟨ji34, hji34⟩ : ∃ j_ : Int, (Int.tmod x5_2 (l0_0.length : Int)) = j_ := ⟨_, rfl⟩
         replace H : (if 0 ≤ (ji34) then (if (ji34) < (l0_0.length : Int) then (if x5_2 < a0_3 then ((spec_l10Zero.f k2).bind fun bt163 => (spec_GoodRing.j2 k2 (l0_0.length : Int) x4_2 x5_2 (((rd_T26 l0_0 (ji34)).f0) == bt163.1 && (((rd_T26 l0_0 (ji34)).f1) == bt163.2.1 && ((((rd_T26 l0_0 (ji34)).f2).toList) == bt163.2.2.1.toList && (((rd_T26 l0_0 (ji34)).f3) == bt163.2.2.2)))) l0_0 a0_1 a0_2 a0_3 ((rd_T26 l0_0 (ji34)).f0) ((rd_T26 l0_0 (ji34)).f1) ((rd_T26 l0_0 (ji34)).f2) ((rd_T26 l0_0 (ji34)).f3))) else (spec_GoodRing.j2 k2 (l0_0.length : Int) x4_2 x5_2 false l0_0 a0_1 a0_2 a0_3 ((rd_T26 l0_0 (ji34)).f0) ((rd_T26 l0_0 (ji34)).f1) ((rd_T26 l0_0 (ji34)).f2) ((rd_T26 l0_0 (ji34)).f3))) else (none)) else (none)) = some r := by first | (rw [hji34] at H; exact H) | (simp only [hji34] at H ⊢; exact H)
         by_cases c35 : 0 ≤ (ji34)
         ·
          rw [if_pos c35] at H
          have c35b0 : decide (0 ≤ (ji34)) = true := decide_eq_true c35
          clear c35
          by_cases c36 : (ji34) < (l0_0.length : Int)
          ·
           rw [if_pos c36] at H
           have c36b0 : decide ((ji34) < (l0_0.length : Int)) = true := decide_eq_true c36
           clear c36
           have HC37 := Aside0.mk H
           clear H
           obtain ⟨hcz38_0, hcz38_1, hcz38_2, hcz38_3⟩ := cz4 BK152
           obtain ⟨hfz38_0, hfz38_1, hfz38_2, hfz38_3⟩ := fz4 BK152
           try go_wp2
           have n0_ := Aside0.mk (blk_drew BK152.out)
           have n1_ := Aside0.mk (below_drew1 HB.out)
           clear BK152
           clear HB
           have BK152 := n0_
           have HB := n1_
           clear n0_ n1_
           have p161 : 0 ≤ ((ji34) : Int) := of_decide_eq_true (by first | (with_reducible assumption) | assumption)
           have q161 : (ji34) < (l0_0.length : Int) := of_decide_eq_true (by first | (with_reducible assumption) | assumption)
           obtain ⟨ad161, e161, hx161_0, hx161_1, hx161_2, hx161_3⟩ := at_T26 HR0_0.out (ji34) p161 q161
           have hw161_3 := hx161_3
           have hw161_2 := hx161_2
           have hw161_1 := hx161_1
           have hw161_0 := hx161_0
           cases e161
           replace hx161_0 := (HB.out.cell (World.block_lt_of_cell? w _ hx161_0)).trans hx161_0
           replace hx161_1 := (HB.out.cell (World.block_lt_of_cell? w _ hx161_1)).trans hx161_1
           replace hx161_2 := (HB.out.cell (World.block_lt_of_cell? w _ hx161_2)).trans hx161_2
           replace hx161_3 := (HB.out.cell (World.block_lt_of_cell? w _ hx161_3)).trans hx161_3
           replace p161 := eq_true p161
           replace q161 := eq_true q161
           refine start_ (n := 9) (S := fun w' => w'.cell? ⟨gb152, 0, none⟩ = some (.slice (some ad161) l0_0.length c0_0) ∧ w'.cell? ⟨gb152, 1, none⟩ = some (.int .i64 a0_1) ∧ w'.cell? ⟨gb152, 2, none⟩ = some (.int .i64 a0_2) ∧ w'.cell? ⟨gb152, 3, none⟩ = some (.int .i64 a0_3) ∧ w'.cell? (ad161.add (((ji34)).toNat * 4)) = some (.int .i64 ((rd_T26 l0_0 (ji34)).f0)) ∧ w'.cell? ⟨(ad161.add (((ji34)).toNat * 4)).block, (ad161.add (((ji34)).toNat * 4)).off + 1, none⟩ = some (.int .i64 ((rd_T26 l0_0 (ji34)).f1)) ∧ w'.cell? ⟨(ad161.add (((ji34)).toNat * 4)).block, (ad161.add (((ji34)).toNat * 4)).off + 2, none⟩ = some (.string ((rd_T26 l0_0 (ji34)).f2)) ∧ w'.cell? ⟨(ad161.add (((ji34)).toNat * 4)).block, (ad161.add (((ji34)).toNat * 4)).off + 3, none⟩ = some (.int .i64 ((rd_T26 l0_0 (ji34)).f3))) (ds := []) #[false, false, false, false, false, false, false, false, false] (by kernel_rfl) rfl rfl ⟨(blk_cell BK152.out 0).trans rfl, (blk_cell BK152.out 1).trans rfl, (blk_cell BK152.out 2).trans rfl, (blk_cell BK152.out 3).trans rfl, ((HB.out.cell (World.block_lt_of_cell? w _ hw161_0)).trans hw161_0), ((HB.out.cell (World.block_lt_of_cell? w _ hw161_1)).trans hw161_1), ((HB.out.cell (World.block_lt_of_cell? w _ hw161_2)).trans hw161_2), ((HB.out.cell (World.block_lt_of_cell? w _ hw161_3)).trans hw161_3)⟩ (fun hHeld => ?_); refine with_tabW spec_GoodRing.tab11 spec_GoodRing.bits11 (fun HT_ HW_ => ?_)
           generalize wr.drew = w39 at BK152 HB hx161_0 hx161_1 hx161_2 hx161_3 hHeld ⊢
           refine pureS 0 67 HT_.out ?_
           refine pureS 2 69 HT_.out ?_
           refine pureS 3 70 HT_.out ?_
           refine pureS 4 71 HT_.out ?_
           refine takeS 1 68 HT_.out HW_.out hHeld (hr := by rintro w' ⟨s0, s1, s2, s3, s4, s5, s6, s7⟩; go_simp; with_reducible rfl) (h := ?_)
           refine pureS 5 72 HT_.out ?_
           refine takeS 6 73 HT_.out HW_.out hHeld (hr := by rintro w' ⟨s0, s1, s2, s3, s4, s5, s6, s7⟩; go_simp; with_reducible rfl) (h := ?_)
           refine one_ (i := 7) (N := some 6) #[true, true, true, true, true, true, true, true, false] rfl rfl (one_of HT_.out (by kernel_rfl)) (by decide) (fun K hK => ?_)
           refine box_step ?hg (N := 6) ?hd (cs := #[.int .i64 0, .int .i64 0, .string (⟨#[]⟩ : ByteArray), .int .i64 0]) (t := 26) ?hr ?_; (case hd => rfl); (case hg => rfl); (case hr => first | (go_simp; done) | (go_simp; rfl))
           intro gb162 hg w40 hbox hb
           have n0_ := Aside0.mk (bb BK152 hb)
           have n1_ := Aside0.mk (below_step (bs1 HB GE152) hb)
           have n2_ := Aside0.mk (hbox)
           have n3_ := Aside0.mk ((by rw [hg]; exact (below_size (bs1 HB GE152)) : w.heap.size ≤ gb162))
           have n4_ := Aside0.mk ((by rw [hg]; exact (below_size (bs1 HB GE152)) : w.heap.size ≤ gb162))
           have n5_ := Aside0.mk ((bn BK152 hg : gb152 ≠ gb162))
           have n6_ := Aside0.mk ((bm BK152 hg : gb162 ≠ gb152))
           clear BK152
           clear HB
           have BK152 := n0_
           have HB := n1_
           have BK162 := n2_
           have GW162 := n3_
           have GE162 := n4_
           have NB152_162 := n5_
           have NB162_152 := n6_
           clear n0_ n1_ n2_ n3_ n4_ n5_ n6_
           clear hb hbox hg
           refine hK.out _ _ ⟨(blk_cell BK152.out 0).trans rfl, (blk_cell BK152.out 1).trans rfl, (blk_cell BK152.out 2).trans rfl, (blk_cell BK152.out 3).trans rfl, ((HB.out.cell (World.block_lt_of_cell? w _ hw161_0)).trans hw161_0), ((HB.out.cell (World.block_lt_of_cell? w _ hw161_1)).trans hw161_1), ((HB.out.cell (World.block_lt_of_cell? w _ hw161_2)).trans hw161_2), ((HB.out.cell (World.block_lt_of_cell? w _ hw161_3)).trans hw161_3)⟩ (fun hHeld => ?_)
           clear hK K
           refine norm_ (a' := ?_) ?_ ?_
           rotate_left
           ·
            show Act.put _ (some 6) _ = _
            simp only [Act.put, List.setIfInBounds_toArray, List.set_cons_zero, List.set_cons_succ, i64_w, i32_w]
            rfl
           refine one_ (i := 8) (N := none) #[true, true, true, true, true, true, true, true, true] rfl rfl (one_of HT_.out (by kernel_rfl)) (by decide) (fun K hK => ?_)
           have hs41 : w40.cell? ⟨gb162, 0, none⟩ = some (.int .i64 0) := (blk_cell BK162.out 0).trans rfl
           have hfs41 := blk_frozen BK162.out 0
           have hns41_0 := NB152_162.out
           have hms41_0 := NB162_152.out
           have hs42 : w40.cell? ⟨gb162, 1, none⟩ = some (.int .i64 0) := (blk_cell BK162.out 1).trans rfl
           have hfs42 := blk_frozen BK162.out 1
           have hns42_0 := NB152_162.out
           have hms42_0 := NB162_152.out
           have hs43 : w40.cell? ⟨gb162, 2, none⟩ = some (.string (⟨#[]⟩ : ByteArray)) := (blk_cell BK162.out 2).trans rfl
           have hfs43 := blk_frozen BK162.out 2
           have hns43_0 := NB152_162.out
           have hms43_0 := NB162_152.out
           have hs44 : w40.cell? ⟨gb162, 3, none⟩ = some (.int .i64 0) := (blk_cell BK162.out 3).trans rfl
           have hfs44 := blk_frozen BK162.out 3
           have hns44_0 := NB152_162.out
           have hms44_0 := NB162_152.out
           refine skip_ (w1 := ?_) (by rfl) rfl ?_ ?_
           rotate_left
           ·
            go_simp
            rfl
           refine hK.out _ _ ⟨((cell_far (p := ⟨gb162, _, none⟩) NB152_162.out _).trans (((cell_far (p := ⟨gb162, _, none⟩) NB152_162.out _).trans (((cell_far (p := ⟨gb162, _, none⟩) NB152_162.out _).trans (((cell_far (p := ⟨gb162, _, none⟩) NB152_162.out _).trans (hHeld.1)))))))), ((cell_far (p := ⟨gb162, _, none⟩) NB152_162.out _).trans (((cell_far (p := ⟨gb162, _, none⟩) NB152_162.out _).trans (((cell_far (p := ⟨gb162, _, none⟩) NB152_162.out _).trans (((cell_far (p := ⟨gb162, _, none⟩) NB152_162.out _).trans (hHeld.2.1)))))))), ((cell_far (p := ⟨gb162, _, none⟩) NB152_162.out _).trans (((cell_far (p := ⟨gb162, _, none⟩) NB152_162.out _).trans (((cell_far (p := ⟨gb162, _, none⟩) NB152_162.out _).trans (((cell_far (p := ⟨gb162, _, none⟩) NB152_162.out _).trans (hHeld.2.2.1)))))))), ((cell_far (p := ⟨gb162, _, none⟩) NB152_162.out _).trans (((cell_far (p := ⟨gb162, _, none⟩) NB152_162.out _).trans (((cell_far (p := ⟨gb162, _, none⟩) NB152_162.out _).trans (((cell_far (p := ⟨gb162, _, none⟩) NB152_162.out _).trans (hHeld.2.2.2.1)))))))), ((cell_far (p := ⟨gb162, _, none⟩) (by first | exact Nat.ne_of_lt (Nat.lt_of_lt_of_le (by have := World.block_lt_of_cell? _ _ hw161_0; first | rwa [add_block] at this | exact this) GW162.out) | (rw [add_block]; exact Nat.ne_of_lt (Nat.lt_of_lt_of_le (by have := World.block_lt_of_cell? _ _ hw161_0; first | rwa [add_block] at this | exact this) GW162.out)) | (show (Addr.add _ _).block ≠ _; rw [add_block]; exact Nat.ne_of_lt (Nat.lt_of_lt_of_le (by have := World.block_lt_of_cell? _ _ hw161_0; first | rwa [add_block] at this | exact this) GW162.out)) | (dsimp only; exact Nat.ne_of_lt (Nat.lt_of_lt_of_le (by have := World.block_lt_of_cell? _ _ hw161_0; first | rwa [add_block] at this | exact this) GW162.out))) _).trans (((cell_far (p := ⟨gb162, _, none⟩) (by first | exact Nat.ne_of_lt (Nat.lt_of_lt_of_le (by have := World.block_lt_of_cell? _ _ hw161_0; first | rwa [add_block] at this | exact this) GW162.out) | (rw [add_block]; exact Nat.ne_of_lt (Nat.lt_of_lt_of_le (by have := World.block_lt_of_cell? _ _ hw161_0; first | rwa [add_block] at this | exact this) GW162.out)) | (show (Addr.add _ _).block ≠ _; rw [add_block]; exact Nat.ne_of_lt (Nat.lt_of_lt_of_le (by have := World.block_lt_of_cell? _ _ hw161_0; first | rwa [add_block] at this | exact this) GW162.out)) | (dsimp only; exact Nat.ne_of_lt (Nat.lt_of_lt_of_le (by have := World.block_lt_of_cell? _ _ hw161_0; first | rwa [add_block] at this | exact this) GW162.out))) _).trans (((cell_far (p := ⟨gb162, _, none⟩) (by first | exact Nat.ne_of_lt (Nat.lt_of_lt_of_le (by have := World.block_lt_of_cell? _ _ hw161_0; first | rwa [add_block] at this | exact this) GW162.out) | (rw [add_block]; exact Nat.ne_of_lt (Nat.lt_of_lt_of_le (by have := World.block_lt_of_cell? _ _ hw161_0; first | rwa [add_block] at this | exact this) GW162.out)) | (show (Addr.add _ _).block ≠ _; rw [add_block]; exact Nat.ne_of_lt (Nat.lt_of_lt_of_le (by have := World.block_lt_of_cell? _ _ hw161_0; first | rwa [add_block] at this | exact this) GW162.out)) | (dsimp only; exact Nat.ne_of_lt (Nat.lt_of_lt_of_le (by have := World.block_lt_of_cell? _ _ hw161_0; first | rwa [add_block] at this | exact this) GW162.out))) _).trans (((cell_far (p := ⟨gb162, _, none⟩) (by first | exact Nat.ne_of_lt (Nat.lt_of_lt_of_le (by have := World.block_lt_of_cell? _ _ hw161_0; first | rwa [add_block] at this | exact this) GW162.out) | (rw [add_block]; exact Nat.ne_of_lt (Nat.lt_of_lt_of_le (by have := World.block_lt_of_cell? _ _ hw161_0; first | rwa [add_block] at this | exact this) GW162.out)) | (show (Addr.add _ _).block ≠ _; rw [add_block]; exact Nat.ne_of_lt (Nat.lt_of_lt_of_le (by have := World.block_lt_of_cell? _ _ hw161_0; first | rwa [add_block] at this | exact this) GW162.out)) | (dsimp only; exact Nat.ne_of_lt (Nat.lt_of_lt_of_le (by have := World.block_lt_of_cell? _ _ hw161_0; first | rwa [add_block] at this | exact this) GW162.out))) _).trans (hHeld.2.2.2.2.1)))))))), ((cell_far (p := ⟨gb162, _, none⟩) (by first | exact Nat.ne_of_lt (Nat.lt_of_lt_of_le (by have := World.block_lt_of_cell? _ _ hw161_1; first | rwa [add_block] at this | exact this) GW162.out) | (rw [add_block]; exact Nat.ne_of_lt (Nat.lt_of_lt_of_le (by have := World.block_lt_of_cell? _ _ hw161_1; first | rwa [add_block] at this | exact this) GW162.out)) | (show (Addr.add _ _).block ≠ _; rw [add_block]; exact Nat.ne_of_lt (Nat.lt_of_lt_of_le (by have := World.block_lt_of_cell? _ _ hw161_1; first | rwa [add_block] at this | exact this) GW162.out)) | (dsimp only; exact Nat.ne_of_lt (Nat.lt_of_lt_of_le (by have := World.block_lt_of_cell? _ _ hw161_1; first | rwa [add_block] at this | exact this) GW162.out))) _).trans (((cell_far (p := ⟨gb162, _, none⟩) (by first | exact Nat.ne_of_lt (Nat.lt_of_lt_of_le (by have := World.block_lt_of_cell? _ _ hw161_1; first | rwa [add_block] at this | exact this) GW162.out) | (rw [add_block]; exact Nat.ne_of_lt (Nat.lt_of_lt_of_le (by have := World.block_lt_of_cell? _ _ hw161_1; first | rwa [add_block] at this | exact this) GW162.out)) | (show (Addr.add _ _).block ≠ _; rw [add_block]; exact Nat.ne_of_lt (Nat.lt_of_lt_of_le (by have := World.block_lt_of_cell? _ _ hw161_1; first | rwa [add_block] at this | exact this) GW162.out)) | (dsimp only; exact Nat.ne_of_lt (Nat.lt_of_lt_of_le (by have := World.block_lt_of_cell? _ _ hw161_1; first | rwa [add_block] at this | exact this) GW162.out))) _).trans (((cell_far (p := ⟨gb162, _, none⟩) (by first | exact Nat.ne_of_lt (Nat.lt_of_lt_of_le (by have := World.block_lt_of_cell? _ _ hw161_1; first | rwa [add_block] at this | exact this) GW162.out) | (rw [add_block]; exact Nat.ne_of_lt (Nat.lt_of_lt_of_le (by have := World.block_lt_of_cell? _ _ hw161_1; first | rwa [add_block] at this | exact this) GW162.out)) | (show (Addr.add _ _).block ≠ _; rw [add_block]; exact Nat.ne_of_lt (Nat.lt_of_lt_of_le (by have := World.block_lt_of_cell? _ _ hw161_1; first | rwa [add_block] at this | exact this) GW162.out)) | (dsimp only; exact Nat.ne_of_lt (Nat.lt_of_lt_of_le (by have := World.block_lt_of_cell? _ _ hw161_1; first | rwa [add_block] at this | exact this) GW162.out))) _).trans (((cell_far (p := ⟨gb162, _, none⟩) (by first | exact Nat.ne_of_lt (Nat.lt_of_lt_of_le (by have := World.block_lt_of_cell? _ _ hw161_1; first | rwa [add_block] at this | exact this) GW162.out) | (rw [add_block]; exact Nat.ne_of_lt (Nat.lt_of_lt_of_le (by have := World.block_lt_of_cell? _ _ hw161_1; first | rwa [add_block] at this | exact this) GW162.out)) | (show (Addr.add _ _).block ≠ _; rw [add_block]; exact Nat.ne_of_lt (Nat.lt_of_lt_of_le (by have := World.block_lt_of_cell? _ _ hw161_1; first | rwa [add_block] at this | exact this) GW162.out)) | (dsimp only; exact Nat.ne_of_lt (Nat.lt_of_lt_of_le (by have := World.block_lt_of_cell? _ _ hw161_1; first | rwa [add_block] at this | exact this) GW162.out))) _).trans (hHeld.2.2.2.2.2.1)))))))), ((cell_far (p := ⟨gb162, _, none⟩) (by first | exact Nat.ne_of_lt (Nat.lt_of_lt_of_le (by have := World.block_lt_of_cell? _ _ hw161_2; first | rwa [add_block] at this | exact this) GW162.out) | (rw [add_block]; exact Nat.ne_of_lt (Nat.lt_of_lt_of_le (by have := World.block_lt_of_cell? _ _ hw161_2; first | rwa [add_block] at this | exact this) GW162.out)) | (show (Addr.add _ _).block ≠ _; rw [add_block]; exact Nat.ne_of_lt (Nat.lt_of_lt_of_le (by have := World.block_lt_of_cell? _ _ hw161_2; first | rwa [add_block] at this | exact this) GW162.out)) | (dsimp only; exact Nat.ne_of_lt (Nat.lt_of_lt_of_le (by have := World.block_lt_of_cell? _ _ hw161_2; first | rwa [add_block] at this | exact this) GW162.out))) _).trans (((cell_far (p := ⟨gb162, _, none⟩) (by first | exact Nat.ne_of_lt (Nat.lt_of_lt_of_le (by have := World.block_lt_of_cell? _ _ hw161_2; first | rwa [add_block] at this | exact this) GW162.out) | (rw [add_block]; exact Nat.ne_of_lt (Nat.lt_of_lt_of_le (by have := World.block_lt_of_cell? _ _ hw161_2; first | rwa [add_block] at this | exact this) GW162.out)) | (show (Addr.add _ _).block ≠ _; rw [add_block]; exact Nat.ne_of_lt (Nat.lt_of_lt_of_le (by have := World.block_lt_of_cell? _ _ hw161_2; first | rwa [add_block] at this | exact this) GW162.out)) | (dsimp only; exact Nat.ne_of_lt (Nat.lt_of_lt_of_le (by have := World.block_lt_of_cell? _ _ hw161_2; first | rwa [add_block] at this | exact this) GW162.out))) _).trans (((cell_far (p := ⟨gb162, _, none⟩) (by first | exact Nat.ne_of_lt (Nat.lt_of_lt_of_le (by have := World.block_lt_of_cell? _ _ hw161_2; first | rwa [add_block] at this | exact this) GW162.out) | (rw [add_block]; exact Nat.ne_of_lt (Nat.lt_of_lt_of_le (by have := World.block_lt_of_cell? _ _ hw161_2; first | rwa [add_block] at this | exact this) GW162.out)) | (show (Addr.add _ _).block ≠ _; rw [add_block]; exact Nat.ne_of_lt (Nat.lt_of_lt_of_le (by have := World.block_lt_of_cell? _ _ hw161_2; first | rwa [add_block] at this | exact this) GW162.out)) | (dsimp only; exact Nat.ne_of_lt (Nat.lt_of_lt_of_le (by have := World.block_lt_of_cell? _ _ hw161_2; first | rwa [add_block] at this | exact this) GW162.out))) _).trans (((cell_far (p := ⟨gb162, _, none⟩) (by first | exact Nat.ne_of_lt (Nat.lt_of_lt_of_le (by have := World.block_lt_of_cell? _ _ hw161_2; first | rwa [add_block] at this | exact this) GW162.out) | (rw [add_block]; exact Nat.ne_of_lt (Nat.lt_of_lt_of_le (by have := World.block_lt_of_cell? _ _ hw161_2; first | rwa [add_block] at this | exact this) GW162.out)) | (show (Addr.add _ _).block ≠ _; rw [add_block]; exact Nat.ne_of_lt (Nat.lt_of_lt_of_le (by have := World.block_lt_of_cell? _ _ hw161_2; first | rwa [add_block] at this | exact this) GW162.out)) | (dsimp only; exact Nat.ne_of_lt (Nat.lt_of_lt_of_le (by have := World.block_lt_of_cell? _ _ hw161_2; first | rwa [add_block] at this | exact this) GW162.out))) _).trans (hHeld.2.2.2.2.2.2.1)))))))), ((cell_far (p := ⟨gb162, _, none⟩) (by first | exact Nat.ne_of_lt (Nat.lt_of_lt_of_le (by have := World.block_lt_of_cell? _ _ hw161_3; first | rwa [add_block] at this | exact this) GW162.out) | (rw [add_block]; exact Nat.ne_of_lt (Nat.lt_of_lt_of_le (by have := World.block_lt_of_cell? _ _ hw161_3; first | rwa [add_block] at this | exact this) GW162.out)) | (show (Addr.add _ _).block ≠ _; rw [add_block]; exact Nat.ne_of_lt (Nat.lt_of_lt_of_le (by have := World.block_lt_of_cell? _ _ hw161_3; first | rwa [add_block] at this | exact this) GW162.out)) | (dsimp only; exact Nat.ne_of_lt (Nat.lt_of_lt_of_le (by have := World.block_lt_of_cell? _ _ hw161_3; first | rwa [add_block] at this | exact this) GW162.out))) _).trans (((cell_far (p := ⟨gb162, _, none⟩) (by first | exact Nat.ne_of_lt (Nat.lt_of_lt_of_le (by have := World.block_lt_of_cell? _ _ hw161_3; first | rwa [add_block] at this | exact this) GW162.out) | (rw [add_block]; exact Nat.ne_of_lt (Nat.lt_of_lt_of_le (by have := World.block_lt_of_cell? _ _ hw161_3; first | rwa [add_block] at this | exact this) GW162.out)) | (show (Addr.add _ _).block ≠ _; rw [add_block]; exact Nat.ne_of_lt (Nat.lt_of_lt_of_le (by have := World.block_lt_of_cell? _ _ hw161_3; first | rwa [add_block] at this | exact this) GW162.out)) | (dsimp only; exact Nat.ne_of_lt (Nat.lt_of_lt_of_le (by have := World.block_lt_of_cell? _ _ hw161_3; first | rwa [add_block] at this | exact this) GW162.out))) _).trans (((cell_far (p := ⟨gb162, _, none⟩) (by first | exact Nat.ne_of_lt (Nat.lt_of_lt_of_le (by have := World.block_lt_of_cell? _ _ hw161_3; first | rwa [add_block] at this | exact this) GW162.out) | (rw [add_block]; exact Nat.ne_of_lt (Nat.lt_of_lt_of_le (by have := World.block_lt_of_cell? _ _ hw161_3; first | rwa [add_block] at this | exact this) GW162.out)) | (show (Addr.add _ _).block ≠ _; rw [add_block]; exact Nat.ne_of_lt (Nat.lt_of_lt_of_le (by have := World.block_lt_of_cell? _ _ hw161_3; first | rwa [add_block] at this | exact this) GW162.out)) | (dsimp only; exact Nat.ne_of_lt (Nat.lt_of_lt_of_le (by have := World.block_lt_of_cell? _ _ hw161_3; first | rwa [add_block] at this | exact this) GW162.out))) _).trans (((cell_far (p := ⟨gb162, _, none⟩) (by first | exact Nat.ne_of_lt (Nat.lt_of_lt_of_le (by have := World.block_lt_of_cell? _ _ hw161_3; first | rwa [add_block] at this | exact this) GW162.out) | (rw [add_block]; exact Nat.ne_of_lt (Nat.lt_of_lt_of_le (by have := World.block_lt_of_cell? _ _ hw161_3; first | rwa [add_block] at this | exact this) GW162.out)) | (show (Addr.add _ _).block ≠ _; rw [add_block]; exact Nat.ne_of_lt (Nat.lt_of_lt_of_le (by have := World.block_lt_of_cell? _ _ hw161_3; first | rwa [add_block] at this | exact this) GW162.out)) | (dsimp only; exact Nat.ne_of_lt (Nat.lt_of_lt_of_le (by have := World.block_lt_of_cell? _ _ hw161_3; first | rwa [add_block] at this | exact this) GW162.out))) _).trans (hHeld.2.2.2.2.2.2.2))))))))⟩ (fun hHeld => ?_)
           clear hK K
           refine done_ (done_of HT_.out (by kernel_rfl)) ?_
           go_upto_region 12 with (fail)
           go_cut [82] (fun v82 wc => ∃ (kq : Nat) (x82_36 : Bool), v82 = .bool x82_36 ∧ Aside0 (spec_GoodRing.j2 kq (l0_0.length : Int) x4_2 x5_2 x82_36 l0_0 a0_1 a0_2 a0_3 ((rd_T26 l0_0 (ji34)).f0) ((rd_T26 l0_0 (ji34)).f1) ((rd_T26 l0_0 (ji34)).f2) ((rd_T26 l0_0 (ji34)).f3) = some r) ∧ Aside0 (kq ≤ k2) ∧ Aside0 (wc.heap[gb152]? = some (.cells #[(.slice (some ad161) l0_0.length c0_0), .int .i64 a0_1, .int .i64 a0_2, .int .i64 a0_3] 36 (0, 0))) ∧ Aside0 (wc.heap[gb162]? = some (.cells #[.int .i64 ((rd_T26 l0_0 (ji34)).f0), .int .i64 ((rd_T26 l0_0 (ji34)).f1), .string ((rd_T26 l0_0 (ji34)).f2), .int .i64 ((rd_T26 l0_0 (ji34)).f3)] 26 (0, 0))) ∧ Aside0 (Below w.heap.size w wc))
           case first =>
            have H := HC37.out
            clear HC37
            by_cases c45 : x5_2 < a0_3
            ·
             rw [if_pos c45] at H
             have c45b0 : decide (x5_2 < a0_3) = true := decide_eq_true c45
             clear c45
             (first | rw [c45b0] | (simp only [i64_w, i32_w]; rw [c45b0]) | (simp only [c45b2, Bool.not_false, Bool.not_true]) | skip)
             replace H := Option.bind_eq_some_iff.mp H
             obtain ⟨⟨t163, t164, t165, t166⟩, A460, H⟩ := H
             replace H : (spec_GoodRing.j2 k2 (l0_0.length : Int) x4_2 x5_2 (((rd_T26 l0_0 (ji34)).f0) == t163 && (((rd_T26 l0_0 (ji34)).f1) == t164 && ((((rd_T26 l0_0 (ji34)).f2).toList) == t165.toList && (((rd_T26 l0_0 (ji34)).f3) == t166)))) l0_0 a0_1 a0_2 a0_3 ((rd_T26 l0_0 (ji34)).f0) ((rd_T26 l0_0 (ji34)).f1) ((rd_T26 l0_0 (ji34)).f2) ((rd_T26 l0_0 (ji34)).f3)) = some r := H
             have A46 := Aside0.mk A460
             clear A460
             have H' := Aside0.mk H
             clear H
             try go_wp2
             have n0_ : Aside0 (((((w40.setCell ⟨gb162, 0, none⟩ (.int .i64 ((rd_T26 l0_0 (ji34)).f0))).setCell ⟨gb162, 1, none⟩ (.int .i64 ((rd_T26 l0_0 (ji34)).f1))).setCell ⟨gb162, 2, none⟩ (.string ((rd_T26 l0_0 (ji34)).f2))).setCell ⟨gb162, 3, none⟩ (.int .i64 ((rd_T26 l0_0 (ji34)).f3))).heap[gb152]? = some (.cells #[.slice (some ad161) l0_0.length c0_0, .int .i64 a0_1, .int .i64 a0_2, .int .i64 a0_3] 36 (0, 0))) := ⟨bf BK152 NB152_162⟩
             have n1_ : Aside0 (((((w40.setCell ⟨gb162, 0, none⟩ (.int .i64 ((rd_T26 l0_0 (ji34)).f0))).setCell ⟨gb162, 1, none⟩ (.int .i64 ((rd_T26 l0_0 (ji34)).f1))).setCell ⟨gb162, 2, none⟩ (.string ((rd_T26 l0_0 (ji34)).f2))).setCell ⟨gb162, 3, none⟩ (.int .i64 ((rd_T26 l0_0 (ji34)).f3))).heap[gb162]? = some (.cells #[.int .i64 ((rd_T26 l0_0 (ji34)).f0), .int .i64 ((rd_T26 l0_0 (ji34)).f1), .string ((rd_T26 l0_0 (ji34)).f2), .int .i64 ((rd_T26 l0_0 (ji34)).f3)] 26 (0, 0))) := ⟨by (with_reducible repeat (first | refine blk_drewN ?_ _ | refine blk_drew ?_ | refine blk_alloc ?_ _)); refine blk_put (cs := #[.int .i64 ((rd_T26 l0_0 (ji34)).f0), .int .i64 ((rd_T26 l0_0 (ji34)).f1), .string ((rd_T26 l0_0 (ji34)).f2), .int .i64 0]) ?_ 3 _ rfl; (with_reducible repeat (first | refine blk_drewN ?_ _ | refine blk_drew ?_ | refine blk_alloc ?_ _)); refine blk_put (cs := #[.int .i64 ((rd_T26 l0_0 (ji34)).f0), .int .i64 ((rd_T26 l0_0 (ji34)).f1), .string (⟨#[]⟩ : ByteArray), .int .i64 0]) ?_ 2 _ rfl; (with_reducible repeat (first | refine blk_drewN ?_ _ | refine blk_drew ?_ | refine blk_alloc ?_ _)); refine blk_put (cs := #[.int .i64 ((rd_T26 l0_0 (ji34)).f0), .int .i64 0, .string (⟨#[]⟩ : ByteArray), .int .i64 0]) ?_ 1 _ rfl; (with_reducible repeat (first | refine blk_drewN ?_ _ | refine blk_drew ?_ | refine blk_alloc ?_ _)); refine blk_put (cs := #[.int .i64 0, .int .i64 0, .string (⟨#[]⟩ : ByteArray), .int .i64 0]) ?_ 0 _ rfl; (with_reducible repeat (first | refine blk_drewN ?_ _ | refine blk_drew ?_ | refine blk_alloc ?_ _)); exact BK162.out⟩
             have n2_ : Aside0 (Below w.heap.size w ((((w40.setCell ⟨gb162, 0, none⟩ (.int .i64 ((rd_T26 l0_0 (ji34)).f0))).setCell ⟨gb162, 1, none⟩ (.int .i64 ((rd_T26 l0_0 (ji34)).f1))).setCell ⟨gb162, 2, none⟩ (.string ((rd_T26 l0_0 (ji34)).f2))).setCell ⟨gb162, 3, none⟩ (.int .i64 ((rd_T26 l0_0 (ji34)).f3)))) := ⟨bs2 HB GE152 GE162⟩
             (try clear BK152)
             (try clear BK162)
             (try clear HB)
             generalize ((((w40.setCell ⟨gb162, 0, none⟩ (.int .i64 ((rd_T26 l0_0 (ji34)).f0))).setCell ⟨gb162, 1, none⟩ (.int .i64 ((rd_T26 l0_0 (ji34)).f1))).setCell ⟨gb162, 2, none⟩ (.string ((rd_T26 l0_0 (ji34)).f2))).setCell ⟨gb162, 3, none⟩ (.int .i64 ((rd_T26 l0_0 (ji34)).f3))) = w47 at n0_ n1_ n2_ ⊢
             have BK152 := n0_
             have BK162 := n1_
             have HB := n2_
             clear n0_ n1_ n2_
             have n0_ := Aside0.mk (blk_drew BK152.out)
             have n1_ := Aside0.mk (blk_drew BK162.out)
             have n2_ := Aside0.mk (below_drew1 HB.out)
             clear BK152
             clear BK162
             clear HB
             have BK152 := n0_
             have BK162 := n1_
             have HB := n2_
             clear n0_ n1_ n2_
             refine start_ (n := 9) (S := fun w' => w'.cell? ⟨gb152, 0, none⟩ = some (.slice (some ad161) l0_0.length c0_0) ∧ w'.cell? ⟨gb152, 1, none⟩ = some (.int .i64 a0_1) ∧ w'.cell? ⟨gb152, 2, none⟩ = some (.int .i64 a0_2) ∧ w'.cell? ⟨gb152, 3, none⟩ = some (.int .i64 a0_3) ∧ w'.cell? ⟨gb162, 0, none⟩ = some (.int .i64 ((rd_T26 l0_0 (ji34)).f0)) ∧ w'.cell? ⟨gb162, 1, none⟩ = some (.int .i64 ((rd_T26 l0_0 (ji34)).f1)) ∧ w'.cell? ⟨gb162, 2, none⟩ = some (.string ((rd_T26 l0_0 (ji34)).f2)) ∧ w'.cell? ⟨gb162, 3, none⟩ = some (.int .i64 ((rd_T26 l0_0 (ji34)).f3))) (ds := []) #[false, false, false, false, false, false, false, false, false] (by kernel_rfl) rfl rfl ⟨(blk_cell BK152.out 0).trans rfl, (blk_cell BK152.out 1).trans rfl, (blk_cell BK152.out 2).trans rfl, (blk_cell BK152.out 3).trans rfl, (blk_cell BK162.out 0).trans rfl, (blk_cell BK162.out 1).trans rfl, (blk_cell BK162.out 2).trans rfl, (blk_cell BK162.out 3).trans rfl⟩ (fun hHeld => ?_); refine with_tabW spec_GoodRing.tab12 spec_GoodRing.bits12 (fun HT_ HW_ => ?_)
             generalize w47.drew = w48 at BK152 BK162 HB hHeld ⊢
             refine pureS 0 74 HT_.out ?_
             refine pureS 1 75 HT_.out ?_
             refine takeS 2 76 HT_.out HW_.out hHeld (hr := by rintro w' ⟨s0, s1, s2, s3, s4, s5, s6, s7⟩; go_simp; with_reducible rfl) (h := ?_)
             refine pureS 3 77 HT_.out ?_
             refine pureS 4 78 HT_.out ?_
             refine takeS 5 79 HT_.out HW_.out hHeld (hr := by rintro w' ⟨s0, s1, s2, s3, s4, s5, s6, s7⟩; go_simp; with_reducible rfl) (h := ?_)
             refine one_ (i := 6) (N := some 80) #[true, true, true, true, true, true, true, false, false] rfl rfl (one_of HT_.out (by kernel_rfl)) (by decide) (fun K hK => ?_)
             refine goes_ Tryd.func56 (by kernel_rfl) rfl #[] (by rfl) rfl rfl (by (try simp only [List.map_toArray, List.map_cons, List.map_nil]); first | done | rfl | (simp only [List.length_drop, List.length_take]; rfl)) ?_
             with_reducible refine (spec_l10Zero.calls k2  t163 t164 t165 t166 _ A46.out).mono ?_
             rintro e w49 ⟨rfl, hb⟩
             refine ⟨_, rfl, ?_⟩
             have n0_ := Aside0.mk (bb BK152 hb)
             have n1_ := Aside0.mk (bb BK162 hb)
             have n2_ := Aside0.mk (below_step (bs2 HB GE152 GE162) hb)
             clear BK152
             clear BK162
             clear HB
             have BK152 := n0_
             have BK162 := n1_
             have HB := n2_
             clear n0_ n1_ n2_
             (try clear hb)
             (try clear hb2)
             (try clear hk)
             (try clear hi)
             refine hK.out _ _ ⟨(blk_cell BK152.out 0).trans rfl, (blk_cell BK152.out 1).trans rfl, (blk_cell BK152.out 2).trans rfl, (blk_cell BK152.out 3).trans rfl, (blk_cell BK162.out 0).trans rfl, (blk_cell BK162.out 1).trans rfl, (blk_cell BK162.out 2).trans rfl, (blk_cell BK162.out 3).trans rfl⟩ (fun hHeld => ?_)
             clear hK K
             refine norm_ (a' := ?_) ?_ ?_
             rotate_left
             ·
              show Act.put _ (some 80) _ = _
              simp only [Act.put, List.setIfInBounds_toArray, List.set_cons_zero, List.set_cons_succ, i64_w, i32_w]
              rfl
             refine pureS 7 81 HT_.out ?_
             refine pureS 8 82 HT_.out ?_
             refine done_ (done_of HT_.out (by kernel_rfl)) ?_
             try go_wp2
             go_meet
             case rel => exact ⟨_, ((((rd_T26 l0_0 (ji34)).f0) == t163 && (((rd_T26 l0_0 (ji34)).f1) == t164 && ((((rd_T26 l0_0 (ji34)).f2).toList) == t165.toList && (((rd_T26 l0_0 (ji34)).f3) == t166))))), (by first | rfl | (simp; done) | (simp only [← hji34] <;> (first | rfl | simp)) | (simp [*]; done)), H', ⟨by have := HJ1.out; have := HK2.out; first | omega | exact Nat.le_refl _⟩, ⟨bk BK152⟩, ⟨bk BK162⟩, ⟨bs2 HB GE152 GE162⟩⟩
            ·
             rw [if_neg c45] at H
             have c45b0 : decide (x5_2 < a0_3) = false := decide_eq_false c45
             clear c45
             (first | rw [c45b0] | (simp only [i64_w, i32_w]; rw [c45b0]) | (simp only [c45b2, Bool.not_false, Bool.not_true]) | skip)
             have H' := Aside0.mk H
             clear H
             try go_wp2
             have n0_ : Aside0 (((((w40.setCell ⟨gb162, 0, none⟩ (.int .i64 ((rd_T26 l0_0 (ji34)).f0))).setCell ⟨gb162, 1, none⟩ (.int .i64 ((rd_T26 l0_0 (ji34)).f1))).setCell ⟨gb162, 2, none⟩ (.string ((rd_T26 l0_0 (ji34)).f2))).setCell ⟨gb162, 3, none⟩ (.int .i64 ((rd_T26 l0_0 (ji34)).f3))).heap[gb152]? = some (.cells #[.slice (some ad161) l0_0.length c0_0, .int .i64 a0_1, .int .i64 a0_2, .int .i64 a0_3] 36 (0, 0))) := ⟨bf BK152 NB152_162⟩
             have n1_ : Aside0 (((((w40.setCell ⟨gb162, 0, none⟩ (.int .i64 ((rd_T26 l0_0 (ji34)).f0))).setCell ⟨gb162, 1, none⟩ (.int .i64 ((rd_T26 l0_0 (ji34)).f1))).setCell ⟨gb162, 2, none⟩ (.string ((rd_T26 l0_0 (ji34)).f2))).setCell ⟨gb162, 3, none⟩ (.int .i64 ((rd_T26 l0_0 (ji34)).f3))).heap[gb162]? = some (.cells #[.int .i64 ((rd_T26 l0_0 (ji34)).f0), .int .i64 ((rd_T26 l0_0 (ji34)).f1), .string ((rd_T26 l0_0 (ji34)).f2), .int .i64 ((rd_T26 l0_0 (ji34)).f3)] 26 (0, 0))) := ⟨by (with_reducible repeat (first | refine blk_drewN ?_ _ | refine blk_drew ?_ | refine blk_alloc ?_ _)); refine blk_put (cs := #[.int .i64 ((rd_T26 l0_0 (ji34)).f0), .int .i64 ((rd_T26 l0_0 (ji34)).f1), .string ((rd_T26 l0_0 (ji34)).f2), .int .i64 0]) ?_ 3 _ rfl; (with_reducible repeat (first | refine blk_drewN ?_ _ | refine blk_drew ?_ | refine blk_alloc ?_ _)); refine blk_put (cs := #[.int .i64 ((rd_T26 l0_0 (ji34)).f0), .int .i64 ((rd_T26 l0_0 (ji34)).f1), .string (⟨#[]⟩ : ByteArray), .int .i64 0]) ?_ 2 _ rfl; (with_reducible repeat (first | refine blk_drewN ?_ _ | refine blk_drew ?_ | refine blk_alloc ?_ _)); refine blk_put (cs := #[.int .i64 ((rd_T26 l0_0 (ji34)).f0), .int .i64 0, .string (⟨#[]⟩ : ByteArray), .int .i64 0]) ?_ 1 _ rfl; (with_reducible repeat (first | refine blk_drewN ?_ _ | refine blk_drew ?_ | refine blk_alloc ?_ _)); refine blk_put (cs := #[.int .i64 0, .int .i64 0, .string (⟨#[]⟩ : ByteArray), .int .i64 0]) ?_ 0 _ rfl; (with_reducible repeat (first | refine blk_drewN ?_ _ | refine blk_drew ?_ | refine blk_alloc ?_ _)); exact BK162.out⟩
             have n2_ : Aside0 (Below w.heap.size w ((((w40.setCell ⟨gb162, 0, none⟩ (.int .i64 ((rd_T26 l0_0 (ji34)).f0))).setCell ⟨gb162, 1, none⟩ (.int .i64 ((rd_T26 l0_0 (ji34)).f1))).setCell ⟨gb162, 2, none⟩ (.string ((rd_T26 l0_0 (ji34)).f2))).setCell ⟨gb162, 3, none⟩ (.int .i64 ((rd_T26 l0_0 (ji34)).f3)))) := ⟨bs2 HB GE152 GE162⟩
             (try clear BK152)
             (try clear BK162)
             (try clear HB)
             generalize ((((w40.setCell ⟨gb162, 0, none⟩ (.int .i64 ((rd_T26 l0_0 (ji34)).f0))).setCell ⟨gb162, 1, none⟩ (.int .i64 ((rd_T26 l0_0 (ji34)).f1))).setCell ⟨gb162, 2, none⟩ (.string ((rd_T26 l0_0 (ji34)).f2))).setCell ⟨gb162, 3, none⟩ (.int .i64 ((rd_T26 l0_0 (ji34)).f3))) = w50 at n0_ n1_ n2_ ⊢
             have BK152 := n0_
             have BK162 := n1_
             have HB := n2_
             clear n0_ n1_ n2_
             have n0_ := Aside0.mk (blk_drew BK152.out)
             have n1_ := Aside0.mk (blk_drew BK162.out)
             have n2_ := Aside0.mk (below_drew1 HB.out)
             clear BK152
             clear BK162
             clear HB
             have BK152 := n0_
             have BK162 := n1_
             have HB := n2_
             clear n0_ n1_ n2_
             refine start_ (n := 9) (S := fun w' => w'.cell? ⟨gb152, 0, none⟩ = some (.slice (some ad161) l0_0.length c0_0) ∧ w'.cell? ⟨gb152, 1, none⟩ = some (.int .i64 a0_1) ∧ w'.cell? ⟨gb152, 2, none⟩ = some (.int .i64 a0_2) ∧ w'.cell? ⟨gb152, 3, none⟩ = some (.int .i64 a0_3)) (ds := []) #[false, false, false, false, false, false, false, false, false] (by kernel_rfl) rfl rfl ⟨(blk_cell BK152.out 0).trans rfl, (blk_cell BK152.out 1).trans rfl, (blk_cell BK152.out 2).trans rfl, (blk_cell BK152.out 3).trans rfl⟩ (fun hHeld => ?_); refine with_tabW spec_GoodRing.tab12 spec_GoodRing.bits12 (fun HT_ HW_ => ?_)
             generalize w50.drew = w51 at BK152 BK162 HB hHeld ⊢
             refine pureS 0 74 HT_.out ?_
             refine pureS 1 75 HT_.out ?_
             refine takeS 2 76 HT_.out HW_.out hHeld (hr := by rintro w' ⟨s0, s1, s2, s3⟩; go_simp; with_reducible rfl) (h := ?_)
             refine pureS 3 77 HT_.out ?_
             refine pureS 4 78 HT_.out ?_
             refine pureU 5 79 HT_.out ?_
             refine pureU 6 80 HT_.out ?_
             refine pureU 7 81 HT_.out ?_
             refine pureS 8 82 HT_.out ?_
             refine done_ (done_of HT_.out (by kernel_rfl)) ?_
             try go_wp2
             go_meet
             case rel => exact ⟨_, (false), (by first | rfl | (simp; done) | (simp [*]; done)), H', ⟨by have := HJ1.out; have := HK2.out; first | omega | exact Nat.le_refl _⟩, ⟨bk BK152⟩, ⟨bk BK162⟩, ⟨bs2 HB GE152 GE162⟩⟩
           case rest =>
            clear HC37
            try clear p1
            try clear q1
            try clear hx1
            try clear c2
            try clear p2
            try clear c3
            try clear c4
            try clear c5
            try clear p6
            try clear p15
            try clear q15
            try clear hx15
            try clear p16
            try clear q16
            try clear hx16
            try clear c21
            try clear c21b0
            try clear c23
            try clear c24
            try clear c26
            try clear c26b0
            try clear c33
            try clear c33b0
            try clear c33b1
            try clear c33b2
            try clear c35
            try clear c35b0
            try clear c36
            try clear c36b0
            try clear c45
            try clear c45b0
            try clear hcz30_0 hcz30_1 hcz30_2 hcz30_3
            try clear hcz38_0 hcz38_1 hcz38_2 hcz38_3
            try clear hfz30_0 hfz30_1 hfz30_2 hfz30_3
            try clear hfz38_0 hfz38_1 hfz38_2 hfz38_3
            try clear hx156_0
            try clear hx156_1
            try clear hx156_2
            try clear hx156_3
            try clear hx161_0
            try clear hx161_1
            try clear hx161_2
            try clear hx161_3
            try clear p156
            try clear p161
            try clear q156
            try clear q161
            obtain ⟨kq, x82_36, rfl, HA, HJ36, BK152, BK162, HB⟩ := hcut
            cases kq with
            | zero => exact absurd HA.out (by simp [spec_GoodRing.j2])
            | succ kj36 =>
             have H := HA.out
             clear HA
             simp only [spec_GoodRing.j2] at H
             by_cases c52 : x82_36 = true
             ·
              subst c52
              rw [if_pos rfl] at H
              have H' := Aside0.mk H
              clear H
              go_wp2
              go_roundg kj36
              case measure => have := HJ1.out; have := HK2.out; have := HJ36.out; omega
              case rel => exact ⟨(x4_2), (wrap64 (x5_2 + 1)), (by first | rfl | (simp; done) | (simp [*]; done)), (by first | rfl | (simp; done) | (simp [*]; done)), H', ⟨by have := HJ1.out; have := HK2.out; have := HJ36.out; omega⟩, ⟨bk BK152⟩, ⟨bs2 HB GE152 GE162⟩⟩
             ·
              replace c52 := Bool.eq_false_iff.mpr c52
              subst c52
              rw [if_neg (show ¬ (false = true) by decide)] at H
              have HC53 := Aside0.mk H
              clear H
              go_upto_region 13 with (fail)
              go_cut [94] (fun v94 wc => ∃ (kq : Nat) (x94_52 : Bool), v94 = .bool x94_52 ∧ Aside0 (spec_GoodRing.j3 kq (l0_0.length : Int) x4_2 x5_2 x94_52 l0_0 a0_1 a0_2 a0_3 ((rd_T26 l0_0 (ji34)).f0) ((rd_T26 l0_0 (ji34)).f1) ((rd_T26 l0_0 (ji34)).f2) ((rd_T26 l0_0 (ji34)).f3) = some r) ∧ Aside0 (kq ≤ kj36) ∧ Aside0 (wc.heap[gb152]? = some (.cells #[(.slice (some ad161) l0_0.length c0_0), .int .i64 a0_1, .int .i64 a0_2, .int .i64 a0_3] 36 (0, 0))) ∧ Aside0 (wc.heap[gb162]? = some (.cells #[.int .i64 ((rd_T26 l0_0 (ji34)).f0), .int .i64 ((rd_T26 l0_0 (ji34)).f1), .string ((rd_T26 l0_0 (ji34)).f2), .int .i64 ((rd_T26 l0_0 (ji34)).f3)] 26 (0, 0))) ∧ Aside0 (Below w.heap.size w wc))
              case first =>
               have H := HC53.out
               clear HC53
               replace H := Option.bind_eq_some_iff.mp H
               obtain ⟨t167, A540, H⟩ := H
               replace H : (if t167 = true then (if (l0_0.length : Int) = 0 then (none) else (spec_GoodRing.j3 kj36 (l0_0.length : Int) x4_2 x5_2 (((rd_T26 l0_0 (ji34)).f0) != (wrap64 ((wrap64 (Int.tdiv x5_2 (l0_0.length : Int))) + 1))) l0_0 a0_1 a0_2 a0_3 ((rd_T26 l0_0 (ji34)).f0) ((rd_T26 l0_0 (ji34)).f1) ((rd_T26 l0_0 (ji34)).f2) ((rd_T26 l0_0 (ji34)).f3))) else (spec_GoodRing.j3 kj36 (l0_0.length : Int) x4_2 x5_2 true l0_0 a0_1 a0_2 a0_3 ((rd_T26 l0_0 (ji34)).f0) ((rd_T26 l0_0 (ji34)).f1) ((rd_T26 l0_0 (ji34)).f2) ((rd_T26 l0_0 (ji34)).f3))) = some r := H
               have A54 := Aside0.mk A540
               clear A540
               by_cases c55 : t167 = true
               ·
                subst c55
                rw [if_pos rfl] at H
                by_cases c56 : (l0_0.length : Int) = 0
                ·
                 rw [if_pos c56] at H
                 exact absurd H (by simp)
                ·
                 rw [if_neg c56] at H
                 have c56b0 : ((l0_0.length : Int) == 0) = false := beq_eq_false_iff_ne.mpr c56
                 have c56b1 : ((l0_0.length : Int) != 0) = true := bne_iff_ne.mpr c56
                 have c56b2 : ¬ (l0_0 = []) := fun h_ => c56 (by rw [h_]; rfl)
                 (first | rw [c56b0] | (simp only [i64_w, i32_w]; rw [c56b0]) | (simp only [c56b2, Bool.not_false, Bool.not_true]) | skip)
                 have H' := Aside0.mk H
                 clear H
                 try go_wp2
                 have n0_ := Aside0.mk (blk_drew BK152.out)
                 have n1_ := Aside0.mk (blk_drew BK162.out)
                 have n2_ := Aside0.mk (below_drew1 HB.out)
                 clear BK152
                 clear BK162
                 clear HB
                 have BK152 := n0_
                 have BK162 := n1_
                 have HB := n2_
                 clear n0_ n1_ n2_
                 refine start_ (n := 12) (S := fun w' => w'.cell? ⟨gb162, 0, none⟩ = some (.int .i64 ((rd_T26 l0_0 (ji34)).f0)) ∧ w'.cell? ⟨gb162, 1, none⟩ = some (.int .i64 ((rd_T26 l0_0 (ji34)).f1)) ∧ w'.cell? ⟨gb162, 2, none⟩ = some (.string ((rd_T26 l0_0 (ji34)).f2)) ∧ w'.cell? ⟨gb162, 3, none⟩ = some (.int .i64 ((rd_T26 l0_0 (ji34)).f3))) (ds := []) #[false, false, false, false, false, false, false, false, false, false, false, false] (by kernel_rfl) rfl rfl ⟨(blk_cell BK162.out 0).trans rfl, (blk_cell BK162.out 1).trans rfl, (blk_cell BK162.out 2).trans rfl, (blk_cell BK162.out 3).trans rfl⟩ (fun hHeld => ?_); refine with_tabW spec_GoodRing.tab13 spec_GoodRing.bits13 (fun HT_ HW_ => ?_)
                 generalize wc.drew = w57 at BK152 BK162 HB hHeld ⊢
                 refine takeS 0 83 HT_.out HW_.out hHeld (hr := by rintro w' ⟨s0, s1, s2, s3⟩; go_simp; with_reducible rfl) (h := ?_)
                 refine one_ (i := 1) (N := some 84) #[true, true, false, false, false, false, false, false, false, false, false, false] rfl rfl (one_of HT_.out (by kernel_rfl)) (by decide) (fun K hK => ?_)
                 refine goes_ Tryd.func57 (by kernel_rfl) rfl #[.agg #[.int .i64 ((rd_T26 l0_0 (ji34)).f0), .int .i64 ((rd_T26 l0_0 (ji34)).f1), .string ((rd_T26 l0_0 (ji34)).f2), .int .i64 ((rd_T26 l0_0 (ji34)).f3)]] (by rfl) rfl rfl (by (try simp only [List.map_toArray, List.map_cons, List.map_nil]); first | done | (simp only [hji34]; rfl) | rfl | (simp only [List.length_drop, List.length_take]; rfl)) ?_
                 with_reducible refine (spec_l10Whole.calls kj36 ((rd_T26 l0_0 (ji34)).f0) ((rd_T26 l0_0 (ji34)).f1) ((rd_T26 l0_0 (ji34)).f2) ((rd_T26 l0_0 (ji34)).f3) true _ A54.out).mono ?_
                 rintro e w58 ⟨rfl, hb⟩
                 refine ⟨_, rfl, ?_⟩
                 have n0_ := Aside0.mk (bb BK152 hb)
                 have n1_ := Aside0.mk (bb BK162 hb)
                 have n2_ := Aside0.mk (below_step (bs2 HB GE152 GE162) hb)
                 clear BK152
                 clear BK162
                 clear HB
                 have BK152 := n0_
                 have BK162 := n1_
                 have HB := n2_
                 clear n0_ n1_ n2_
                 (try clear hb)
                 (try clear hb2)
                 (try clear hk)
                 (try clear hi)
                 refine hK.out _ _ ⟨(blk_cell BK162.out 0).trans rfl, (blk_cell BK162.out 1).trans rfl, (blk_cell BK162.out 2).trans rfl, (blk_cell BK162.out 3).trans rfl⟩ (fun hHeld => ?_)
                 clear hK K
                 refine norm_ (a' := ?_) ?_ ?_
                 rotate_left
                 ·
                  show Act.put _ (some 84) _ = _
                  simp only [Act.put, List.setIfInBounds_toArray, List.set_cons_zero, List.set_cons_succ, i64_w, i32_w]
                  rfl
                 refine pureS 2 85 HT_.out ?_
                 refine pureS 3 86 HT_.out ?_
                 refine pureS 4 87 HT_.out ?_
                 refine pureS 6 89 HT_.out ?_
                 refine pureS 7 90 HT_.out ?_
                 refine pureS 8 91 HT_.out ?_
                 refine pureS 9 92 HT_.out ?_
                 refine takeS 5 88 HT_.out HW_.out hHeld (hr := by rintro w' ⟨s0, s1, s2, s3⟩; go_simp; with_reducible rfl) (h := ?_)
                 refine pureS 10 93 HT_.out ?_
                 refine pureS 11 94 HT_.out ?_
                 refine done_ (done_of HT_.out (by kernel_rfl)) ?_
                 try go_wp2
                 go_meet
                 case rel => exact ⟨_, ((((rd_T26 l0_0 (ji34)).f0) != (wrap64 ((wrap64 (Int.tdiv x5_2 (l0_0.length : Int))) + 1)))), (by first | rfl | (simp; done) | (simp only [← hji34] <;> (first | rfl | simp)) | (simp [*]; done)), H', ⟨by have := HJ1.out; have := HK2.out; have := HJ36.out; first | omega | exact Nat.le_refl _⟩, ⟨bk BK152⟩, ⟨bk BK162⟩, ⟨bs2 HB GE152 GE162⟩⟩
               ·
                replace c55 := Bool.eq_false_iff.mpr c55
                subst c55
                rw [if_neg (show ¬ (false = true) by decide)] at H
                have H' := Aside0.mk H
                clear H
                try go_wp2
                have n0_ := Aside0.mk (blk_drew BK152.out)
                have n1_ := Aside0.mk (blk_drew BK162.out)
                have n2_ := Aside0.mk (below_drew1 HB.out)
                clear BK152
                clear BK162
                clear HB
                have BK152 := n0_
                have BK162 := n1_
                have HB := n2_
                clear n0_ n1_ n2_
                refine start_ (n := 12) (S := fun w' => w'.cell? ⟨gb162, 0, none⟩ = some (.int .i64 ((rd_T26 l0_0 (ji34)).f0)) ∧ w'.cell? ⟨gb162, 1, none⟩ = some (.int .i64 ((rd_T26 l0_0 (ji34)).f1)) ∧ w'.cell? ⟨gb162, 2, none⟩ = some (.string ((rd_T26 l0_0 (ji34)).f2)) ∧ w'.cell? ⟨gb162, 3, none⟩ = some (.int .i64 ((rd_T26 l0_0 (ji34)).f3))) (ds := []) #[false, false, false, false, false, false, false, false, false, false, false, false] (by kernel_rfl) rfl rfl ⟨(blk_cell BK162.out 0).trans rfl, (blk_cell BK162.out 1).trans rfl, (blk_cell BK162.out 2).trans rfl, (blk_cell BK162.out 3).trans rfl⟩ (fun hHeld => ?_); refine with_tabW spec_GoodRing.tab13 spec_GoodRing.bits13 (fun HT_ HW_ => ?_)
                generalize wc.drew = w59 at BK152 BK162 HB hHeld ⊢
                refine takeS 0 83 HT_.out HW_.out hHeld (hr := by rintro w' ⟨s0, s1, s2, s3⟩; go_simp; with_reducible rfl) (h := ?_)
                refine one_ (i := 1) (N := some 84) #[true, true, false, false, false, false, false, false, false, false, false, false] rfl rfl (one_of HT_.out (by kernel_rfl)) (by decide) (fun K hK => ?_)
                refine goes_ Tryd.func57 (by kernel_rfl) rfl #[.agg #[.int .i64 ((rd_T26 l0_0 (ji34)).f0), .int .i64 ((rd_T26 l0_0 (ji34)).f1), .string ((rd_T26 l0_0 (ji34)).f2), .int .i64 ((rd_T26 l0_0 (ji34)).f3)]] (by rfl) rfl rfl (by (try simp only [List.map_toArray, List.map_cons, List.map_nil]); first | done | (simp only [hji34]; rfl) | rfl | (simp only [List.length_drop, List.length_take]; rfl)) ?_
                with_reducible refine (spec_l10Whole.calls kj36 ((rd_T26 l0_0 (ji34)).f0) ((rd_T26 l0_0 (ji34)).f1) ((rd_T26 l0_0 (ji34)).f2) ((rd_T26 l0_0 (ji34)).f3) false _ A54.out).mono ?_
                rintro e w60 ⟨rfl, hb⟩
                refine ⟨_, rfl, ?_⟩
                have n0_ := Aside0.mk (bb BK152 hb)
                have n1_ := Aside0.mk (bb BK162 hb)
                have n2_ := Aside0.mk (below_step (bs2 HB GE152 GE162) hb)
                clear BK152
                clear BK162
                clear HB
                have BK152 := n0_
                have BK162 := n1_
                have HB := n2_
                clear n0_ n1_ n2_
                (try clear hb)
                (try clear hb2)
                (try clear hk)
                (try clear hi)
                refine hK.out _ _ ⟨(blk_cell BK162.out 0).trans rfl, (blk_cell BK162.out 1).trans rfl, (blk_cell BK162.out 2).trans rfl, (blk_cell BK162.out 3).trans rfl⟩ (fun hHeld => ?_)
                clear hK K
                refine norm_ (a' := ?_) ?_ ?_
                rotate_left
                ·
                 show Act.put _ (some 84) _ = _
                 simp only [Act.put, List.setIfInBounds_toArray, List.set_cons_zero, List.set_cons_succ, i64_w, i32_w]
                 rfl
                refine pureS 2 85 HT_.out ?_
                refine pureS 3 86 HT_.out ?_
                refine pureU 4 87 HT_.out ?_
                refine pureU 5 88 HT_.out ?_
                refine pureU 6 89 HT_.out ?_
                refine pureU 7 90 HT_.out ?_
                refine pureU 8 91 HT_.out ?_
                refine pureU 9 92 HT_.out ?_
                refine pureU 10 93 HT_.out ?_
                refine pureS 11 94 HT_.out ?_
                refine done_ (done_of HT_.out (by kernel_rfl)) ?_
                try go_wp2
                go_meet
                case rel => exact ⟨_, (true), (by first | rfl | (simp; done) | (simp [*]; done)), H', ⟨by have := HJ1.out; have := HK2.out; have := HJ36.out; first | omega | exact Nat.le_refl _⟩, ⟨bk BK152⟩, ⟨bk BK162⟩, ⟨bs2 HB GE152 GE162⟩⟩
              case rest =>
               clear HC53
               try clear p1
               try clear q1
               try clear hx1
               try clear c2
               try clear p2
               try clear c3
               try clear c4
               try clear c5
               try clear p6
               try clear p15
               try clear q15
               try clear hx15
               try clear p16
               try clear q16
               try clear hx16
               try clear c21
               try clear c21b0
               try clear c23
               try clear c24
               try clear c26
               try clear c26b0
               try clear c33
               try clear c33b0
               try clear c33b1
               try clear c33b2
               try clear c35
               try clear c35b0
               try clear c36
               try clear c36b0
               try clear c45
               try clear c45b0
               try clear c52
               try clear c55
               try clear c56
               try clear c56b0
               try clear c56b1
               try clear c56b2
               try clear c57
               try clear hcz30_0 hcz30_1 hcz30_2 hcz30_3
               try clear hcz38_0 hcz38_1 hcz38_2 hcz38_3
               try clear hfz30_0 hfz30_1 hfz30_2 hfz30_3
               try clear hfz38_0 hfz38_1 hfz38_2 hfz38_3
               try clear hx156_0
               try clear hx156_1
               try clear hx156_2
               try clear hx156_3
               try clear hx161_0
               try clear hx161_1
               try clear hx161_2
               try clear hx161_3
               try clear p1
               try clear p15
               try clear p156
               try clear p16
               try clear p161
               try clear p2
               try clear p6
               try clear q1
               try clear q15
               try clear q156
               try clear q16
               try clear q161
               obtain ⟨kq, x94_52, rfl, HA, HJ52, BK152, BK162, HB⟩ := hcut
               cases kq with
               | zero => exact absurd HA.out (by simp [spec_GoodRing.j3])
               | succ kj52 =>
                have H := HA.out
                clear HA
                simp only [spec_GoodRing.j3] at H
                by_cases c61 : x94_52 = true
                ·
                 subst c61
                 rw [if_pos rfl] at H
                 obtain rfl := Option.some.inj H
                 go_wp2
                 go_ret
                 exact ⟨by first | rfl | (simp [errW_none, errW_some] <;> rfl) | (simp only [← hji34]; first | rfl | (simp [errW_none, errW_some] <;> rfl)) | (simp [*, errW_none, errW_some] <;> rfl), bs2 HB GE152 GE162⟩
                ·
                 replace c61 := Bool.eq_false_iff.mpr c61
                 subst c61
                 rw [if_neg (show ¬ (false = true) by decide)] at H
                 by_cases c62 : ((rd_T26 l0_0 (ji34)).f1) < x4_2
                 ·
                  rw [if_pos c62] at H
                  have c62b0 : decide (((rd_T26 l0_0 (ji34)).f1) < x4_2) = true := decide_eq_true c62
                  clear c62
                  obtain rfl := Option.some.inj H
                  have hnb63 := NB162_152.out
                  have hnc63 := NB152_162.out
                  obtain ⟨hcz64_0, hcz64_1, hcz64_2, hcz64_3⟩ := cz4 BK162
                  obtain ⟨hfz64_0, hfz64_1, hfz64_2, hfz64_3⟩ := fz4 BK162
                  go_wp2
                  go_ret
                  exact ⟨by first | rfl | (simp [errW_none, errW_some] <;> rfl) | (simp only [← hji34]; first | rfl | (simp [errW_none, errW_some] <;> rfl)) | (simp [*, errW_none, errW_some] <;> rfl), bs2 HB GE152 GE162⟩
                 ·
                  rw [if_neg c62] at H
                  have c62b0 : decide (((rd_T26 l0_0 (ji34)).f1) < x4_2) = false := decide_eq_false c62
                  clear c62
                  by_cases c65 : ((rd_T26 l0_0 (ji34)).f1) > x5_2
                  ·
                   rw [if_pos c65] at H
                   have c65b0 : decide (x5_2 < ((rd_T26 l0_0 (ji34)).f1)) = true := decide_eq_true c65
                   clear c65
                   obtain rfl := Option.some.inj H
                   have hnb66 := NB162_152.out
                   have hnc66 := NB152_162.out
                   obtain ⟨hcz67_0, hcz67_1, hcz67_2, hcz67_3⟩ := cz4 BK162
                   obtain ⟨hfz67_0, hfz67_1, hfz67_2, hfz67_3⟩ := fz4 BK162
                   go_wp2
                   go_ret
                   exact ⟨by first | rfl | (simp [errW_none, errW_some] <;> rfl) | (simp only [← hji34]; first | rfl | (simp [errW_none, errW_some] <;> rfl)) | (simp [*, errW_none, errW_some] <;> rfl), bs2 HB GE152 GE162⟩
                  ·
                   rw [if_neg c65] at H
                   have c65b0 : decide (x5_2 < ((rd_T26 l0_0 (ji34)).f1)) = false := decide_eq_false c65
                   clear c65
                   by_cases c68 : ((rd_T26 l0_0 (ji34)).f1) > a0_3
                   ·
                    rw [if_pos c68] at H
                    have c68b0 : decide (a0_3 < ((rd_T26 l0_0 (ji34)).f1)) = true := decide_eq_true c68
                    clear c68
                    obtain rfl := Option.some.inj H
                    have hnb69 := NB162_152.out
                    have hnc69 := NB152_162.out
                    obtain ⟨hcz70_0, hcz70_1, hcz70_2, hcz70_3⟩ := cz4 BK162
                    obtain ⟨hfz70_0, hfz70_1, hfz70_2, hfz70_3⟩ := fz4 BK162
                    obtain ⟨hcz71_0, hcz71_1, hcz71_2, hcz71_3⟩ := cz4 BK152
                    obtain ⟨hfz71_0, hfz71_1, hfz71_2, hfz71_3⟩ := fz4 BK152
                    go_wp2
                    go_ret
                    exact ⟨by first | rfl | (simp [errW_none, errW_some] <;> rfl) | (simp only [← hji34]; first | rfl | (simp [errW_none, errW_some] <;> rfl)) | (simp [*, errW_none, errW_some] <;> rfl), bs2 HB GE152 GE162⟩
                   ·
                    rw [if_neg c68] at H
                    have c68b0 : decide (a0_3 < ((rd_T26 l0_0 (ji34)).f1)) = false := decide_eq_false c68
                    clear c68
                    have H' := Aside0.mk H
                    clear H
                    have hnb72 := NB162_152.out
                    have hnc72 := NB152_162.out
                    obtain ⟨hcz73_0, hcz73_1, hcz73_2, hcz73_3⟩ := cz4 BK162
                    obtain ⟨hfz73_0, hfz73_1, hfz73_2, hfz73_3⟩ := fz4 BK162
                    obtain ⟨hcz74_0, hcz74_1, hcz74_2, hcz74_3⟩ := cz4 BK152
                    obtain ⟨hfz74_0, hfz74_1, hfz74_2, hfz74_3⟩ := fz4 BK152
                    go_wp2
                    go_roundg kj52
                    case measure => have := HJ1.out; have := HK2.out; have := HJ36.out; have := HJ52.out; omega
                    case rel => exact ⟨(((rd_T26 l0_0 (ji34)).f1)), (wrap64 (x5_2 + 1)), (by first | rfl | (simp; done) | (simp only [← hji34] <;> (first | rfl | simp)) | (simp [*]; done)), (by first | rfl | (simp; done) | (simp [*]; done)), H', ⟨by have := HJ1.out; have := HK2.out; have := HJ36.out; have := HJ52.out; omega⟩, ⟨bk BK152⟩, ⟨bs2 HB GE152 GE162⟩⟩
          ·
           rw [if_neg c36] at H
           exact absurd H (by simp)
         ·
          rw [if_neg c35] at H
          exact absurd H (by simp)
      ·
       rw [if_neg c20] at H
       have c20b0 : decide (x5_2 < a0_1) = false := decide_eq_false c20
       clear c20
       obtain rfl := Option.some.inj H
       obtain ⟨hcz75_0, hcz75_1, hcz75_2, hcz75_3⟩ := cz4 BK152
       obtain ⟨hfz75_0, hfz75_1, hfz75_2, hfz75_3⟩ := fz4 BK152
       go_wp2
       go_ret
       exact ⟨by first | rfl | (simp [errW_none, errW_some] <;> rfl) | (simp [*, errW_none, errW_some] <;> rfl), bs1 HB GE152⟩

/-! ### impl_zeroSlot: function 59 -/
def impl_zeroSlot.f (k : Nat)  : Option (Int × Int × ByteArray × Int) := (impl_SlotSum.f k 0 0 (⟨#[]⟩ : ByteArray) 0).bind fun t169 => (some (0, 0, (⟨#[]⟩ : ByteArray), t169))
theorem impl_zeroSlot.mono : ∀ k, LeO (impl_zeroSlot.f k ) (impl_zeroSlot.f (k + 1) ) := by
 intro  k
 unfold impl_zeroSlot.f
 repeat' first
   | (with_reducible exact impl_SlotSum.mono _ _ _ _ _)
   | (with_reducible exact LeO.refl _)
   | (with_reducible exact LeO.none _)
   | (with_reducible refine LeO.ite ?_ ?_)
   | (with_reducible refine LeO.bind ?_ (fun _ => ?_))
   | exact impl_SlotSum.mono _ _ _ _ _
   | exact LeO.none _
   | refine LeO.ite ?_ ?_
   | refine LeO.bind ?_ (fun _ => ?_)
set_option maxHeartbeats 8000000 in
set_option maxRecDepth 100000 in
theorem impl_zeroSlot.calls (k : Nat)  (r1 : Int) (r2 : Int) (r3 : ByteArray) (r4 : Int) (w : World) (hTab_ : Aside0 (Ito.TabW w)) (h : impl_zeroSlot.f k  = some (r1, r2, r3, r4)) :
  Calls Tryd.prog 59 #[] w fun e w' => e = .returned (.agg #[.int .i64 r1, .int .i64 r2, .string r3, .int .i64 r4]) ∧ Below w.heap.size w w' := by
 have hu26 := Tryd.underlying26
 have HB := Aside0.mk (Below.refl w.heap.size w)
 have H : ((impl_SlotSum.f k 0 0 (⟨#[]⟩ : ByteArray) 0).bind fun t169 => (some (0, 0, (⟨#[]⟩ : ByteArray), t169))) = some (r1, r2, r3, r4) := h
 clear h
 replace H := Option.bind_eq_some_iff.mp H
 obtain ⟨t169, A10, H⟩ := H
 replace H : (some (0, 0, (⟨#[]⟩ : ByteArray), t169)) = some (r1, r2, r3, r4) := H
 have A1 := Aside0.mk A10
 clear A10
 simp only [Option.some.injEq, Prod.mk.injEq] at H
 obtain ⟨rfl, rfl, rfl, rfl⟩ := H
 go_enter Tryd.func59, Tryd.ntmps59
 go_wp2_with (first | ((with_reducible refine gate_dst (N := 0) rfl ?_); refine box_event ?hg (N := 0) ?hd (cs := #[.int .i64 0, .int .i64 0, .string (⟨#[]⟩ : ByteArray), .int .i64 0]) (t := 26) ?hr ?_; (case hd => rfl); (case hg => rfl); (case hr => first | (go_simp; done) | (go_simp; rfl)); intro gb168 hg w2 hbox hb; have BK168 := Aside0.mk (hbox); have GW168 := Aside0.mk ((by rw [hg]; exact (below_size (bs HB)) : w.heap.size ≤ gb168)); have GE168 := Aside0.mk ((by rw [hg]; exact (below_size (bs HB)) : w.heap.size ≤ gb168)); replace HB := Aside0.mk (below_step (bs HB) hb); clear hb hbox hg) | ((with_reducible refine gate_callee (f := 16) rfl ?_); refine gL (some 2) rfl rfl Tryd.func16 (by kernel_rfl) rfl #[.agg #[.int .i64 0, .int .i64 0, .string (⟨#[]⟩ : ByteArray), .int .i64 0]] rfl ?_; (with_reducible refine (impl_SlotSum.calls k 0 0 (⟨#[]⟩ : ByteArray) 0 t169 _ ?sideT A1.out).mono ?_); (case sideT => refine ⟨Ito.tabB hTab_.out ?_⟩; first | exact bs HB | exact st_below | (repeat (first | (with_reducible first | exact HB.out | apply below_alloc | apply pw_below_drewN | apply below_drew1 | refine below_set ?_ (Aside0.out (by assumption))) | exact HB.out))); rintro e w3 ⟨rfl, hb⟩; refine ⟨_, rfl, ?_⟩; replace BK168 := Aside0.mk (blk_below (g := gb168) (o := .cells #[.int .i64 0, .int .i64 0, .string (⟨#[]⟩ : ByteArray), .int .i64 0] 26 (0, 0)) (bk BK168) hb); replace HB := Aside0.mk (below_step (bs1 HB GE168) hb); (try clear hb); (try clear hb2); (try clear hk); (try clear hi); obtain ⟨hcz4_0, hcz4_1, hcz4_2, hcz4_3⟩ := cz4 BK168; obtain ⟨hfz4_0, hfz4_1, hfz4_2, hfz4_3⟩ := fz4 BK168))
 refine bodyPost_ret (results_cell_row rfl _ _ gb168 26 #[.int .i64 0, .int .i64 0, .string (⟨#[]⟩ : ByteArray), .int .i64 t169] (0, 0) _ rfl (by (with_reducible repeat (first | refine blk_drewN ?_ _ | refine blk_drew ?_ | refine blk_alloc ?_ _)); refine blk_put (cs := #[.int .i64 0, .int .i64 0, .string (⟨#[]⟩ : ByteArray), .int .i64 0]) ?_ 3 _ rfl; (with_reducible repeat (first | refine blk_drewN ?_ _ | refine blk_drew ?_ | refine blk_alloc ?_ _)); refine blk_put (cs := #[.int .i64 0, .int .i64 0, .string (⟨#[]⟩ : ByteArray), .int .i64 0]) ?_ 2 _ rfl; (with_reducible repeat (first | refine blk_drewN ?_ _ | refine blk_drew ?_ | refine blk_alloc ?_ _)); refine blk_put (cs := #[.int .i64 0, .int .i64 0, .string (⟨#[]⟩ : ByteArray), .int .i64 0]) ?_ 1 _ rfl; (with_reducible repeat (first | refine blk_drewN ?_ _ | refine blk_drew ?_ | refine blk_alloc ?_ _)); refine blk_put (cs := #[.int .i64 0, .int .i64 0, .string (⟨#[]⟩ : ByteArray), .int .i64 0]) ?_ 0 _ rfl; (with_reducible repeat (first | refine blk_drewN ?_ _ | refine blk_drew ?_ | refine blk_alloc ?_ _)); exact BK168.out) Tryd.underlying26 rfl (by kernel_rfl)) rfl ?_
 exact ⟨by first | rfl | (simp [errW_none, errW_some] <;> rfl) | (simp [*, errW_none, errW_some] <;> rfl), bs1 HB GE168⟩

/-! ### impl_isIntact: function 60 -/
def impl_isIntact.f (k : Nat) (a0_0 : Int) (a0_1 : Int) (a0_2 : ByteArray) (a0_3 : Int) : Option (Bool) := (impl_isInRange.f a0_0 a0_1 a0_2 a0_3).bind fun t171 => (if t171 = true then ((impl_SlotSum.f k a0_0 a0_1 a0_2 a0_3).bind fun t172 => (some (a0_3 == t172))) else (some false))
theorem impl_isIntact.mono : ∀ a0 a1 a2 a3 k, LeO (impl_isIntact.f k a0 a1 a2 a3) (impl_isIntact.f (k + 1) a0 a1 a2 a3) := by
 intro a0 a1 a2 a3 k
 unfold impl_isIntact.f
 repeat' first
   | (with_reducible exact impl_SlotSum.mono _ _ _ _ _)
   | (with_reducible exact LeO.refl _)
   | (with_reducible exact LeO.none _)
   | (with_reducible refine LeO.ite ?_ ?_)
   | (with_reducible refine LeO.bind ?_ (fun _ => ?_))
   | exact impl_SlotSum.mono _ _ _ _ _
   | exact LeO.none _
   | refine LeO.ite ?_ ?_
   | refine LeO.bind ?_ (fun _ => ?_)
def impl_isIntact.T1 : Bool × List (List Nat × List Nat) := (true, [([], []), ([0], [0]), ([1, 1], [1]), ([2], [2]), ([3, 2], [2, 3]), ([2], [2]), ([5, 2, 2], [2, 5]), ([4, 6, 2], [2, 4, 6]), ([2, 7], [2, 7]), ([8, 6, 0, 1, 2, 3, 4, 5, 6, 7, 8], [8])])
def impl_isIntact.B1 : List Nat := [0, 1, 3, 7, 15, 7, 39, 127, 255, 511]
theorem impl_isIntact.tab1 : rtab .any (opsOf Tryd.f60 1) = impl_isIntact.T1 := by kernel_rfl
theorem impl_isIntact.bits1 : waitsOk impl_isIntact.T1.2 impl_isIntact.B1 = true := by kernel_rfl
set_option maxHeartbeats 8000000 in
set_option maxRecDepth 100000 in
theorem impl_isIntact.calls (k : Nat) (a0_0 : Int) (a0_1 : Int) (a0_2 : ByteArray) (a0_3 : Int) (r : Bool) (w : World) (hTab_ : Aside0 (Ito.TabW w)) (h : impl_isIntact.f k a0_0 a0_1 a0_2 a0_3 = some r) :
  Calls Tryd.prog 60 #[.agg #[.int .i64 a0_0, .int .i64 a0_1, .string a0_2, .int .i64 a0_3]] w fun e w' => e = .returned (.bool r) ∧ Below w.heap.size w w' := by
 have hu26 := Tryd.underlying26
 have HB := Aside0.mk (Below.refl w.heap.size w)
 have H : ((impl_isInRange.f a0_0 a0_1 a0_2 a0_3).bind fun t171 => (if t171 = true then ((impl_SlotSum.f k a0_0 a0_1 a0_2 a0_3).bind fun t172 => (some (a0_3 == t172))) else (some false))) = some r := h
 clear h
 replace H := Option.bind_eq_some_iff.mp H
 obtain ⟨t171, A20, H⟩ := H
 replace H : (if t171 = true then ((impl_SlotSum.f k a0_0 a0_1 a0_2 a0_3).bind fun t172 => (some (a0_3 == t172))) else (some false)) = some r := H
 have A2 := Aside0.mk A20
 clear A20
 by_cases c3 : t171 = true
 ·
  subst c3
  rw [if_pos rfl] at H
  replace H := Option.bind_eq_some_iff.mp H
  obtain ⟨t172, A40, H⟩ := H
  replace H : (some (a0_3 == t172)) = some r := H
  have A4 := Aside0.mk A40
  clear A40
  obtain rfl := Option.some.inj H
  go_enter Tryd.func60, Tryd.ntmps60
  try go_wp2_with (first | ((with_reducible refine gate_dst (N := 1) rfl ?_); refine box_event ?hg (N := 1) ?hd (cs := #[.int .i64 a0_0, .int .i64 a0_1, .string a0_2, .int .i64 a0_3]) (t := 26) ?hr ?_; (case hd => rfl); (case hg => rfl); (case hr => first | (go_simp; done) | (go_simp; rfl)); intro gb170 hg w5 hbox hb; have BK170 := Aside0.mk (hbox); have GW170 := Aside0.mk ((by rw [hg]; exact (below_size (bs HB)) : w.heap.size ≤ gb170)); have GE170 := Aside0.mk ((by rw [hg]; exact (below_size (bs HB)) : w.heap.size ≤ gb170)); replace HB := Aside0.mk (below_step (bs HB) hb); clear hb hbox hg))
  have n0_ := Aside0.mk (blk_drew BK170.out)
  have n1_ := Aside0.mk (below_drew1 HB.out)
  clear BK170
  clear HB
  have BK170 := n0_
  have HB := n1_
  clear n0_ n1_
  refine start_ (n := 10) (S := fun w' => w'.cell? ⟨gb170, 0, none⟩ = some (.int .i64 a0_0) ∧ w'.cell? ⟨gb170, 1, none⟩ = some (.int .i64 a0_1) ∧ w'.cell? ⟨gb170, 2, none⟩ = some (.string a0_2) ∧ w'.cell? ⟨gb170, 3, none⟩ = some (.int .i64 a0_3)) (ds := []) #[false, false, false, false, false, false, false, false, false, false] (by kernel_rfl) rfl rfl ⟨(blk_cell BK170.out 0).trans rfl, (blk_cell BK170.out 1).trans rfl, (blk_cell BK170.out 2).trans rfl, (blk_cell BK170.out 3).trans rfl⟩ (fun hHeld => ?_); refine with_tabW impl_isIntact.tab1 impl_isIntact.bits1 (fun HT_ HW_ => ?_)
  generalize w5.drew = w6 at BK170 HB hHeld ⊢
  refine takeS 0 3 HT_.out HW_.out hHeld (hr := by rintro w' ⟨s0, s1, s2, s3⟩; go_simp; with_reducible rfl) (h := ?_)
  refine one_ (i := 1) (N := some 4) #[true, true, false, false, false, false, false, false, false, false] rfl rfl (one_of HT_.out (by kernel_rfl)) (by decide) (fun K hK => ?_)
  refine goes_ Tryd.func53 (by kernel_rfl) rfl #[.agg #[.int .i64 a0_0, .int .i64 a0_1, .string a0_2, .int .i64 a0_3]] (by rfl) rfl rfl (by (try simp only [List.map_toArray, List.map_cons, List.map_nil]); first | done | rfl | (simp only [List.length_drop, List.length_take]; rfl)) ?_
  with_reducible refine (impl_isInRange.calls a0_0 a0_1 a0_2 a0_3 true _ A2.out).mono ?_
  rintro e w7 ⟨rfl, hb⟩
  refine ⟨_, rfl, ?_⟩
  have n0_ := Aside0.mk (bb BK170 hb)
  have n1_ := Aside0.mk (below_step (bs1 HB GE170) hb)
  clear BK170
  clear HB
  have BK170 := n0_
  have HB := n1_
  clear n0_ n1_
  (try clear hb)
  (try clear hb2)
  (try clear hk)
  (try clear hi)
  refine hK.out _ _ ⟨(blk_cell BK170.out 0).trans rfl, (blk_cell BK170.out 1).trans rfl, (blk_cell BK170.out 2).trans rfl, (blk_cell BK170.out 3).trans rfl⟩ (fun hHeld => ?_)
  clear hK K
  refine norm_ (a' := ?_) ?_ ?_
  rotate_left
  ·
   show Act.put _ (some 4) _ = _
   simp only [Act.put, List.setIfInBounds_toArray, List.set_cons_zero, List.set_cons_succ, i64_w, i32_w]
   rfl
  refine pureS 2 5 HT_.out ?_
  refine pureS 3 6 HT_.out ?_
  refine takeS 4 7 HT_.out HW_.out hHeld (hr := by rintro w' ⟨s0, s1, s2, s3⟩; go_simp; with_reducible rfl) (h := ?_)
  refine takeS 5 8 HT_.out HW_.out hHeld (hr := by rintro w' ⟨s0, s1, s2, s3⟩; go_simp; with_reducible rfl) (h := ?_)
  refine one_ (i := 6) (N := some 9) #[true, true, true, true, true, true, true, false, false, false] rfl rfl (one_of HT_.out (by kernel_rfl)) (by decide) (fun K hK => ?_)
  refine goes_ Tryd.func16 (by kernel_rfl) rfl #[.agg #[.int .i64 a0_0, .int .i64 a0_1, .string a0_2, .int .i64 a0_3]] (by rfl) rfl rfl (by (try simp only [List.map_toArray, List.map_cons, List.map_nil]); first | done | rfl | (simp only [List.length_drop, List.length_take]; rfl)) ?_
  with_reducible refine (impl_SlotSum.calls k a0_0 a0_1 a0_2 a0_3 t172 _ ?sideT A4.out).mono ?_
  case sideT => refine ⟨Ito.tabB hTab_.out ?_⟩; first | exact bs HB | exact st_below | (repeat (first | (with_reducible first | exact HB.out | apply below_alloc | apply pw_below_drewN | apply below_drew1 | refine below_set ?_ (Aside0.out (by assumption))) | exact HB.out))
  rintro e w8 ⟨rfl, hb⟩
  refine ⟨_, rfl, ?_⟩
  have n0_ := Aside0.mk (bb BK170 hb)
  have n1_ := Aside0.mk (below_step (bs1 HB GE170) hb)
  clear BK170
  clear HB
  have BK170 := n0_
  have HB := n1_
  clear n0_ n1_
  (try clear hb)
  (try clear hb2)
  (try clear hk)
  (try clear hi)
  refine hK.out _ _ ⟨(blk_cell BK170.out 0).trans rfl, (blk_cell BK170.out 1).trans rfl, (blk_cell BK170.out 2).trans rfl, (blk_cell BK170.out 3).trans rfl⟩ (fun hHeld => ?_)
  clear hK K
  refine norm_ (a' := ?_) ?_ ?_
  rotate_left
  ·
   show Act.put _ (some 9) _ = _
   simp only [Act.put, List.setIfInBounds_toArray, List.set_cons_zero, List.set_cons_succ, i64_w, i32_w]
   rfl
  refine pureS 7 10 HT_.out ?_
  refine pureS 8 11 HT_.out ?_
  refine pureS 9 2 HT_.out ?_
  refine done_ (done_of HT_.out (by kernel_rfl)) ?_
  try go_wp2
  go_ret
  exact ⟨by first | rfl | (simp [errW_none, errW_some] <;> rfl) | (simp [*, errW_none, errW_some] <;> rfl), bs1 HB GE170⟩
 ·
  replace c3 := Bool.eq_false_iff.mpr c3
  subst c3
  rw [if_neg (show ¬ (false = true) by decide)] at H
  obtain rfl := Option.some.inj H
  go_enter Tryd.func60, Tryd.ntmps60
  try go_wp2_with (first | ((with_reducible refine gate_dst (N := 1) rfl ?_); refine box_event ?hg (N := 1) ?hd (cs := #[.int .i64 a0_0, .int .i64 a0_1, .string a0_2, .int .i64 a0_3]) (t := 26) ?hr ?_; (case hd => rfl); (case hg => rfl); (case hr => first | (go_simp; done) | (go_simp; rfl)); intro gb170 hg w9 hbox hb; have BK170 := Aside0.mk (hbox); have GW170 := Aside0.mk ((by rw [hg]; exact (below_size (bs HB)) : w.heap.size ≤ gb170)); have GE170 := Aside0.mk ((by rw [hg]; exact (below_size (bs HB)) : w.heap.size ≤ gb170)); replace HB := Aside0.mk (below_step (bs HB) hb); clear hb hbox hg))
  have n0_ := Aside0.mk (blk_drew BK170.out)
  have n1_ := Aside0.mk (below_drew1 HB.out)
  clear BK170
  clear HB
  have BK170 := n0_
  have HB := n1_
  clear n0_ n1_
  refine start_ (n := 10) (S := fun w' => w'.cell? ⟨gb170, 0, none⟩ = some (.int .i64 a0_0) ∧ w'.cell? ⟨gb170, 1, none⟩ = some (.int .i64 a0_1) ∧ w'.cell? ⟨gb170, 2, none⟩ = some (.string a0_2) ∧ w'.cell? ⟨gb170, 3, none⟩ = some (.int .i64 a0_3)) (ds := []) #[false, false, false, false, false, false, false, false, false, false] (by kernel_rfl) rfl rfl ⟨(blk_cell BK170.out 0).trans rfl, (blk_cell BK170.out 1).trans rfl, (blk_cell BK170.out 2).trans rfl, (blk_cell BK170.out 3).trans rfl⟩ (fun hHeld => ?_); refine with_tabW impl_isIntact.tab1 impl_isIntact.bits1 (fun HT_ HW_ => ?_)
  generalize w9.drew = w10 at BK170 HB hHeld ⊢
  refine takeS 0 3 HT_.out HW_.out hHeld (hr := by rintro w' ⟨s0, s1, s2, s3⟩; go_simp; with_reducible rfl) (h := ?_)
  refine one_ (i := 1) (N := some 4) #[true, true, false, false, false, false, false, false, false, false] rfl rfl (one_of HT_.out (by kernel_rfl)) (by decide) (fun K hK => ?_)
  refine goes_ Tryd.func53 (by kernel_rfl) rfl #[.agg #[.int .i64 a0_0, .int .i64 a0_1, .string a0_2, .int .i64 a0_3]] (by rfl) rfl rfl (by (try simp only [List.map_toArray, List.map_cons, List.map_nil]); first | done | rfl | (simp only [List.length_drop, List.length_take]; rfl)) ?_
  with_reducible refine (impl_isInRange.calls a0_0 a0_1 a0_2 a0_3 false _ A2.out).mono ?_
  rintro e w11 ⟨rfl, hb⟩
  refine ⟨_, rfl, ?_⟩
  have n0_ := Aside0.mk (bb BK170 hb)
  have n1_ := Aside0.mk (below_step (bs1 HB GE170) hb)
  clear BK170
  clear HB
  have BK170 := n0_
  have HB := n1_
  clear n0_ n1_
  (try clear hb)
  (try clear hb2)
  (try clear hk)
  (try clear hi)
  refine hK.out _ _ ⟨(blk_cell BK170.out 0).trans rfl, (blk_cell BK170.out 1).trans rfl, (blk_cell BK170.out 2).trans rfl, (blk_cell BK170.out 3).trans rfl⟩ (fun hHeld => ?_)
  clear hK K
  refine norm_ (a' := ?_) ?_ ?_
  rotate_left
  ·
   show Act.put _ (some 4) _ = _
   simp only [Act.put, List.setIfInBounds_toArray, List.set_cons_zero, List.set_cons_succ, i64_w, i32_w]
   rfl
  refine pureS 2 5 HT_.out ?_
  refine pureU 3 6 HT_.out ?_
  refine pureU 4 7 HT_.out ?_
  refine pureU 5 8 HT_.out ?_
  refine pureU 6 9 HT_.out ?_
  refine pureU 7 10 HT_.out ?_
  refine pureS 8 11 HT_.out ?_
  refine pureS 9 2 HT_.out ?_
  refine done_ (done_of HT_.out (by kernel_rfl)) ?_
  try go_wp2
  go_ret
  exact ⟨by first | rfl | (simp [errW_none, errW_some] <;> rfl) | (simp [*, errW_none, errW_some] <;> rfl), bs1 HB GE170⟩

end Go.Proofs.YthlifcbkpafofaaDoor.G
