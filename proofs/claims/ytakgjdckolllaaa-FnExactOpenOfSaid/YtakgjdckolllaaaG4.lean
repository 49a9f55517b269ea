-- Printed by a program of this session (drive.py, by way of the kit's print). Not trusted: Lean checks it.
import Derived.Test.YtakgjdckolllaaaG0
import Derived.Test.YtakgjdckolllaaaG1
import Derived.Test.YtakgjdckolllaaaG3
namespace Go.Proofs.Ytakgjdckolllaaa.G
open Go.RowKit Go.Proofs.YtakgjdckolllaaaW.PrintWords Go.Proofs.YtakgjdckolllaaaW.PrintLast Go.Proofs.YtakgjdckolllaaaW.PrintMore
attribute [local go_sem] max2_int min2_int max_two min_two max_three min_three max_four min_four   -- for this text's walks alone
set_option linter.unusedVariables false
set_option linter.unusedSimpArgs false

attribute [local go_sem high] eqA53
/-! ### impl_Extent_92: function 92 -/
def impl_Extent_92.l0 : Nat → List (S53) → List (S53) → Int → Int → Option (Bool)
 | 0, _, _, _, _ => none
 | k + 1, x0, x1, x12, x13 => if x13 < x12 then (if 0 ≤ x13 then (if x13 < (x0.length : Int) then (if x13 < (x1.length : Int) then (if (!(((rd_T53 x0 x13).f0) == ((rd_T53 x1 x13).f0)) || (!(((rd_T53 x0 x13).f1) == ((rd_T53 x1 x13).f1)))) = true then (some false) else (impl_Extent_92.l0 k x0 x1 x12 (wrap64 (x13 + 1)))) else (none)) else (none)) else (none)) else (some true)
def impl_Extent_92.f (k : Nat) (l0 : List (S53)) (l1 : List (S53)) : Option (Bool) := if (l0.length : Int) = (l1.length : Int) then (impl_Extent_92.l0 k l0 l1 (l0.length : Int) 0) else (some false)
theorem impl_Extent_92.mono_l : ∀ k, (∀ y0 y1 y2 y3, LeO (impl_Extent_92.l0 k y0 y1 y2 y3) (impl_Extent_92.l0 (k + 1) y0 y1 y2 y3))
 | 0 => fun _ _ _ _ r h => by simp [impl_Extent_92.l0] at h
 | k + 1 => by
  have ih0 := impl_Extent_92.mono_l k
  ·
   intro y0 y1 y2 y3
   unfold impl_Extent_92.l0
   repeat' first
   | (with_reducible exact ih0 _ _ _ _)
   | (with_reducible exact LeO.refl _)
   | (with_reducible exact LeO.none _)
   | (with_reducible refine LeO.ite ?_ ?_)
   | (with_reducible refine LeO.bind ?_ (fun _ => ?_))
   | exact ih0 _ _ _ _
   | exact LeO.none _
   | refine LeO.ite ?_ ?_
   | refine LeO.bind ?_ (fun _ => ?_)
theorem impl_Extent_92.mono : ∀ a0 a1 k, LeO (impl_Extent_92.f k a0 a1) (impl_Extent_92.f (k + 1) a0 a1) := by
 intro a0 a1 k
 have ih0 := impl_Extent_92.mono_l k
 unfold impl_Extent_92.f
 repeat' first
   | (with_reducible exact ih0 _ _ _ _)
   | (with_reducible exact LeO.refl _)
   | (with_reducible exact LeO.none _)
   | (with_reducible refine LeO.ite ?_ ?_)
   | (with_reducible refine LeO.bind ?_ (fun _ => ?_))
   | exact ih0 _ _ _ _
   | exact LeO.none _
   | refine LeO.ite ?_ ?_
   | refine LeO.bind ?_ (fun _ => ?_)
set_option maxHeartbeats 8000000 in
set_option maxRecDepth 100000 in
theorem impl_Extent_92.calls (k : Nat) (A0 : Option Addr) (c0 : Nat) (l0 : List (S53)) (A1 : Option Addr) (c1 : Nat) (l1 : List (S53)) (r : Bool) (w : World) (hr0 : Kd.C k53 w A0 l0.length l0) (hc0 : l0.length ≤ c0) (hr1 : Kd.C k53 w A1 l1.length l1) (hc1 : l1.length ≤ c1) (h : impl_Extent_92.f k l0 l1 = some r) :
  Calls Try.prog 92 #[.slice A0 l0.length c0, .slice A1 l1.length c1] w fun e w' => e = .returned (.bool r) ∧ Drawn0 w w' := by
 have hu53 := Try.underlying53
 have HR0 := Aside0.mk hr0
 have HC0 := Aside0.mk hc0
 clear hr0 hc0
 have HR1 := Aside0.mk hr1
 have HC1 := Aside0.mk hc1
 clear hr1 hc1
 have H : (if (l0.length : Int) = (l1.length : Int) then (impl_Extent_92.l0 k l0 l1 (l0.length : Int) 0) else (some false)) = some r := h
 clear h
 by_cases c3 : (l0.length : Int) = (l1.length : Int)
 ·
  rw [if_pos c3] at H
  have c3b0 : ((l0.length : Int) == (l1.length : Int)) = true := beq_iff_eq.mpr c3
  have c3b1 : ((l0.length : Int) != (l1.length : Int)) = false := bne_eq_false_iff_eq.mpr c3
  have c3b2 : (l0.length == l1.length) = true := by first | simpa using c3 | (simp at c3 ⊢; omega)
  clear c3
  have H' := Aside0.mk H
  clear H
  go_enter Try.func92, Try.ntmps92
  go_wp2
  repeat (go_quiet (fail); try go_wp2)
  go_loopg [13] k (fun kq v13 w' => ∃ (x13_1 : Int), v13 = .int .i64 x13_1 ∧ Aside0 (impl_Extent_92.l0 kq l0 l1 (l0.length : Int) x13_1 = some r) ∧ Aside0 (kq ≤ k) ∧ Drawn0 w w')
  case atStart => exact ⟨(0), (by first | rfl | (simp; done) | (simp [*]; done)), H', ⟨Nat.le_refl _⟩, by repeat (first | exact Drawn0.refl _ | apply Drawn0.step)⟩
  case round =>
   clear H'
   try clear c1
   try clear p2
   try clear c3
   try clear c3b0
   try clear c3b1
   try clear c3b2
   obtain ⟨x13_1, rfl, HA, HK1, ⟨m1, rfl⟩⟩ := hrel
   cases gk with
   | zero => exact absurd HA.out (by simp [impl_Extent_92.l0])
   | succ k1 =>
    have H := HA.out
    clear HA
    simp only [impl_Extent_92.l0] at H
    by_cases c4 : x13_1 < (l0.length : Int)
    ·
     rw [if_pos c4] at H
     have c4b0 : decide (x13_1 < (l0.length : Int)) = true := decide_eq_true c4
     clear c4
     by_cases c5 : 0 ≤ x13_1
     ·
      rw [if_pos c5] at H
      have c5b0 : decide (0 ≤ x13_1) = true := decide_eq_true c5
      clear c5
      by_cases c6 : x13_1 < (l0.length : Int)
      ·
       rw [if_pos c6] at H
       have c6b0 : decide (x13_1 < (l0.length : Int)) = true := decide_eq_true c6
       clear c6
       by_cases c7 : x13_1 < (l1.length : Int)
       ·
        rw [if_pos c7] at H
        have c7b0 : decide (x13_1 < (l1.length : Int)) = true := decide_eq_true c7
        clear c7
        by_cases c8 : (!(((rd_T53 l0 x13_1).f0) == ((rd_T53 l1 x13_1).f0)) || (!(((rd_T53 l0 x13_1).f1) == ((rd_T53 l1 x13_1).f1)))) = true
        ·
         rw [if_pos c8] at H
         have c8b0 : (!(((rd_T53 l0 x13_1).f0) == ((rd_T53 l1 x13_1).f0)) || (!(((rd_T53 l0 x13_1).f1) == ((rd_T53 l1 x13_1).f1)))) = true := c8
         clear c8
         obtain rfl := Option.some.inj H
         have p276 : 0 ≤ (x13_1 : Int) := of_decide_eq_true (by first | (with_reducible assumption) | assumption)
         have q276 : x13_1 < (l0.length : Int) := of_decide_eq_true (by first | (with_reducible assumption) | assumption)
         obtain ⟨ad276, e276, hx276_0, hx276_1⟩ := at_T53 HR0.out x13_1 p276 q276
         cases e276
         replace p276 := eq_true p276
         replace q276 := eq_true q276
         have p277 : 0 ≤ (x13_1 : Int) := of_decide_eq_true (by first | (with_reducible assumption) | assumption)
         have q277 : x13_1 < (l1.length : Int) := of_decide_eq_true (by first | (with_reducible assumption) | assumption)
         obtain ⟨ad277, e277, hx277_0, hx277_1⟩ := at_T53 HR1.out x13_1 p277 q277
         cases e277
         replace p277 := eq_true p277
         replace q277 := eq_true q277
         go_wp2
         repeat (go_quiet (fail); try go_wp2)
         go_ret
         exact ⟨by first | rfl | (simp; done) | (simp [*]; done), by repeat (first | exact Drawn0.refl _ | apply Drawn0.step)⟩
        ·
         rw [if_neg c8] at H
         have c8b0 : (!(((rd_T53 l0 x13_1).f0) == ((rd_T53 l1 x13_1).f0)) || (!(((rd_T53 l0 x13_1).f1) == ((rd_T53 l1 x13_1).f1)))) = false := by simpa using c8
         clear c8
         have H' := Aside0.mk H
         clear H
         have p276 : 0 ≤ (x13_1 : Int) := of_decide_eq_true (by first | (with_reducible assumption) | assumption)
         have q276 : x13_1 < (l0.length : Int) := of_decide_eq_true (by first | (with_reducible assumption) | assumption)
         obtain ⟨ad276, e276, hx276_0, hx276_1⟩ := at_T53 HR0.out x13_1 p276 q276
         cases e276
         replace p276 := eq_true p276
         replace q276 := eq_true q276
         have p277 : 0 ≤ (x13_1 : Int) := of_decide_eq_true (by first | (with_reducible assumption) | assumption)
         have q277 : x13_1 < (l1.length : Int) := of_decide_eq_true (by first | (with_reducible assumption) | assumption)
         obtain ⟨ad277, e277, hx277_0, hx277_1⟩ := at_T53 HR1.out x13_1 p277 q277
         cases e277
         replace p277 := eq_true p277
         replace q277 := eq_true q277
         go_wp2
         repeat (go_quiet (fail); try go_wp2)
         go_roundg k1
         case measure => have := HK1.out; omega
         case rel => exact ⟨(wrap64 (x13_1 + 1)), (by first | rfl | (simp; done) | (simp [*]; done)), H', ⟨by have := HK1.out; omega⟩, by repeat (first | exact Drawn0.refl _ | apply Drawn0.step)⟩
       ·
        rw [if_neg c7] at H
        exact absurd H (by simp)
      ·
       rw [if_neg c6] at H
       exact absurd H (by simp)
     ·
      rw [if_neg c5] at H
      exact absurd H (by simp)
    ·
     rw [if_neg c4] at H
     have c4b0 : decide (x13_1 < (l0.length : Int)) = false := decide_eq_false c4
     clear c4
     obtain rfl := Option.some.inj H
     go_wp2
     repeat (go_quiet (fail); try go_wp2)
     go_ret
     exact ⟨by first | rfl | (simp; done) | (simp [*]; done), by repeat (first | exact Drawn0.refl _ | apply Drawn0.step)⟩
 ·
  rw [if_neg c3] at H
  have c3b0 : ((l0.length : Int) == (l1.length : Int)) = false := beq_eq_false_iff_ne.mpr c3
  have c3b1 : ((l0.length : Int) != (l1.length : Int)) = true := bne_iff_ne.mpr c3
  have c3b2 : (l0.length == l1.length) = false := by first | simpa using c3 | (simp at c3 ⊢; omega)
  obtain rfl := Option.some.inj H
  go_enter Try.func92, Try.ntmps92
  go_wp2
  repeat (go_quiet (fail); try go_wp2)
  go_ret
  exact ⟨by first | rfl | (simp; done) | (simp [*]; done), by repeat (first | exact Drawn0.refl _ | apply Drawn0.step)⟩

/-! ### impl_GoodFree: function 74 -/
mutual
def impl_GoodFree.j0 : Nat → Bool → Int → List (S53) → List (S53) → Option (Bool)
 | 0, _, _, _, _ => none
 | k + 1, x14, x279000, x279001, x279002 => if x14 = true then (some false) else (impl_GoodFree.l0 k x279001 (x279001.length : Int) 0 x279000 x279001 x279002)
def impl_GoodFree.l0 : Nat → List (S53) → Int → Int → Int → List (S53) → List (S53) → Option (Bool)
 | 0, _, _, _, _, _, _ => none
 | k + 1, x16, x17, x18, x279000, x279001, x279002 => if x18 < x17 then (if 0 ≤ x18 then (if x18 < (x16.length : Int) then ((impl_isExtent.f ((rd_T53 x16 x18).f0) ((rd_T53 x16 x18).f1) x279000).bind fun t282 => (if t282 = true then (if x18 > 0 then (if 0 ≤ (wrap64 (x18 - 1)) then (if (wrap64 (x18 - 1)) < (x279001.length : Int) then (if ((rd_T53 x16 x18).f0) ≤ (wrap64 (((rd_T53 x279001 (wrap64 (x18 - 1))).f0) + ((rd_T53 x279001 (wrap64 (x18 - 1))).f1))) then (some false) else (impl_GoodFree.l0 k x16 x17 (wrap64 (x18 + 1)) x279000 x279001 x279002)) else (none)) else (none)) else (impl_GoodFree.l0 k x16 x17 (wrap64 (x18 + 1)) x279000 x279001 x279002)) else (some false))) else (none)) else (none)) else ((impl_freeOf.f x279000 x279001).bind fun bt285 => ((impl_Extent_92.f k bt285.2.2 x279002).bind fun t292 => (some t292)))
end
def impl_GoodFree.f (k : Nat) (a0_0 : Int) (l0_1 : List (S53)) (l0_2 : List (S53)) : Option (Bool) := (impl_within.f a0_0 1 400).bind fun t279 => (if t279 = true then (impl_GoodFree.j0 k (decide ((l0_1.length : Int) > 60)) a0_0 l0_1 l0_2) else (impl_GoodFree.j0 k true a0_0 l0_1 l0_2))
theorem impl_GoodFree.mono_l : ∀ k, (∀ y0 y1 y2 y3, LeO (impl_GoodFree.j0 k y0 y1 y2 y3) (impl_GoodFree.j0 (k + 1) y0 y1 y2 y3)) ∧ (∀ y0 y1 y2 y3 y4 y5, LeO (impl_GoodFree.l0 k y0 y1 y2 y3 y4 y5) (impl_GoodFree.l0 (k + 1) y0 y1 y2 y3 y4 y5))
 | 0 => ⟨fun _ _ _ _ r h => by simp [impl_GoodFree.j0] at h, fun _ _ _ _ _ _ r h => by simp [impl_GoodFree.l0] at h⟩
 | k + 1 => by
  obtain ⟨ih0, ih1⟩ := impl_GoodFree.mono_l k
  refine ⟨?_, ?_⟩
  ·
   intro y0 y1 y2 y3
   unfold impl_GoodFree.j0
   repeat' first
   | (with_reducible exact ih0 _ _ _ _)
   | (with_reducible exact ih1 _ _ _ _ _ _)
   | (with_reducible exact impl_Extent_92.mono _ _ _)
   | (with_reducible exact LeO.refl _)
   | (with_reducible exact LeO.none _)
   | (with_reducible refine LeO.ite ?_ ?_)
   | (with_reducible refine LeO.bind ?_ (fun _ => ?_))
   | exact ih0 _ _ _ _
   | exact ih1 _ _ _ _ _ _
   | exact impl_Extent_92.mono _ _ _
   | exact LeO.none _
   | refine LeO.ite ?_ ?_
   | refine LeO.bind ?_ (fun _ => ?_)
  ·
   intro y0 y1 y2 y3 y4 y5
   unfold impl_GoodFree.l0
   repeat' first
   | (with_reducible exact ih0 _ _ _ _)
   | (with_reducible exact ih1 _ _ _ _ _ _)
   | (with_reducible exact impl_Extent_92.mono _ _ _)
   | (with_reducible exact LeO.refl _)
   | (with_reducible exact LeO.none _)
   | (with_reducible refine LeO.ite ?_ ?_)
   | (with_reducible refine LeO.bind ?_ (fun _ => ?_))
   | exact ih0 _ _ _ _
   | exact ih1 _ _ _ _ _ _
   | exact impl_Extent_92.mono _ _ _
   | exact LeO.none _
   | refine LeO.ite ?_ ?_
   | refine LeO.bind ?_ (fun _ => ?_)
theorem impl_GoodFree.mono : ∀ a0 a1 a2 k, LeO (impl_GoodFree.f k a0 a1 a2) (impl_GoodFree.f (k + 1) a0 a1 a2) := by
 intro a0 a1 a2 k
 obtain ⟨ih0, ih1⟩ := impl_GoodFree.mono_l k
 unfold impl_GoodFree.f
 repeat' first
   | (with_reducible exact ih0 _ _ _ _)
   | (with_reducible exact ih1 _ _ _ _ _ _)
   | (with_reducible exact impl_Extent_92.mono _ _ _)
   | (with_reducible exact LeO.refl _)
   | (with_reducible exact LeO.none _)
   | (with_reducible refine LeO.ite ?_ ?_)
   | (with_reducible refine LeO.bind ?_ (fun _ => ?_))
   | exact ih0 _ _ _ _
   | exact ih1 _ _ _ _ _ _
   | exact impl_Extent_92.mono _ _ _
   | exact LeO.none _
   | refine LeO.ite ?_ ?_
   | refine LeO.bind ?_ (fun _ => ?_)
def impl_GoodFree.T6 : Bool × List (List Nat × List Nat) := (true, [([], []), ([], []), ([1], [1]), ([0, 2], [0, 2]), ([3], [3]), ([4, 3], [4]), ([5], [5]), ([6, 5], [5, 6]), ([7, 5, 5], [5, 7]), ([8], [8]), ([9, 8], [8, 9]), ([8], [8]), ([11, 8], [8, 11]), ([8], [8]), ([13, 8], [8, 13]), ([12, 14, 8], [8, 12, 14]), ([15, 8], [8, 15]), ([16, 8], [8, 16]), ([8], [8]), ([18, 8], [8, 18]), ([8], [8]), ([20, 8], [8, 20]), ([19, 21, 8], [8, 19, 21]), ([22, 8], [8, 22]), ([23, 8], [8, 23]), ([17, 24, 8], [8, 17, 24]), ([10, 25, 8], [8, 10, 25]), ([8, 26, 5], [5, 8, 26]), ([5, 27], [5, 27])])
def impl_GoodFree.B6 : List Nat := [0, 0, 2, 7, 15, 31, 63, 127, 255, 511, 1023, 511, 2559, 511, 8703, 31231, 63999, 129535, 511, 262655, 511, 1049087, 3932671, 8126975, 16515583, 33552895, 67108863, 134217727, 268435455]
theorem impl_GoodFree.tab6 : rtab .any (opsOf Try.f74 6) = impl_GoodFree.T6 := by kernel_rfl
theorem impl_GoodFree.bits6 : waitsOk impl_GoodFree.T6.2 impl_GoodFree.B6 = true := by kernel_rfl
def impl_GoodFree.T9 : Bool × List (List Nat × List Nat) := (true, [([], []), ([0], [0]), ([], []), ([2], [2]), ([1, 3], [1, 3]), ([4], [4]), ([], []), ([6], [6]), ([5, 7, 4], [5, 7]), ([8, 8, 0, 1, 2, 3, 4, 5, 6, 7, 8], [8])])
def impl_GoodFree.B9 : List Nat := [0, 1, 0, 4, 15, 31, 0, 64, 255, 511]
theorem impl_GoodFree.tab9 : rtab .any (opsOf Try.f74 9) = impl_GoodFree.T9 := by kernel_rfl
theorem impl_GoodFree.bits9 : waitsOk impl_GoodFree.T9.2 impl_GoodFree.B9 = true := by kernel_rfl
set_option maxHeartbeats 8000000 in
set_option maxRecDepth 100000 in
theorem impl_GoodFree.calls (k : Nat) (a0_0 : Int) (A0_1 : Option Addr) (c0_1 : Nat) (l0_1 : List (S53)) (A0_2 : Option Addr) (c0_2 : Nat) (l0_2 : List (S53)) (r : Bool) (w : World) (hr0_1 : Kd.C k53 w A0_1 l0_1.length l0_1) (hc0_1 : l0_1.length ≤ c0_1) (hr0_2 : Kd.C k53 w A0_2 l0_2.length l0_2) (hc0_2 : l0_2.length ≤ c0_2) (h : impl_GoodFree.f k a0_0 l0_1 l0_2 = some r) :
  Calls Try.prog 74 #[.agg #[.int .i64 a0_0, .slice A0_1 l0_1.length c0_1, .slice A0_2 l0_2.length c0_2]] w fun e w' => e = .returned (.bool r) ∧ Below w.heap.size w w' := by
 have hu24 := Try.underlying24
 have hu53 := Try.underlying53
 have HR0_1 := Aside0.mk hr0_1
 have HC0_1 := Aside0.mk hc0_1
 clear hr0_1 hc0_1
 have HR0_2 := Aside0.mk hr0_2
 have HC0_2 := Aside0.mk hc0_2
 clear hr0_2 hc0_2
 have HB := Aside0.mk (Below.refl w.heap.size w)
 have H : ((impl_within.f a0_0 1 400).bind fun t279 => (if t279 = true then (impl_GoodFree.j0 k (decide ((l0_1.length : Int) > 60)) a0_0 l0_1 l0_2) else (impl_GoodFree.j0 k true a0_0 l0_1 l0_2))) = some r := h
 clear h
 have HC2 := Aside0.mk H
 clear H
 go_enter Try.func74, Try.ntmps74
 go_upto_region 1 with (first | ((with_reducible refine gate_dst (N := 1) rfl ?_); (try (refine gate_guard (by rfl) ?_; dsimp only)); refine box_event ?hg (N := 1) ?hd (cs := #[.int .i64 a0_0, .slice A0_1 l0_1.length c0_1, .slice A0_2 l0_2.length c0_2]) (t := 24) ?hr ?_; (case hd => rfl); (case hg => rfl); (case hr => first | (go_simp; done) | (go_simp; rfl)); intro gb278 hg w3 hbox hb; have BK278 := Aside0.mk (hbox); have GW278 := Aside0.mk ((by rw [hg]; exact (below_size (bs HB)) : w.heap.size ≤ gb278)); have GE278 := Aside0.mk ((by rw [hg]; exact (below_size (bs HB)) : w.heap.size ≤ gb278)); replace HB := Aside0.mk (below_step (bs HB) hb); clear hb hbox hg))
 (try simp only [Act.put, List.setIfInBounds_toArray, List.set_cons_zero, List.set_cons_succ])
 go_cut [14] (fun v14 wc => ∃ (kq : Nat) (x14_1 : Bool), v14 = .bool x14_1 ∧ Aside0 (impl_GoodFree.j0 kq x14_1 a0_0 l0_1 l0_2 = some r) ∧ Aside0 (kq ≤ k) ∧ Aside0 (wc.heap[gb278]? = some (.cells #[.int .i64 a0_0, (.slice A0_1 l0_1.length c0_1), (.slice A0_2 l0_2.length c0_2)] 24 (0, 0))) ∧ Aside0 (Below w.heap.size w wc))
 case first =>
  have H := HC2.out
  clear HC2
  replace H := Option.bind_eq_some_iff.mp H
  obtain ⟨t279, A40, H⟩ := H
  replace H : (if t279 = true then (impl_GoodFree.j0 k (decide ((l0_1.length : Int) > 60)) a0_0 l0_1 l0_2) else (impl_GoodFree.j0 k true a0_0 l0_1 l0_2)) = some r := H
  have A4 := Aside0.mk A40
  clear A40
  by_cases c5 : t279 = true
  ·
   subst c5
   rw [if_pos rfl] at H
   have H' := Aside0.mk H
   clear H
   obtain ⟨hcz6_0, hcz6_1, hcz6_2⟩ := cz3 BK278
   obtain ⟨hfz6_0, hfz6_1, hfz6_2⟩ := fz3 BK278
   go_wp2_with (first | ((with_reducible refine gate_callee (f := 32) rfl ?_); refine gL (some 7) rfl rfl Try.func32 (by kernel_rfl) rfl #[.int .i64 a0_0, .int .i64 1, .int .i64 400] rfl ?_; (with_reducible refine (impl_within.calls a0_0 1 400 true _ A4.out).mono ?_); rintro e w' ⟨rfl, ⟨nd, rfl⟩⟩; refine ⟨_, rfl, ?_⟩))
   go_meet
   case rel => exact ⟨_, (decide ((l0_1.length : Int) > 60)), (by first | rfl | (simp; done) | (simp [*]; done)), H', ⟨by first | omega | exact Nat.le_refl _⟩, ⟨bk BK278⟩, ⟨bs1 HB GE278⟩⟩
  ·
   replace c5 := Bool.eq_false_iff.mpr c5
   subst c5
   rw [if_neg (show ¬ (false = true) by decide)] at H
   have H' := Aside0.mk H
   clear H
   obtain ⟨hcz7_0, hcz7_1, hcz7_2⟩ := cz3 BK278
   obtain ⟨hfz7_0, hfz7_1, hfz7_2⟩ := fz3 BK278
   go_wp2_with (first | ((with_reducible refine gate_callee (f := 32) rfl ?_); refine gL (some 7) rfl rfl Try.func32 (by kernel_rfl) rfl #[.int .i64 a0_0, .int .i64 1, .int .i64 400] rfl ?_; (with_reducible refine (impl_within.calls a0_0 1 400 false _ A4.out).mono ?_); rintro e w' ⟨rfl, ⟨nd, rfl⟩⟩; refine ⟨_, rfl, ?_⟩))
   go_meet
   case rel => exact ⟨_, (true), (by first | rfl | (simp; done) | (simp [*]; done)), H', ⟨by first | omega | exact Nat.le_refl _⟩, ⟨bk BK278⟩, ⟨bs1 HB GE278⟩⟩
 case rest =>
  clear HC2
  try clear p2
  try clear c3
  try clear c5
  try clear c7
  try clear hcz6_0 hcz6_1 hcz6_2
  try clear hcz7_0 hcz7_1 hcz7_2
  try clear hfz6_0 hfz6_1 hfz6_2
  try clear hfz7_0 hfz7_1 hfz7_2
  obtain ⟨kq, x14_1, rfl, HA, HJ1, BK278, HB⟩ := hcut
  cases kq with
  | zero => exact absurd HA.out (by simp [impl_GoodFree.j0])
  | succ kj1 =>
   have H := HA.out
   clear HA
   simp only [impl_GoodFree.j0] at H
   by_cases c8 : x14_1 = true
   ·
    subst c8
    rw [if_pos rfl] at H
    obtain rfl := Option.some.inj H
    go_wp2
    go_ret
    exact ⟨by first | rfl | (simp [errW_none, errW_some] <;> rfl) | (simp [*, errW_none, errW_some] <;> rfl), bs1 HB GE278⟩
   ·
    replace c8 := Bool.eq_false_iff.mpr c8
    subst c8
    rw [if_neg (show ¬ (false = true) by decide)] at H
    have H' := Aside0.mk H
    clear H
    obtain ⟨hcz9_0, hcz9_1, hcz9_2⟩ := cz3 BK278
    obtain ⟨hfz9_0, hfz9_1, hfz9_2⟩ := fz3 BK278
    go_wp2
    go_loopg [18] kj1 (fun kq v18 w' => ∃ (x18_2 : Int), v18 = .int .i64 x18_2 ∧ Aside0 (impl_GoodFree.l0 kq l0_1 (l0_1.length : Int) x18_2 a0_0 l0_1 l0_2 = some r) ∧ Aside0 (kq ≤ kj1) ∧ Aside0 (w'.heap[gb278]? = some (.cells #[.int .i64 a0_0, (.slice A0_1 l0_1.length c0_1), (.slice A0_2 l0_2.length c0_2)] 24 (0, 0))) ∧ Aside0 (Below w.heap.size w w'))
    case atStart => exact ⟨(0), (by first | rfl | (simp; done) | (simp [*]; done)), H', ⟨Nat.le_refl _⟩, ⟨bk BK278⟩, ⟨bs1 HB GE278⟩⟩
    case round =>
     clear H'
     try clear p2
     try clear c3
     try clear c5
     try clear c7
     try clear c8
     try clear hcz6_0 hcz6_1 hcz6_2
     try clear hcz7_0 hcz7_1 hcz7_2
     try clear hcz9_0 hcz9_1 hcz9_2
     try clear hfz6_0 hfz6_1 hfz6_2
     try clear hfz7_0 hfz7_1 hfz7_2
     try clear hfz9_0 hfz9_1 hfz9_2
     try clear p2
     obtain ⟨x18_2, rfl, HA, HK2, BK278, HB⟩ := hrel
     cases gk with
     | zero => exact absurd HA.out (by simp [impl_GoodFree.l0])
     | succ k2 =>
      have H := HA.out
      clear HA
      simp only [impl_GoodFree.l0] at H
      by_cases c10 : x18_2 < (l0_1.length : Int)
      ·
       rw [if_pos c10] at H
       have c10b0 : decide (x18_2 < (l0_1.length : Int)) = true := decide_eq_true c10
       clear c10
       by_cases c11 : 0 ≤ x18_2
       ·
        rw [if_pos c11] at H
        have c11b0 : decide (0 ≤ x18_2) = true := decide_eq_true c11
        clear c11
        by_cases c12 : x18_2 < (l0_1.length : Int)
        ·
         rw [if_pos c12] at H
         have c12b0 : decide (x18_2 < (l0_1.length : Int)) = true := decide_eq_true c12
         clear c12
         replace H := Option.bind_eq_some_iff.mp H
         obtain ⟨t282, A130, H⟩ := H
         replace H : (if t282 = true then (if x18_2 > 0 then (if 0 ≤ (wrap64 (x18_2 - 1)) then (if (wrap64 (x18_2 - 1)) < (l0_1.length : Int) then (if ((rd_T53 l0_1 x18_2).f0) ≤ (wrap64 (((rd_T53 l0_1 (wrap64 (x18_2 - 1))).f0) + ((rd_T53 l0_1 (wrap64 (x18_2 - 1))).f1))) then (some false) else (impl_GoodFree.l0 k2 l0_1 (l0_1.length : Int) (wrap64 (x18_2 + 1)) a0_0 l0_1 l0_2)) else (none)) else (none)) else (impl_GoodFree.l0 k2 l0_1 (l0_1.length : Int) (wrap64 (x18_2 + 1)) a0_0 l0_1 l0_2)) else (some false)) = some r := H
         have A13 := Aside0.mk A130
         clear A130
         by_cases c14 : t282 = true
         ·
          subst c14
          rw [if_pos rfl] at H
          by_cases c15 : x18_2 > 0
          ·
           rw [if_pos c15] at H
           have c15b0 : decide (0 < x18_2) = true := decide_eq_true c15
           clear c15
           obtain ⟨ji16, hji16⟩ : ∃ j_ : Int, (wrap64 (x18_2 - 1)) = j_ := ⟨_, rfl⟩
           replace H : (if 0 ≤ (ji16) then (if (ji16) < (l0_1.length : Int) then (if ((rd_T53 l0_1 x18_2).f0) ≤ (wrap64 (((rd_T53 l0_1 (ji16)).f0) + ((rd_T53 l0_1 (ji16)).f1))) then (some false) else (impl_GoodFree.l0 k2 l0_1 (l0_1.length : Int) (wrap64 (x18_2 + 1)) a0_0 l0_1 l0_2)) else (none)) else (none)) = some r := by first | (rw [hji16] at H; exact H) | (simp only [hji16] at H ⊢; exact H)
           (try rw [hji16] at A13)
           have hji16w : (IntKind.i64.wrap (x18_2 - 1)) = ji16 := (i64_w _).trans hji16
           by_cases c17 : 0 ≤ (ji16)
           ·
            rw [if_pos c17] at H
            have c17b0 : decide (0 ≤ (ji16)) = true := decide_eq_true c17
            clear c17
            by_cases c18 : (ji16) < (l0_1.length : Int)
            ·
             rw [if_pos c18] at H
             have c18b0 : decide ((ji16) < (l0_1.length : Int)) = true := decide_eq_true c18
             clear c18
             by_cases c19 : ((rd_T53 l0_1 x18_2).f0) ≤ (wrap64 (((rd_T53 l0_1 (ji16)).f0) + ((rd_T53 l0_1 (ji16)).f1)))
             ·
              rw [if_pos c19] at H
              have c19b0 : decide (((rd_T53 l0_1 x18_2).f0) ≤ (wrap64 (((rd_T53 l0_1 (ji16)).f0) + ((rd_T53 l0_1 (ji16)).f1)))) = true := decide_eq_true c19
              clear c19
              obtain rfl := Option.some.inj H
              have p280 : 0 ≤ (x18_2 : Int) := of_decide_eq_true (by first | (with_reducible assumption) | assumption)
              have q280 : x18_2 < (l0_1.length : Int) := of_decide_eq_true (by first | (with_reducible assumption) | assumption)
              obtain ⟨ad280, e280, hx280_0, hx280_1⟩ := at_T53 HR0_1.out x18_2 p280 q280
              cases e280
              replace hx280_0 := (HB.out.cell (World.block_lt_of_cell? w _ hx280_0)).trans hx280_0
              replace hx280_1 := (HB.out.cell (World.block_lt_of_cell? w _ hx280_1)).trans hx280_1
              replace p280 := eq_true p280
              replace q280 := eq_true q280
              try go_wp2_with (first | ((with_reducible refine gate_dst (N := 4) rfl ?_); (try (refine gate_guard (by rfl) ?_; dsimp only)); refine box_event ?hg (N := 4) ?hd (cs := #[.int .i64 0, .int .i64 0]) (t := 53) ?hr ?_; (case hd => rfl); (case hg => rfl); (case hr => first | (go_simp; done) | (go_simp; rfl)); intro gb281 hg w20 hbox hb; have BK281 := Aside0.mk (hbox); have GW281 := Aside0.mk ((by rw [hg]; exact (below_size (bs1 HB GE278)) : w.heap.size ≤ gb281)); have GE281 := Aside0.mk ((by rw [hg]; exact (below_size (bs1 HB GE278)) : w.heap.size ≤ gb281)); replace HB := Aside0.mk (below_step (bs1 HB GE278) hb); have NB278_281 := Aside0.mk ((bn BK278 hg : gb278 ≠ gb281)); have NB281_278 := Aside0.mk ((bm BK278 hg : gb281 ≠ gb278)); replace BK278 := nb BK278 hb; clear hb hbox hg; have hnb21 := NB281_278.out; have hnc21 := NB278_281.out; obtain ⟨hcz22_0, hcz22_1⟩ := cz2 BK281; obtain ⟨hfz22_0, hfz22_1⟩ := fz2 BK281))
              have n0_ : Aside0 (((w20.setCell ⟨gb281, 0, none⟩ (.int .i64 ((rd_T53 l0_1 x18_2).f0))).setCell ⟨gb281, 1, none⟩ (.int .i64 ((rd_T53 l0_1 x18_2).f1))).heap[gb278]? = some (.cells #[.int .i64 a0_0, .slice (some ad280) l0_1.length c0_1, .slice A0_2 l0_2.length c0_2] 24 (0, 0))) := ⟨bf BK278 NB278_281⟩
              have n1_ : Aside0 (((w20.setCell ⟨gb281, 0, none⟩ (.int .i64 ((rd_T53 l0_1 x18_2).f0))).setCell ⟨gb281, 1, none⟩ (.int .i64 ((rd_T53 l0_1 x18_2).f1))).heap[gb281]? = some (.cells #[.int .i64 ((rd_T53 l0_1 x18_2).f0), .int .i64 ((rd_T53 l0_1 x18_2).f1)] 53 (0, 0))) := ⟨by (with_reducible repeat (first | refine blk_drewN ?_ _ | refine blk_drew ?_ | refine blk_alloc ?_ _)); refine blk_put (cs := #[.int .i64 ((rd_T53 l0_1 x18_2).f0), .int .i64 0]) ?_ 1 _ rfl; (with_reducible repeat (first | refine blk_drewN ?_ _ | refine blk_drew ?_ | refine blk_alloc ?_ _)); refine blk_put (cs := #[.int .i64 0, .int .i64 0]) ?_ 0 _ rfl; (with_reducible repeat (first | refine blk_drewN ?_ _ | refine blk_drew ?_ | refine blk_alloc ?_ _)); exact BK281.out⟩
              have n2_ : Aside0 (Below w.heap.size w ((w20.setCell ⟨gb281, 0, none⟩ (.int .i64 ((rd_T53 l0_1 x18_2).f0))).setCell ⟨gb281, 1, none⟩ (.int .i64 ((rd_T53 l0_1 x18_2).f1)))) := ⟨bs2 HB GE278 GE281⟩
              (try clear BK278)
              (try clear BK281)
              (try clear HB)
              generalize ((w20.setCell ⟨gb281, 0, none⟩ (.int .i64 ((rd_T53 l0_1 x18_2).f0))).setCell ⟨gb281, 1, none⟩ (.int .i64 ((rd_T53 l0_1 x18_2).f1))) = w23 at n0_ n1_ n2_ ⊢
              have BK278 := n0_
              have BK281 := n1_
              have HB := n2_
              clear n0_ n1_ n2_
              have n0_ := Aside0.mk (blk_drew BK278.out)
              have n1_ := Aside0.mk (blk_drew BK281.out)
              have n2_ := Aside0.mk (below_drew1 HB.out)
              clear BK278
              clear BK281
              clear HB
              have BK278 := n0_
              have BK281 := n1_
              have HB := n2_
              clear n0_ n1_ n2_
              have p283 : 0 ≤ ((ji16) : Int) := of_decide_eq_true (by first | (with_reducible assumption) | assumption)
              have q283 : (ji16) < (l0_1.length : Int) := of_decide_eq_true (by first | (with_reducible assumption) | assumption)
              obtain ⟨ad283, e283, hx283_0, hx283_1⟩ := at_T53 HR0_1.out (ji16) p283 q283
              have hw283_1 := hx283_1
              have hw283_0 := hx283_0
              obtain rfl : ad280 = ad283 := (by injection e283)
              replace hx283_0 := (HB.out.cell (World.block_lt_of_cell? w _ hx283_0)).trans hx283_0
              replace hx283_1 := (HB.out.cell (World.block_lt_of_cell? w _ hx283_1)).trans hx283_1
              replace p283 := eq_true p283
              replace q283 := eq_true q283
              have p284 : 0 ≤ ((ji16) : Int) := of_decide_eq_true (by first | (with_reducible assumption) | assumption)
              have q284 : (ji16) < (l0_1.length : Int) := of_decide_eq_true (by first | (with_reducible assumption) | assumption)
              obtain ⟨ad284, e284, hx284_0, hx284_1⟩ := at_T53 HR0_1.out (ji16) p284 q284
              have hw284_1 := hx284_1
              have hw284_0 := hx284_0
              obtain rfl : ad280 = ad284 := (by injection e284)
              replace hx284_0 := (HB.out.cell (World.block_lt_of_cell? w _ hx284_0)).trans hx284_0
              replace hx284_1 := (HB.out.cell (World.block_lt_of_cell? w _ hx284_1)).trans hx284_1
              replace p284 := eq_true p284
              replace q284 := eq_true q284
              refine start_ (n := 29) (S := fun w' => w'.cell? ⟨gb281, 0, none⟩ = some (.int .i64 ((rd_T53 l0_1 x18_2).f0)) ∧ w'.cell? ⟨gb281, 1, none⟩ = some (.int .i64 ((rd_T53 l0_1 x18_2).f1)) ∧ w'.cell? ⟨gb278, 0, none⟩ = some (.int .i64 a0_0) ∧ w'.cell? ⟨gb278, 1, none⟩ = some (.slice (some ad280) l0_1.length c0_1) ∧ w'.cell? ⟨gb278, 2, none⟩ = some (.slice A0_2 l0_2.length c0_2) ∧ w'.cell? (ad280.add (((ji16)).toNat * 2)) = some (.int .i64 ((rd_T53 l0_1 (ji16)).f0)) ∧ w'.cell? ⟨(ad280.add (((ji16)).toNat * 2)).block, (ad280.add (((ji16)).toNat * 2)).off + 1, none⟩ = some (.int .i64 ((rd_T53 l0_1 (ji16)).f1)) ∧ w'.cell? (ad280.add (((ji16)).toNat * 2)) = some (.int .i64 ((rd_T53 l0_1 (ji16)).f0)) ∧ w'.cell? ⟨(ad280.add (((ji16)).toNat * 2)).block, (ad280.add (((ji16)).toNat * 2)).off + 1, none⟩ = some (.int .i64 ((rd_T53 l0_1 (ji16)).f1))) (ds := []) #[false, false, false, false, false, false, false, false, false, false, false, false, false, false, false, false, false, false, false, false, false, false, false, false, false, false, false, false, false] (by kernel_rfl) rfl rfl ⟨(blk_cell BK281.out 0).trans rfl, (blk_cell BK281.out 1).trans rfl, (blk_cell BK278.out 0).trans rfl, (blk_cell BK278.out 1).trans rfl, (blk_cell BK278.out 2).trans rfl, ((HB.out.cell (World.block_lt_of_cell? w _ hw283_0)).trans hw283_0), ((HB.out.cell (World.block_lt_of_cell? w _ hw283_1)).trans hw283_1), ((HB.out.cell (World.block_lt_of_cell? w _ hw284_0)).trans hw284_0), ((HB.out.cell (World.block_lt_of_cell? w _ hw284_1)).trans hw284_1)⟩ (fun hHeld => ?_); refine with_tabW impl_GoodFree.tab6 impl_GoodFree.bits6 (fun HT_ HW_ => ?_)
              generalize w23.drew = w24 at BK278 BK281 HB hx283_0 hx283_1 hx284_0 hx284_1 hHeld ⊢
              refine pureS 1 24 HT_.out ?_
              refine takeS 0 23 HT_.out HW_.out hHeld (hr := by rintro w' ⟨s0, s1, s2, s3, s4, s5, s6, s7, s8⟩; go_simp; with_reducible rfl) (h := ?_)
              refine takeS 2 25 HT_.out HW_.out hHeld (hr := by rintro w' ⟨s0, s1, s2, s3, s4, s5, s6, s7, s8⟩; go_simp; with_reducible rfl) (h := ?_)
              refine one_ (i := 3) (N := some 26) #[true, true, true, true, false, false, false, false, false, false, false, false, false, false, false, false, false, false, false, false, false, false, false, false, false, false, false, false, false] rfl rfl (one_of HT_.out (by kernel_rfl)) (by decide) (fun K hK => ?_)
              refine goes_ Try.func78 (by kernel_rfl) rfl #[.agg #[.int .i64 ((rd_T53 l0_1 x18_2).f0), .int .i64 ((rd_T53 l0_1 x18_2).f1)], .int .i64 a0_0] (by rfl) rfl rfl (by (try simp only [List.map_toArray, List.map_cons, List.map_nil]); first | done | rfl | (simp only [List.length_drop, List.length_take]; rfl)) ?_
              with_reducible refine (impl_isExtent.calls ((rd_T53 l0_1 x18_2).f0) ((rd_T53 l0_1 x18_2).f1) a0_0 true _ A13.out).mono ?_
              rintro e w25 ⟨rfl, hb⟩
              refine ⟨_, rfl, ?_⟩
              have n0_ := Aside0.mk (bb BK278 hb)
              have n1_ := Aside0.mk (bb BK281 hb)
              have n2_ := Aside0.mk (below_step (bs2 HB GE278 GE281) hb)
              clear BK278
              clear BK281
              clear HB
              have BK278 := n0_
              have BK281 := n1_
              have HB := n2_
              clear n0_ n1_ n2_
              (try clear hb)
              (try clear hb2)
              (try clear hk)
              (try clear hi)
              refine hK.out _ _ ⟨(blk_cell BK281.out 0).trans rfl, (blk_cell BK281.out 1).trans rfl, (blk_cell BK278.out 0).trans rfl, (blk_cell BK278.out 1).trans rfl, (blk_cell BK278.out 2).trans rfl, ((HB.out.cell (World.block_lt_of_cell? w _ hw283_0)).trans hw283_0), ((HB.out.cell (World.block_lt_of_cell? w _ hw283_1)).trans hw283_1), ((HB.out.cell (World.block_lt_of_cell? w _ hw284_0)).trans hw284_0), ((HB.out.cell (World.block_lt_of_cell? w _ hw284_1)).trans hw284_1)⟩ (fun hHeld => ?_)
              clear hK K
              refine norm_ (a' := ?_) ?_ ?_
              rotate_left
              ·
               show Act.put _ (some 26) _ = _
               simp only [Act.put, List.setIfInBounds_toArray, List.set_cons_zero, List.set_cons_succ, i64_w, i32_w]
               rfl
              refine pureS 4 27 HT_.out ?_
              refine pureS 5 28 HT_.out ?_
              refine pureS 6 29 HT_.out ?_
              refine pureS 7 30 HT_.out ?_
              refine pureS 8 31 HT_.out ?_
              refine pureS 9 32 HT_.out ?_
              refine pureS 11 34 HT_.out ?_
              refine pureS 13 36 HT_.out ?_
              refine pureS 14 37 HT_.out ?_
              refine pureS 18 41 HT_.out ?_
              refine pureS 20 43 HT_.out ?_
              refine pureS 21 44 HT_.out ?_
              refine takeS 10 33 HT_.out HW_.out hHeld (hr := by rintro w' ⟨s0, s1, s2, s3, s4, s5, s6, s7, s8⟩; go_simp; with_reducible rfl) (h := ?_)
              refine takeS 12 35 HT_.out HW_.out hHeld (hr := by rintro w' ⟨s0, s1, s2, s3, s4, s5, s6, s7, s8⟩; go_simp; with_reducible rfl) (h := ?_)
              refine pureS 15 38 HT_.out ?_
              refine pureS 16 39 HT_.out ?_
              refine takeS 17 40 HT_.out HW_.out hHeld (hr := by rintro w' ⟨s0, s1, s2, s3, s4, s5, s6, s7, s8⟩; go_simp; with_reducible rfl) (h := ?_)
              refine takeS 19 42 HT_.out HW_.out hHeld (hr := by rintro w' ⟨s0, s1, s2, s3, s4, s5, s6, s7, s8⟩; go_simp; with_reducible rfl) (h := ?_)
              refine pureS 22 45 HT_.out ?_
              refine pureS 23 46 HT_.out ?_
              refine takeS 24 47 HT_.out HW_.out hHeld (hr := by rintro w' ⟨s0, s1, s2, s3, s4, s5, s6, s7, s8⟩; go_simp; with_reducible rfl) (h := ?_)
              refine pureS 25 48 HT_.out ?_
              refine pureS 26 49 HT_.out ?_
              refine pureS 27 50 HT_.out ?_
              refine pureS 28 51 HT_.out ?_
              refine done_ (done_of HT_.out (by kernel_rfl)) ?_
              try go_wp2
              go_ret
              exact ⟨by first | rfl | (simp [errW_none, errW_some] <;> rfl) | (simp only [← hji16]; first | rfl | (simp [errW_none, errW_some] <;> rfl)) | (simp [*, errW_none, errW_some] <;> rfl), bs2 HB GE278 GE281⟩
             ·
              rw [if_neg c19] at H
              have c19b0 : decide (((rd_T53 l0_1 x18_2).f0) ≤ (wrap64 (((rd_T53 l0_1 (ji16)).f0) + ((rd_T53 l0_1 (ji16)).f1)))) = false := decide_eq_false c19
              clear c19
              have H' := Aside0.mk H
              clear H
              have p280 : 0 ≤ (x18_2 : Int) := of_decide_eq_true (by first | (with_reducible assumption) | assumption)
              have q280 : x18_2 < (l0_1.length : Int) := of_decide_eq_true (by first | (with_reducible assumption) | assumption)
              obtain ⟨ad280, e280, hx280_0, hx280_1⟩ := at_T53 HR0_1.out x18_2 p280 q280
              cases e280
              replace hx280_0 := (HB.out.cell (World.block_lt_of_cell? w _ hx280_0)).trans hx280_0
              replace hx280_1 := (HB.out.cell (World.block_lt_of_cell? w _ hx280_1)).trans hx280_1
              replace p280 := eq_true p280
              replace q280 := eq_true q280
              try go_wp2_with (first | ((with_reducible refine gate_dst (N := 4) rfl ?_); (try (refine gate_guard (by rfl) ?_; dsimp only)); refine box_event ?hg (N := 4) ?hd (cs := #[.int .i64 0, .int .i64 0]) (t := 53) ?hr ?_; (case hd => rfl); (case hg => rfl); (case hr => first | (go_simp; done) | (go_simp; rfl)); intro gb281 hg w26 hbox hb; have BK281 := Aside0.mk (hbox); have GW281 := Aside0.mk ((by rw [hg]; exact (below_size (bs1 HB GE278)) : w.heap.size ≤ gb281)); have GE281 := Aside0.mk ((by rw [hg]; exact (below_size (bs1 HB GE278)) : w.heap.size ≤ gb281)); replace HB := Aside0.mk (below_step (bs1 HB GE278) hb); have NB278_281 := Aside0.mk ((bn BK278 hg : gb278 ≠ gb281)); have NB281_278 := Aside0.mk ((bm BK278 hg : gb281 ≠ gb278)); replace BK278 := nb BK278 hb; clear hb hbox hg; have hnb27 := NB281_278.out; have hnc27 := NB278_281.out; obtain ⟨hcz28_0, hcz28_1⟩ := cz2 BK281; obtain ⟨hfz28_0, hfz28_1⟩ := fz2 BK281))
              have n0_ : Aside0 (((w26.setCell ⟨gb281, 0, none⟩ (.int .i64 ((rd_T53 l0_1 x18_2).f0))).setCell ⟨gb281, 1, none⟩ (.int .i64 ((rd_T53 l0_1 x18_2).f1))).heap[gb278]? = some (.cells #[.int .i64 a0_0, .slice (some ad280) l0_1.length c0_1, .slice A0_2 l0_2.length c0_2] 24 (0, 0))) := ⟨bf BK278 NB278_281⟩
              have n1_ : Aside0 (((w26.setCell ⟨gb281, 0, none⟩ (.int .i64 ((rd_T53 l0_1 x18_2).f0))).setCell ⟨gb281, 1, none⟩ (.int .i64 ((rd_T53 l0_1 x18_2).f1))).heap[gb281]? = some (.cells #[.int .i64 ((rd_T53 l0_1 x18_2).f0), .int .i64 ((rd_T53 l0_1 x18_2).f1)] 53 (0, 0))) := ⟨by (with_reducible repeat (first | refine blk_drewN ?_ _ | refine blk_drew ?_ | refine blk_alloc ?_ _)); refine blk_put (cs := #[.int .i64 ((rd_T53 l0_1 x18_2).f0), .int .i64 0]) ?_ 1 _ rfl; (with_reducible repeat (first | refine blk_drewN ?_ _ | refine blk_drew ?_ | refine blk_alloc ?_ _)); refine blk_put (cs := #[.int .i64 0, .int .i64 0]) ?_ 0 _ rfl; (with_reducible repeat (first | refine blk_drewN ?_ _ | refine blk_drew ?_ | refine blk_alloc ?_ _)); exact BK281.out⟩
              have n2_ : Aside0 (Below w.heap.size w ((w26.setCell ⟨gb281, 0, none⟩ (.int .i64 ((rd_T53 l0_1 x18_2).f0))).setCell ⟨gb281, 1, none⟩ (.int .i64 ((rd_T53 l0_1 x18_2).f1)))) := ⟨bs2 HB GE278 GE281⟩
              (try clear BK278)
              (try clear BK281)
              (try clear HB)
              generalize ((w26.setCell ⟨gb281, 0, none⟩ (.int .i64 ((rd_T53 l0_1 x18_2).f0))).setCell ⟨gb281, 1, none⟩ (.int .i64 ((rd_T53 l0_1 x18_2).f1))) = w29 at n0_ n1_ n2_ ⊢
              have BK278 := n0_
              have BK281 := n1_
              have HB := n2_
              clear n0_ n1_ n2_
              have n0_ := Aside0.mk (blk_drew BK278.out)
              have n1_ := Aside0.mk (blk_drew BK281.out)
              have n2_ := Aside0.mk (below_drew1 HB.out)
              clear BK278
              clear BK281
              clear HB
              have BK278 := n0_
              have BK281 := n1_
              have HB := n2_
              clear n0_ n1_ n2_
              have p283 : 0 ≤ ((ji16) : Int) := of_decide_eq_true (by first | (with_reducible assumption) | assumption)
              have q283 : (ji16) < (l0_1.length : Int) := of_decide_eq_true (by first | (with_reducible assumption) | assumption)
              obtain ⟨ad283, e283, hx283_0, hx283_1⟩ := at_T53 HR0_1.out (ji16) p283 q283
              have hw283_1 := hx283_1
              have hw283_0 := hx283_0
              obtain rfl : ad280 = ad283 := (by injection e283)
              replace hx283_0 := (HB.out.cell (World.block_lt_of_cell? w _ hx283_0)).trans hx283_0
              replace hx283_1 := (HB.out.cell (World.block_lt_of_cell? w _ hx283_1)).trans hx283_1
              replace p283 := eq_true p283
              replace q283 := eq_true q283
              have p284 : 0 ≤ ((ji16) : Int) := of_decide_eq_true (by first | (with_reducible assumption) | assumption)
              have q284 : (ji16) < (l0_1.length : Int) := of_decide_eq_true (by first | (with_reducible assumption) | assumption)
              obtain ⟨ad284, e284, hx284_0, hx284_1⟩ := at_T53 HR0_1.out (ji16) p284 q284
              have hw284_1 := hx284_1
              have hw284_0 := hx284_0
              obtain rfl : ad280 = ad284 := (by injection e284)
              replace hx284_0 := (HB.out.cell (World.block_lt_of_cell? w _ hx284_0)).trans hx284_0
              replace hx284_1 := (HB.out.cell (World.block_lt_of_cell? w _ hx284_1)).trans hx284_1
              replace p284 := eq_true p284
              replace q284 := eq_true q284
              refine start_ (n := 29) (S := fun w' => w'.cell? ⟨gb281, 0, none⟩ = some (.int .i64 ((rd_T53 l0_1 x18_2).f0)) ∧ w'.cell? ⟨gb281, 1, none⟩ = some (.int .i64 ((rd_T53 l0_1 x18_2).f1)) ∧ w'.cell? ⟨gb278, 0, none⟩ = some (.int .i64 a0_0) ∧ w'.cell? ⟨gb278, 1, none⟩ = some (.slice (some ad280) l0_1.length c0_1) ∧ w'.cell? ⟨gb278, 2, none⟩ = some (.slice A0_2 l0_2.length c0_2) ∧ w'.cell? (ad280.add (((ji16)).toNat * 2)) = some (.int .i64 ((rd_T53 l0_1 (ji16)).f0)) ∧ w'.cell? ⟨(ad280.add (((ji16)).toNat * 2)).block, (ad280.add (((ji16)).toNat * 2)).off + 1, none⟩ = some (.int .i64 ((rd_T53 l0_1 (ji16)).f1)) ∧ w'.cell? (ad280.add (((ji16)).toNat * 2)) = some (.int .i64 ((rd_T53 l0_1 (ji16)).f0)) ∧ w'.cell? ⟨(ad280.add (((ji16)).toNat * 2)).block, (ad280.add (((ji16)).toNat * 2)).off + 1, none⟩ = some (.int .i64 ((rd_T53 l0_1 (ji16)).f1))) (ds := []) #[false, false, false, false, false, false, false, false, false, false, false, false, false, false, false, false, false, false, false, false, false, false, false, false, false, false, false, false, false] (by kernel_rfl) rfl rfl ⟨(blk_cell BK281.out 0).trans rfl, (blk_cell BK281.out 1).trans rfl, (blk_cell BK278.out 0).trans rfl, (blk_cell BK278.out 1).trans rfl, (blk_cell BK278.out 2).trans rfl, ((HB.out.cell (World.block_lt_of_cell? w _ hw283_0)).trans hw283_0), ((HB.out.cell (World.block_lt_of_cell? w _ hw283_1)).trans hw283_1), ((HB.out.cell (World.block_lt_of_cell? w _ hw284_0)).trans hw284_0), ((HB.out.cell (World.block_lt_of_cell? w _ hw284_1)).trans hw284_1)⟩ (fun hHeld => ?_); refine with_tabW impl_GoodFree.tab6 impl_GoodFree.bits6 (fun HT_ HW_ => ?_)
              generalize w29.drew = w30 at BK278 BK281 HB hx283_0 hx283_1 hx284_0 hx284_1 hHeld ⊢
              refine pureS 1 24 HT_.out ?_
              refine takeS 0 23 HT_.out HW_.out hHeld (hr := by rintro w' ⟨s0, s1, s2, s3, s4, s5, s6, s7, s8⟩; go_simp; with_reducible rfl) (h := ?_)
              refine takeS 2 25 HT_.out HW_.out hHeld (hr := by rintro w' ⟨s0, s1, s2, s3, s4, s5, s6, s7, s8⟩; go_simp; with_reducible rfl) (h := ?_)
              refine one_ (i := 3) (N := some 26) #[true, true, true, true, false, false, false, false, false, false, false, false, false, false, false, false, false, false, false, false, false, false, false, false, false, false, false, false, false] rfl rfl (one_of HT_.out (by kernel_rfl)) (by decide) (fun K hK => ?_)
              refine goes_ Try.func78 (by kernel_rfl) rfl #[.agg #[.int .i64 ((rd_T53 l0_1 x18_2).f0), .int .i64 ((rd_T53 l0_1 x18_2).f1)], .int .i64 a0_0] (by rfl) rfl rfl (by (try simp only [List.map_toArray, List.map_cons, List.map_nil]); first | done | rfl | (simp only [List.length_drop, List.length_take]; rfl)) ?_
              with_reducible refine (impl_isExtent.calls ((rd_T53 l0_1 x18_2).f0) ((rd_T53 l0_1 x18_2).f1) a0_0 true _ A13.out).mono ?_
              rintro e w31 ⟨rfl, hb⟩
              refine ⟨_, rfl, ?_⟩
              have n0_ := Aside0.mk (bb BK278 hb)
              have n1_ := Aside0.mk (bb BK281 hb)
              have n2_ := Aside0.mk (below_step (bs2 HB GE278 GE281) hb)
              clear BK278
              clear BK281
              clear HB
              have BK278 := n0_
              have BK281 := n1_
              have HB := n2_
              clear n0_ n1_ n2_
              (try clear hb)
              (try clear hb2)
              (try clear hk)
              (try clear hi)
              refine hK.out _ _ ⟨(blk_cell BK281.out 0).trans rfl, (blk_cell BK281.out 1).trans rfl, (blk_cell BK278.out 0).trans rfl, (blk_cell BK278.out 1).trans rfl, (blk_cell BK278.out 2).trans rfl, ((HB.out.cell (World.block_lt_of_cell? w _ hw283_0)).trans hw283_0), ((HB.out.cell (World.block_lt_of_cell? w _ hw283_1)).trans hw283_1), ((HB.out.cell (World.block_lt_of_cell? w _ hw284_0)).trans hw284_0), ((HB.out.cell (World.block_lt_of_cell? w _ hw284_1)).trans hw284_1)⟩ (fun hHeld => ?_)
              clear hK K
              refine norm_ (a' := ?_) ?_ ?_
              rotate_left
              ·
               show Act.put _ (some 26) _ = _
               simp only [Act.put, List.setIfInBounds_toArray, List.set_cons_zero, List.set_cons_succ, i64_w, i32_w]
               rfl
              refine pureS 4 27 HT_.out ?_
              refine pureS 5 28 HT_.out ?_
              refine pureS 6 29 HT_.out ?_
              refine pureS 7 30 HT_.out ?_
              refine pureS 8 31 HT_.out ?_
              refine pureS 9 32 HT_.out ?_
              refine pureS 11 34 HT_.out ?_
              refine pureS 13 36 HT_.out ?_
              refine pureS 14 37 HT_.out ?_
              refine pureS 18 41 HT_.out ?_
              refine pureS 20 43 HT_.out ?_
              refine pureS 21 44 HT_.out ?_
              refine takeS 10 33 HT_.out HW_.out hHeld (hr := by rintro w' ⟨s0, s1, s2, s3, s4, s5, s6, s7, s8⟩; go_simp; with_reducible rfl) (h := ?_)
              refine takeS 12 35 HT_.out HW_.out hHeld (hr := by rintro w' ⟨s0, s1, s2, s3, s4, s5, s6, s7, s8⟩; go_simp; with_reducible rfl) (h := ?_)
              refine pureS 15 38 HT_.out ?_
              refine pureS 16 39 HT_.out ?_
              refine takeS 17 40 HT_.out HW_.out hHeld (hr := by rintro w' ⟨s0, s1, s2, s3, s4, s5, s6, s7, s8⟩; go_simp; with_reducible rfl) (h := ?_)
              refine takeS 19 42 HT_.out HW_.out hHeld (hr := by rintro w' ⟨s0, s1, s2, s3, s4, s5, s6, s7, s8⟩; go_simp; with_reducible rfl) (h := ?_)
              refine pureS 22 45 HT_.out ?_
              refine pureS 23 46 HT_.out ?_
              refine takeS 24 47 HT_.out HW_.out hHeld (hr := by rintro w' ⟨s0, s1, s2, s3, s4, s5, s6, s7, s8⟩; go_simp; with_reducible rfl) (h := ?_)
              refine pureS 25 48 HT_.out ?_
              refine pureS 26 49 HT_.out ?_
              refine pureS 27 50 HT_.out ?_
              refine pureS 28 51 HT_.out ?_
              refine done_ (done_of HT_.out (by kernel_rfl)) ?_
              try go_wp2
              go_roundg k2
              case measure => have := HJ1.out; have := HK2.out; omega
              case rel => exact ⟨(wrap64 (x18_2 + 1)), (by first | rfl | (simp; done) | (simp [*]; done)), H', ⟨by have := HJ1.out; have := HK2.out; omega⟩, ⟨bk BK278⟩, ⟨bs2 HB GE278 GE281⟩⟩
            ·
             rw [if_neg c18] at H
             exact absurd H (by simp)
           ·
            rw [if_neg c17] at H
            exact absurd H (by simp)
          ·
           rw [if_neg c15] at H
           have c15b0 : decide (0 < x18_2) = false := decide_eq_false c15
           clear c15
           have H' := Aside0.mk H
           clear H
           have p280 : 0 ≤ (x18_2 : Int) := of_decide_eq_true (by first | (with_reducible assumption) | assumption)
           have q280 : x18_2 < (l0_1.length : Int) := of_decide_eq_true (by first | (with_reducible assumption) | assumption)
           obtain ⟨ad280, e280, hx280_0, hx280_1⟩ := at_T53 HR0_1.out x18_2 p280 q280
           cases e280
           replace hx280_0 := (HB.out.cell (World.block_lt_of_cell? w _ hx280_0)).trans hx280_0
           replace hx280_1 := (HB.out.cell (World.block_lt_of_cell? w _ hx280_1)).trans hx280_1
           replace p280 := eq_true p280
           replace q280 := eq_true q280
           try go_wp2_with (first | ((with_reducible refine gate_dst (N := 4) rfl ?_); (try (refine gate_guard (by rfl) ?_; dsimp only)); refine box_event ?hg (N := 4) ?hd (cs := #[.int .i64 0, .int .i64 0]) (t := 53) ?hr ?_; (case hd => rfl); (case hg => rfl); (case hr => first | (go_simp; done) | (go_simp; rfl)); intro gb281 hg w32 hbox hb; have BK281 := Aside0.mk (hbox); have GW281 := Aside0.mk ((by rw [hg]; exact (below_size (bs1 HB GE278)) : w.heap.size ≤ gb281)); have GE281 := Aside0.mk ((by rw [hg]; exact (below_size (bs1 HB GE278)) : w.heap.size ≤ gb281)); replace HB := Aside0.mk (below_step (bs1 HB GE278) hb); have NB278_281 := Aside0.mk ((bn BK278 hg : gb278 ≠ gb281)); have NB281_278 := Aside0.mk ((bm BK278 hg : gb281 ≠ gb278)); replace BK278 := nb BK278 hb; clear hb hbox hg; have hnb33 := NB281_278.out; have hnc33 := NB278_281.out; obtain ⟨hcz34_0, hcz34_1⟩ := cz2 BK281; obtain ⟨hfz34_0, hfz34_1⟩ := fz2 BK281))
           have n0_ : Aside0 (((w32.setCell ⟨gb281, 0, none⟩ (.int .i64 ((rd_T53 l0_1 x18_2).f0))).setCell ⟨gb281, 1, none⟩ (.int .i64 ((rd_T53 l0_1 x18_2).f1))).heap[gb278]? = some (.cells #[.int .i64 a0_0, .slice (some ad280) l0_1.length c0_1, .slice A0_2 l0_2.length c0_2] 24 (0, 0))) := ⟨bf BK278 NB278_281⟩
           have n1_ : Aside0 (((w32.setCell ⟨gb281, 0, none⟩ (.int .i64 ((rd_T53 l0_1 x18_2).f0))).setCell ⟨gb281, 1, none⟩ (.int .i64 ((rd_T53 l0_1 x18_2).f1))).heap[gb281]? = some (.cells #[.int .i64 ((rd_T53 l0_1 x18_2).f0), .int .i64 ((rd_T53 l0_1 x18_2).f1)] 53 (0, 0))) := ⟨by (with_reducible repeat (first | refine blk_drewN ?_ _ | refine blk_drew ?_ | refine blk_alloc ?_ _)); refine blk_put (cs := #[.int .i64 ((rd_T53 l0_1 x18_2).f0), .int .i64 0]) ?_ 1 _ rfl; (with_reducible repeat (first | refine blk_drewN ?_ _ | refine blk_drew ?_ | refine blk_alloc ?_ _)); refine blk_put (cs := #[.int .i64 0, .int .i64 0]) ?_ 0 _ rfl; (with_reducible repeat (first | refine blk_drewN ?_ _ | refine blk_drew ?_ | refine blk_alloc ?_ _)); exact BK281.out⟩
           have n2_ : Aside0 (Below w.heap.size w ((w32.setCell ⟨gb281, 0, none⟩ (.int .i64 ((rd_T53 l0_1 x18_2).f0))).setCell ⟨gb281, 1, none⟩ (.int .i64 ((rd_T53 l0_1 x18_2).f1)))) := ⟨bs2 HB GE278 GE281⟩
           (try clear BK278)
           (try clear BK281)
           (try clear HB)
           generalize ((w32.setCell ⟨gb281, 0, none⟩ (.int .i64 ((rd_T53 l0_1 x18_2).f0))).setCell ⟨gb281, 1, none⟩ (.int .i64 ((rd_T53 l0_1 x18_2).f1))) = w35 at n0_ n1_ n2_ ⊢
           have BK278 := n0_
           have BK281 := n1_
           have HB := n2_
           clear n0_ n1_ n2_
           have n0_ := Aside0.mk (blk_drew BK278.out)
           have n1_ := Aside0.mk (blk_drew BK281.out)
           have n2_ := Aside0.mk (below_drew1 HB.out)
           clear BK278
           clear BK281
           clear HB
           have BK278 := n0_
           have BK281 := n1_
           have HB := n2_
           clear n0_ n1_ n2_
           refine start_ (n := 29) (S := fun w' => w'.cell? ⟨gb281, 0, none⟩ = some (.int .i64 ((rd_T53 l0_1 x18_2).f0)) ∧ w'.cell? ⟨gb281, 1, none⟩ = some (.int .i64 ((rd_T53 l0_1 x18_2).f1)) ∧ w'.cell? ⟨gb278, 0, none⟩ = some (.int .i64 a0_0) ∧ w'.cell? ⟨gb278, 1, none⟩ = some (.slice (some ad280) l0_1.length c0_1) ∧ w'.cell? ⟨gb278, 2, none⟩ = some (.slice A0_2 l0_2.length c0_2)) (ds := []) #[false, false, false, false, false, false, false, false, false, false, false, false, false, false, false, false, false, false, false, false, false, false, false, false, false, false, false, false, false] (by kernel_rfl) rfl rfl ⟨(blk_cell BK281.out 0).trans rfl, (blk_cell BK281.out 1).trans rfl, (blk_cell BK278.out 0).trans rfl, (blk_cell BK278.out 1).trans rfl, (blk_cell BK278.out 2).trans rfl⟩ (fun hHeld => ?_); refine with_tabW impl_GoodFree.tab6 impl_GoodFree.bits6 (fun HT_ HW_ => ?_)
           generalize w35.drew = w36 at BK278 BK281 HB hHeld ⊢
           refine pureS 1 24 HT_.out ?_
           refine takeS 0 23 HT_.out HW_.out hHeld (hr := by rintro w' ⟨s0, s1, s2, s3, s4⟩; go_simp; with_reducible rfl) (h := ?_)
           refine takeS 2 25 HT_.out HW_.out hHeld (hr := by rintro w' ⟨s0, s1, s2, s3, s4⟩; go_simp; with_reducible rfl) (h := ?_)
           refine one_ (i := 3) (N := some 26) #[true, true, true, true, false, false, false, false, false, false, false, false, false, false, false, false, false, false, false, false, false, false, false, false, false, false, false, false, false] rfl rfl (one_of HT_.out (by kernel_rfl)) (by decide) (fun K hK => ?_)
           refine goes_ Try.func78 (by kernel_rfl) rfl #[.agg #[.int .i64 ((rd_T53 l0_1 x18_2).f0), .int .i64 ((rd_T53 l0_1 x18_2).f1)], .int .i64 a0_0] (by rfl) rfl rfl (by (try simp only [List.map_toArray, List.map_cons, List.map_nil]); first | done | rfl | (simp only [List.length_drop, List.length_take]; rfl)) ?_
           with_reducible refine (impl_isExtent.calls ((rd_T53 l0_1 x18_2).f0) ((rd_T53 l0_1 x18_2).f1) a0_0 true _ A13.out).mono ?_
           rintro e w37 ⟨rfl, hb⟩
           refine ⟨_, rfl, ?_⟩
           have n0_ := Aside0.mk (bb BK278 hb)
           have n1_ := Aside0.mk (bb BK281 hb)
           have n2_ := Aside0.mk (below_step (bs2 HB GE278 GE281) hb)
           clear BK278
           clear BK281
           clear HB
           have BK278 := n0_
           have BK281 := n1_
           have HB := n2_
           clear n0_ n1_ n2_
           (try clear hb)
           (try clear hb2)
           (try clear hk)
           (try clear hi)
           refine hK.out _ _ ⟨(blk_cell BK281.out 0).trans rfl, (blk_cell BK281.out 1).trans rfl, (blk_cell BK278.out 0).trans rfl, (blk_cell BK278.out 1).trans rfl, (blk_cell BK278.out 2).trans rfl⟩ (fun hHeld => ?_)
           clear hK K
           refine norm_ (a' := ?_) ?_ ?_
           rotate_left
           ·
            show Act.put _ (some 26) _ = _
            simp only [Act.put, List.setIfInBounds_toArray, List.set_cons_zero, List.set_cons_succ, i64_w, i32_w]
            rfl
           refine pureS 4 27 HT_.out ?_
           refine pureS 5 28 HT_.out ?_
           refine pureS 6 29 HT_.out ?_
           refine pureS 7 30 HT_.out ?_
           refine pureS 8 31 HT_.out ?_
           refine pureU 9 32 HT_.out ?_
           refine pureU 10 33 HT_.out ?_
           refine pureU 11 34 HT_.out ?_
           refine pureU 12 35 HT_.out ?_
           refine pureU 13 36 HT_.out ?_
           refine pureU 14 37 HT_.out ?_
           refine pureU 15 38 HT_.out ?_
           refine pureU 16 39 HT_.out ?_
           refine pureU 17 40 HT_.out ?_
           refine pureU 18 41 HT_.out ?_
           refine pureU 19 42 HT_.out ?_
           refine pureU 20 43 HT_.out ?_
           refine pureU 21 44 HT_.out ?_
           refine pureU 22 45 HT_.out ?_
           refine pureU 23 46 HT_.out ?_
           refine pureU 24 47 HT_.out ?_
           refine pureU 25 48 HT_.out ?_
           refine pureU 26 49 HT_.out ?_
           refine pureS 27 50 HT_.out ?_
           refine pureS 28 51 HT_.out ?_
           refine done_ (done_of HT_.out (by kernel_rfl)) ?_
           try go_wp2
           go_roundg k2
           case measure => have := HJ1.out; have := HK2.out; omega
           case rel => exact ⟨(wrap64 (x18_2 + 1)), (by first | rfl | (simp; done) | (simp [*]; done)), H', ⟨by have := HJ1.out; have := HK2.out; omega⟩, ⟨bk BK278⟩, ⟨bs2 HB GE278 GE281⟩⟩
         ·
          replace c14 := Bool.eq_false_iff.mpr c14
          subst c14
          rw [if_neg (show ¬ (false = true) by decide)] at H
          obtain rfl := Option.some.inj H
          have p280 : 0 ≤ (x18_2 : Int) := of_decide_eq_true (by first | (with_reducible assumption) | assumption)
          have q280 : x18_2 < (l0_1.length : Int) := of_decide_eq_true (by first | (with_reducible assumption) | assumption)
          obtain ⟨ad280, e280, hx280_0, hx280_1⟩ := at_T53 HR0_1.out x18_2 p280 q280
          cases e280
          replace hx280_0 := (HB.out.cell (World.block_lt_of_cell? w _ hx280_0)).trans hx280_0
          replace hx280_1 := (HB.out.cell (World.block_lt_of_cell? w _ hx280_1)).trans hx280_1
          replace p280 := eq_true p280
          replace q280 := eq_true q280
          try go_wp2_with (first | ((with_reducible refine gate_dst (N := 4) rfl ?_); (try (refine gate_guard (by rfl) ?_; dsimp only)); refine box_event ?hg (N := 4) ?hd (cs := #[.int .i64 0, .int .i64 0]) (t := 53) ?hr ?_; (case hd => rfl); (case hg => rfl); (case hr => first | (go_simp; done) | (go_simp; rfl)); intro gb281 hg w38 hbox hb; have BK281 := Aside0.mk (hbox); have GW281 := Aside0.mk ((by rw [hg]; exact (below_size (bs1 HB GE278)) : w.heap.size ≤ gb281)); have GE281 := Aside0.mk ((by rw [hg]; exact (below_size (bs1 HB GE278)) : w.heap.size ≤ gb281)); replace HB := Aside0.mk (below_step (bs1 HB GE278) hb); have NB278_281 := Aside0.mk ((bn BK278 hg : gb278 ≠ gb281)); have NB281_278 := Aside0.mk ((bm BK278 hg : gb281 ≠ gb278)); replace BK278 := nb BK278 hb; clear hb hbox hg; have hnb39 := NB281_278.out; have hnc39 := NB278_281.out; obtain ⟨hcz40_0, hcz40_1⟩ := cz2 BK281; obtain ⟨hfz40_0, hfz40_1⟩ := fz2 BK281))
          have n0_ : Aside0 (((w38.setCell ⟨gb281, 0, none⟩ (.int .i64 ((rd_T53 l0_1 x18_2).f0))).setCell ⟨gb281, 1, none⟩ (.int .i64 ((rd_T53 l0_1 x18_2).f1))).heap[gb278]? = some (.cells #[.int .i64 a0_0, .slice (some ad280) l0_1.length c0_1, .slice A0_2 l0_2.length c0_2] 24 (0, 0))) := ⟨bf BK278 NB278_281⟩
          have n1_ : Aside0 (((w38.setCell ⟨gb281, 0, none⟩ (.int .i64 ((rd_T53 l0_1 x18_2).f0))).setCell ⟨gb281, 1, none⟩ (.int .i64 ((rd_T53 l0_1 x18_2).f1))).heap[gb281]? = some (.cells #[.int .i64 ((rd_T53 l0_1 x18_2).f0), .int .i64 ((rd_T53 l0_1 x18_2).f1)] 53 (0, 0))) := ⟨by (with_reducible repeat (first | refine blk_drewN ?_ _ | refine blk_drew ?_ | refine blk_alloc ?_ _)); refine blk_put (cs := #[.int .i64 ((rd_T53 l0_1 x18_2).f0), .int .i64 0]) ?_ 1 _ rfl; (with_reducible repeat (first | refine blk_drewN ?_ _ | refine blk_drew ?_ | refine blk_alloc ?_ _)); refine blk_put (cs := #[.int .i64 0, .int .i64 0]) ?_ 0 _ rfl; (with_reducible repeat (first | refine blk_drewN ?_ _ | refine blk_drew ?_ | refine blk_alloc ?_ _)); exact BK281.out⟩
          have n2_ : Aside0 (Below w.heap.size w ((w38.setCell ⟨gb281, 0, none⟩ (.int .i64 ((rd_T53 l0_1 x18_2).f0))).setCell ⟨gb281, 1, none⟩ (.int .i64 ((rd_T53 l0_1 x18_2).f1)))) := ⟨bs2 HB GE278 GE281⟩
          (try clear BK278)
          (try clear BK281)
          (try clear HB)
          generalize ((w38.setCell ⟨gb281, 0, none⟩ (.int .i64 ((rd_T53 l0_1 x18_2).f0))).setCell ⟨gb281, 1, none⟩ (.int .i64 ((rd_T53 l0_1 x18_2).f1))) = w41 at n0_ n1_ n2_ ⊢
          have BK278 := n0_
          have BK281 := n1_
          have HB := n2_
          clear n0_ n1_ n2_
          have n0_ := Aside0.mk (blk_drew BK278.out)
          have n1_ := Aside0.mk (blk_drew BK281.out)
          have n2_ := Aside0.mk (below_drew1 HB.out)
          clear BK278
          clear BK281
          clear HB
          have BK278 := n0_
          have BK281 := n1_
          have HB := n2_
          clear n0_ n1_ n2_
          refine start_ (n := 29) (S := fun w' => w'.cell? ⟨gb281, 0, none⟩ = some (.int .i64 ((rd_T53 l0_1 x18_2).f0)) ∧ w'.cell? ⟨gb281, 1, none⟩ = some (.int .i64 ((rd_T53 l0_1 x18_2).f1)) ∧ w'.cell? ⟨gb278, 0, none⟩ = some (.int .i64 a0_0) ∧ w'.cell? ⟨gb278, 1, none⟩ = some (.slice (some ad280) l0_1.length c0_1) ∧ w'.cell? ⟨gb278, 2, none⟩ = some (.slice A0_2 l0_2.length c0_2)) (ds := []) #[false, false, false, false, false, false, false, false, false, false, false, false, false, false, false, false, false, false, false, false, false, false, false, false, false, false, false, false, false] (by kernel_rfl) rfl rfl ⟨(blk_cell BK281.out 0).trans rfl, (blk_cell BK281.out 1).trans rfl, (blk_cell BK278.out 0).trans rfl, (blk_cell BK278.out 1).trans rfl, (blk_cell BK278.out 2).trans rfl⟩ (fun hHeld => ?_); refine with_tabW impl_GoodFree.tab6 impl_GoodFree.bits6 (fun HT_ HW_ => ?_)
          generalize w41.drew = w42 at BK278 BK281 HB hHeld ⊢
          refine pureS 1 24 HT_.out ?_
          refine takeS 0 23 HT_.out HW_.out hHeld (hr := by rintro w' ⟨s0, s1, s2, s3, s4⟩; go_simp; with_reducible rfl) (h := ?_)
          refine takeS 2 25 HT_.out HW_.out hHeld (hr := by rintro w' ⟨s0, s1, s2, s3, s4⟩; go_simp; with_reducible rfl) (h := ?_)
          refine one_ (i := 3) (N := some 26) #[true, true, true, true, false, false, false, false, false, false, false, false, false, false, false, false, false, false, false, false, false, false, false, false, false, false, false, false, false] rfl rfl (one_of HT_.out (by kernel_rfl)) (by decide) (fun K hK => ?_)
          refine goes_ Try.func78 (by kernel_rfl) rfl #[.agg #[.int .i64 ((rd_T53 l0_1 x18_2).f0), .int .i64 ((rd_T53 l0_1 x18_2).f1)], .int .i64 a0_0] (by rfl) rfl rfl (by (try simp only [List.map_toArray, List.map_cons, List.map_nil]); first | done | rfl | (simp only [List.length_drop, List.length_take]; rfl)) ?_
          with_reducible refine (impl_isExtent.calls ((rd_T53 l0_1 x18_2).f0) ((rd_T53 l0_1 x18_2).f1) a0_0 false _ A13.out).mono ?_
          rintro e w43 ⟨rfl, hb⟩
          refine ⟨_, rfl, ?_⟩
          have n0_ := Aside0.mk (bb BK278 hb)
          have n1_ := Aside0.mk (bb BK281 hb)
          have n2_ := Aside0.mk (below_step (bs2 HB GE278 GE281) hb)
          clear BK278
          clear BK281
          clear HB
          have BK278 := n0_
          have BK281 := n1_
          have HB := n2_
          clear n0_ n1_ n2_
          (try clear hb)
          (try clear hb2)
          (try clear hk)
          (try clear hi)
          refine hK.out _ _ ⟨(blk_cell BK281.out 0).trans rfl, (blk_cell BK281.out 1).trans rfl, (blk_cell BK278.out 0).trans rfl, (blk_cell BK278.out 1).trans rfl, (blk_cell BK278.out 2).trans rfl⟩ (fun hHeld => ?_)
          clear hK K
          refine norm_ (a' := ?_) ?_ ?_
          rotate_left
          ·
           show Act.put _ (some 26) _ = _
           simp only [Act.put, List.setIfInBounds_toArray, List.set_cons_zero, List.set_cons_succ, i64_w, i32_w]
           rfl
          refine pureS 4 27 HT_.out ?_
          refine pureS 5 28 HT_.out ?_
          refine pureU 6 29 HT_.out ?_
          refine pureU 7 30 HT_.out ?_
          refine pureU 8 31 HT_.out ?_
          refine pureU 9 32 HT_.out ?_
          refine pureU 10 33 HT_.out ?_
          refine pureU 11 34 HT_.out ?_
          refine pureU 12 35 HT_.out ?_
          refine pureU 13 36 HT_.out ?_
          refine pureU 14 37 HT_.out ?_
          refine pureU 15 38 HT_.out ?_
          refine pureU 16 39 HT_.out ?_
          refine pureU 17 40 HT_.out ?_
          refine pureU 18 41 HT_.out ?_
          refine pureU 19 42 HT_.out ?_
          refine pureU 20 43 HT_.out ?_
          refine pureU 21 44 HT_.out ?_
          refine pureU 22 45 HT_.out ?_
          refine pureU 23 46 HT_.out ?_
          refine pureU 24 47 HT_.out ?_
          refine pureU 25 48 HT_.out ?_
          refine pureU 26 49 HT_.out ?_
          refine pureU 27 50 HT_.out ?_
          refine pureS 28 51 HT_.out ?_
          refine done_ (done_of HT_.out (by kernel_rfl)) ?_
          try go_wp2
          go_ret
          exact ⟨by first | rfl | (simp [errW_none, errW_some] <;> rfl) | (simp [*, errW_none, errW_some] <;> rfl), bs2 HB GE278 GE281⟩
        ·
         rw [if_neg c12] at H
         exact absurd H (by simp)
       ·
        rw [if_neg c11] at H
        exact absurd H (by simp)
      ·
       rw [if_neg c10] at H
       have c10b0 : decide (x18_2 < (l0_1.length : Int)) = false := decide_eq_false c10
       clear c10
       replace H := Option.bind_eq_some_iff.mp H
       obtain ⟨⟨t285, t286, t289⟩, A440, H⟩ := H
       replace H : ((impl_Extent_92.f k2 t289 l0_2).bind fun t292 => (some t292)) = some r := H
       have A44 := Aside0.mk A440
       clear A440
       replace H := Option.bind_eq_some_iff.mp H
       obtain ⟨t292, A450, H⟩ := H
       replace H : (some t292) = some r := H
       have A45 := Aside0.mk A450
       clear A450
       obtain rfl := Option.some.inj H
       try go_wp2
       have n0_ := Aside0.mk (blk_drew BK278.out)
       have n1_ := Aside0.mk (below_drew1 HB.out)
       clear BK278
       clear HB
       have BK278 := n0_
       have HB := n1_
       clear n0_ n1_
       refine start_ (n := 10) (S := fun w' => w'.cell? ⟨gb278, 0, none⟩ = some (.int .i64 a0_0) ∧ w'.cell? ⟨gb278, 1, none⟩ = some (.slice A0_1 l0_1.length c0_1) ∧ w'.cell? ⟨gb278, 2, none⟩ = some (.slice A0_2 l0_2.length c0_2)) (ds := []) #[false, false, false, false, false, false, false, false, false, false] (by kernel_rfl) rfl rfl ⟨(blk_cell BK278.out 0).trans rfl, (blk_cell BK278.out 1).trans rfl, (blk_cell BK278.out 2).trans rfl⟩ (fun hHeld => ?_); refine with_tabW impl_GoodFree.tab9 impl_GoodFree.bits9 (fun HT_ HW_ => ?_)
       generalize wr.drew = w46 at BK278 HB hHeld ⊢
       refine pureS 0 53 HT_.out ?_
       refine pureS 2 55 HT_.out ?_
       refine pureS 6 59 HT_.out ?_
       refine takeS 1 54 HT_.out HW_.out hHeld (hr := by rintro w' ⟨s0, s1, s2⟩; go_simp; with_reducible rfl) (h := ?_)
       refine takeS 3 56 HT_.out HW_.out hHeld (hr := by rintro w' ⟨s0, s1, s2⟩; go_simp; with_reducible rfl) (h := ?_)
       refine takeS 7 60 HT_.out HW_.out hHeld (hr := by rintro w' ⟨s0, s1, s2⟩; go_simp; with_reducible rfl) (h := ?_)
       refine one_ (i := 4) (N := some 57) #[true, true, true, true, true, false, true, true, false, false] rfl rfl (one_of HT_.out (by kernel_rfl)) (by decide) (fun K hK => ?_)
       refine goes_ Try.func33 (by kernel_rfl) rfl #[.int .i64 a0_0, .slice A0_1 l0_1.length c0_1] (by rfl) rfl rfl (by (try simp only [List.map_toArray, List.map_cons, List.map_nil]); first | done | rfl | (simp only [List.length_drop, List.length_take]; rfl)) ?_
       with_reducible refine (impl_freeOf.calls a0_0 (fun k_ => k_ < w.heap.size) _ _ l0_1 t285 t286 t289 _ ?side1 A44.out).mono ?_
       (case side1 => exact Kd.V_mk HC0_1.out (Kd.F_below (Kd.C_F k53_heap HR0_1.out) (bs1 HB GE278)))
       rintro e w47 ⟨v287, v290, rfl, ho0, ho1, hb⟩
       obtain ⟨AoV_, coV_, eoV_⟩ := Kd.V_slice ho0
       subst eoV_
       have hfd_ : ∀ (t : Int) (A A' : Option Addr) (n c n' c' : Nat) (w' : World), (Instr.field 24 (.agg #[.int .i64 t, .slice A n c, .slice A' n' c']) 2).run Try.prog w' = .ok (.slice A' n' c') w' := fun _ _ _ _ _ _ _ _ => by kernel_rfl
       refine ⟨_, rfl, ?_⟩
       have n0_ := Aside0.mk (Kd.V_lower (Kd.V_mono (ok' := fun k_ => some k_ ≠ (v290 : Value).ownBlock ∧ k_ ≠ gb278) ho0 (fun k_ hk_ => ⟨hk_.2, Or.elim hk_.1 (fun hs_ => fun e_ => Nat.not_le.2 hs_ (by rw [e_]; exact GW278.out)) (fun hn_ => (Kd.freshB (bk BK278) k_ hn_))⟩)) (below_size (bs1 HB GE278)))
       have n1_ := Aside0.mk (Kd.R_lower (Kd.R_mono (ok' := fun k_ => True) ho1 (fun _ hk_ => trivial)) (below_size (bs1 HB GE278)))
       have n2_ := Aside0.mk (bb BK278 hb)
       have n3_ := Aside0.mk (below_step (bs1 HB GE278) hb)
       clear BK278
       clear HB
       have HO288 := n0_
       have HO291 := n1_
       have BK278 := n2_
       have HB := n3_
       clear n0_ n1_ n2_ n3_
       (try clear hb)
       (try clear hb2)
       (try clear hk)
       (try clear hi)
       (try clear ho0)
       (try clear ho1)
       obtain ⟨Ao48, co48, eo48⟩ := Kd.R_slice HO291.out
       (first | subst eo48 | (injection eo48 with f1_ f2_ f3_; have f4_ := f1_.symm; have f5_ := f3_.symm; clear f1_ f2_ f3_; subst f4_; subst f5_))
       refine hK.out _ _ ⟨(blk_cell BK278.out 0).trans rfl, (blk_cell BK278.out 1).trans rfl, (blk_cell BK278.out 2).trans rfl⟩ (fun hHeld => ?_)
       clear hK K
       refine norm_ (a' := ?_) ?_ ?_
       rotate_left
       ·
        show Act.put _ (some 57) _ = _
        simp only [Act.put, List.setIfInBounds_toArray, List.set_cons_zero, List.set_cons_succ, i64_w, i32_w]
        rfl
       refine pureS 5 58 HT_.out ?_
       refine one_ (i := 8) (N := some 61) #[true, true, true, true, true, true, true, true, true, false] rfl rfl (one_of HT_.out (by kernel_rfl)) (by decide) (fun K hK => ?_)
       refine goes_ Try.func92 (by kernel_rfl) rfl #[.slice Ao48 t289.length co48, .slice A0_2 l0_2.length c0_2] (by rfl) rfl rfl (by (try simp only [List.map_toArray, List.map_cons, List.map_nil]); first | done | rfl | (simp only [List.length_drop, List.length_take]; rfl)) ?_
       with_reducible refine (impl_Extent_92.calls k2 _ _ t289 _ _ l0_2 t292 _ ?side1 ?side2 ?side3 ?side4 A45.out).mono ?_
       (case side1 => exact rc0 HO291)
       (case side2 => exact (Kd.R_reads' HO291.out).2.1)
       (case side3 => exact cb HR0_2 HB)
       (case side4 => exact HC0_2.out)
       rintro e w' ⟨rfl, ⟨nd, rfl⟩⟩
       refine ⟨_, rfl, ?_⟩
       refine hK.out _ _ ⟨(blk_cell BK278.out 0).trans rfl, (blk_cell BK278.out 1).trans rfl, (blk_cell BK278.out 2).trans rfl⟩ (fun hHeld => ?_)
       clear hK K
       refine norm_ (a' := ?_) ?_ ?_
       rotate_left
       ·
        show Act.put _ (some 61) _ = _
        simp only [Act.put, List.setIfInBounds_toArray, List.set_cons_zero, List.set_cons_succ, i64_w, i32_w]
        rfl
       refine pureS 9 2 HT_.out ?_
       refine done_ (done_of HT_.out (by kernel_rfl)) ?_
       try go_wp2
       go_ret
       exact ⟨by first | rfl | (simp [errW_none, errW_some] <;> rfl) | (simp [*, errW_none, errW_some] <;> rfl), bs1 HB GE278⟩

/-! ### impl_overlap: function 76 -/
def impl_overlap.f (a0_0 : Int) (a0_1 : Int) (a1_0 : Int) (a1_1 : Int) : Option (Bool) := if a0_0 < (wrap64 (a1_0 + a1_1)) then (some (decide (a1_0 < (wrap64 (a0_0 + a0_1))))) else (some false)
set_option maxHeartbeats 8000000 in
set_option maxRecDepth 100000 in
theorem impl_overlap.calls (a0_0 : Int) (a0_1 : Int) (a1_0 : Int) (a1_1 : Int) (r : Bool) (w : World) (h : impl_overlap.f a0_0 a0_1 a1_0 a1_1 = some r) :
  Calls Try.prog 76 #[.agg #[.int .i64 a0_0, .int .i64 a0_1], .agg #[.int .i64 a1_0, .int .i64 a1_1]] w fun e w' => e = .returned (.bool r) ∧ Below w.heap.size w w' := by
 have hu53 := Try.underlying53
 have HB := Aside0.mk (Below.refl w.heap.size w)
 have H : (if a0_0 < (wrap64 (a1_0 + a1_1)) then (some (decide (a1_0 < (wrap64 (a0_0 + a0_1))))) else (some false)) = some r := h
 clear h
 by_cases c3 : a0_0 < (wrap64 (a1_0 + a1_1))
 ·
  rw [if_pos c3] at H
  have c3b0 : decide (a0_0 < (wrap64 (a1_0 + a1_1))) = true := decide_eq_true c3
  clear c3
  obtain rfl := Option.some.inj H
  go_enter Try.func76, Try.ntmps76
  go_wp2_with (first | ((with_reducible refine gate_dst (N := 2) rfl ?_); refine box_event ?hg (N := 2) ?hd (cs := #[.int .i64 a0_0, .int .i64 a0_1]) (t := 53) ?hr ?_; (case hd => rfl); (case hg => rfl); (case hr => first | (go_simp; done) | (go_simp; rfl)); intro gb293 hg w4 hbox hb; have BK293 := Aside0.mk (hbox); have GW293 := Aside0.mk ((by rw [hg]; exact (below_size (bs HB)) : w.heap.size ≤ gb293)); have GE293 := Aside0.mk ((by rw [hg]; exact (below_size (bs HB)) : w.heap.size ≤ gb293)); replace HB := Aside0.mk (below_step (bs HB) hb); clear hb hbox hg) | ((with_reducible refine gate_dst (N := 3) rfl ?_); refine box_event ?hg (N := 3) ?hd (cs := #[.int .i64 a1_0, .int .i64 a1_1]) (t := 53) ?hr ?_; (case hd => rfl); (case hg => rfl); (case hr => first | (go_simp; done) | (go_simp; rfl)); intro gb294 hg w5 hbox hb; have BK294 := Aside0.mk (hbox); have GW294 := Aside0.mk ((by rw [hg]; exact (below_size (bs1 HB GE293)) : w.heap.size ≤ gb294)); have GE294 := Aside0.mk ((by rw [hg]; exact (below_size (bs1 HB GE293)) : w.heap.size ≤ gb294)); replace HB := Aside0.mk (below_step (bs1 HB GE293) hb); have NB293_294 := Aside0.mk ((bn BK293 hg : gb293 ≠ gb294)); have NB294_293 := Aside0.mk ((bm BK293 hg : gb294 ≠ gb293)); replace BK293 := nb BK293 hb; clear hb hbox hg; have hnb6 := NB293_294.out; have hnc6 := NB294_293.out; obtain ⟨hcz7_0, hcz7_1⟩ := cz2 BK293; obtain ⟨hfz7_0, hfz7_1⟩ := fz2 BK293; obtain ⟨hcz8_0, hcz8_1⟩ := cz2 BK294; obtain ⟨hfz8_0, hfz8_1⟩ := fz2 BK294))
  go_ret
  exact ⟨by first | rfl | (simp [errW_none, errW_some] <;> rfl) | (simp [*, errW_none, errW_some] <;> rfl), bs2 HB GE293 GE294⟩
 ·
  rw [if_neg c3] at H
  have c3b0 : decide (a0_0 < (wrap64 (a1_0 + a1_1))) = false := decide_eq_false c3
  clear c3
  obtain rfl := Option.some.inj H
  go_enter Try.func76, Try.ntmps76
  go_wp2_with (first | ((with_reducible refine gate_dst (N := 2) rfl ?_); refine box_event ?hg (N := 2) ?hd (cs := #[.int .i64 a0_0, .int .i64 a0_1]) (t := 53) ?hr ?_; (case hd => rfl); (case hg => rfl); (case hr => first | (go_simp; done) | (go_simp; rfl)); intro gb293 hg w9 hbox hb; have BK293 := Aside0.mk (hbox); have GW293 := Aside0.mk ((by rw [hg]; exact (below_size (bs HB)) : w.heap.size ≤ gb293)); have GE293 := Aside0.mk ((by rw [hg]; exact (below_size (bs HB)) : w.heap.size ≤ gb293)); replace HB := Aside0.mk (below_step (bs HB) hb); clear hb hbox hg) | ((with_reducible refine gate_dst (N := 3) rfl ?_); refine box_event ?hg (N := 3) ?hd (cs := #[.int .i64 a1_0, .int .i64 a1_1]) (t := 53) ?hr ?_; (case hd => rfl); (case hg => rfl); (case hr => first | (go_simp; done) | (go_simp; rfl)); intro gb294 hg w10 hbox hb; have BK294 := Aside0.mk (hbox); have GW294 := Aside0.mk ((by rw [hg]; exact (below_size (bs1 HB GE293)) : w.heap.size ≤ gb294)); have GE294 := Aside0.mk ((by rw [hg]; exact (below_size (bs1 HB GE293)) : w.heap.size ≤ gb294)); replace HB := Aside0.mk (below_step (bs1 HB GE293) hb); have NB293_294 := Aside0.mk ((bn BK293 hg : gb293 ≠ gb294)); have NB294_293 := Aside0.mk ((bm BK293 hg : gb294 ≠ gb293)); replace BK293 := nb BK293 hb; clear hb hbox hg; have hnb11 := NB293_294.out; have hnc11 := NB294_293.out; obtain ⟨hcz12_0, hcz12_1⟩ := cz2 BK293; obtain ⟨hfz12_0, hfz12_1⟩ := fz2 BK293; obtain ⟨hcz13_0, hcz13_1⟩ := cz2 BK294; obtain ⟨hfz13_0, hfz13_1⟩ := fz2 BK294))
  go_ret
  exact ⟨by first | rfl | (simp [errW_none, errW_some] <;> rfl) | (simp [*, errW_none, errW_some] <;> rfl), bs2 HB GE293 GE294⟩

/-! ### impl_intentsOf_1: function 75 -/
def impl_intentsOf_1.f (a0_0 : Int) (a0_1 : Int) (a0_2 : Int) (a0_3 : Int) (a0_4 : Int) (a1_0 : Int) (a1_1 : Int) (a1_2 : Int) (a1_3 : Int) (a1_4 : Int) : Option (Bool) := (impl_overlap.f a1_2 a1_3 a0_2 a0_3).bind fun t297 => (some t297)
set_option maxHeartbeats 8000000 in
set_option maxRecDepth 100000 in
theorem impl_intentsOf_1.calls (a0_0 : Int) (a0_1 : Int) (a0_2 : Int) (a0_3 : Int) (a0_4 : Int) (gx1_0 : Nat) (a1_0 : Int) (a1_1 : Int) (a1_2 : Int) (a1_3 : Int) (a1_4 : Int) (r : Bool) (w : World) (hx1_0 : w.heap[gx1_0]? = some (.cells #[.int .i64 a1_0, .int .i64 a1_1, .int .i64 a1_2, .int .i64 a1_3, .int .i64 a1_4] 71 (0, 0))) (h : impl_intentsOf_1.f a0_0 a0_1 a0_2 a0_3 a0_4 a1_0 a1_1 a1_2 a1_3 a1_4 = some r) :
  Calls Try.prog 75 #[.agg #[.int .i64 a0_0, .int .i64 a0_1, .int .i64 a0_2, .int .i64 a0_3, .int .i64 a0_4], .pointer (some ⟨gx1_0, 0, none⟩)] w fun e w' => e = .returned (.bool r) ∧ Below w.heap.size w w' := by
 have hu71 := Try.underlying71
 have hu53 := Try.underlying53
 have BK295 := Aside0.mk hx1_0
 clear hx1_0
 have HB := Aside0.mk (Below.refl w.heap.size w)
 have H : ((impl_overlap.f a1_2 a1_3 a0_2 a0_3).bind fun t297 => (some t297)) = some r := h
 clear h
 replace H := Option.bind_eq_some_iff.mp H
 obtain ⟨t297, A30, H⟩ := H
 replace H : (some t297) = some r := H
 have A3 := Aside0.mk A30
 clear A30
 obtain rfl := Option.some.inj H
 go_enter Try.func75, Try.ntmps75
 go_wp2_with (first | ((with_reducible refine gate_dst (N := 2) rfl ?_); refine box_event ?hg (N := 2) ?hd (cs := #[.int .i64 a0_0, .int .i64 a0_1, .int .i64 a0_2, .int .i64 a0_3, .int .i64 a0_4]) (t := 71) ?hr ?_; (case hd => rfl); (case hg => rfl); (case hr => first | (go_simp; done) | (go_simp; rfl)); intro gb296 hg w4 hbox hb; have BK296 := Aside0.mk (hbox); have GW296 := Aside0.mk ((by rw [hg]; exact (below_size (bs HB)) : w.heap.size ≤ gb296)); have GE296 := Aside0.mk ((by rw [hg]; exact (below_size (bs HB)) : w.heap.size ≤ gb296)); replace HB := Aside0.mk (below_step (bs HB) hb); have NB295_296 := Aside0.mk ((by rw [hg]; exact Nat.ne_of_lt (blk_lt (g := gx1_0) (o := .cells #[.int .i64 a1_0, .int .i64 a1_1, .int .i64 a1_2, .int .i64 a1_3, .int .i64 a1_4] 71 (0, 0)) (bk BK295)) : gx1_0 ≠ gb296)); have NB296_295 := Aside0.mk ((by rw [hg]; exact Nat.ne_of_gt (blk_lt (g := gx1_0) (o := .cells #[.int .i64 a1_0, .int .i64 a1_1, .int .i64 a1_2, .int .i64 a1_3, .int .i64 a1_4] 71 (0, 0)) (bk BK295)) : gb296 ≠ gx1_0)); replace BK295 := Aside0.mk (blk_below (g := gx1_0) (o := .cells #[.int .i64 a1_0, .int .i64 a1_1, .int .i64 a1_2, .int .i64 a1_3, .int .i64 a1_4] 71 (0, 0)) (bk BK295) hb); clear hb hbox hg; have hnb5 := NB295_296.out; have hnc5 := NB296_295.out; have hcz6_0 : w4.cell? ⟨gx1_0, 0, none⟩ = some (.int .i64 a1_0) := (blk_cell BK295.out 0).trans rfl; have hcz6_1 : w4.cell? ⟨gx1_0, 1, none⟩ = some (.int .i64 a1_1) := (blk_cell BK295.out 1).trans rfl; have hcz6_2 : w4.cell? ⟨gx1_0, 2, none⟩ = some (.int .i64 a1_2) := (blk_cell BK295.out 2).trans rfl; have hcz6_3 : w4.cell? ⟨gx1_0, 3, none⟩ = some (.int .i64 a1_3) := (blk_cell BK295.out 3).trans rfl; have hcz6_4 : w4.cell? ⟨gx1_0, 4, none⟩ = some (.int .i64 a1_4) := (blk_cell BK295.out 4).trans rfl; obtain ⟨hfz6_0, hfz6_1, hfz6_2, hfz6_3, hfz6_4⟩ := fz5 BK295; obtain ⟨hcz7_0, hcz7_1, hcz7_2, hcz7_3, hcz7_4⟩ := cz5 BK296; obtain ⟨hfz7_0, hfz7_1, hfz7_2, hfz7_3, hfz7_4⟩ := fz5 BK296) | ((with_reducible refine gate_callee (f := 76) rfl ?_); refine gL (some 8) rfl rfl Try.func76 (by kernel_rfl) rfl #[.agg #[.int .i64 a1_2, .int .i64 a1_3], .agg #[.int .i64 a0_2, .int .i64 a0_3]] rfl ?_; (with_reducible refine (impl_overlap.calls a1_2 a1_3 a0_2 a0_3 t297 _ A3.out).mono ?_); rintro e w8 ⟨rfl, hb⟩; refine ⟨_, rfl, ?_⟩; replace BK295 := Aside0.mk (blk_below (g := gx1_0) (o := .cells #[.int .i64 a1_0, .int .i64 a1_1, .int .i64 a1_2, .int .i64 a1_3, .int .i64 a1_4] 71 (0, 0)) (bk BK295) hb); replace BK296 := nb BK296 hb; replace HB := Aside0.mk (below_step (bs1 HB GE296) hb); (try clear hb); (try clear hb2); (try clear hk); (try clear hi)))
 go_ret
 exact ⟨by first | rfl | (simp [errW_none, errW_some] <;> rfl) | (simp [*, errW_none, errW_some] <;> rfl), bs1 HB GE296⟩

/-! ### slices_IndexFunc_impl_Item_at_impl_intentsOf_1: function 65 -/
def slices_IndexFunc_impl_Item_at_impl_intentsOf_1.l0 : Nat → List (S71) → Int → Int → Int → Int → Int → Int → Int → Option (Int)
 | 0, _, _, _, _, _, _, _, _ => none
 | k + 1, x0, x7, x8, x299000, x299001, x299002, x299003, x299004 => if x8 < x7 then (if 0 ≤ x8 then (if x8 < (x0.length : Int) then ((impl_intentsOf_1.f ((rd_T71 x0 x8).f0) ((rd_T71 x0 x8).f1) ((rd_T71 x0 x8).f2.f0) ((rd_T71 x0 x8).f2.f1) ((rd_T71 x0 x8).f3) x299000 x299001 x299002 x299003 x299004).bind fun t300 => (if t300 = true then (some x8) else (slices_IndexFunc_impl_Item_at_impl_intentsOf_1.l0 k x0 x7 (wrap64 (x8 + 1)) x299000 x299001 x299002 x299003 x299004))) else (none)) else (none)) else (some (-1))
def slices_IndexFunc_impl_Item_at_impl_intentsOf_1.f (k : Nat) (l0 : List (S71)) (a1_0 : Int) (a1_1 : Int) (a1_2 : Int) (a1_3 : Int) (a1_4 : Int) : Option (Int) := slices_IndexFunc_impl_Item_at_impl_intentsOf_1.l0 k l0 (l0.length : Int) 0 a1_0 a1_1 a1_2 a1_3 a1_4
theorem slices_IndexFunc_impl_Item_at_impl_intentsOf_1.mono_l : ∀ k, (∀ y0 y1 y2 y3 y4 y5 y6 y7, LeO (slices_IndexFunc_impl_Item_at_impl_intentsOf_1.l0 k y0 y1 y2 y3 y4 y5 y6 y7) (slices_IndexFunc_impl_Item_at_impl_intentsOf_1.l0 (k + 1) y0 y1 y2 y3 y4 y5 y6 y7))
 | 0 => fun _ _ _ _ _ _ _ _ r h => by simp [slices_IndexFunc_impl_Item_at_impl_intentsOf_1.l0] at h
 | k + 1 => by
  have ih0 := slices_IndexFunc_impl_Item_at_impl_intentsOf_1.mono_l k
  ·
   intro y0 y1 y2 y3 y4 y5 y6 y7
   unfold slices_IndexFunc_impl_Item_at_impl_intentsOf_1.l0
   repeat' first
   | (with_reducible exact ih0 _ _ _ _ _ _ _ _)
   | (with_reducible exact LeO.refl _)
   | (with_reducible exact LeO.none _)
   | (with_reducible refine LeO.ite ?_ ?_)
   | (with_reducible refine LeO.bind ?_ (fun _ => ?_))
   | exact ih0 _ _ _ _ _ _ _ _
   | exact LeO.none _
   | refine LeO.ite ?_ ?_
   | refine LeO.bind ?_ (fun _ => ?_)
theorem slices_IndexFunc_impl_Item_at_impl_intentsOf_1.mono : ∀ a0 a1 a2 a3 a4 a5 k, LeO (slices_IndexFunc_impl_Item_at_impl_intentsOf_1.f k a0 a1 a2 a3 a4 a5) (slices_IndexFunc_impl_Item_at_impl_intentsOf_1.f (k + 1) a0 a1 a2 a3 a4 a5) := by
 intro a0 a1 a2 a3 a4 a5 k
 have ih0 := slices_IndexFunc_impl_Item_at_impl_intentsOf_1.mono_l k
 unfold slices_IndexFunc_impl_Item_at_impl_intentsOf_1.f
 repeat' first
   | (with_reducible exact ih0 _ _ _ _ _ _ _ _)
   | (with_reducible exact LeO.refl _)
   | (with_reducible exact LeO.none _)
   | (with_reducible refine LeO.ite ?_ ?_)
   | (with_reducible refine LeO.bind ?_ (fun _ => ?_))
   | exact ih0 _ _ _ _ _ _ _ _
   | exact LeO.none _
   | refine LeO.ite ?_ ?_
   | refine LeO.bind ?_ (fun _ => ?_)
set_option maxHeartbeats 8000000 in
set_option maxRecDepth 100000 in
theorem slices_IndexFunc_impl_Item_at_impl_intentsOf_1.calls (k : Nat) (A0 : Option Addr) (c0 : Nat) (l0 : List (S71)) (gx1_0 : Nat) (a1_0 : Int) (a1_1 : Int) (a1_2 : Int) (a1_3 : Int) (a1_4 : Int) (r : Int) (w : World) (hr0 : Kd.C k71 w A0 l0.length l0) (hc0 : l0.length ≤ c0) (hx1_0 : w.heap[gx1_0]? = some (.cells #[.int .i64 a1_0, .int .i64 a1_1, .int .i64 a1_2, .int .i64 a1_3, .int .i64 a1_4] 71 (0, 0))) (h : slices_IndexFunc_impl_Item_at_impl_intentsOf_1.f k l0 a1_0 a1_1 a1_2 a1_3 a1_4 = some r) :
  Calls Try.prog 65 #[.slice A0 l0.length c0, .func (.func 75) #[] #[.pointer (some ⟨gx1_0, 0, none⟩)]] w fun e w' => e = .returned (.int .i64 r) ∧ Below w.heap.size w w' := by
 have hu71 := Try.underlying71
 have HR0 := Aside0.mk hr0
 have HC0 := Aside0.mk hc0
 clear hr0 hc0
 have BK298 := Aside0.mk hx1_0
 clear hx1_0
 have HB := Aside0.mk (Below.refl w.heap.size w)
 have H : (slices_IndexFunc_impl_Item_at_impl_intentsOf_1.l0 k l0 (l0.length : Int) 0 a1_0 a1_1 a1_2 a1_3 a1_4) = some r := h
 clear h
 have H' := Aside0.mk H
 clear H
 go_enter Try.func65, Try.ntmps65
 go_wp2
 go_loopg [8] k (fun kq v8 w' => ∃ (x8_1 : Int), v8 = .int .i64 x8_1 ∧ Aside0 (slices_IndexFunc_impl_Item_at_impl_intentsOf_1.l0 kq l0 (l0.length : Int) x8_1 a1_0 a1_1 a1_2 a1_3 a1_4 = some r) ∧ Aside0 (kq ≤ k) ∧ Aside0 (w'.heap[gx1_0]? = some (.cells #[.int .i64 a1_0, .int .i64 a1_1, .int .i64 a1_2, .int .i64 a1_3, .int .i64 a1_4] 71 (0, 0))) ∧ Aside0 (Below w.heap.size w w'))
 case atStart => exact ⟨(0), (by first | rfl | (simp; done) | (simp [*]; done)), H', ⟨Nat.le_refl _⟩, ⟨bk BK298⟩, ⟨bs HB⟩⟩
 case round =>
  clear H'
  try clear hx1
  try clear p2
  try clear hx1_0
  obtain ⟨x8_1, rfl, HA, HK1, BK298, HB⟩ := hrel
  cases gk with
  | zero => exact absurd HA.out (by simp [slices_IndexFunc_impl_Item_at_impl_intentsOf_1.l0])
  | succ k1 =>
   have H := HA.out
   clear HA
   simp only [slices_IndexFunc_impl_Item_at_impl_intentsOf_1.l0] at H
   by_cases c3 : x8_1 < (l0.length : Int)
   ·
    rw [if_pos c3] at H
    have c3b0 : decide (x8_1 < (l0.length : Int)) = true := decide_eq_true c3
    clear c3
    by_cases c4 : 0 ≤ x8_1
    ·
     rw [if_pos c4] at H
     have c4b0 : decide (0 ≤ x8_1) = true := decide_eq_true c4
     clear c4
     by_cases c5 : x8_1 < (l0.length : Int)
     ·
      rw [if_pos c5] at H
      have c5b0 : decide (x8_1 < (l0.length : Int)) = true := decide_eq_true c5
      clear c5
      replace H := Option.bind_eq_some_iff.mp H
      obtain ⟨t300, A60, H⟩ := H
      replace H : (if t300 = true then (some x8_1) else (slices_IndexFunc_impl_Item_at_impl_intentsOf_1.l0 k1 l0 (l0.length : Int) (wrap64 (x8_1 + 1)) a1_0 a1_1 a1_2 a1_3 a1_4)) = some r := H
      have A6 := Aside0.mk A60
      clear A60
      by_cases c7 : t300 = true
      ·
       subst c7
       rw [if_pos rfl] at H
       obtain rfl := Option.some.inj H
       have p299 : 0 ≤ (x8_1 : Int) := of_decide_eq_true (by first | (with_reducible assumption) | assumption)
       have q299 : x8_1 < (l0.length : Int) := of_decide_eq_true (by first | (with_reducible assumption) | assumption)
       obtain ⟨ad299, e299, hx299_0, hx299_1, hx299_2, hx299_3, hx299_4⟩ := at_T71 HR0.out x8_1 p299 q299
       cases e299
       replace hx299_0 := (HB.out.cell (World.block_lt_of_cell? w _ hx299_0)).trans hx299_0
       replace hx299_1 := (HB.out.cell (World.block_lt_of_cell? w _ hx299_1)).trans hx299_1
       replace hx299_2 := (HB.out.cell (World.block_lt_of_cell? w _ hx299_2)).trans hx299_2
       replace hx299_3 := (HB.out.cell (World.block_lt_of_cell? w _ hx299_3)).trans hx299_3
       replace hx299_4 := (HB.out.cell (World.block_lt_of_cell? w _ hx299_4)).trans hx299_4
       replace p299 := eq_true p299
       replace q299 := eq_true q299
       go_wp2_with (first | ((with_reducible refine gate_value (t := 11) rfl ?_); refine goesV_ (some 16) rfl rfl Try.func75 (by kernel_rfl) rfl #[.agg #[.int .i64 ((rd_T71 l0 x8_1).f0), .int .i64 ((rd_T71 l0 x8_1).f1), .int .i64 ((rd_T71 l0 x8_1).f2.f0), .int .i64 ((rd_T71 l0 x8_1).f2.f1), .int .i64 ((rd_T71 l0 x8_1).f3)], .pointer (some ⟨gx1_0, 0, none⟩)] rfl rfl (by (try simp only [List.map_toArray, List.map_cons, List.map_nil]); first | done | rfl | (simp only [List.length_drop, List.length_take]; rfl)) ?_; (with_reducible refine (impl_intentsOf_1.calls ((rd_T71 l0 x8_1).f0) ((rd_T71 l0 x8_1).f1) ((rd_T71 l0 x8_1).f2.f0) ((rd_T71 l0 x8_1).f2.f1) ((rd_T71 l0 x8_1).f3) gx1_0 a1_0 a1_1 a1_2 a1_3 a1_4 true _ ?side1 A6.out).mono ?_); (case side1 => (with_reducible repeat (first | refine blk_drewN ?_ _ | refine blk_drew ?_ | refine blk_alloc ?_ _)); exact BK298.out); rintro e w8 ⟨rfl, hb⟩; refine ⟨_, rfl, ?_⟩; replace BK298 := Aside0.mk (blk_below (g := gx1_0) (o := .cells #[.int .i64 a1_0, .int .i64 a1_1, .int .i64 a1_2, .int .i64 a1_3, .int .i64 a1_4] 71 (0, 0)) (bk BK298) hb); replace HB := Aside0.mk (below_step (bs HB) hb); (try clear hb); (try clear hb2); (try clear hk); (try clear hi)))
       go_ret
       exact ⟨by first | rfl | (simp [errW_none, errW_some] <;> rfl) | (simp [*, errW_none, errW_some] <;> rfl), bs HB⟩
      ·
       replace c7 := Bool.eq_false_iff.mpr c7
       subst c7
       rw [if_neg (show ¬ (false = true) by decide)] at H
       have H' := Aside0.mk H
       clear H
       have p299 : 0 ≤ (x8_1 : Int) := of_decide_eq_true (by first | (with_reducible assumption) | assumption)
       have q299 : x8_1 < (l0.length : Int) := of_decide_eq_true (by first | (with_reducible assumption) | assumption)
       obtain ⟨ad299, e299, hx299_0, hx299_1, hx299_2, hx299_3, hx299_4⟩ := at_T71 HR0.out x8_1 p299 q299
       cases e299
       replace hx299_0 := (HB.out.cell (World.block_lt_of_cell? w _ hx299_0)).trans hx299_0
       replace hx299_1 := (HB.out.cell (World.block_lt_of_cell? w _ hx299_1)).trans hx299_1
       replace hx299_2 := (HB.out.cell (World.block_lt_of_cell? w _ hx299_2)).trans hx299_2
       replace hx299_3 := (HB.out.cell (World.block_lt_of_cell? w _ hx299_3)).trans hx299_3
       replace hx299_4 := (HB.out.cell (World.block_lt_of_cell? w _ hx299_4)).trans hx299_4
       replace p299 := eq_true p299
       replace q299 := eq_true q299
       go_wp2_with (first | ((with_reducible refine gate_value (t := 11) rfl ?_); refine goesV_ (some 16) rfl rfl Try.func75 (by kernel_rfl) rfl #[.agg #[.int .i64 ((rd_T71 l0 x8_1).f0), .int .i64 ((rd_T71 l0 x8_1).f1), .int .i64 ((rd_T71 l0 x8_1).f2.f0), .int .i64 ((rd_T71 l0 x8_1).f2.f1), .int .i64 ((rd_T71 l0 x8_1).f3)], .pointer (some ⟨gx1_0, 0, none⟩)] rfl rfl (by (try simp only [List.map_toArray, List.map_cons, List.map_nil]); first | done | rfl | (simp only [List.length_drop, List.length_take]; rfl)) ?_; (with_reducible refine (impl_intentsOf_1.calls ((rd_T71 l0 x8_1).f0) ((rd_T71 l0 x8_1).f1) ((rd_T71 l0 x8_1).f2.f0) ((rd_T71 l0 x8_1).f2.f1) ((rd_T71 l0 x8_1).f3) gx1_0 a1_0 a1_1 a1_2 a1_3 a1_4 false _ ?side1 A6.out).mono ?_); (case side1 => (with_reducible repeat (first | refine blk_drewN ?_ _ | refine blk_drew ?_ | refine blk_alloc ?_ _)); exact BK298.out); rintro e w9 ⟨rfl, hb⟩; refine ⟨_, rfl, ?_⟩; replace BK298 := Aside0.mk (blk_below (g := gx1_0) (o := .cells #[.int .i64 a1_0, .int .i64 a1_1, .int .i64 a1_2, .int .i64 a1_3, .int .i64 a1_4] 71 (0, 0)) (bk BK298) hb); replace HB := Aside0.mk (below_step (bs HB) hb); (try clear hb); (try clear hb2); (try clear hk); (try clear hi)))
       go_roundg k1
       case measure => have := HK1.out; omega
       case rel => exact ⟨(wrap64 (x8_1 + 1)), (by first | rfl | (simp; done) | (simp [*]; done)), H', ⟨by have := HK1.out; omega⟩, ⟨bk BK298⟩, ⟨bs HB⟩⟩
     ·
      rw [if_neg c5] at H
      exact absurd H (by simp)
    ·
     rw [if_neg c4] at H
     exact absurd H (by simp)
   ·
    rw [if_neg c3] at H
    have c3b0 : decide (x8_1 < (l0.length : Int)) = false := decide_eq_false c3
    clear c3
    obtain rfl := Option.some.inj H
    go_wp2
    go_ret
    exact ⟨by first | rfl | (simp [errW_none, errW_some] <;> rfl) | (simp [*, errW_none, errW_some] <;> rfl), bs HB⟩

/-! ### slices_ContainsFunc_impl_Item_at_impl_intentsOf_1: function 79 -/
def slices_ContainsFunc_impl_Item_at_impl_intentsOf_1.f (k : Nat) (l0 : List (S71)) (a1_0 : Int) (a1_1 : Int) (a1_2 : Int) (a1_3 : Int) (a1_4 : Int) : Option (Bool) := (slices_IndexFunc_impl_Item_at_impl_intentsOf_1.f k l0 a1_0 a1_1 a1_2 a1_3 a1_4).bind fun t302 => (some (decide (t302 ≥ 0)))
theorem slices_ContainsFunc_impl_Item_at_impl_intentsOf_1.mono : ∀ a0 a1 a2 a3 a4 a5 k, LeO (slices_ContainsFunc_impl_Item_at_impl_intentsOf_1.f k a0 a1 a2 a3 a4 a5) (slices_ContainsFunc_impl_Item_at_impl_intentsOf_1.f (k + 1) a0 a1 a2 a3 a4 a5) := by
 intro a0 a1 a2 a3 a4 a5 k
 unfold slices_ContainsFunc_impl_Item_at_impl_intentsOf_1.f
 repeat' first
   | (with_reducible exact slices_IndexFunc_impl_Item_at_impl_intentsOf_1.mono _ _ _ _ _ _ _)
   | (with_reducible exact LeO.refl _)
   | (with_reducible exact LeO.none _)
   | (with_reducible refine LeO.ite ?_ ?_)
   | (with_reducible refine LeO.bind ?_ (fun _ => ?_))
   | exact slices_IndexFunc_impl_Item_at_impl_intentsOf_1.mono _ _ _ _ _ _ _
   | exact LeO.none _
   | refine LeO.ite ?_ ?_
   | refine LeO.bind ?_ (fun _ => ?_)
set_option maxHeartbeats 8000000 in
set_option maxRecDepth 100000 in
theorem slices_ContainsFunc_impl_Item_at_impl_intentsOf_1.calls (k : Nat) (A0 : Option Addr) (c0 : Nat) (l0 : List (S71)) (gx1_0 : Nat) (a1_0 : Int) (a1_1 : Int) (a1_2 : Int) (a1_3 : Int) (a1_4 : Int) (r : Bool) (w : World) (hr0 : Kd.C k71 w A0 l0.length l0) (hc0 : l0.length ≤ c0) (hx1_0 : w.heap[gx1_0]? = some (.cells #[.int .i64 a1_0, .int .i64 a1_1, .int .i64 a1_2, .int .i64 a1_3, .int .i64 a1_4] 71 (0, 0))) (h : slices_ContainsFunc_impl_Item_at_impl_intentsOf_1.f k l0 a1_0 a1_1 a1_2 a1_3 a1_4 = some r) :
  Calls Try.prog 79 #[.slice A0 l0.length c0, .func (.func 75) #[] #[.pointer (some ⟨gx1_0, 0, none⟩)]] w fun e w' => e = .returned (.bool r) ∧ Below w.heap.size w w' := by
 have HR0 := Aside0.mk hr0
 have HC0 := Aside0.mk hc0
 clear hr0 hc0
 have BK301 := Aside0.mk hx1_0
 clear hx1_0
 have HB := Aside0.mk (Below.refl w.heap.size w)
 have H : ((slices_IndexFunc_impl_Item_at_impl_intentsOf_1.f k l0 a1_0 a1_1 a1_2 a1_3 a1_4).bind fun t302 => (some (decide (t302 ≥ 0)))) = some r := h
 clear h
 replace H := Option.bind_eq_some_iff.mp H
 obtain ⟨t302, A30, H⟩ := H
 replace H : (some (decide (t302 ≥ 0))) = some r := H
 have A3 := Aside0.mk A30
 clear A30
 obtain rfl := Option.some.inj H
 go_enter Try.func79, Try.ntmps79
 go_wp2_with (first | ((with_reducible refine gate_callee (f := 65) rfl ?_); refine gL (some 7) rfl rfl Try.func65 (by kernel_rfl) rfl #[.slice A0 l0.length c0, .func (.func 75) #[] #[.pointer (some ⟨gx1_0, 0, none⟩)]] rfl ?_; (with_reducible refine (slices_IndexFunc_impl_Item_at_impl_intentsOf_1.calls k _ _ l0 gx1_0 a1_0 a1_1 a1_2 a1_3 a1_4 t302 _ ?side1 ?side2 ?side3 A3.out).mono ?_); (case side1 => repeat (first | exact HR0.out | (with_reducible refine Kd.C_alloc ?_ _) | (with_reducible refine Kd.C_drewN ?_ _) | (with_reducible refine Kd.C_drew ?_))); (case side2 => exact HC0.out); (case side3 => (with_reducible repeat (first | refine blk_drewN ?_ _ | refine blk_drew ?_ | refine blk_alloc ?_ _)); exact BK301.out); rintro e w4 ⟨rfl, hb⟩; refine ⟨_, rfl, ?_⟩; replace BK301 := Aside0.mk (blk_below (g := gx1_0) (o := .cells #[.int .i64 a1_0, .int .i64 a1_1, .int .i64 a1_2, .int .i64 a1_3, .int .i64 a1_4] 71 (0, 0)) (bk BK301) hb); replace HB := Aside0.mk (below_step (bs HB) hb); (try clear hb); (try clear hb2); (try clear hk); (try clear hi)))
 go_ret
 exact ⟨by first | rfl | (simp [errW_none, errW_some] <;> rfl) | (simp [*, errW_none, errW_some] <;> rfl), bs HB⟩

/-! ### impl_intentsOf_2: function 77 -/
def impl_intentsOf_2.f (a0_0 : Int) (a0_1 : Int) (a1_0 : Int) (a1_1 : Int) (a1_2 : Int) (a1_3 : Int) (a1_4 : Int) : Option (Bool) := (impl_overlap.f a1_2 a1_3 a0_0 a0_1).bind fun t297 => (some t297)
set_option maxHeartbeats 8000000 in
set_option maxRecDepth 100000 in
theorem impl_intentsOf_2.calls (a0_0 : Int) (a0_1 : Int) (gx1_0 : Nat) (a1_0 : Int) (a1_1 : Int) (a1_2 : Int) (a1_3 : Int) (a1_4 : Int) (r : Bool) (w : World) (hx1_0 : w.heap[gx1_0]? = some (.cells #[.int .i64 a1_0, .int .i64 a1_1, .int .i64 a1_2, .int .i64 a1_3, .int .i64 a1_4] 71 (0, 0))) (h : impl_intentsOf_2.f a0_0 a0_1 a1_0 a1_1 a1_2 a1_3 a1_4 = some r) :
  Calls Try.prog 77 #[.agg #[.int .i64 a0_0, .int .i64 a0_1], .pointer (some ⟨gx1_0, 0, none⟩)] w fun e w' => e = .returned (.bool r) ∧ Below w.heap.size w w' := by
 have hu53 := Try.underlying53
 have BK295 := Aside0.mk hx1_0
 clear hx1_0
 have HB := Aside0.mk (Below.refl w.heap.size w)
 have H : ((impl_overlap.f a1_2 a1_3 a0_0 a0_1).bind fun t297 => (some t297)) = some r := h
 clear h
 replace H := Option.bind_eq_some_iff.mp H
 obtain ⟨t297, A30, H⟩ := H
 replace H : (some t297) = some r := H
 have A3 := Aside0.mk A30
 clear A30
 obtain rfl := Option.some.inj H
 go_enter Try.func77, Try.ntmps77
 go_wp2_with (first | ((with_reducible refine gate_dst (N := 2) rfl ?_); refine box_event ?hg (N := 2) ?hd (cs := #[.int .i64 a0_0, .int .i64 a0_1]) (t := 53) ?hr ?_; (case hd => rfl); (case hg => rfl); (case hr => first | (go_simp; done) | (go_simp; rfl)); intro gb296 hg w4 hbox hb; have BK296 := Aside0.mk (hbox); have GW296 := Aside0.mk ((by rw [hg]; exact (below_size (bs HB)) : w.heap.size ≤ gb296)); have GE296 := Aside0.mk ((by rw [hg]; exact (below_size (bs HB)) : w.heap.size ≤ gb296)); replace HB := Aside0.mk (below_step (bs HB) hb); have NB295_296 := Aside0.mk ((by rw [hg]; exact Nat.ne_of_lt (blk_lt (g := gx1_0) (o := .cells #[.int .i64 a1_0, .int .i64 a1_1, .int .i64 a1_2, .int .i64 a1_3, .int .i64 a1_4] 71 (0, 0)) (bk BK295)) : gx1_0 ≠ gb296)); have NB296_295 := Aside0.mk ((by rw [hg]; exact Nat.ne_of_gt (blk_lt (g := gx1_0) (o := .cells #[.int .i64 a1_0, .int .i64 a1_1, .int .i64 a1_2, .int .i64 a1_3, .int .i64 a1_4] 71 (0, 0)) (bk BK295)) : gb296 ≠ gx1_0)); replace BK295 := Aside0.mk (blk_below (g := gx1_0) (o := .cells #[.int .i64 a1_0, .int .i64 a1_1, .int .i64 a1_2, .int .i64 a1_3, .int .i64 a1_4] 71 (0, 0)) (bk BK295) hb); clear hb hbox hg; have hnb5 := NB295_296.out; have hnc5 := NB296_295.out; have hcz6_0 : w4.cell? ⟨gx1_0, 0, none⟩ = some (.int .i64 a1_0) := (blk_cell BK295.out 0).trans rfl; have hcz6_1 : w4.cell? ⟨gx1_0, 1, none⟩ = some (.int .i64 a1_1) := (blk_cell BK295.out 1).trans rfl; have hcz6_2 : w4.cell? ⟨gx1_0, 2, none⟩ = some (.int .i64 a1_2) := (blk_cell BK295.out 2).trans rfl; have hcz6_3 : w4.cell? ⟨gx1_0, 3, none⟩ = some (.int .i64 a1_3) := (blk_cell BK295.out 3).trans rfl; have hcz6_4 : w4.cell? ⟨gx1_0, 4, none⟩ = some (.int .i64 a1_4) := (blk_cell BK295.out 4).trans rfl; obtain ⟨hfz6_0, hfz6_1, hfz6_2, hfz6_3, hfz6_4⟩ := fz5 BK295; obtain ⟨hcz7_0, hcz7_1⟩ := cz2 BK296; obtain ⟨hfz7_0, hfz7_1⟩ := fz2 BK296) | ((with_reducible refine gate_callee (f := 76) rfl ?_); refine gL (some 7) rfl rfl Try.func76 (by kernel_rfl) rfl #[.agg #[.int .i64 a1_2, .int .i64 a1_3], .agg #[.int .i64 a0_0, .int .i64 a0_1]] rfl ?_; (with_reducible refine (impl_overlap.calls a1_2 a1_3 a0_0 a0_1 t297 _ A3.out).mono ?_); rintro e w8 ⟨rfl, hb⟩; refine ⟨_, rfl, ?_⟩; replace BK295 := Aside0.mk (blk_below (g := gx1_0) (o := .cells #[.int .i64 a1_0, .int .i64 a1_1, .int .i64 a1_2, .int .i64 a1_3, .int .i64 a1_4] 71 (0, 0)) (bk BK295) hb); replace BK296 := nb BK296 hb; replace HB := Aside0.mk (below_step (bs1 HB GE296) hb); (try clear hb); (try clear hb2); (try clear hk); (try clear hi)))
 go_ret
 exact ⟨by first | rfl | (simp [errW_none, errW_some] <;> rfl) | (simp [*, errW_none, errW_some] <;> rfl), bs1 HB GE296⟩

/-! ### slices_IndexFunc_impl_Extent_at_impl_intentsOf_2: function 93 -/
def slices_IndexFunc_impl_Extent_at_impl_intentsOf_2.l0 : Nat → List (S53) → Int → Int → Int → Int → Int → Int → Int → Option (Int)
 | 0, _, _, _, _, _, _, _, _ => none
 | k + 1, x0, x7, x8, x299000, x299001, x299002, x299003, x299004 => if x8 < x7 then (if 0 ≤ x8 then (if x8 < (x0.length : Int) then ((impl_intentsOf_2.f ((rd_T53 x0 x8).f0) ((rd_T53 x0 x8).f1) x299000 x299001 x299002 x299003 x299004).bind fun t300 => (if t300 = true then (some x8) else (slices_IndexFunc_impl_Extent_at_impl_intentsOf_2.l0 k x0 x7 (wrap64 (x8 + 1)) x299000 x299001 x299002 x299003 x299004))) else (none)) else (none)) else (some (-1))
def slices_IndexFunc_impl_Extent_at_impl_intentsOf_2.f (k : Nat) (l0 : List (S53)) (a1_0 : Int) (a1_1 : Int) (a1_2 : Int) (a1_3 : Int) (a1_4 : Int) : Option (Int) := slices_IndexFunc_impl_Extent_at_impl_intentsOf_2.l0 k l0 (l0.length : Int) 0 a1_0 a1_1 a1_2 a1_3 a1_4
theorem slices_IndexFunc_impl_Extent_at_impl_intentsOf_2.mono_l : ∀ k, (∀ y0 y1 y2 y3 y4 y5 y6 y7, LeO (slices_IndexFunc_impl_Extent_at_impl_intentsOf_2.l0 k y0 y1 y2 y3 y4 y5 y6 y7) (slices_IndexFunc_impl_Extent_at_impl_intentsOf_2.l0 (k + 1) y0 y1 y2 y3 y4 y5 y6 y7))
 | 0 => fun _ _ _ _ _ _ _ _ r h => by simp [slices_IndexFunc_impl_Extent_at_impl_intentsOf_2.l0] at h
 | k + 1 => by
  have ih0 := slices_IndexFunc_impl_Extent_at_impl_intentsOf_2.mono_l k
  ·
   intro y0 y1 y2 y3 y4 y5 y6 y7
   unfold slices_IndexFunc_impl_Extent_at_impl_intentsOf_2.l0
   repeat' first
   | (with_reducible exact ih0 _ _ _ _ _ _ _ _)
   | (with_reducible exact LeO.refl _)
   | (with_reducible exact LeO.none _)
   | (with_reducible refine LeO.ite ?_ ?_)
   | (with_reducible refine LeO.bind ?_ (fun _ => ?_))
   | exact ih0 _ _ _ _ _ _ _ _
   | exact LeO.none _
   | refine LeO.ite ?_ ?_
   | refine LeO.bind ?_ (fun _ => ?_)
theorem slices_IndexFunc_impl_Extent_at_impl_intentsOf_2.mono : ∀ a0 a1 a2 a3 a4 a5 k, LeO (slices_IndexFunc_impl_Extent_at_impl_intentsOf_2.f k a0 a1 a2 a3 a4 a5) (slices_IndexFunc_impl_Extent_at_impl_intentsOf_2.f (k + 1) a0 a1 a2 a3 a4 a5) := by
 intro a0 a1 a2 a3 a4 a5 k
 have ih0 := slices_IndexFunc_impl_Extent_at_impl_intentsOf_2.mono_l k
 unfold slices_IndexFunc_impl_Extent_at_impl_intentsOf_2.f
 repeat' first
   | (with_reducible exact ih0 _ _ _ _ _ _ _ _)
   | (with_reducible exact LeO.refl _)
   | (with_reducible exact LeO.none _)
   | (with_reducible refine LeO.ite ?_ ?_)
   | (with_reducible refine LeO.bind ?_ (fun _ => ?_))
   | exact ih0 _ _ _ _ _ _ _ _
   | exact LeO.none _
   | refine LeO.ite ?_ ?_
   | refine LeO.bind ?_ (fun _ => ?_)
set_option maxHeartbeats 8000000 in
set_option maxRecDepth 100000 in
theorem slices_IndexFunc_impl_Extent_at_impl_intentsOf_2.calls (k : Nat) (A0 : Option Addr) (c0 : Nat) (l0 : List (S53)) (gx1_0 : Nat) (a1_0 : Int) (a1_1 : Int) (a1_2 : Int) (a1_3 : Int) (a1_4 : Int) (r : Int) (w : World) (hr0 : Kd.C k53 w A0 l0.length l0) (hc0 : l0.length ≤ c0) (hx1_0 : w.heap[gx1_0]? = some (.cells #[.int .i64 a1_0, .int .i64 a1_1, .int .i64 a1_2, .int .i64 a1_3, .int .i64 a1_4] 71 (0, 0))) (h : slices_IndexFunc_impl_Extent_at_impl_intentsOf_2.f k l0 a1_0 a1_1 a1_2 a1_3 a1_4 = some r) :
  Calls Try.prog 93 #[.slice A0 l0.length c0, .func (.func 77) #[] #[.pointer (some ⟨gx1_0, 0, none⟩)]] w fun e w' => e = .returned (.int .i64 r) ∧ Below w.heap.size w w' := by
 have hu53 := Try.underlying53
 have HR0 := Aside0.mk hr0
 have HC0 := Aside0.mk hc0
 clear hr0 hc0
 have BK298 := Aside0.mk hx1_0
 clear hx1_0
 have HB := Aside0.mk (Below.refl w.heap.size w)
 have H : (slices_IndexFunc_impl_Extent_at_impl_intentsOf_2.l0 k l0 (l0.length : Int) 0 a1_0 a1_1 a1_2 a1_3 a1_4) = some r := h
 clear h
 have H' := Aside0.mk H
 clear H
 go_enter Try.func93, Try.ntmps93
 go_wp2
 go_loopg [8] k (fun kq v8 w' => ∃ (x8_1 : Int), v8 = .int .i64 x8_1 ∧ Aside0 (slices_IndexFunc_impl_Extent_at_impl_intentsOf_2.l0 kq l0 (l0.length : Int) x8_1 a1_0 a1_1 a1_2 a1_3 a1_4 = some r) ∧ Aside0 (kq ≤ k) ∧ Aside0 (w'.heap[gx1_0]? = some (.cells #[.int .i64 a1_0, .int .i64 a1_1, .int .i64 a1_2, .int .i64 a1_3, .int .i64 a1_4] 71 (0, 0))) ∧ Aside0 (Below w.heap.size w w'))
 case atStart => exact ⟨(0), (by first | rfl | (simp; done) | (simp [*]; done)), H', ⟨Nat.le_refl _⟩, ⟨bk BK298⟩, ⟨bs HB⟩⟩
 case round =>
  clear H'
  try clear hx1
  try clear p2
  try clear hx1_0
  obtain ⟨x8_1, rfl, HA, HK1, BK298, HB⟩ := hrel
  cases gk with
  | zero => exact absurd HA.out (by simp [slices_IndexFunc_impl_Extent_at_impl_intentsOf_2.l0])
  | succ k1 =>
   have H := HA.out
   clear HA
   simp only [slices_IndexFunc_impl_Extent_at_impl_intentsOf_2.l0] at H
   by_cases c3 : x8_1 < (l0.length : Int)
   ·
    rw [if_pos c3] at H
    have c3b0 : decide (x8_1 < (l0.length : Int)) = true := decide_eq_true c3
    clear c3
    by_cases c4 : 0 ≤ x8_1
    ·
     rw [if_pos c4] at H
     have c4b0 : decide (0 ≤ x8_1) = true := decide_eq_true c4
     clear c4
     by_cases c5 : x8_1 < (l0.length : Int)
     ·
      rw [if_pos c5] at H
      have c5b0 : decide (x8_1 < (l0.length : Int)) = true := decide_eq_true c5
      clear c5
      replace H := Option.bind_eq_some_iff.mp H
      obtain ⟨t300, A60, H⟩ := H
      replace H : (if t300 = true then (some x8_1) else (slices_IndexFunc_impl_Extent_at_impl_intentsOf_2.l0 k1 l0 (l0.length : Int) (wrap64 (x8_1 + 1)) a1_0 a1_1 a1_2 a1_3 a1_4)) = some r := H
      have A6 := Aside0.mk A60
      clear A60
      by_cases c7 : t300 = true
      ·
       subst c7
       rw [if_pos rfl] at H
       obtain rfl := Option.some.inj H
       have p299 : 0 ≤ (x8_1 : Int) := of_decide_eq_true (by first | (with_reducible assumption) | assumption)
       have q299 : x8_1 < (l0.length : Int) := of_decide_eq_true (by first | (with_reducible assumption) | assumption)
       obtain ⟨ad299, e299, hx299_0, hx299_1⟩ := at_T53 HR0.out x8_1 p299 q299
       cases e299
       replace hx299_0 := (HB.out.cell (World.block_lt_of_cell? w _ hx299_0)).trans hx299_0
       replace hx299_1 := (HB.out.cell (World.block_lt_of_cell? w _ hx299_1)).trans hx299_1
       replace p299 := eq_true p299
       replace q299 := eq_true q299
       go_wp2_with (first | ((with_reducible refine gate_value (t := 11) rfl ?_); refine goesV_ (some 16) rfl rfl Try.func77 (by kernel_rfl) rfl #[.agg #[.int .i64 ((rd_T53 l0 x8_1).f0), .int .i64 ((rd_T53 l0 x8_1).f1)], .pointer (some ⟨gx1_0, 0, none⟩)] rfl rfl (by (try simp only [List.map_toArray, List.map_cons, List.map_nil]); first | done | rfl | (simp only [List.length_drop, List.length_take]; rfl)) ?_; (with_reducible refine (impl_intentsOf_2.calls ((rd_T53 l0 x8_1).f0) ((rd_T53 l0 x8_1).f1) gx1_0 a1_0 a1_1 a1_2 a1_3 a1_4 true _ ?side1 A6.out).mono ?_); (case side1 => (with_reducible repeat (first | refine blk_drewN ?_ _ | refine blk_drew ?_ | refine blk_alloc ?_ _)); exact BK298.out); rintro e w8 ⟨rfl, hb⟩; refine ⟨_, rfl, ?_⟩; replace BK298 := Aside0.mk (blk_below (g := gx1_0) (o := .cells #[.int .i64 a1_0, .int .i64 a1_1, .int .i64 a1_2, .int .i64 a1_3, .int .i64 a1_4] 71 (0, 0)) (bk BK298) hb); replace HB := Aside0.mk (below_step (bs HB) hb); (try clear hb); (try clear hb2); (try clear hk); (try clear hi)))
       go_ret
       exact ⟨by first | rfl | (simp [errW_none, errW_some] <;> rfl) | (simp [*, errW_none, errW_some] <;> rfl), bs HB⟩
      ·
       replace c7 := Bool.eq_false_iff.mpr c7
       subst c7
       rw [if_neg (show ¬ (false = true) by decide)] at H
       have H' := Aside0.mk H
       clear H
       have p299 : 0 ≤ (x8_1 : Int) := of_decide_eq_true (by first | (with_reducible assumption) | assumption)
       have q299 : x8_1 < (l0.length : Int) := of_decide_eq_true (by first | (with_reducible assumption) | assumption)
       obtain ⟨ad299, e299, hx299_0, hx299_1⟩ := at_T53 HR0.out x8_1 p299 q299
       cases e299
       replace hx299_0 := (HB.out.cell (World.block_lt_of_cell? w _ hx299_0)).trans hx299_0
       replace hx299_1 := (HB.out.cell (World.block_lt_of_cell? w _ hx299_1)).trans hx299_1
       replace p299 := eq_true p299
       replace q299 := eq_true q299
       go_wp2_with (first | ((with_reducible refine gate_value (t := 11) rfl ?_); refine goesV_ (some 16) rfl rfl Try.func77 (by kernel_rfl) rfl #[.agg #[.int .i64 ((rd_T53 l0 x8_1).f0), .int .i64 ((rd_T53 l0 x8_1).f1)], .pointer (some ⟨gx1_0, 0, none⟩)] rfl rfl (by (try simp only [List.map_toArray, List.map_cons, List.map_nil]); first | done | rfl | (simp only [List.length_drop, List.length_take]; rfl)) ?_; (with_reducible refine (impl_intentsOf_2.calls ((rd_T53 l0 x8_1).f0) ((rd_T53 l0 x8_1).f1) gx1_0 a1_0 a1_1 a1_2 a1_3 a1_4 false _ ?side1 A6.out).mono ?_); (case side1 => (with_reducible repeat (first | refine blk_drewN ?_ _ | refine blk_drew ?_ | refine blk_alloc ?_ _)); exact BK298.out); rintro e w9 ⟨rfl, hb⟩; refine ⟨_, rfl, ?_⟩; replace BK298 := Aside0.mk (blk_below (g := gx1_0) (o := .cells #[.int .i64 a1_0, .int .i64 a1_1, .int .i64 a1_2, .int .i64 a1_3, .int .i64 a1_4] 71 (0, 0)) (bk BK298) hb); replace HB := Aside0.mk (below_step (bs HB) hb); (try clear hb); (try clear hb2); (try clear hk); (try clear hi)))
       go_roundg k1
       case measure => have := HK1.out; omega
       case rel => exact ⟨(wrap64 (x8_1 + 1)), (by first | rfl | (simp; done) | (simp [*]; done)), H', ⟨by have := HK1.out; omega⟩, ⟨bk BK298⟩, ⟨bs HB⟩⟩
     ·
      rw [if_neg c5] at H
      exact absurd H (by simp)
    ·
     rw [if_neg c4] at H
     exact absurd H (by simp)
   ·
    rw [if_neg c3] at H
    have c3b0 : decide (x8_1 < (l0.length : Int)) = false := decide_eq_false c3
    clear c3
    obtain rfl := Option.some.inj H
    go_wp2
    go_ret
    exact ⟨by first | rfl | (simp [errW_none, errW_some] <;> rfl) | (simp [*, errW_none, errW_some] <;> rfl), bs HB⟩

/-! ### slices_ContainsFunc_impl_Extent_at_impl_intentsOf_2: function 80 -/
def slices_ContainsFunc_impl_Extent_at_impl_intentsOf_2.f (k : Nat) (l0 : List (S53)) (a1_0 : Int) (a1_1 : Int) (a1_2 : Int) (a1_3 : Int) (a1_4 : Int) : Option (Bool) := (slices_IndexFunc_impl_Extent_at_impl_intentsOf_2.f k l0 a1_0 a1_1 a1_2 a1_3 a1_4).bind fun t302 => (some (decide (t302 ≥ 0)))
theorem slices_ContainsFunc_impl_Extent_at_impl_intentsOf_2.mono : ∀ a0 a1 a2 a3 a4 a5 k, LeO (slices_ContainsFunc_impl_Extent_at_impl_intentsOf_2.f k a0 a1 a2 a3 a4 a5) (slices_ContainsFunc_impl_Extent_at_impl_intentsOf_2.f (k + 1) a0 a1 a2 a3 a4 a5) := by
 intro a0 a1 a2 a3 a4 a5 k
 unfold slices_ContainsFunc_impl_Extent_at_impl_intentsOf_2.f
 repeat' first
   | (with_reducible exact slices_IndexFunc_impl_Extent_at_impl_intentsOf_2.mono _ _ _ _ _ _ _)
   | (with_reducible exact LeO.refl _)
   | (with_reducible exact LeO.none _)
   | (with_reducible refine LeO.ite ?_ ?_)
   | (with_reducible refine LeO.bind ?_ (fun _ => ?_))
   | exact slices_IndexFunc_impl_Extent_at_impl_intentsOf_2.mono _ _ _ _ _ _ _
   | exact LeO.none _
   | refine LeO.ite ?_ ?_
   | refine LeO.bind ?_ (fun _ => ?_)
set_option maxHeartbeats 8000000 in
set_option maxRecDepth 100000 in
theorem slices_ContainsFunc_impl_Extent_at_impl_intentsOf_2.calls (k : Nat) (A0 : Option Addr) (c0 : Nat) (l0 : List (S53)) (gx1_0 : Nat) (a1_0 : Int) (a1_1 : Int) (a1_2 : Int) (a1_3 : Int) (a1_4 : Int) (r : Bool) (w : World) (hr0 : Kd.C k53 w A0 l0.length l0) (hc0 : l0.length ≤ c0) (hx1_0 : w.heap[gx1_0]? = some (.cells #[.int .i64 a1_0, .int .i64 a1_1, .int .i64 a1_2, .int .i64 a1_3, .int .i64 a1_4] 71 (0, 0))) (h : slices_ContainsFunc_impl_Extent_at_impl_intentsOf_2.f k l0 a1_0 a1_1 a1_2 a1_3 a1_4 = some r) :
  Calls Try.prog 80 #[.slice A0 l0.length c0, .func (.func 77) #[] #[.pointer (some ⟨gx1_0, 0, none⟩)]] w fun e w' => e = .returned (.bool r) ∧ Below w.heap.size w w' := by
 have HR0 := Aside0.mk hr0
 have HC0 := Aside0.mk hc0
 clear hr0 hc0
 have BK301 := Aside0.mk hx1_0
 clear hx1_0
 have HB := Aside0.mk (Below.refl w.heap.size w)
 have H : ((slices_IndexFunc_impl_Extent_at_impl_intentsOf_2.f k l0 a1_0 a1_1 a1_2 a1_3 a1_4).bind fun t302 => (some (decide (t302 ≥ 0)))) = some r := h
 clear h
 replace H := Option.bind_eq_some_iff.mp H
 obtain ⟨t302, A30, H⟩ := H
 replace H : (some (decide (t302 ≥ 0))) = some r := H
 have A3 := Aside0.mk A30
 clear A30
 obtain rfl := Option.some.inj H
 go_enter Try.func80, Try.ntmps80
 go_wp2_with (first | ((with_reducible refine gate_callee (f := 93) rfl ?_); refine gL (some 7) rfl rfl Try.func93 (by kernel_rfl) rfl #[.slice A0 l0.length c0, .func (.func 77) #[] #[.pointer (some ⟨gx1_0, 0, none⟩)]] rfl ?_; (with_reducible refine (slices_IndexFunc_impl_Extent_at_impl_intentsOf_2.calls k _ _ l0 gx1_0 a1_0 a1_1 a1_2 a1_3 a1_4 t302 _ ?side1 ?side2 ?side3 A3.out).mono ?_); (case side1 => repeat (first | exact HR0.out | (with_reducible refine Kd.C_alloc ?_ _) | (with_reducible refine Kd.C_drewN ?_ _) | (with_reducible refine Kd.C_drew ?_))); (case side2 => exact HC0.out); (case side3 => (with_reducible repeat (first | refine blk_drewN ?_ _ | refine blk_drew ?_ | refine blk_alloc ?_ _)); exact BK301.out); rintro e w4 ⟨rfl, hb⟩; refine ⟨_, rfl, ?_⟩; replace BK301 := Aside0.mk (blk_below (g := gx1_0) (o := .cells #[.int .i64 a1_0, .int .i64 a1_1, .int .i64 a1_2, .int .i64 a1_3, .int .i64 a1_4] 71 (0, 0)) (bk BK301) hb); replace HB := Aside0.mk (below_step (bs HB) hb); (try clear hb); (try clear hb2); (try clear hk); (try clear hi)))
 go_ret
 exact ⟨by first | rfl | (simp [errW_none, errW_some] <;> rfl) | (simp [*, errW_none, errW_some] <;> rfl), bs HB⟩

/-! ### impl_intentsOf: function 64 -/
mutual
def impl_intentsOf.j0 : Nat → List (S71) → Bool → Int → List (S53) → List (S53) → Option ((List (S71)) × Bool)
 | 0, _, _, _, _, _ => none
 | k + 1, x1, x18, x296000, x296001, x296002 => if x18 = true then (some (([] : List (S71)), false)) else (impl_intentsOf.l0 k (([] : List (S71))) x1 (x1.length : Int) 0 x296000 x296001 x296002)
def impl_intentsOf.l0 : Nat → List (S71) → List (S71) → Int → Int → Int → List (S53) → List (S53) → Option ((List (S71)) × Bool)
 | 0, _, _, _, _, _, _, _ => none
 | k + 1, x6, x20, x21, x22, x296000, x296001, x296002 => if x22 < x21 then (if 0 ≤ x22 then (if x22 < (x20.length : Int) then (if ((rd_T71 x20 x22).f0) = 2 then ((impl_within.f ((rd_T71 x20 x22).f1) 1 (x6.length : Int)).bind fun t302 => (if t302 = true then (if (!(((rd_T71 x20 x22).f2.f0) == 0) || (!(((rd_T71 x20 x22).f2.f1) == 0))) = true then (some (([] : List (S71)), false)) else (if 0 ≤ (wrap64 (((rd_T71 x20 x22).f1) - 1)) then (if (wrap64 (((rd_T71 x20 x22).f1) - 1)) < (x6.length : Int) then ((impl_within.f ((rd_T71 x20 x22).f3) (wrap64 (((rd_T71 x6 (wrap64 (((rd_T71 x20 x22).f1) - 1))).f3) + 1)) ((rd_T71 x6 (wrap64 (((rd_T71 x20 x22).f1) - 1))).f2.f1)).bind fun t305 => (if t305 = true then (impl_intentsOf.l0 k (x6.set ((wrap64 (((rd_T71 x20 x22).f1) - 1)) : Int).toNat (⟨(rd_T71 x6 (wrap64 (((rd_T71 x20 x22).f1) - 1))).f0, (rd_T71 x6 (wrap64 (((rd_T71 x20 x22).f1) - 1))).f1, (⟨(rd_T71 x6 (wrap64 (((rd_T71 x20 x22).f1) - 1))).f2.f0, (rd_T71 x6 (wrap64 (((rd_T71 x20 x22).f1) - 1))).f2.f1⟩ : S53), (rd_T71 x20 x22).f3⟩ : S71)) x20 x21 (wrap64 (x22 + 1)) x296000 x296001 x296002) else (some (([] : List (S71)), false)))) else (none)) else (none))) else (some (([] : List (S71)), false)))) else (if ((rd_T71 x20 x22).f0) = 1 then (if ((rd_T71 x20 x22).f1) = (wrap64 ((x6.length : Int) + 1)) then (if ((rd_T71 x20 x22).f3) = 0 then ((impl_isExtent.f ((rd_T71 x20 x22).f2.f0) ((rd_T71 x20 x22).f2.f1) x296000).bind fun t307 => (if t307 = true then ((slices_ContainsFunc_impl_Item_at_impl_intentsOf_1.f k x6 ((rd_T71 x20 x22).f0) ((rd_T71 x20 x22).f1) ((rd_T71 x20 x22).f2.f0) ((rd_T71 x20 x22).f2.f1) ((rd_T71 x20 x22).f3)).bind fun t308 => (if t308 = true then (some (([] : List (S71)), false)) else ((slices_ContainsFunc_impl_Extent_at_impl_intentsOf_2.f k x296001 ((rd_T71 x20 x22).f0) ((rd_T71 x20 x22).f1) ((rd_T71 x20 x22).f2.f0) ((rd_T71 x20 x22).f2.f1) ((rd_T71 x20 x22).f3)).bind fun t309 => (if t309 = true then (some (([] : List (S71)), false)) else (if x6.length < 3518437208883 then (impl_intentsOf.l0 k (x6 ++ [(⟨(rd_T71 x20 x22).f0, (rd_T71 x20 x22).f1, (⟨(rd_T71 x20 x22).f2.f0, (rd_T71 x20 x22).f2.f1⟩ : S53), (rd_T71 x20 x22).f3⟩ : S71)]) x20 x21 (wrap64 (x22 + 1)) x296000 x296001 x296002) else (none)))))) else (some (([] : List (S71)), false)))) else (some (([] : List (S71)), false))) else (some (([] : List (S71)), false))) else (some (([] : List (S71)), false)))) else (none)) else (none)) else (some (x6, true))
end
def impl_intentsOf.f (k : Nat) (a0_0 : Int) (l0_1 : List (S53)) (l0_2 : List (S53)) (l1 : List (S71)) : Option ((List (S71)) × Bool) := (impl_GoodFree.f k a0_0 l0_1 l0_2).bind fun t296 => (if t296 = true then (impl_intentsOf.j0 k l1 (decide ((l1.length : Int) > 30)) a0_0 l0_1 l0_2) else (impl_intentsOf.j0 k l1 true a0_0 l0_1 l0_2))
theorem impl_intentsOf.mono_l : ∀ k, (∀ y0 y1 y2 y3 y4, LeO (impl_intentsOf.j0 k y0 y1 y2 y3 y4) (impl_intentsOf.j0 (k + 1) y0 y1 y2 y3 y4)) ∧ (∀ y0 y1 y2 y3 y4 y5 y6, LeO (impl_intentsOf.l0 k y0 y1 y2 y3 y4 y5 y6) (impl_intentsOf.l0 (k + 1) y0 y1 y2 y3 y4 y5 y6))
 | 0 => ⟨fun _ _ _ _ _ r h => by simp [impl_intentsOf.j0] at h, fun _ _ _ _ _ _ _ r h => by simp [impl_intentsOf.l0] at h⟩
 | k + 1 => by
  obtain ⟨ih0, ih1⟩ := impl_intentsOf.mono_l k
  refine ⟨?_, ?_⟩
  ·
   intro y0 y1 y2 y3 y4
   unfold impl_intentsOf.j0
   repeat' first
   | (with_reducible exact ih0 _ _ _ _ _)
   | (with_reducible exact ih1 _ _ _ _ _ _ _)
   | (with_reducible exact impl_GoodFree.mono _ _ _ _)
   | (with_reducible exact slices_ContainsFunc_impl_Extent_at_impl_intentsOf_2.mono _ _ _ _ _ _ _)
   | (with_reducible exact slices_ContainsFunc_impl_Item_at_impl_intentsOf_1.mono _ _ _ _ _ _ _)
   | (with_reducible exact LeO.refl _)
   | (with_reducible exact LeO.none _)
   | (with_reducible refine LeO.ite ?_ ?_)
   | (with_reducible refine LeO.bind ?_ (fun _ => ?_))
   | exact ih0 _ _ _ _ _
   | exact ih1 _ _ _ _ _ _ _
   | exact impl_GoodFree.mono _ _ _ _
   | exact slices_ContainsFunc_impl_Extent_at_impl_intentsOf_2.mono _ _ _ _ _ _ _
   | exact slices_ContainsFunc_impl_Item_at_impl_intentsOf_1.mono _ _ _ _ _ _ _
   | exact LeO.none _
   | refine LeO.ite ?_ ?_
   | refine LeO.bind ?_ (fun _ => ?_)
  ·
   intro y0 y1 y2 y3 y4 y5 y6
   unfold impl_intentsOf.l0
   repeat' first
   | (with_reducible exact ih0 _ _ _ _ _)
   | (with_reducible exact ih1 _ _ _ _ _ _ _)
   | (with_reducible exact impl_GoodFree.mono _ _ _ _)
   | (with_reducible exact slices_ContainsFunc_impl_Extent_at_impl_intentsOf_2.mono _ _ _ _ _ _ _)
   | (with_reducible exact slices_ContainsFunc_impl_Item_at_impl_intentsOf_1.mono _ _ _ _ _ _ _)
   | (with_reducible exact LeO.refl _)
   | (with_reducible exact LeO.none _)
   | (with_reducible refine LeO.ite ?_ ?_)
   | (with_reducible refine LeO.bind ?_ (fun _ => ?_))
   | exact ih0 _ _ _ _ _
   | exact ih1 _ _ _ _ _ _ _
   | exact impl_GoodFree.mono _ _ _ _
   | exact slices_ContainsFunc_impl_Extent_at_impl_intentsOf_2.mono _ _ _ _ _ _ _
   | exact slices_ContainsFunc_impl_Item_at_impl_intentsOf_1.mono _ _ _ _ _ _ _
   | exact LeO.none _
   | refine LeO.ite ?_ ?_
   | refine LeO.bind ?_ (fun _ => ?_)
theorem impl_intentsOf.mono : ∀ a0 a1 a2 a3 k, LeO (impl_intentsOf.f k a0 a1 a2 a3) (impl_intentsOf.f (k + 1) a0 a1 a2 a3) := by
 intro a0 a1 a2 a3 k
 obtain ⟨ih0, ih1⟩ := impl_intentsOf.mono_l k
 unfold impl_intentsOf.f
 repeat' first
   | (with_reducible exact ih0 _ _ _ _ _)
   | (with_reducible exact ih1 _ _ _ _ _ _ _)
   | (with_reducible exact impl_GoodFree.mono _ _ _ _)
   | (with_reducible exact slices_ContainsFunc_impl_Extent_at_impl_intentsOf_2.mono _ _ _ _ _ _ _)
   | (with_reducible exact slices_ContainsFunc_impl_Item_at_impl_intentsOf_1.mono _ _ _ _ _ _ _)
   | (with_reducible exact LeO.refl _)
   | (with_reducible exact LeO.none _)
   | (with_reducible refine LeO.ite ?_ ?_)
   | (with_reducible refine LeO.bind ?_ (fun _ => ?_))
   | exact ih0 _ _ _ _ _
   | exact ih1 _ _ _ _ _ _ _
   | exact impl_GoodFree.mono _ _ _ _
   | exact slices_ContainsFunc_impl_Extent_at_impl_intentsOf_2.mono _ _ _ _ _ _ _
   | exact slices_ContainsFunc_impl_Item_at_impl_intentsOf_1.mono _ _ _ _ _ _ _
   | exact LeO.none _
   | refine LeO.ite ?_ ?_
   | refine LeO.bind ?_ (fun _ => ?_)
def impl_intentsOf.T8 : Bool × List (List Nat × List Nat) := (true, [([], []), ([0], [0]), ([], []), ([2], [2]), ([1, 3], [1, 3]), ([4], [4]), ([5, 4], [5]), ([6], [6]), ([7, 6], [6, 7]), ([6], [6]), ([8, 9, 6], [6, 8, 9]), ([6, 10], [6, 10]), ([11, 6], [11]), ([12], [12]), ([13, 12], [12, 13]), ([12], [12]), ([12], [12]), ([16, 12], [12, 16]), ([17, 12], [12, 17]), ([15, 18, 12], [12, 15, 18]), ([19, 12], [12, 19]), ([20, 12], [12, 20]), ([21, 12], [12, 21]), ([12], [12]), ([12], [12]), ([24, 12], [12, 24]), ([25, 12], [12, 25]), ([23, 26, 12], [12, 23, 26]), ([27, 12], [12, 27]), ([28, 12], [12, 28]), ([29, 12], [12, 29]), ([14, 22, 30, 12, 12], [12, 14, 22, 30]), ([31, 12], [12, 31]), ([12, 32], [12, 32])])
def impl_intentsOf.B8 : List Nat := [0, 1, 0, 4, 15, 31, 63, 127, 255, 127, 1023, 2047, 4095, 8191, 16383, 8191, 8191, 73727, 204799, 499711, 1023999, 2072575, 4169727, 8191, 8191, 16785407, 50339839, 125837311, 260055039, 528490495, 1065361407, 2147483647, 4294967295, 8589934591]
theorem impl_intentsOf.tab8 : rtab .any (opsOf Try.f64 8) = impl_intentsOf.T8 := by kernel_rfl
theorem impl_intentsOf.bits8 : waitsOk impl_intentsOf.T8.2 impl_intentsOf.B8 = true := by kernel_rfl
set_option maxHeartbeats 8000000 in
set_option maxRecDepth 100000 in
theorem impl_intentsOf.calls (k : Nat) (a0_0 : Int) (A0_1 : Option Addr) (c0_1 : Nat) (l0_1 : List (S53)) (A0_2 : Option Addr) (c0_2 : Nat) (l0_2 : List (S53)) (A1 : Option Addr) (c1 : Nat) (l1 : List (S71)) (r1 : List (S71)) (r2 : Bool) (w : World) (hr0_1 : Kd.C k53 w A0_1 l0_1.length l0_1) (hc0_1 : l0_1.length ≤ c0_1) (hr0_2 : Kd.C k53 w A0_2 l0_2.length l0_2) (hc0_2 : l0_2.length ≤ c0_2) (hr1 : Kd.C k71 w A1 l1.length l1) (hc1 : l1.length ≤ c1) (h : impl_intentsOf.f k a0_0 l0_1 l0_2 l1 = some (r1, r2)) :
  Calls Try.prog 64 #[.agg #[.int .i64 a0_0, .slice A0_1 l0_1.length c0_1, .slice A0_2 l0_2.length c0_2], .slice A1 l1.length c1] w fun e w' => ∃ v0_ : Value, e = .returned (.tuple #[v0_, .bool r2]) ∧ Kd.R k71 71 w' w.heap.size (fun _ => True) v0_ r1 ∧ Below w.heap.size w w' := by
 have hu24 := Try.underlying24
 have hu71 := Try.underlying71
 have hu53 := Try.underlying53
 have HR0_1 := Aside0.mk hr0_1
 have HC0_1 := Aside0.mk hc0_1
 clear hr0_1 hc0_1
 have HR0_2 := Aside0.mk hr0_2
 have HC0_2 := Aside0.mk hc0_2
 clear hr0_2 hc0_2
 have HR1 := Aside0.mk hr1
 have HC1 := Aside0.mk hc1
 clear hr1 hc1
 have HB := Aside0.mk (Below.refl w.heap.size w)
 have H : ((impl_GoodFree.f k a0_0 l0_1 l0_2).bind fun t296 => (if t296 = true then (impl_intentsOf.j0 k l1 (decide ((l1.length : Int) > 30)) a0_0 l0_1 l0_2) else (impl_intentsOf.j0 k l1 true a0_0 l0_1 l0_2))) = some (r1, r2) := h
 clear h
 have HC3 := Aside0.mk H
 clear H
 go_enter Try.func64, Try.ntmps64
 go_upto_region 1 with (first | ((with_reducible refine gate_dst (N := 2) rfl ?_); (try (refine gate_guard (by rfl) ?_; dsimp only)); refine box_event ?hg (N := 2) ?hd (cs := #[.int .i64 a0_0, .slice A0_1 l0_1.length c0_1, .slice A0_2 l0_2.length c0_2]) (t := 24) ?hr ?_; (case hd => rfl); (case hg => rfl); (case hr => first | (go_simp; done) | (go_simp; rfl)); intro gb295 hg w4 hbox hb; have BK295 := Aside0.mk (hbox); have GW295 := Aside0.mk ((by rw [hg]; exact (below_size (bs HB)) : w.heap.size ≤ gb295)); have GE295 := Aside0.mk ((by rw [hg]; exact (below_size (bs HB)) : w.heap.size ≤ gb295)); replace HB := Aside0.mk (below_step (bs HB) hb); clear hb hbox hg))
 (try simp only [Act.put, List.setIfInBounds_toArray, List.set_cons_zero, List.set_cons_succ])
 go_cut [18] (fun v18 wc => ∃ (kq : Nat) (x18_2 : Bool), v18 = .bool x18_2 ∧ Aside0 (impl_intentsOf.j0 kq l1 x18_2 a0_0 l0_1 l0_2 = some (r1, r2)) ∧ Aside0 (kq ≤ k) ∧ Aside0 (wc.heap[gb295]? = some (.cells #[.int .i64 a0_0, (.slice A0_1 l0_1.length c0_1), (.slice A0_2 l0_2.length c0_2)] 24 (0, 0))) ∧ Aside0 (Below w.heap.size w wc))
 case first =>
  have H := HC3.out
  clear HC3
  replace H := Option.bind_eq_some_iff.mp H
  obtain ⟨t296, A50, H⟩ := H
  replace H : (if t296 = true then (impl_intentsOf.j0 k l1 (decide ((l1.length : Int) > 30)) a0_0 l0_1 l0_2) else (impl_intentsOf.j0 k l1 true a0_0 l0_1 l0_2)) = some (r1, r2) := H
  have A5 := Aside0.mk A50
  clear A50
  by_cases c6 : t296 = true
  ·
   subst c6
   rw [if_pos rfl] at H
   have H' := Aside0.mk H
   clear H
   obtain ⟨hcz7_0, hcz7_1, hcz7_2⟩ := cz3 BK295
   obtain ⟨hfz7_0, hfz7_1, hfz7_2⟩ := fz3 BK295
   go_wp2_with (first | ((with_reducible refine gate_callee (f := 74) rfl ?_); refine gL (some 12) rfl rfl Try.func74 (by kernel_rfl) rfl #[.agg #[.int .i64 a0_0, .slice A0_1 l0_1.length c0_1, .slice A0_2 l0_2.length c0_2]] rfl ?_; (with_reducible refine (impl_GoodFree.calls k a0_0 _ _ l0_1 _ _ l0_2 true _ ?side1 ?side2 ?side3 ?side4 A5.out).mono ?_); (case side1 => exact cb HR0_1 HB); (case side2 => exact HC0_1.out); (case side3 => exact cb HR0_2 HB); (case side4 => exact HC0_2.out); rintro e w8 ⟨rfl, hb⟩; refine ⟨_, rfl, ?_⟩; replace BK295 := nb BK295 hb; replace HB := Aside0.mk (below_step (bs1 HB GE295) hb); (try clear hb); (try clear hb2); (try clear hk); (try clear hi)))
   go_meet
   case rel => exact ⟨_, (decide ((l1.length : Int) > 30)), (by first | rfl | (simp; done) | (simp [*]; done)), H', ⟨by first | omega | exact Nat.le_refl _⟩, ⟨bk BK295⟩, ⟨bs1 HB GE295⟩⟩
  ·
   replace c6 := Bool.eq_false_iff.mpr c6
   subst c6
   rw [if_neg (show ¬ (false = true) by decide)] at H
   have H' := Aside0.mk H
   clear H
   obtain ⟨hcz9_0, hcz9_1, hcz9_2⟩ := cz3 BK295
   obtain ⟨hfz9_0, hfz9_1, hfz9_2⟩ := fz3 BK295
   go_wp2_with (first | ((with_reducible refine gate_callee (f := 74) rfl ?_); refine gL (some 12) rfl rfl Try.func74 (by kernel_rfl) rfl #[.agg #[.int .i64 a0_0, .slice A0_1 l0_1.length c0_1, .slice A0_2 l0_2.length c0_2]] rfl ?_; (with_reducible refine (impl_GoodFree.calls k a0_0 _ _ l0_1 _ _ l0_2 false _ ?side1 ?side2 ?side3 ?side4 A5.out).mono ?_); (case side1 => exact cb HR0_1 HB); (case side2 => exact HC0_1.out); (case side3 => exact cb HR0_2 HB); (case side4 => exact HC0_2.out); rintro e w10 ⟨rfl, hb⟩; refine ⟨_, rfl, ?_⟩; replace BK295 := nb BK295 hb; replace HB := Aside0.mk (below_step (bs1 HB GE295) hb); (try clear hb); (try clear hb2); (try clear hk); (try clear hi)))
   go_meet
   case rel => exact ⟨_, (true), (by first | rfl | (simp; done) | (simp [*]; done)), H', ⟨by first | omega | exact Nat.le_refl _⟩, ⟨bk BK295⟩, ⟨bs1 HB GE295⟩⟩
 case rest =>
  clear HC3
  try clear c1
  try clear p2
  try clear c6
  try clear c7
  try clear hcz7_0 hcz7_1 hcz7_2
  try clear hcz9_0 hcz9_1 hcz9_2
  try clear hfz7_0 hfz7_1 hfz7_2
  try clear hfz9_0 hfz9_1 hfz9_2
  obtain ⟨kq, x18_2, rfl, HA, HJ2, BK295, HB⟩ := hcut
  cases kq with
  | zero => exact absurd HA.out (by simp [impl_intentsOf.j0])
  | succ kj2 =>
   have H := HA.out
   clear HA
   simp only [impl_intentsOf.j0] at H
   by_cases c11 : x18_2 = true
   ·
    subst c11
    rw [if_pos rfl] at H
    simp only [Option.some.injEq, Prod.mk.injEq] at H
    obtain ⟨rfl, rfl⟩ := H
    go_wp2
    go_ret2
    exact ⟨_, by first | rfl | (simp [errW_none, errW_some] <;> rfl) | (simp [*, errW_none, errW_some] <;> rfl), by first | exact Kd.R_nil _ _ _ _ _ | exact Kd.N_nil _ _ _ _ _ | exact Kd.V_nil _ _ _ _ _ | exact Kd.Q_nil _ _ _ _ _ | exact Kd.S_nil _ _ _ _ _, bs1 HB GE295⟩
   ·
    replace c11 := Bool.eq_false_iff.mpr c11
    subst c11
    rw [if_neg (show ¬ (false = true) by decide)] at H
    obtain ⟨y297, hy297⟩ : ∃ y_ : List (S71), y_ = (([] : List (S71))) := ⟨_, rfl⟩
    replace H : (impl_intentsOf.l0 kj2 y297 l1 (l1.length : Int) 0 a0_0 l0_1 l0_2) = some (r1, r2) := by first | (rw [hy297]; with_reducible exact H) | (have H2_ := (Option.bind_some _ _).symm.trans H; rw [hy297]; with_reducible exact H2_) | (have H2_ := (Option.bind_some _ _).symm.trans H; with_reducible exact H2_) | with_reducible exact H | (rw [hy297]; exact H) | exact H
    have Ny297 := Aside0.mk hy297
    clear hy297
    have H' := Aside0.mk H
    clear H
    go_wp2_with (first | ((with_reducible refine gate_dst (N := 19) rfl ?_); (try (refine gate_guard (by rfl) ?_; dsimp only)); refine Kd.R_lit k71 _ 71 ?hg (N := 19) ?hd (xs := ([] : List (S71))) (inner := []) (ok := fun _ => True) (okp := fun _ => True) ?hr ?hp (fun _ hk => hk) trivial (Below.refl _ _) (Nat.le_refl _) (by simp) ?_; (case hd => rfl); (case hg => rfl); (case hr => first | (go_simp; done) | (go_simp; rfl)); (case hp => exact (Reps.none _ _)); intro v298 w12 ho13 hb hg_ hnew_; clear hg_ hnew_; (first | rw [← Ny297.out] at ho13 | (simp only [Int.reduceToNat] at ho13; rw [← Ny297.out] at ho13)); have HO299 := Aside0.mk (Kd.R_lower ho13 (below_size (bs1 HB GE295))); replace BK295 := nb BK295 hb; replace HB := Aside0.mk (below_step (bs1 HB GE295) hb); clear hb ho13))
    go_loopg [6, 22] kj2 (fun kq v6 v22 w' => ∃ (x6_2 : List (S71)) (x22_2 : Int), v22 = .int .i64 x22_2 ∧ Aside0 (impl_intentsOf.l0 kq x6_2 l1 (l1.length : Int) x22_2 a0_0 l0_1 l0_2 = some (r1, r2)) ∧ Aside0 (kq ≤ kj2) ∧ Aside0 (Kd.R k71 71 w' w.heap.size (fun _ => True) v6 x6_2) ∧ Aside0 (w'.heap[gb295]? = some (.cells #[.int .i64 a0_0, (.slice A0_1 l0_1.length c0_1), (.slice A0_2 l0_2.length c0_2)] 24 (0, 0))) ∧ Aside0 (Below w.heap.size w w'))
    case atStart => exact ⟨(y297), (0), (by first | rfl | (simp; done) | (simp [*]; done)), H', ⟨Nat.le_refl _⟩, ⟨rr HO299.out⟩, ⟨bk BK295⟩, ⟨bs1 HB GE295⟩⟩
    case round =>
     clear H'
     try clear c1
     try clear p2
     try clear c6
     try clear c7
     try clear c11
     try clear hcz7_0 hcz7_1 hcz7_2
     try clear hcz9_0 hcz9_1 hcz9_2
     try clear hfz7_0 hfz7_1 hfz7_2
     try clear hfz9_0 hfz9_1 hfz9_2
     try clear p2
     obtain ⟨x6_2, x22_2, rfl, HA, HK2, HO_6, BK295, HB⟩ := hrel
     cases gk with
     | zero => exact absurd HA.out (by simp [impl_intentsOf.l0])
     | succ k2 =>
      have H := HA.out
      clear HA
      simp only [impl_intentsOf.l0] at H
      by_cases c14 : x22_2 < (l1.length : Int)
      ·
       rw [if_pos c14] at H
       have c14b0 : decide (x22_2 < (l1.length : Int)) = true := decide_eq_true c14
       clear c14
       by_cases c15 : 0 ≤ x22_2
       ·
        rw [if_pos c15] at H
        have c15b0 : decide (0 ≤ x22_2) = true := decide_eq_true c15
        clear c15
        by_cases c16 : x22_2 < (l1.length : Int)
        ·
         rw [if_pos c16] at H
         have c16b0 : decide (x22_2 < (l1.length : Int)) = true := decide_eq_true c16
         clear c16
         by_cases c17 : ((rd_T71 l1 x22_2).f0) = 2
         ·
          rw [if_pos c17] at H
          have c17b0 : (((rd_T71 l1 x22_2).f0) == 2) = true := beq_iff_eq.mpr c17
          have c17b1 : (((rd_T71 l1 x22_2).f0) != 2) = false := bne_eq_false_iff_eq.mpr c17
          clear c17
          replace H := Option.bind_eq_some_iff.mp H
          obtain ⟨t302, A180, H⟩ := H
          replace H : (if t302 = true then (if (!(((rd_T71 l1 x22_2).f2.f0) == 0) || (!(((rd_T71 l1 x22_2).f2.f1) == 0))) = true then (some (([] : List (S71)), false)) else (if 0 ≤ (wrap64 (((rd_T71 l1 x22_2).f1) - 1)) then (if (wrap64 (((rd_T71 l1 x22_2).f1) - 1)) < (x6_2.length : Int) then ((impl_within.f ((rd_T71 l1 x22_2).f3) (wrap64 (((rd_T71 x6_2 (wrap64 (((rd_T71 l1 x22_2).f1) - 1))).f3) + 1)) ((rd_T71 x6_2 (wrap64 (((rd_T71 l1 x22_2).f1) - 1))).f2.f1)).bind fun t305 => (if t305 = true then (impl_intentsOf.l0 k2 (x6_2.set ((wrap64 (((rd_T71 l1 x22_2).f1) - 1)) : Int).toNat (⟨(rd_T71 x6_2 (wrap64 (((rd_T71 l1 x22_2).f1) - 1))).f0, (rd_T71 x6_2 (wrap64 (((rd_T71 l1 x22_2).f1) - 1))).f1, (⟨(rd_T71 x6_2 (wrap64 (((rd_T71 l1 x22_2).f1) - 1))).f2.f0, (rd_T71 x6_2 (wrap64 (((rd_T71 l1 x22_2).f1) - 1))).f2.f1⟩ : S53), (rd_T71 l1 x22_2).f3⟩ : S71)) l1 (l1.length : Int) (wrap64 (x22_2 + 1)) a0_0 l0_1 l0_2) else (some (([] : List (S71)), false)))) else (none)) else (none))) else (some (([] : List (S71)), false))) = some (r1, r2) := H
          have A18 := Aside0.mk A180
          clear A180
          by_cases c19 : t302 = true
          ·
           subst c19
           rw [if_pos rfl] at H
           by_cases c20 : (!(((rd_T71 l1 x22_2).f2.f0) == 0) || (!(((rd_T71 l1 x22_2).f2.f1) == 0))) = true
           ·
            rw [if_pos c20] at H
            have c20b0 : (!(((rd_T71 l1 x22_2).f2.f0) == 0) || (!(((rd_T71 l1 x22_2).f2.f1) == 0))) = true := c20
            clear c20
            simp only [Option.some.injEq, Prod.mk.injEq] at H
            obtain ⟨rfl, rfl⟩ := H
            have p300 : 0 ≤ (x22_2 : Int) := of_decide_eq_true (by first | (with_reducible assumption) | assumption)
            have q300 : x22_2 < (l1.length : Int) := of_decide_eq_true (by first | (with_reducible assumption) | assumption)
            obtain ⟨ad300, e300, hx300_0, hx300_1, hx300_2, hx300_3, hx300_4⟩ := at_T71 HR1.out x22_2 p300 q300
            cases e300
            replace hx300_0 := (HB.out.cell (World.block_lt_of_cell? w _ hx300_0)).trans hx300_0
            replace hx300_1 := (HB.out.cell (World.block_lt_of_cell? w _ hx300_1)).trans hx300_1
            replace hx300_2 := (HB.out.cell (World.block_lt_of_cell? w _ hx300_2)).trans hx300_2
            replace hx300_3 := (HB.out.cell (World.block_lt_of_cell? w _ hx300_3)).trans hx300_3
            replace hx300_4 := (HB.out.cell (World.block_lt_of_cell? w _ hx300_4)).trans hx300_4
            replace p300 := eq_true p300
            replace q300 := eq_true q300
            try go_wp2_with (first | ((with_reducible refine gate_dst (N := 8) rfl ?_); (try (refine gate_guard (by rfl) ?_; dsimp only)); refine box_event ?hg (N := 8) ?hd (cs := #[.int .i64 0, .int .i64 0, .int .i64 0, .int .i64 0, .int .i64 0]) (t := 71) ?hr ?_; (case hd => rfl); (case hg => rfl); (case hr => first | (go_simp; done) | (go_simp; rfl)); intro gb301 hg w21 hbox hb; replace HO_6 := Aside0.mk (Kd.R_below (Kd.R_elderB (rr HO_6.out) gb301 (Nat.le_of_eq hg.symm)) hb); have BK301 := Aside0.mk (hbox); have GW301 := Aside0.mk ((by rw [hg]; exact (below_size (bs1 HB GE295)) : w.heap.size ≤ gb301)); have GE301 := Aside0.mk ((by rw [hg]; exact (below_size (bs1 HB GE295)) : w.heap.size ≤ gb301)); replace HB := Aside0.mk (below_step (bs1 HB GE295) hb); have NB295_301 := Aside0.mk ((bn BK295 hg : gb295 ≠ gb301)); have NB301_295 := Aside0.mk ((bm BK295 hg : gb301 ≠ gb295)); replace BK295 := nb BK295 hb; clear hb hbox hg; have hnb22 := NB301_295.out; have hnc22 := NB295_301.out; obtain ⟨hcz23_0, hcz23_1, hcz23_2, hcz23_3, hcz23_4⟩ := cz5 BK301; obtain ⟨hfz23_0, hfz23_1, hfz23_2, hfz23_3, hfz23_4⟩ := fz5 BK301))
            have n0_ : Aside0 (Kd.R k71 71 (((((w21.setCell ⟨gb301, 0, none⟩ (.int .i64 ((rd_T71 l1 x22_2).f0))).setCell ⟨gb301, 1, none⟩ (.int .i64 ((rd_T71 l1 x22_2).f1))).setCell ⟨gb301, 2, none⟩ (.int .i64 ((rd_T71 l1 x22_2).f2.f0))).setCell ⟨gb301, 3, none⟩ (.int .i64 ((rd_T71 l1 x22_2).f2.f1))).setCell ⟨gb301, 4, none⟩ (.int .i64 ((rd_T71 l1 x22_2).f3))) w.heap.size (fun k_ => k_ ≠ gb301) u6 x6_2) := ⟨by (with_reducible repeat (first | apply Kd.R_alloc | apply Kd.R_drewN | apply Kd.R_drew)); exact Kd.R_mono (Kd.R_far (p := ⟨gb301, 4, none⟩) (Kd.R_far (p := ⟨gb301, 3, none⟩) (Kd.R_far (p := ⟨gb301, 2, none⟩) (Kd.R_far (p := ⟨gb301, 1, none⟩) (Kd.R_far (p := ⟨gb301, 0, none⟩) (Kd.R_mono HO_6.out (fun k_ hk => (⟨hk, hk.2⟩ : _ ∧ k_ ≠ gb301))) (fun _ hk => hk.2) (.int .i64 ((rd_T71 l1 x22_2).f0))) (fun _ hk => hk.2) (.int .i64 ((rd_T71 l1 x22_2).f1))) (fun _ hk => hk.2) (.int .i64 ((rd_T71 l1 x22_2).f2.f0))) (fun _ hk => hk.2) (.int .i64 ((rd_T71 l1 x22_2).f2.f1))) (fun _ hk => hk.2) (.int .i64 ((rd_T71 l1 x22_2).f3))) (fun _ hk => hk.1.2)⟩
            have n1_ : Aside0 ((((((w21.setCell ⟨gb301, 0, none⟩ (.int .i64 ((rd_T71 l1 x22_2).f0))).setCell ⟨gb301, 1, none⟩ (.int .i64 ((rd_T71 l1 x22_2).f1))).setCell ⟨gb301, 2, none⟩ (.int .i64 ((rd_T71 l1 x22_2).f2.f0))).setCell ⟨gb301, 3, none⟩ (.int .i64 ((rd_T71 l1 x22_2).f2.f1))).setCell ⟨gb301, 4, none⟩ (.int .i64 ((rd_T71 l1 x22_2).f3))).heap[gb295]? = some (.cells #[.int .i64 a0_0, .slice A0_1 l0_1.length c0_1, .slice A0_2 l0_2.length c0_2] 24 (0, 0))) := ⟨bf BK295 NB295_301⟩
            have n2_ : Aside0 ((((((w21.setCell ⟨gb301, 0, none⟩ (.int .i64 ((rd_T71 l1 x22_2).f0))).setCell ⟨gb301, 1, none⟩ (.int .i64 ((rd_T71 l1 x22_2).f1))).setCell ⟨gb301, 2, none⟩ (.int .i64 ((rd_T71 l1 x22_2).f2.f0))).setCell ⟨gb301, 3, none⟩ (.int .i64 ((rd_T71 l1 x22_2).f2.f1))).setCell ⟨gb301, 4, none⟩ (.int .i64 ((rd_T71 l1 x22_2).f3))).heap[gb301]? = some (.cells #[.int .i64 ((rd_T71 l1 x22_2).f0), .int .i64 ((rd_T71 l1 x22_2).f1), .int .i64 ((rd_T71 l1 x22_2).f2.f0), .int .i64 ((rd_T71 l1 x22_2).f2.f1), .int .i64 ((rd_T71 l1 x22_2).f3)] 71 (0, 0))) := ⟨by (with_reducible repeat (first | refine blk_drewN ?_ _ | refine blk_drew ?_ | refine blk_alloc ?_ _)); refine blk_put (cs := #[.int .i64 ((rd_T71 l1 x22_2).f0), .int .i64 ((rd_T71 l1 x22_2).f1), .int .i64 ((rd_T71 l1 x22_2).f2.f0), .int .i64 ((rd_T71 l1 x22_2).f2.f1), .int .i64 0]) ?_ 4 _ rfl; (with_reducible repeat (first | refine blk_drewN ?_ _ | refine blk_drew ?_ | refine blk_alloc ?_ _)); refine blk_put (cs := #[.int .i64 ((rd_T71 l1 x22_2).f0), .int .i64 ((rd_T71 l1 x22_2).f1), .int .i64 ((rd_T71 l1 x22_2).f2.f0), .int .i64 0, .int .i64 0]) ?_ 3 _ rfl; (with_reducible repeat (first | refine blk_drewN ?_ _ | refine blk_drew ?_ | refine blk_alloc ?_ _)); refine blk_put (cs := #[.int .i64 ((rd_T71 l1 x22_2).f0), .int .i64 ((rd_T71 l1 x22_2).f1), .int .i64 0, .int .i64 0, .int .i64 0]) ?_ 2 _ rfl; (with_reducible repeat (first | refine blk_drewN ?_ _ | refine blk_drew ?_ | refine blk_alloc ?_ _)); refine blk_put (cs := #[.int .i64 ((rd_T71 l1 x22_2).f0), .int .i64 0, .int .i64 0, .int .i64 0, .int .i64 0]) ?_ 1 _ rfl; (with_reducible repeat (first | refine blk_drewN ?_ _ | refine blk_drew ?_ | refine blk_alloc ?_ _)); refine blk_put (cs := #[.int .i64 0, .int .i64 0, .int .i64 0, .int .i64 0, .int .i64 0]) ?_ 0 _ rfl; (with_reducible repeat (first | refine blk_drewN ?_ _ | refine blk_drew ?_ | refine blk_alloc ?_ _)); exact BK301.out⟩
            have n3_ : Aside0 (Below w.heap.size w (((((w21.setCell ⟨gb301, 0, none⟩ (.int .i64 ((rd_T71 l1 x22_2).f0))).setCell ⟨gb301, 1, none⟩ (.int .i64 ((rd_T71 l1 x22_2).f1))).setCell ⟨gb301, 2, none⟩ (.int .i64 ((rd_T71 l1 x22_2).f2.f0))).setCell ⟨gb301, 3, none⟩ (.int .i64 ((rd_T71 l1 x22_2).f2.f1))).setCell ⟨gb301, 4, none⟩ (.int .i64 ((rd_T71 l1 x22_2).f3)))) := ⟨bs2 HB GE295 GE301⟩
            (try clear HO_6)
            (try clear BK295)
            (try clear BK301)
            (try clear HB)
            generalize (((((w21.setCell ⟨gb301, 0, none⟩ (.int .i64 ((rd_T71 l1 x22_2).f0))).setCell ⟨gb301, 1, none⟩ (.int .i64 ((rd_T71 l1 x22_2).f1))).setCell ⟨gb301, 2, none⟩ (.int .i64 ((rd_T71 l1 x22_2).f2.f0))).setCell ⟨gb301, 3, none⟩ (.int .i64 ((rd_T71 l1 x22_2).f2.f1))).setCell ⟨gb301, 4, none⟩ (.int .i64 ((rd_T71 l1 x22_2).f3))) = w24 at n0_ n1_ n2_ n3_ ⊢
            have HO_6 := n0_
            have BK295 := n1_
            have BK301 := n2_
            have HB := n3_
            clear n0_ n1_ n2_ n3_
            have n0_ := Aside0.mk (Kd.R_drew HO_6.out)
            have n1_ := Aside0.mk (blk_drew BK295.out)
            have n2_ := Aside0.mk (blk_drew BK301.out)
            have n3_ := Aside0.mk (below_drew1 HB.out)
            clear HO_6
            clear BK295
            clear BK301
            clear HB
            have HO_6 := n0_
            have BK295 := n1_
            have BK301 := n2_
            have HB := n3_
            clear n0_ n1_ n2_ n3_
            obtain ⟨Ao26, co26, eo26⟩ := Kd.R_slice HO_6.out
            (first | subst eo26 | (injection eo26 with f1_ f2_ f3_; have f4_ := f1_.symm; have f5_ := f3_.symm; clear f1_ f2_ f3_; subst f4_; subst f5_))
            refine start_ (n := 34) (S := fun w' => w'.cell? ⟨gb301, 0, none⟩ = some (.int .i64 ((rd_T71 l1 x22_2).f0)) ∧ w'.cell? ⟨gb301, 1, none⟩ = some (.int .i64 ((rd_T71 l1 x22_2).f1)) ∧ w'.cell? ⟨gb301, 2, none⟩ = some (.int .i64 ((rd_T71 l1 x22_2).f2.f0)) ∧ w'.cell? ⟨gb301, 3, none⟩ = some (.int .i64 ((rd_T71 l1 x22_2).f2.f1)) ∧ w'.cell? ⟨gb301, 4, none⟩ = some (.int .i64 ((rd_T71 l1 x22_2).f3))) (ds := []) #[false, false, false, false, false, false, false, false, false, false, false, false, false, false, false, false, false, false, false, false, false, false, false, false, false, false, false, false, false, false, false, false, false, false] (by kernel_rfl) rfl rfl ⟨(blk_cell BK301.out 0).trans rfl, (blk_cell BK301.out 1).trans rfl, (blk_cell BK301.out 2).trans rfl, (blk_cell BK301.out 3).trans rfl, (blk_cell BK301.out 4).trans rfl⟩ (fun hHeld => ?_); refine with_tabW impl_intentsOf.tab8 impl_intentsOf.bits8 (fun HT_ HW_ => ?_)
            generalize w24.drew = w25 at HO_6 BK295 BK301 HB hHeld ⊢
            refine pureS 0 29 HT_.out ?_
            refine pureS 2 31 HT_.out ?_
            refine pureS 3 32 HT_.out ?_
            refine takeS 1 30 HT_.out HW_.out hHeld (hr := by rintro w' ⟨s0, s1, s2, s3, s4⟩; go_simp; with_reducible rfl) (h := ?_)
            refine one_ (i := 4) (N := some 33) #[true, true, true, true, true, false, false, false, false, false, false, false, false, false, false, false, false, false, false, false, false, false, false, false, false, false, false, false, false, false, false, false, false, false] rfl rfl (one_of HT_.out (by kernel_rfl)) (by decide) (fun K hK => ?_)
            refine goes_ Try.func32 (by kernel_rfl) rfl #[.int .i64 ((rd_T71 l1 x22_2).f1), .int .i64 1, .int .i64 (x6_2.length : Int)] (by rfl) rfl rfl (by (try simp only [List.map_toArray, List.map_cons, List.map_nil]); first | done | rfl | (simp only [List.length_drop, List.length_take]; rfl)) ?_
            with_reducible refine (impl_within.calls ((rd_T71 l1 x22_2).f1) 1 (x6_2.length : Int) true _ A18.out).mono ?_
            rintro e w' ⟨rfl, ⟨nd, rfl⟩⟩
            refine ⟨_, rfl, ?_⟩
            refine hK.out _ _ ⟨(blk_cell BK301.out 0).trans rfl, (blk_cell BK301.out 1).trans rfl, (blk_cell BK301.out 2).trans rfl, (blk_cell BK301.out 3).trans rfl, (blk_cell BK301.out 4).trans rfl⟩ (fun hHeld => ?_)
            clear hK K
            refine norm_ (a' := ?_) ?_ ?_
            rotate_left
            ·
             show Act.put _ (some 33) _ = _
             simp only [Act.put, List.setIfInBounds_toArray, List.set_cons_zero, List.set_cons_succ, i64_w, i32_w]
             rfl
            refine pureS 5 34 HT_.out ?_
            refine pureS 6 35 HT_.out ?_
            refine pureS 7 36 HT_.out ?_
            refine pureS 9 38 HT_.out ?_
            refine takeS 8 37 HT_.out HW_.out hHeld (hr := by rintro w' ⟨s0, s1, s2, s3, s4⟩; go_simp; with_reducible rfl) (h := ?_)
            refine pureS 10 39 HT_.out ?_
            refine pureS 11 40 HT_.out ?_
            refine pureS 12 41 HT_.out ?_
            refine pureU 13 42 HT_.out ?_
            refine pureU 14 43 HT_.out ?_
            refine pureU 15 44 HT_.out ?_
            refine pureU 16 45 HT_.out ?_
            refine pureU 17 46 HT_.out ?_
            refine pureU 18 47 HT_.out ?_
            refine pureU 19 48 HT_.out ?_
            refine pureU 20 49 HT_.out ?_
            refine pureU 21 50 HT_.out ?_
            refine pureU 22 51 HT_.out ?_
            refine pureU 23 52 HT_.out ?_
            refine pureU 24 53 HT_.out ?_
            refine pureU 25 54 HT_.out ?_
            refine pureU 26 55 HT_.out ?_
            refine pureU 27 56 HT_.out ?_
            refine pureU 28 57 HT_.out ?_
            refine pureU 29 58 HT_.out ?_
            refine pureU 30 59 HT_.out ?_
            refine pureU 31 60 HT_.out ?_
            refine pureU 32 61 HT_.out ?_
            refine pureS 33 62 HT_.out ?_
            refine done_ (done_of HT_.out (by kernel_rfl)) ?_
            try go_wp2
            go_ret2
            exact ⟨_, by first | rfl | (simp [errW_none, errW_some] <;> rfl) | (simp [*, errW_none, errW_some] <;> rfl), by first | exact Kd.R_nil _ _ _ _ _ | exact Kd.N_nil _ _ _ _ _ | exact Kd.V_nil _ _ _ _ _ | exact Kd.Q_nil _ _ _ _ _ | exact Kd.S_nil _ _ _ _ _, bs2 HB GE295 GE301⟩
           ·
            rw [if_neg c20] at H
            have c20b0 : (!(((rd_T71 l1 x22_2).f2.f0) == 0) || (!(((rd_T71 l1 x22_2).f2.f1) == 0))) = false := by simpa using c20
            clear c20
            obtain ⟨ji27, hji27⟩ : ∃ j_ : Int, (wrap64 (((rd_T71 l1 x22_2).f1) - 1)) = j_ := ⟨_, rfl⟩
            replace H : (if 0 ≤ (ji27) then (if (ji27) < (x6_2.length : Int) then ((impl_within.f ((rd_T71 l1 x22_2).f3) (wrap64 (((rd_T71 x6_2 (ji27)).f3) + 1)) ((rd_T71 x6_2 (ji27)).f2.f1)).bind fun t305 => (if t305 = true then (impl_intentsOf.l0 k2 (x6_2.set ((ji27) : Int).toNat (⟨(rd_T71 x6_2 (ji27)).f0, (rd_T71 x6_2 (ji27)).f1, (⟨(rd_T71 x6_2 (ji27)).f2.f0, (rd_T71 x6_2 (ji27)).f2.f1⟩ : S53), (rd_T71 l1 x22_2).f3⟩ : S71)) l1 (l1.length : Int) (wrap64 (x22_2 + 1)) a0_0 l0_1 l0_2) else (some (([] : List (S71)), false)))) else (none)) else (none)) = some (r1, r2) := by first | (rw [hji27] at H; exact H) | (simp only [hji27] at H ⊢; exact H)
            (try rw [hji27] at A18)
            have hji27w : (IntKind.i64.wrap (((rd_T71 l1 x22_2).f1) - 1)) = ji27 := (i64_w _).trans hji27
            by_cases c28 : 0 ≤ (ji27)
            ·
             rw [if_pos c28] at H
             have c28b0 : decide (0 ≤ (ji27)) = true := decide_eq_true c28
             clear c28
             by_cases c29 : (ji27) < (x6_2.length : Int)
             ·
              rw [if_pos c29] at H
              have c29b0 : decide ((ji27) < (x6_2.length : Int)) = true := decide_eq_true c29
              clear c29
              replace H := Option.bind_eq_some_iff.mp H
              obtain ⟨t305, A300, H⟩ := H
              replace H : (if t305 = true then (impl_intentsOf.l0 k2 (x6_2.set ((ji27) : Int).toNat (⟨(rd_T71 x6_2 (ji27)).f0, (rd_T71 x6_2 (ji27)).f1, (⟨(rd_T71 x6_2 (ji27)).f2.f0, (rd_T71 x6_2 (ji27)).f2.f1⟩ : S53), (rd_T71 l1 x22_2).f3⟩ : S71)) l1 (l1.length : Int) (wrap64 (x22_2 + 1)) a0_0 l0_1 l0_2) else (some (([] : List (S71)), false))) = some (r1, r2) := H
              have A30 := Aside0.mk A300
              clear A300
              by_cases c31 : t305 = true
              ·
               subst c31
               rw [if_pos rfl] at H
               obtain ⟨y306, hy306⟩ : ∃ y_ : List (S71), y_ = (x6_2.set ((ji27) : Int).toNat (⟨(rd_T71 x6_2 (ji27)).f0, (rd_T71 x6_2 (ji27)).f1, (⟨(rd_T71 x6_2 (ji27)).f2.f0, (rd_T71 x6_2 (ji27)).f2.f1⟩ : S53), (rd_T71 l1 x22_2).f3⟩ : S71)) := ⟨_, rfl⟩
               replace H : (impl_intentsOf.l0 k2 y306 l1 (l1.length : Int) (wrap64 (x22_2 + 1)) a0_0 l0_1 l0_2) = some (r1, r2) := by first | (rw [hy306]; with_reducible exact H) | (have H2_ := (Option.bind_some _ _).symm.trans H; rw [hy306]; with_reducible exact H2_) | (have H2_ := (Option.bind_some _ _).symm.trans H; with_reducible exact H2_) | with_reducible exact H | (rw [hy306]; exact H) | exact H
               have Ny306 := Aside0.mk hy306
               clear hy306
               have H' := Aside0.mk H
               clear H
               have p300 : 0 ≤ (x22_2 : Int) := of_decide_eq_true (by first | (with_reducible assumption) | assumption)
               have q300 : x22_2 < (l1.length : Int) := of_decide_eq_true (by first | (with_reducible assumption) | assumption)
               obtain ⟨ad300, e300, hx300_0, hx300_1, hx300_2, hx300_3, hx300_4⟩ := at_T71 HR1.out x22_2 p300 q300
               cases e300
               replace hx300_0 := (HB.out.cell (World.block_lt_of_cell? w _ hx300_0)).trans hx300_0
               replace hx300_1 := (HB.out.cell (World.block_lt_of_cell? w _ hx300_1)).trans hx300_1
               replace hx300_2 := (HB.out.cell (World.block_lt_of_cell? w _ hx300_2)).trans hx300_2
               replace hx300_3 := (HB.out.cell (World.block_lt_of_cell? w _ hx300_3)).trans hx300_3
               replace hx300_4 := (HB.out.cell (World.block_lt_of_cell? w _ hx300_4)).trans hx300_4
               replace p300 := eq_true p300
               replace q300 := eq_true q300
               try go_wp2_with (first | ((with_reducible refine gate_dst (N := 8) rfl ?_); (try (refine gate_guard (by rfl) ?_; dsimp only)); refine box_event ?hg (N := 8) ?hd (cs := #[.int .i64 0, .int .i64 0, .int .i64 0, .int .i64 0, .int .i64 0]) (t := 71) ?hr ?_; (case hd => rfl); (case hg => rfl); (case hr => first | (go_simp; done) | (go_simp; rfl)); intro gb301 hg w33 hbox hb; replace HO_6 := Aside0.mk (Kd.R_below (Kd.R_elderB (rr HO_6.out) gb301 (Nat.le_of_eq hg.symm)) hb); have BK301 := Aside0.mk (hbox); have GW301 := Aside0.mk ((by rw [hg]; exact (below_size (bs1 HB GE295)) : w.heap.size ≤ gb301)); have GE301 := Aside0.mk ((by rw [hg]; exact (below_size (bs1 HB GE295)) : w.heap.size ≤ gb301)); replace HB := Aside0.mk (below_step (bs1 HB GE295) hb); have NB295_301 := Aside0.mk ((bn BK295 hg : gb295 ≠ gb301)); have NB301_295 := Aside0.mk ((bm BK295 hg : gb301 ≠ gb295)); replace BK295 := nb BK295 hb; clear hb hbox hg; have hnb34 := NB301_295.out; have hnc34 := NB295_301.out; obtain ⟨hcz35_0, hcz35_1, hcz35_2, hcz35_3, hcz35_4⟩ := cz5 BK301; obtain ⟨hfz35_0, hfz35_1, hfz35_2, hfz35_3, hfz35_4⟩ := fz5 BK301))
               have n0_ : Aside0 (Kd.R k71 71 (((((w33.setCell ⟨gb301, 0, none⟩ (.int .i64 ((rd_T71 l1 x22_2).f0))).setCell ⟨gb301, 1, none⟩ (.int .i64 ((rd_T71 l1 x22_2).f1))).setCell ⟨gb301, 2, none⟩ (.int .i64 ((rd_T71 l1 x22_2).f2.f0))).setCell ⟨gb301, 3, none⟩ (.int .i64 ((rd_T71 l1 x22_2).f2.f1))).setCell ⟨gb301, 4, none⟩ (.int .i64 ((rd_T71 l1 x22_2).f3))) w.heap.size (fun k_ => k_ ≠ gb301) u6 x6_2) := ⟨by (with_reducible repeat (first | apply Kd.R_alloc | apply Kd.R_drewN | apply Kd.R_drew)); exact Kd.R_mono (Kd.R_far (p := ⟨gb301, 4, none⟩) (Kd.R_far (p := ⟨gb301, 3, none⟩) (Kd.R_far (p := ⟨gb301, 2, none⟩) (Kd.R_far (p := ⟨gb301, 1, none⟩) (Kd.R_far (p := ⟨gb301, 0, none⟩) (Kd.R_mono HO_6.out (fun k_ hk => (⟨hk, hk.2⟩ : _ ∧ k_ ≠ gb301))) (fun _ hk => hk.2) (.int .i64 ((rd_T71 l1 x22_2).f0))) (fun _ hk => hk.2) (.int .i64 ((rd_T71 l1 x22_2).f1))) (fun _ hk => hk.2) (.int .i64 ((rd_T71 l1 x22_2).f2.f0))) (fun _ hk => hk.2) (.int .i64 ((rd_T71 l1 x22_2).f2.f1))) (fun _ hk => hk.2) (.int .i64 ((rd_T71 l1 x22_2).f3))) (fun _ hk => hk.1.2)⟩
               have n1_ : Aside0 ((((((w33.setCell ⟨gb301, 0, none⟩ (.int .i64 ((rd_T71 l1 x22_2).f0))).setCell ⟨gb301, 1, none⟩ (.int .i64 ((rd_T71 l1 x22_2).f1))).setCell ⟨gb301, 2, none⟩ (.int .i64 ((rd_T71 l1 x22_2).f2.f0))).setCell ⟨gb301, 3, none⟩ (.int .i64 ((rd_T71 l1 x22_2).f2.f1))).setCell ⟨gb301, 4, none⟩ (.int .i64 ((rd_T71 l1 x22_2).f3))).heap[gb295]? = some (.cells #[.int .i64 a0_0, .slice A0_1 l0_1.length c0_1, .slice A0_2 l0_2.length c0_2] 24 (0, 0))) := ⟨bf BK295 NB295_301⟩
               have n2_ : Aside0 ((((((w33.setCell ⟨gb301, 0, none⟩ (.int .i64 ((rd_T71 l1 x22_2).f0))).setCell ⟨gb301, 1, none⟩ (.int .i64 ((rd_T71 l1 x22_2).f1))).setCell ⟨gb301, 2, none⟩ (.int .i64 ((rd_T71 l1 x22_2).f2.f0))).setCell ⟨gb301, 3, none⟩ (.int .i64 ((rd_T71 l1 x22_2).f2.f1))).setCell ⟨gb301, 4, none⟩ (.int .i64 ((rd_T71 l1 x22_2).f3))).heap[gb301]? = some (.cells #[.int .i64 ((rd_T71 l1 x22_2).f0), .int .i64 ((rd_T71 l1 x22_2).f1), .int .i64 ((rd_T71 l1 x22_2).f2.f0), .int .i64 ((rd_T71 l1 x22_2).f2.f1), .int .i64 ((rd_T71 l1 x22_2).f3)] 71 (0, 0))) := ⟨by (with_reducible repeat (first | refine blk_drewN ?_ _ | refine blk_drew ?_ | refine blk_alloc ?_ _)); refine blk_put (cs := #[.int .i64 ((rd_T71 l1 x22_2).f0), .int .i64 ((rd_T71 l1 x22_2).f1), .int .i64 ((rd_T71 l1 x22_2).f2.f0), .int .i64 ((rd_T71 l1 x22_2).f2.f1), .int .i64 0]) ?_ 4 _ rfl; (with_reducible repeat (first | refine blk_drewN ?_ _ | refine blk_drew ?_ | refine blk_alloc ?_ _)); refine blk_put (cs := #[.int .i64 ((rd_T71 l1 x22_2).f0), .int .i64 ((rd_T71 l1 x22_2).f1), .int .i64 ((rd_T71 l1 x22_2).f2.f0), .int .i64 0, .int .i64 0]) ?_ 3 _ rfl; (with_reducible repeat (first | refine blk_drewN ?_ _ | refine blk_drew ?_ | refine blk_alloc ?_ _)); refine blk_put (cs := #[.int .i64 ((rd_T71 l1 x22_2).f0), .int .i64 ((rd_T71 l1 x22_2).f1), .int .i64 0, .int .i64 0, .int .i64 0]) ?_ 2 _ rfl; (with_reducible repeat (first | refine blk_drewN ?_ _ | refine blk_drew ?_ | refine blk_alloc ?_ _)); refine blk_put (cs := #[.int .i64 ((rd_T71 l1 x22_2).f0), .int .i64 0, .int .i64 0, .int .i64 0, .int .i64 0]) ?_ 1 _ rfl; (with_reducible repeat (first | refine blk_drewN ?_ _ | refine blk_drew ?_ | refine blk_alloc ?_ _)); refine blk_put (cs := #[.int .i64 0, .int .i64 0, .int .i64 0, .int .i64 0, .int .i64 0]) ?_ 0 _ rfl; (with_reducible repeat (first | refine blk_drewN ?_ _ | refine blk_drew ?_ | refine blk_alloc ?_ _)); exact BK301.out⟩
               have n3_ : Aside0 (Below w.heap.size w (((((w33.setCell ⟨gb301, 0, none⟩ (.int .i64 ((rd_T71 l1 x22_2).f0))).setCell ⟨gb301, 1, none⟩ (.int .i64 ((rd_T71 l1 x22_2).f1))).setCell ⟨gb301, 2, none⟩ (.int .i64 ((rd_T71 l1 x22_2).f2.f0))).setCell ⟨gb301, 3, none⟩ (.int .i64 ((rd_T71 l1 x22_2).f2.f1))).setCell ⟨gb301, 4, none⟩ (.int .i64 ((rd_T71 l1 x22_2).f3)))) := ⟨bs2 HB GE295 GE301⟩
               (try clear HO_6)
               (try clear BK295)
               (try clear BK301)
               (try clear HB)
               generalize (((((w33.setCell ⟨gb301, 0, none⟩ (.int .i64 ((rd_T71 l1 x22_2).f0))).setCell ⟨gb301, 1, none⟩ (.int .i64 ((rd_T71 l1 x22_2).f1))).setCell ⟨gb301, 2, none⟩ (.int .i64 ((rd_T71 l1 x22_2).f2.f0))).setCell ⟨gb301, 3, none⟩ (.int .i64 ((rd_T71 l1 x22_2).f2.f1))).setCell ⟨gb301, 4, none⟩ (.int .i64 ((rd_T71 l1 x22_2).f3))) = w36 at n0_ n1_ n2_ n3_ ⊢
               have HO_6 := n0_
               have BK295 := n1_
               have BK301 := n2_
               have HB := n3_
               clear n0_ n1_ n2_ n3_
               have n0_ := Aside0.mk (Kd.R_drew HO_6.out)
               have n1_ := Aside0.mk (blk_drew BK295.out)
               have n2_ := Aside0.mk (blk_drew BK301.out)
               have n3_ := Aside0.mk (below_drew1 HB.out)
               clear HO_6
               clear BK295
               clear BK301
               clear HB
               have HO_6 := n0_
               have BK295 := n1_
               have BK301 := n2_
               have HB := n3_
               clear n0_ n1_ n2_ n3_
               obtain ⟨Ao38, co38, eo38⟩ := Kd.R_slice HO_6.out
               (first | subst eo38 | (injection eo38 with f1_ f2_ f3_; have f4_ := f1_.symm; have f5_ := f3_.symm; clear f1_ f2_ f3_; subst f4_; subst f5_))
               have p303 : 0 ≤ ((ji27) : Int) := of_decide_eq_true (by first | (with_reducible assumption) | assumption)
               have q303 : (ji27) < (x6_2.length : Int) := of_decide_eq_true (by first | (with_reducible assumption) | assumption)
               obtain ⟨ad303, e303, hx303_0, hx303_1, hx303_2, hx303_3, hx303_4⟩ := at_T71 (Kd.R_reads' HO_6.out).2.2 (ji27) p303 q303
               cases e303
               replace p303 := eq_true p303
               replace q303 := eq_true q303
               have p304 : 0 ≤ ((ji27) : Int) := of_decide_eq_true (by first | (with_reducible assumption) | assumption)
               have q304 : (ji27) < (x6_2.length : Int) := of_decide_eq_true (by first | (with_reducible assumption) | assumption)
               obtain ⟨ad304, e304, hx304_0, hx304_1, hx304_2, hx304_3, hx304_4⟩ := at_T71 (Kd.R_reads' HO_6.out).2.2 (ji27) p304 q304
               obtain rfl : ad303 = ad304 := (by injection e304)
               replace p304 := eq_true p304
               replace q304 := eq_true q304
               refine start_ (n := 34) (S := fun w' => w'.cell? ⟨gb301, 0, none⟩ = some (.int .i64 ((rd_T71 l1 x22_2).f0)) ∧ w'.cell? ⟨gb301, 1, none⟩ = some (.int .i64 ((rd_T71 l1 x22_2).f1)) ∧ w'.cell? ⟨gb301, 2, none⟩ = some (.int .i64 ((rd_T71 l1 x22_2).f2.f0)) ∧ w'.cell? ⟨gb301, 3, none⟩ = some (.int .i64 ((rd_T71 l1 x22_2).f2.f1)) ∧ w'.cell? ⟨gb301, 4, none⟩ = some (.int .i64 ((rd_T71 l1 x22_2).f3)) ∧ w'.cell? (ad303.add (((ji27)).toNat * 5)) = some (.int .i64 ((rd_T71 x6_2 (ji27)).f0)) ∧ w'.cell? ⟨(ad303.add (((ji27)).toNat * 5)).block, (ad303.add (((ji27)).toNat * 5)).off + 1, none⟩ = some (.int .i64 ((rd_T71 x6_2 (ji27)).f1)) ∧ w'.cell? ⟨(ad303.add (((ji27)).toNat * 5)).block, (ad303.add (((ji27)).toNat * 5)).off + 2, none⟩ = some (.int .i64 ((rd_T71 x6_2 (ji27)).f2.f0)) ∧ w'.cell? ⟨(ad303.add (((ji27)).toNat * 5)).block, (ad303.add (((ji27)).toNat * 5)).off + 3, none⟩ = some (.int .i64 ((rd_T71 x6_2 (ji27)).f2.f1)) ∧ w'.cell? ⟨(ad303.add (((ji27)).toNat * 5)).block, (ad303.add (((ji27)).toNat * 5)).off + 4, none⟩ = some (.int .i64 ((rd_T71 x6_2 (ji27)).f3)) ∧ w'.cell? (ad303.add (((ji27)).toNat * 5)) = some (.int .i64 ((rd_T71 x6_2 (ji27)).f0)) ∧ w'.cell? ⟨(ad303.add (((ji27)).toNat * 5)).block, (ad303.add (((ji27)).toNat * 5)).off + 1, none⟩ = some (.int .i64 ((rd_T71 x6_2 (ji27)).f1)) ∧ w'.cell? ⟨(ad303.add (((ji27)).toNat * 5)).block, (ad303.add (((ji27)).toNat * 5)).off + 2, none⟩ = some (.int .i64 ((rd_T71 x6_2 (ji27)).f2.f0)) ∧ w'.cell? ⟨(ad303.add (((ji27)).toNat * 5)).block, (ad303.add (((ji27)).toNat * 5)).off + 3, none⟩ = some (.int .i64 ((rd_T71 x6_2 (ji27)).f2.f1)) ∧ w'.cell? ⟨(ad303.add (((ji27)).toNat * 5)).block, (ad303.add (((ji27)).toNat * 5)).off + 4, none⟩ = some (.int .i64 ((rd_T71 x6_2 (ji27)).f3))) (ds := []) #[false, false, false, false, false, false, false, false, false, false, false, false, false, false, false, false, false, false, false, false, false, false, false, false, false, false, false, false, false, false, false, false, false, false] (by kernel_rfl) rfl rfl ⟨(blk_cell BK301.out 0).trans rfl, (blk_cell BK301.out 1).trans rfl, (blk_cell BK301.out 2).trans rfl, (blk_cell BK301.out 3).trans rfl, (blk_cell BK301.out 4).trans rfl, hx303_0, hx303_1, hx303_2, hx303_3, hx303_4, hx304_0, hx304_1, hx304_2, hx304_3, hx304_4⟩ (fun hHeld => ?_); refine with_tabW impl_intentsOf.tab8 impl_intentsOf.bits8 (fun HT_ HW_ => ?_)
               generalize w36.drew = w37 at HO_6 BK295 BK301 HB hx303_0 hx303_1 hx303_2 hx303_3 hx303_4 hx304_0 hx304_1 hx304_2 hx304_3 hx304_4 hHeld ⊢
               refine pureS 0 29 HT_.out ?_
               refine pureS 2 31 HT_.out ?_
               refine pureS 3 32 HT_.out ?_
               refine takeS 1 30 HT_.out HW_.out hHeld (hr := by rintro w' ⟨s0, s1, s2, s3, s4, s5, s6, s7, s8, s9, s10, s11, s12, s13, s14⟩; go_simp; with_reducible rfl) (h := ?_)
               refine one_ (i := 4) (N := some 33) #[true, true, true, true, true, false, false, false, false, false, false, false, false, false, false, false, false, false, false, false, false, false, false, false, false, false, false, false, false, false, false, false, false, false] rfl rfl (one_of HT_.out (by kernel_rfl)) (by decide) (fun K hK => ?_)
               refine goes_ Try.func32 (by kernel_rfl) rfl #[.int .i64 ((rd_T71 l1 x22_2).f1), .int .i64 1, .int .i64 (x6_2.length : Int)] (by rfl) rfl rfl (by (try simp only [List.map_toArray, List.map_cons, List.map_nil]); first | done | rfl | (simp only [List.length_drop, List.length_take]; rfl)) ?_
               with_reducible refine (impl_within.calls ((rd_T71 l1 x22_2).f1) 1 (x6_2.length : Int) true _ A18.out).mono ?_
               rintro e w' ⟨rfl, ⟨nd, rfl⟩⟩
               refine ⟨_, rfl, ?_⟩
               refine hK.out _ _ ⟨(blk_cell BK301.out 0).trans rfl, (blk_cell BK301.out 1).trans rfl, (blk_cell BK301.out 2).trans rfl, (blk_cell BK301.out 3).trans rfl, (blk_cell BK301.out 4).trans rfl, hHeld.2.2.2.2.2.1, hHeld.2.2.2.2.2.2.1, hHeld.2.2.2.2.2.2.2.1, hHeld.2.2.2.2.2.2.2.2.1, hHeld.2.2.2.2.2.2.2.2.2.1, hHeld.2.2.2.2.2.2.2.2.2.2.1, hHeld.2.2.2.2.2.2.2.2.2.2.2.1, hHeld.2.2.2.2.2.2.2.2.2.2.2.2.1, hHeld.2.2.2.2.2.2.2.2.2.2.2.2.2.1, hHeld.2.2.2.2.2.2.2.2.2.2.2.2.2.2⟩ (fun hHeld => ?_)
               clear hK K
               refine norm_ (a' := ?_) ?_ ?_
               rotate_left
               ·
                show Act.put _ (some 33) _ = _
                simp only [Act.put, List.setIfInBounds_toArray, List.set_cons_zero, List.set_cons_succ, i64_w, i32_w]
                rfl
               refine pureS 5 34 HT_.out ?_
               refine pureS 6 35 HT_.out ?_
               refine pureS 7 36 HT_.out ?_
               refine pureS 9 38 HT_.out ?_
               refine takeS 8 37 HT_.out HW_.out hHeld (hr := by rintro w' ⟨s0, s1, s2, s3, s4, s5, s6, s7, s8, s9, s10, s11, s12, s13, s14⟩; go_simp; with_reducible rfl) (h := ?_)
               refine pureS 10 39 HT_.out ?_
               refine pureS 11 40 HT_.out ?_
               refine pureS 12 41 HT_.out ?_
               refine pureS 13 42 HT_.out ?_
               refine pureS 15 44 HT_.out ?_
               refine pureS 16 45 HT_.out ?_
               refine pureS 23 52 HT_.out ?_
               refine pureS 24 53 HT_.out ?_
               refine takeS 14 43 HT_.out HW_.out hHeld (hr := by rintro w' ⟨s0, s1, s2, s3, s4, s5, s6, s7, s8, s9, s10, s11, s12, s13, s14⟩; go_simp; with_reducible rfl) (h := ?_)
               refine takeS 17 46 HT_.out HW_.out hHeld (hr := by rintro w' ⟨s0, s1, s2, s3, s4, s5, s6, s7, s8, s9, s10, s11, s12, s13, s14⟩; go_simp; with_reducible rfl) (h := ?_)
               refine pureS 18 47 HT_.out ?_
               refine pureS 19 48 HT_.out ?_
               refine pureS 20 49 HT_.out ?_
               refine takeS 21 50 HT_.out HW_.out hHeld (hr := by rintro w' ⟨s0, s1, s2, s3, s4, s5, s6, s7, s8, s9, s10, s11, s12, s13, s14⟩; go_simp; with_reducible rfl) (h := ?_)
               refine pureS 22 51 HT_.out ?_
               refine takeS 25 54 HT_.out HW_.out hHeld (hr := by rintro w' ⟨s0, s1, s2, s3, s4, s5, s6, s7, s8, s9, s10, s11, s12, s13, s14⟩; go_simp; with_reducible rfl) (h := ?_)
               refine pureS 26 55 HT_.out ?_
               refine pureS 27 56 HT_.out ?_
               refine pureS 28 57 HT_.out ?_
               refine pureS 29 58 HT_.out ?_
               refine takeS 30 59 HT_.out HW_.out hHeld (hr := by rintro w' ⟨s0, s1, s2, s3, s4, s5, s6, s7, s8, s9, s10, s11, s12, s13, s14⟩; go_simp; with_reducible rfl) (h := ?_)
               refine one_ (i := 31) (N := some 60) #[true, true, true, true, true, true, true, true, true, true, true, true, true, true, true, true, true, true, true, true, true, true, true, true, true, true, true, true, true, true, true, true, false, false] rfl rfl (one_of HT_.out (by kernel_rfl)) (by decide) (fun K hK => ?_)
               refine goes_ Try.func32 (by kernel_rfl) rfl #[.int .i64 ((rd_T71 l1 x22_2).f3), .int .i64 (wrap64 (((rd_T71 x6_2 (ji27)).f3) + 1)), .int .i64 ((rd_T71 x6_2 (ji27)).f2.f1)] (by rfl) rfl rfl (by (try simp only [List.map_toArray, List.map_cons, List.map_nil]); first | done | (simp only [hji27]; rfl) | rfl | (simp only [List.length_drop, List.length_take]; rfl)) ?_
               with_reducible refine (impl_within.calls ((rd_T71 l1 x22_2).f3) (wrap64 (((rd_T71 x6_2 (ji27)).f3) + 1)) ((rd_T71 x6_2 (ji27)).f2.f1) true _ A30.out).mono ?_
               rintro e w' ⟨rfl, ⟨nd, rfl⟩⟩
               refine ⟨_, rfl, ?_⟩
               refine hK.out _ _ ⟨(blk_cell BK301.out 0).trans rfl, (blk_cell BK301.out 1).trans rfl, (blk_cell BK301.out 2).trans rfl, (blk_cell BK301.out 3).trans rfl, (blk_cell BK301.out 4).trans rfl, hHeld.2.2.2.2.2.1, hHeld.2.2.2.2.2.2.1, hHeld.2.2.2.2.2.2.2.1, hHeld.2.2.2.2.2.2.2.2.1, hHeld.2.2.2.2.2.2.2.2.2.1, hHeld.2.2.2.2.2.2.2.2.2.2.1, hHeld.2.2.2.2.2.2.2.2.2.2.2.1, hHeld.2.2.2.2.2.2.2.2.2.2.2.2.1, hHeld.2.2.2.2.2.2.2.2.2.2.2.2.2.1, hHeld.2.2.2.2.2.2.2.2.2.2.2.2.2.2⟩ (fun hHeld => ?_)
               clear hK K
               refine norm_ (a' := ?_) ?_ ?_
               rotate_left
               ·
                show Act.put _ (some 60) _ = _
                simp only [Act.put, List.setIfInBounds_toArray, List.set_cons_zero, List.set_cons_succ, i64_w, i32_w]
                rfl
               refine pureS 32 61 HT_.out ?_
               refine pureS 33 62 HT_.out ?_
               refine done_ (done_of HT_.out (by kernel_rfl)) ?_
               obtain ⟨hcz39_0, hcz39_1, hcz39_2, hcz39_3, hcz39_4⟩ := cz5 BK301
               obtain ⟨hfz39_0, hfz39_1, hfz39_2, hfz39_3, hfz39_4⟩ := fz5 BK301
               have p32 : 0 ≤ ((ji27) : Int) := of_decide_eq_true (by first | (with_reducible assumption) | assumption)
               have q32 : ((ji27) : Int) < ((x6_2.length : Int) : Int) := of_decide_eq_true (by first | (with_reducible assumption) | assumption)
               obtain ⟨go32, co32, eo32, gb32, gl32, cl32, HG32⟩ := Kd.R_form HO_6.out (by omega)
               (first | cases eo32 | (injection eo32 with ea_ en_ ec_; (first | subst ea_ | (injection ea_ with ea_; subst ea_)); subst ec_; clear en_))
               have GB32 := Aside0.mk gb32
               have GG32 := Aside0.mk HG32
               clear gb32 gl32 HG32
               (first | simp only [add_plain] at hx303_0 | skip)
               (first | simp only [add_plain] at hx303_1 | skip)
               (first | simp only [add_plain] at hx303_2 | skip)
               (first | simp only [add_plain] at hx303_3 | skip)
               (first | simp only [add_plain] at hx303_4 | skip)
               (first | simp only [add_plain] at hx304_0 | skip)
               (first | simp only [add_plain] at hx304_1 | skip)
               (first | simp only [add_plain] at hx304_2 | skip)
               (first | simp only [add_plain] at hx304_3 | skip)
               (first | simp only [add_plain] at hx304_4 | skip)
               obtain ⟨ce32, hcl32, hM32, hcc32, hfr32⟩ := Kd.R_elem HO_6.out z71 ((ji27) : Int) p32 q32
               obtain rfl := k71_openM hM32
               have hx32_0 : w37.cell? ⟨go32, ((ji27) : Int).toNat * 5, none⟩ = some (.int .i64 ((rd_T71 x6_2 (ji27)).f0)) := hcc32 0 _ rfl
               have hx32_1 : w37.cell? ⟨go32, ((ji27) : Int).toNat * 5 + 1, none⟩ = some (.int .i64 ((rd_T71 x6_2 (ji27)).f1)) := hcc32 1 _ rfl
               have hx32_2 : w37.cell? ⟨go32, ((ji27) : Int).toNat * 5 + 2, none⟩ = some (.int .i64 ((rd_T71 x6_2 (ji27)).f2.f0)) := hcc32 2 _ rfl
               have hx32_3 : w37.cell? ⟨go32, ((ji27) : Int).toNat * 5 + 3, none⟩ = some (.int .i64 ((rd_T71 x6_2 (ji27)).f2.f1)) := hcc32 3 _ rfl
               have hx32_4 : w37.cell? ⟨go32, ((ji27) : Int).toNat * 5 + 4, none⟩ = some (.int .i64 ((rd_T71 x6_2 (ji27)).f3)) := hcc32 4 _ rfl
               have hf32_0 : w37.frozen? ⟨go32, ((ji27) : Int).toNat * 5, none⟩ = false := hfr32 0
               have hf32_1 : w37.frozen? ⟨go32, ((ji27) : Int).toNat * 5 + 1, none⟩ = false := hfr32 1
               have hf32_2 : w37.frozen? ⟨go32, ((ji27) : Int).toNat * 5 + 2, none⟩ = false := hfr32 2
               have hf32_3 : w37.frozen? ⟨go32, ((ji27) : Int).toNat * 5 + 3, none⟩ = false := hfr32 3
               have hf32_4 : w37.frozen? ⟨go32, ((ji27) : Int).toNat * 5 + 4, none⟩ = false := hfr32 4
               clear hcl32 hcc32 hfr32 hM32
               replace p32 := eq_true p32
               replace q32 := eq_true q32
               have HX40 := Aside0.mk (show Kd.R k71 71 w37 w.heap.size (fun k_ => k_ ≠ gb301) (.slice (some ⟨go32, 0, none⟩) x6_2.length co38) x6_2 from (rr HO_6.out))
               obtain ⟨ce40, hcl40, hM40, hcc40, hfr40⟩ := Kd.R_elem HX40.out z71 ((ji27) : Int) (of_decide_eq_true (by first | (with_reducible assumption) | assumption)) (by have h_ : ((ji27) : Int) < ((x6_2.length : Int) : Int) := of_decide_eq_true (by first | (with_reducible assumption) | assumption); first | exact h_ | (have e_ := (Kd.R_reads' HO_6.out).1; omega) | simpa using h_)
               obtain rfl := k71_openM hM40
               have HP40 := Kd.R_seg HX40.out ((ji27) : Int) (of_decide_eq_true (by first | (with_reducible assumption) | assumption)) (by have h_ : ((ji27) : Int) < ((x6_2.length : Int) : Int) := of_decide_eq_true (by first | (with_reducible assumption) | assumption); first | exact h_ | (have e_ := (Kd.R_reads' HO_6.out).1; omega) | simpa using h_) (seg := [.int .i64 ((rd_T71 l1 x22_2).f3)]) (j := 4) hcl40 hcc40 (show 5 ≤ 5 from by decide) (x' := (⟨(rd_T71 x6_2 (ji27)).f0, (rd_T71 x6_2 (ji27)).f1, (⟨(rd_T71 x6_2 (ji27)).f2.f0, (rd_T71 x6_2 (ji27)).f2.f1⟩ : S53), (rd_T71 l1 x22_2).f3⟩ : S71)) (k71_mkM _ _ _ (⟨(rd_T71 x6_2 (ji27)).f0, (rd_T71 x6_2 (ji27)).f1, (⟨(rd_T71 x6_2 (ji27)).f2.f0, (rd_T71 x6_2 (ji27)).f2.f1⟩ : S53), (rd_T71 l1 x22_2).f3⟩ : S71) ) (fun _ hk => hk)
               have hx40_4 := hcc40 4 _ rfl
               (try simp only [show (k71).sz = 5 from rfl, Nat.mul_one, Nat.add_zero] at hx40_4)
               have hf40_4 := hfr40 4
               (try simp only [show (k71).sz = 5 from rfl, Nat.mul_one, Nat.add_zero] at hf40_4)
               clear hcl40 hcc40 hfr40 hM40
               try go_wp2_with (first | ((with_reducible refine gate_store (t := 3) (p := 70) rfl ?_); (try (rw [drewN_self w37]; generalize hq_ : World.drewN w37 _ = w37; replace HO_6 := Aside0.mk (Kd.R_at hq_ HO_6.out); replace BK295 := Aside0.mk (blk_at hq_ BK295.out); replace BK301 := Aside0.mk (blk_at hq_ BK301.out); replace HB := Aside0.mk (below_at hq_ HB.out); clear hq_; (try (have HX40 := Aside0.mk (show Kd.R k71 71 w37 w.heap.size (fun k_ => k_ ≠ gb301) (.slice (some ⟨go32, 0, none⟩) x6_2.length co38) x6_2 from (rr HO_6.out)))); (try (obtain ⟨ce40, hcl40, hM40, hcc40, hfr40⟩ := Kd.R_elem HX40.out z71 ((ji27) : Int) (of_decide_eq_true (by first | (with_reducible assumption) | assumption)) (by have h_ : ((ji27) : Int) < ((x6_2.length : Int) : Int) := of_decide_eq_true (by first | (with_reducible assumption) | assumption); first | exact h_ | (have e_ := (Kd.R_reads' HO_6.out).1; omega) | simpa using h_))); (try (obtain rfl := k71_openM hM40)); (try (have HP40 := Kd.R_seg HX40.out ((ji27) : Int) (of_decide_eq_true (by first | (with_reducible assumption) | assumption)) (by have h_ : ((ji27) : Int) < ((x6_2.length : Int) : Int) := of_decide_eq_true (by first | (with_reducible assumption) | assumption); first | exact h_ | (have e_ := (Kd.R_reads' HO_6.out).1; omega) | simpa using h_) (seg := [.int .i64 ((rd_T71 l1 x22_2).f3)]) (j := 4) hcl40 hcc40 (show 5 ≤ 5 from by decide) (x' := (⟨(rd_T71 x6_2 (ji27)).f0, (rd_T71 x6_2 (ji27)).f1, (⟨(rd_T71 x6_2 (ji27)).f2.f0, (rd_T71 x6_2 (ji27)).f2.f1⟩ : S53), (rd_T71 l1 x22_2).f3⟩ : S71)) (k71_mkM _ _ _ (⟨(rd_T71 x6_2 (ji27)).f0, (rd_T71 x6_2 (ji27)).f1, (⟨(rd_T71 x6_2 (ji27)).f2.f0, (rd_T71 x6_2 (ji27)).f2.f1⟩ : S53), (rd_T71 l1 x22_2).f3⟩ : S71) ) (fun _ hk => hk))); (try (have hx40_4 := hcc40 4 _ rfl)); (try (try simp only [show (k71).sz = 5 from rfl, Nat.mul_one, Nat.add_zero] at hx40_4)); (try (have hf40_4 := hfr40 4)); (try (try simp only [show (k71).sz = 5 from rfl, Nat.mul_one, Nat.add_zero] at hf40_4)); (try (clear hcl40 hcc40 hfr40 hM40)))); refine store_event (t := 3) (p := 70) (v := ?vo_w41) (w1 := (w37.setCell ⟨go32, ((ji27) : Int).toNat * 5 + 4, none⟩ (.int .i64 ((rd_T71 l1 x22_2).f3)))) ?hg ?ho ?hn ?hr ?_; (case ho => rfl); (case hg => rfl); (case hn => rfl); (case hr => first | (go_simp; done) | (go_simp; rfl)); intro w41 hw; have hg : w37.grownBy w41 (some go32) := (by rw [hw]; exact HP40.2); have hp_ : Kd.R k71 71 w41 w.heap.size (fun k_ => k_ ≠ gb301) (.slice (some ⟨go32, 0, none⟩) x6_2.length co38) y306 := (by rw [hw, Ny306.out]; exact HP40.1); clear HP40; replace BK295 := Aside0.mk (blk_grown (bk BK295) hg (Kd.R_ne HO_6.out BK295.out (by decide))); replace BK301 := Aside0.mk (blk_grown (bk BK301) hg (Kd.R_away HO_6.out (fun _ hk => hk))); replace HO_6 := Aside0.mk (hp_); replace HB := Aside0.mk ((by rw [hw]; exact below_set (HB.out) GB32.out : Below w.heap.size w w41)); clear hg hw hp_))
               go_roundg k2
               case measure => have := HJ2.out; have := HK2.out; omega
               case rel => exact ⟨(y306), (wrap64 (x22_2 + 1)), (by first | rfl | (simp; done) | (simp [*]; done)), H', ⟨by have := HJ2.out; have := HK2.out; omega⟩, rm HO_6 (fun _ hk => trivial), ⟨bk BK295⟩, ⟨bs2 HB GE295 GE301⟩⟩
              ·
               replace c31 := Bool.eq_false_iff.mpr c31
               subst c31
               rw [if_neg (show ¬ (false = true) by decide)] at H
               simp only [Option.some.injEq, Prod.mk.injEq] at H
               obtain ⟨rfl, rfl⟩ := H
               have p300 : 0 ≤ (x22_2 : Int) := of_decide_eq_true (by first | (with_reducible assumption) | assumption)
               have q300 : x22_2 < (l1.length : Int) := of_decide_eq_true (by first | (with_reducible assumption) | assumption)
               obtain ⟨ad300, e300, hx300_0, hx300_1, hx300_2, hx300_3, hx300_4⟩ := at_T71 HR1.out x22_2 p300 q300
               cases e300
               replace hx300_0 := (HB.out.cell (World.block_lt_of_cell? w _ hx300_0)).trans hx300_0
               replace hx300_1 := (HB.out.cell (World.block_lt_of_cell? w _ hx300_1)).trans hx300_1
               replace hx300_2 := (HB.out.cell (World.block_lt_of_cell? w _ hx300_2)).trans hx300_2
               replace hx300_3 := (HB.out.cell (World.block_lt_of_cell? w _ hx300_3)).trans hx300_3
               replace hx300_4 := (HB.out.cell (World.block_lt_of_cell? w _ hx300_4)).trans hx300_4
               replace p300 := eq_true p300
               replace q300 := eq_true q300
               try go_wp2_with (first | ((with_reducible refine gate_dst (N := 8) rfl ?_); (try (refine gate_guard (by rfl) ?_; dsimp only)); refine box_event ?hg (N := 8) ?hd (cs := #[.int .i64 0, .int .i64 0, .int .i64 0, .int .i64 0, .int .i64 0]) (t := 71) ?hr ?_; (case hd => rfl); (case hg => rfl); (case hr => first | (go_simp; done) | (go_simp; rfl)); intro gb301 hg w42 hbox hb; replace HO_6 := Aside0.mk (Kd.R_below (Kd.R_elderB (rr HO_6.out) gb301 (Nat.le_of_eq hg.symm)) hb); have BK301 := Aside0.mk (hbox); have GW301 := Aside0.mk ((by rw [hg]; exact (below_size (bs1 HB GE295)) : w.heap.size ≤ gb301)); have GE301 := Aside0.mk ((by rw [hg]; exact (below_size (bs1 HB GE295)) : w.heap.size ≤ gb301)); replace HB := Aside0.mk (below_step (bs1 HB GE295) hb); have NB295_301 := Aside0.mk ((bn BK295 hg : gb295 ≠ gb301)); have NB301_295 := Aside0.mk ((bm BK295 hg : gb301 ≠ gb295)); replace BK295 := nb BK295 hb; clear hb hbox hg; have hnb43 := NB301_295.out; have hnc43 := NB295_301.out; obtain ⟨hcz44_0, hcz44_1, hcz44_2, hcz44_3, hcz44_4⟩ := cz5 BK301; obtain ⟨hfz44_0, hfz44_1, hfz44_2, hfz44_3, hfz44_4⟩ := fz5 BK301))
               have n0_ : Aside0 (Kd.R k71 71 (((((w42.setCell ⟨gb301, 0, none⟩ (.int .i64 ((rd_T71 l1 x22_2).f0))).setCell ⟨gb301, 1, none⟩ (.int .i64 ((rd_T71 l1 x22_2).f1))).setCell ⟨gb301, 2, none⟩ (.int .i64 ((rd_T71 l1 x22_2).f2.f0))).setCell ⟨gb301, 3, none⟩ (.int .i64 ((rd_T71 l1 x22_2).f2.f1))).setCell ⟨gb301, 4, none⟩ (.int .i64 ((rd_T71 l1 x22_2).f3))) w.heap.size (fun k_ => k_ ≠ gb301) u6 x6_2) := ⟨by (with_reducible repeat (first | apply Kd.R_alloc | apply Kd.R_drewN | apply Kd.R_drew)); exact Kd.R_mono (Kd.R_far (p := ⟨gb301, 4, none⟩) (Kd.R_far (p := ⟨gb301, 3, none⟩) (Kd.R_far (p := ⟨gb301, 2, none⟩) (Kd.R_far (p := ⟨gb301, 1, none⟩) (Kd.R_far (p := ⟨gb301, 0, none⟩) (Kd.R_mono HO_6.out (fun k_ hk => (⟨hk, hk.2⟩ : _ ∧ k_ ≠ gb301))) (fun _ hk => hk.2) (.int .i64 ((rd_T71 l1 x22_2).f0))) (fun _ hk => hk.2) (.int .i64 ((rd_T71 l1 x22_2).f1))) (fun _ hk => hk.2) (.int .i64 ((rd_T71 l1 x22_2).f2.f0))) (fun _ hk => hk.2) (.int .i64 ((rd_T71 l1 x22_2).f2.f1))) (fun _ hk => hk.2) (.int .i64 ((rd_T71 l1 x22_2).f3))) (fun _ hk => hk.1.2)⟩
               have n1_ : Aside0 ((((((w42.setCell ⟨gb301, 0, none⟩ (.int .i64 ((rd_T71 l1 x22_2).f0))).setCell ⟨gb301, 1, none⟩ (.int .i64 ((rd_T71 l1 x22_2).f1))).setCell ⟨gb301, 2, none⟩ (.int .i64 ((rd_T71 l1 x22_2).f2.f0))).setCell ⟨gb301, 3, none⟩ (.int .i64 ((rd_T71 l1 x22_2).f2.f1))).setCell ⟨gb301, 4, none⟩ (.int .i64 ((rd_T71 l1 x22_2).f3))).heap[gb295]? = some (.cells #[.int .i64 a0_0, .slice A0_1 l0_1.length c0_1, .slice A0_2 l0_2.length c0_2] 24 (0, 0))) := ⟨bf BK295 NB295_301⟩
               have n2_ : Aside0 ((((((w42.setCell ⟨gb301, 0, none⟩ (.int .i64 ((rd_T71 l1 x22_2).f0))).setCell ⟨gb301, 1, none⟩ (.int .i64 ((rd_T71 l1 x22_2).f1))).setCell ⟨gb301, 2, none⟩ (.int .i64 ((rd_T71 l1 x22_2).f2.f0))).setCell ⟨gb301, 3, none⟩ (.int .i64 ((rd_T71 l1 x22_2).f2.f1))).setCell ⟨gb301, 4, none⟩ (.int .i64 ((rd_T71 l1 x22_2).f3))).heap[gb301]? = some (.cells #[.int .i64 ((rd_T71 l1 x22_2).f0), .int .i64 ((rd_T71 l1 x22_2).f1), .int .i64 ((rd_T71 l1 x22_2).f2.f0), .int .i64 ((rd_T71 l1 x22_2).f2.f1), .int .i64 ((rd_T71 l1 x22_2).f3)] 71 (0, 0))) := ⟨by (with_reducible repeat (first | refine blk_drewN ?_ _ | refine blk_drew ?_ | refine blk_alloc ?_ _)); refine blk_put (cs := #[.int .i64 ((rd_T71 l1 x22_2).f0), .int .i64 ((rd_T71 l1 x22_2).f1), .int .i64 ((rd_T71 l1 x22_2).f2.f0), .int .i64 ((rd_T71 l1 x22_2).f2.f1), .int .i64 0]) ?_ 4 _ rfl; (with_reducible repeat (first | refine blk_drewN ?_ _ | refine blk_drew ?_ | refine blk_alloc ?_ _)); refine blk_put (cs := #[.int .i64 ((rd_T71 l1 x22_2).f0), .int .i64 ((rd_T71 l1 x22_2).f1), .int .i64 ((rd_T71 l1 x22_2).f2.f0), .int .i64 0, .int .i64 0]) ?_ 3 _ rfl; (with_reducible repeat (first | refine blk_drewN ?_ _ | refine blk_drew ?_ | refine blk_alloc ?_ _)); refine blk_put (cs := #[.int .i64 ((rd_T71 l1 x22_2).f0), .int .i64 ((rd_T71 l1 x22_2).f1), .int .i64 0, .int .i64 0, .int .i64 0]) ?_ 2 _ rfl; (with_reducible repeat (first | refine blk_drewN ?_ _ | refine blk_drew ?_ | refine blk_alloc ?_ _)); refine blk_put (cs := #[.int .i64 ((rd_T71 l1 x22_2).f0), .int .i64 0, .int .i64 0, .int .i64 0, .int .i64 0]) ?_ 1 _ rfl; (with_reducible repeat (first | refine blk_drewN ?_ _ | refine blk_drew ?_ | refine blk_alloc ?_ _)); refine blk_put (cs := #[.int .i64 0, .int .i64 0, .int .i64 0, .int .i64 0, .int .i64 0]) ?_ 0 _ rfl; (with_reducible repeat (first | refine blk_drewN ?_ _ | refine blk_drew ?_ | refine blk_alloc ?_ _)); exact BK301.out⟩
               have n3_ : Aside0 (Below w.heap.size w (((((w42.setCell ⟨gb301, 0, none⟩ (.int .i64 ((rd_T71 l1 x22_2).f0))).setCell ⟨gb301, 1, none⟩ (.int .i64 ((rd_T71 l1 x22_2).f1))).setCell ⟨gb301, 2, none⟩ (.int .i64 ((rd_T71 l1 x22_2).f2.f0))).setCell ⟨gb301, 3, none⟩ (.int .i64 ((rd_T71 l1 x22_2).f2.f1))).setCell ⟨gb301, 4, none⟩ (.int .i64 ((rd_T71 l1 x22_2).f3)))) := ⟨bs2 HB GE295 GE301⟩
               (try clear HO_6)
               (try clear BK295)
               (try clear BK301)
               (try clear HB)
               generalize (((((w42.setCell ⟨gb301, 0, none⟩ (.int .i64 ((rd_T71 l1 x22_2).f0))).setCell ⟨gb301, 1, none⟩ (.int .i64 ((rd_T71 l1 x22_2).f1))).setCell ⟨gb301, 2, none⟩ (.int .i64 ((rd_T71 l1 x22_2).f2.f0))).setCell ⟨gb301, 3, none⟩ (.int .i64 ((rd_T71 l1 x22_2).f2.f1))).setCell ⟨gb301, 4, none⟩ (.int .i64 ((rd_T71 l1 x22_2).f3))) = w45 at n0_ n1_ n2_ n3_ ⊢
               have HO_6 := n0_
               have BK295 := n1_
               have BK301 := n2_
               have HB := n3_
               clear n0_ n1_ n2_ n3_
               have n0_ := Aside0.mk (Kd.R_drew HO_6.out)
               have n1_ := Aside0.mk (blk_drew BK295.out)
               have n2_ := Aside0.mk (blk_drew BK301.out)
               have n3_ := Aside0.mk (below_drew1 HB.out)
               clear HO_6
               clear BK295
               clear BK301
               clear HB
               have HO_6 := n0_
               have BK295 := n1_
               have BK301 := n2_
               have HB := n3_
               clear n0_ n1_ n2_ n3_
               obtain ⟨Ao47, co47, eo47⟩ := Kd.R_slice HO_6.out
               (first | subst eo47 | (injection eo47 with f1_ f2_ f3_; have f4_ := f1_.symm; have f5_ := f3_.symm; clear f1_ f2_ f3_; subst f4_; subst f5_))
               have p303 : 0 ≤ ((ji27) : Int) := of_decide_eq_true (by first | (with_reducible assumption) | assumption)
               have q303 : (ji27) < (x6_2.length : Int) := of_decide_eq_true (by first | (with_reducible assumption) | assumption)
               obtain ⟨ad303, e303, hx303_0, hx303_1, hx303_2, hx303_3, hx303_4⟩ := at_T71 (Kd.R_reads' HO_6.out).2.2 (ji27) p303 q303
               cases e303
               replace p303 := eq_true p303
               replace q303 := eq_true q303
               have p304 : 0 ≤ ((ji27) : Int) := of_decide_eq_true (by first | (with_reducible assumption) | assumption)
               have q304 : (ji27) < (x6_2.length : Int) := of_decide_eq_true (by first | (with_reducible assumption) | assumption)
               obtain ⟨ad304, e304, hx304_0, hx304_1, hx304_2, hx304_3, hx304_4⟩ := at_T71 (Kd.R_reads' HO_6.out).2.2 (ji27) p304 q304
               obtain rfl : ad303 = ad304 := (by injection e304)
               replace p304 := eq_true p304
               replace q304 := eq_true q304
               refine start_ (n := 34) (S := fun w' => w'.cell? ⟨gb301, 0, none⟩ = some (.int .i64 ((rd_T71 l1 x22_2).f0)) ∧ w'.cell? ⟨gb301, 1, none⟩ = some (.int .i64 ((rd_T71 l1 x22_2).f1)) ∧ w'.cell? ⟨gb301, 2, none⟩ = some (.int .i64 ((rd_T71 l1 x22_2).f2.f0)) ∧ w'.cell? ⟨gb301, 3, none⟩ = some (.int .i64 ((rd_T71 l1 x22_2).f2.f1)) ∧ w'.cell? ⟨gb301, 4, none⟩ = some (.int .i64 ((rd_T71 l1 x22_2).f3)) ∧ w'.cell? (ad303.add (((ji27)).toNat * 5)) = some (.int .i64 ((rd_T71 x6_2 (ji27)).f0)) ∧ w'.cell? ⟨(ad303.add (((ji27)).toNat * 5)).block, (ad303.add (((ji27)).toNat * 5)).off + 1, none⟩ = some (.int .i64 ((rd_T71 x6_2 (ji27)).f1)) ∧ w'.cell? ⟨(ad303.add (((ji27)).toNat * 5)).block, (ad303.add (((ji27)).toNat * 5)).off + 2, none⟩ = some (.int .i64 ((rd_T71 x6_2 (ji27)).f2.f0)) ∧ w'.cell? ⟨(ad303.add (((ji27)).toNat * 5)).block, (ad303.add (((ji27)).toNat * 5)).off + 3, none⟩ = some (.int .i64 ((rd_T71 x6_2 (ji27)).f2.f1)) ∧ w'.cell? ⟨(ad303.add (((ji27)).toNat * 5)).block, (ad303.add (((ji27)).toNat * 5)).off + 4, none⟩ = some (.int .i64 ((rd_T71 x6_2 (ji27)).f3)) ∧ w'.cell? (ad303.add (((ji27)).toNat * 5)) = some (.int .i64 ((rd_T71 x6_2 (ji27)).f0)) ∧ w'.cell? ⟨(ad303.add (((ji27)).toNat * 5)).block, (ad303.add (((ji27)).toNat * 5)).off + 1, none⟩ = some (.int .i64 ((rd_T71 x6_2 (ji27)).f1)) ∧ w'.cell? ⟨(ad303.add (((ji27)).toNat * 5)).block, (ad303.add (((ji27)).toNat * 5)).off + 2, none⟩ = some (.int .i64 ((rd_T71 x6_2 (ji27)).f2.f0)) ∧ w'.cell? ⟨(ad303.add (((ji27)).toNat * 5)).block, (ad303.add (((ji27)).toNat * 5)).off + 3, none⟩ = some (.int .i64 ((rd_T71 x6_2 (ji27)).f2.f1)) ∧ w'.cell? ⟨(ad303.add (((ji27)).toNat * 5)).block, (ad303.add (((ji27)).toNat * 5)).off + 4, none⟩ = some (.int .i64 ((rd_T71 x6_2 (ji27)).f3))) (ds := []) #[false, false, false, false, false, false, false, false, false, false, false, false, false, false, false, false, false, false, false, false, false, false, false, false, false, false, false, false, false, false, false, false, false, false] (by kernel_rfl) rfl rfl ⟨(blk_cell BK301.out 0).trans rfl, (blk_cell BK301.out 1).trans rfl, (blk_cell BK301.out 2).trans rfl, (blk_cell BK301.out 3).trans rfl, (blk_cell BK301.out 4).trans rfl, hx303_0, hx303_1, hx303_2, hx303_3, hx303_4, hx304_0, hx304_1, hx304_2, hx304_3, hx304_4⟩ (fun hHeld => ?_); refine with_tabW impl_intentsOf.tab8 impl_intentsOf.bits8 (fun HT_ HW_ => ?_)
               generalize w45.drew = w46 at HO_6 BK295 BK301 HB hx303_0 hx303_1 hx303_2 hx303_3 hx303_4 hx304_0 hx304_1 hx304_2 hx304_3 hx304_4 hHeld ⊢
               refine pureS 0 29 HT_.out ?_
               refine pureS 2 31 HT_.out ?_
               refine pureS 3 32 HT_.out ?_
               refine takeS 1 30 HT_.out HW_.out hHeld (hr := by rintro w' ⟨s0, s1, s2, s3, s4, s5, s6, s7, s8, s9, s10, s11, s12, s13, s14⟩; go_simp; with_reducible rfl) (h := ?_)
               refine one_ (i := 4) (N := some 33) #[true, true, true, true, true, false, false, false, false, false, false, false, false, false, false, false, false, false, false, false, false, false, false, false, false, false, false, false, false, false, false, false, false, false] rfl rfl (one_of HT_.out (by kernel_rfl)) (by decide) (fun K hK => ?_)
               refine goes_ Try.func32 (by kernel_rfl) rfl #[.int .i64 ((rd_T71 l1 x22_2).f1), .int .i64 1, .int .i64 (x6_2.length : Int)] (by rfl) rfl rfl (by (try simp only [List.map_toArray, List.map_cons, List.map_nil]); first | done | rfl | (simp only [List.length_drop, List.length_take]; rfl)) ?_
               with_reducible refine (impl_within.calls ((rd_T71 l1 x22_2).f1) 1 (x6_2.length : Int) true _ A18.out).mono ?_
               rintro e w' ⟨rfl, ⟨nd, rfl⟩⟩
               refine ⟨_, rfl, ?_⟩
               refine hK.out _ _ ⟨(blk_cell BK301.out 0).trans rfl, (blk_cell BK301.out 1).trans rfl, (blk_cell BK301.out 2).trans rfl, (blk_cell BK301.out 3).trans rfl, (blk_cell BK301.out 4).trans rfl, hHeld.2.2.2.2.2.1, hHeld.2.2.2.2.2.2.1, hHeld.2.2.2.2.2.2.2.1, hHeld.2.2.2.2.2.2.2.2.1, hHeld.2.2.2.2.2.2.2.2.2.1, hHeld.2.2.2.2.2.2.2.2.2.2.1, hHeld.2.2.2.2.2.2.2.2.2.2.2.1, hHeld.2.2.2.2.2.2.2.2.2.2.2.2.1, hHeld.2.2.2.2.2.2.2.2.2.2.2.2.2.1, hHeld.2.2.2.2.2.2.2.2.2.2.2.2.2.2⟩ (fun hHeld => ?_)
               clear hK K
               refine norm_ (a' := ?_) ?_ ?_
               rotate_left
               ·
                show Act.put _ (some 33) _ = _
                simp only [Act.put, List.setIfInBounds_toArray, List.set_cons_zero, List.set_cons_succ, i64_w, i32_w]
                rfl
               refine pureS 5 34 HT_.out ?_
               refine pureS 6 35 HT_.out ?_
               refine pureS 7 36 HT_.out ?_
               refine pureS 9 38 HT_.out ?_
               refine takeS 8 37 HT_.out HW_.out hHeld (hr := by rintro w' ⟨s0, s1, s2, s3, s4, s5, s6, s7, s8, s9, s10, s11, s12, s13, s14⟩; go_simp; with_reducible rfl) (h := ?_)
               refine pureS 10 39 HT_.out ?_
               refine pureS 11 40 HT_.out ?_
               refine pureS 12 41 HT_.out ?_
               refine pureS 13 42 HT_.out ?_
               refine pureS 15 44 HT_.out ?_
               refine pureS 16 45 HT_.out ?_
               refine pureS 23 52 HT_.out ?_
               refine pureS 24 53 HT_.out ?_
               refine takeS 14 43 HT_.out HW_.out hHeld (hr := by rintro w' ⟨s0, s1, s2, s3, s4, s5, s6, s7, s8, s9, s10, s11, s12, s13, s14⟩; go_simp; with_reducible rfl) (h := ?_)
               refine takeS 17 46 HT_.out HW_.out hHeld (hr := by rintro w' ⟨s0, s1, s2, s3, s4, s5, s6, s7, s8, s9, s10, s11, s12, s13, s14⟩; go_simp; with_reducible rfl) (h := ?_)
               refine pureS 18 47 HT_.out ?_
               refine pureS 19 48 HT_.out ?_
               refine pureS 20 49 HT_.out ?_
               refine takeS 21 50 HT_.out HW_.out hHeld (hr := by rintro w' ⟨s0, s1, s2, s3, s4, s5, s6, s7, s8, s9, s10, s11, s12, s13, s14⟩; go_simp; with_reducible rfl) (h := ?_)
               refine pureS 22 51 HT_.out ?_
               refine takeS 25 54 HT_.out HW_.out hHeld (hr := by rintro w' ⟨s0, s1, s2, s3, s4, s5, s6, s7, s8, s9, s10, s11, s12, s13, s14⟩; go_simp; with_reducible rfl) (h := ?_)
               refine pureS 26 55 HT_.out ?_
               refine pureS 27 56 HT_.out ?_
               refine pureS 28 57 HT_.out ?_
               refine pureS 29 58 HT_.out ?_
               refine takeS 30 59 HT_.out HW_.out hHeld (hr := by rintro w' ⟨s0, s1, s2, s3, s4, s5, s6, s7, s8, s9, s10, s11, s12, s13, s14⟩; go_simp; with_reducible rfl) (h := ?_)
               refine one_ (i := 31) (N := some 60) #[true, true, true, true, true, true, true, true, true, true, true, true, true, true, true, true, true, true, true, true, true, true, true, true, true, true, true, true, true, true, true, true, false, false] rfl rfl (one_of HT_.out (by kernel_rfl)) (by decide) (fun K hK => ?_)
               refine goes_ Try.func32 (by kernel_rfl) rfl #[.int .i64 ((rd_T71 l1 x22_2).f3), .int .i64 (wrap64 (((rd_T71 x6_2 (ji27)).f3) + 1)), .int .i64 ((rd_T71 x6_2 (ji27)).f2.f1)] (by rfl) rfl rfl (by (try simp only [List.map_toArray, List.map_cons, List.map_nil]); first | done | (simp only [hji27]; rfl) | rfl | (simp only [List.length_drop, List.length_take]; rfl)) ?_
               with_reducible refine (impl_within.calls ((rd_T71 l1 x22_2).f3) (wrap64 (((rd_T71 x6_2 (ji27)).f3) + 1)) ((rd_T71 x6_2 (ji27)).f2.f1) false _ A30.out).mono ?_
               rintro e w' ⟨rfl, ⟨nd, rfl⟩⟩
               refine ⟨_, rfl, ?_⟩
               refine hK.out _ _ ⟨(blk_cell BK301.out 0).trans rfl, (blk_cell BK301.out 1).trans rfl, (blk_cell BK301.out 2).trans rfl, (blk_cell BK301.out 3).trans rfl, (blk_cell BK301.out 4).trans rfl, hHeld.2.2.2.2.2.1, hHeld.2.2.2.2.2.2.1, hHeld.2.2.2.2.2.2.2.1, hHeld.2.2.2.2.2.2.2.2.1, hHeld.2.2.2.2.2.2.2.2.2.1, hHeld.2.2.2.2.2.2.2.2.2.2.1, hHeld.2.2.2.2.2.2.2.2.2.2.2.1, hHeld.2.2.2.2.2.2.2.2.2.2.2.2.1, hHeld.2.2.2.2.2.2.2.2.2.2.2.2.2.1, hHeld.2.2.2.2.2.2.2.2.2.2.2.2.2.2⟩ (fun hHeld => ?_)
               clear hK K
               refine norm_ (a' := ?_) ?_ ?_
               rotate_left
               ·
                show Act.put _ (some 60) _ = _
                simp only [Act.put, List.setIfInBounds_toArray, List.set_cons_zero, List.set_cons_succ, i64_w, i32_w]
                rfl
               refine pureS 32 61 HT_.out ?_
               refine pureS 33 62 HT_.out ?_
               refine done_ (done_of HT_.out (by kernel_rfl)) ?_
               try go_wp2
               go_ret2
               exact ⟨_, by first | rfl | (simp [errW_none, errW_some] <;> rfl) | (simp only [← hji27]; first | rfl | (simp [errW_none, errW_some] <;> rfl)) | (simp [*, errW_none, errW_some] <;> rfl), by first | exact Kd.R_nil _ _ _ _ _ | exact Kd.N_nil _ _ _ _ _ | exact Kd.V_nil _ _ _ _ _ | exact Kd.Q_nil _ _ _ _ _ | exact Kd.S_nil _ _ _ _ _, bs2 HB GE295 GE301⟩
             ·
              rw [if_neg c29] at H
              exact absurd H (by simp)
            ·
             rw [if_neg c28] at H
             exact absurd H (by simp)
          ·
           replace c19 := Bool.eq_false_iff.mpr c19
           subst c19
           rw [if_neg (show ¬ (false = true) by decide)] at H
           simp only [Option.some.injEq, Prod.mk.injEq] at H
           obtain ⟨rfl, rfl⟩ := H
           have p300 : 0 ≤ (x22_2 : Int) := of_decide_eq_true (by first | (with_reducible assumption) | assumption)
           have q300 : x22_2 < (l1.length : Int) := of_decide_eq_true (by first | (with_reducible assumption) | assumption)
           obtain ⟨ad300, e300, hx300_0, hx300_1, hx300_2, hx300_3, hx300_4⟩ := at_T71 HR1.out x22_2 p300 q300
           cases e300
           replace hx300_0 := (HB.out.cell (World.block_lt_of_cell? w _ hx300_0)).trans hx300_0
           replace hx300_1 := (HB.out.cell (World.block_lt_of_cell? w _ hx300_1)).trans hx300_1
           replace hx300_2 := (HB.out.cell (World.block_lt_of_cell? w _ hx300_2)).trans hx300_2
           replace hx300_3 := (HB.out.cell (World.block_lt_of_cell? w _ hx300_3)).trans hx300_3
           replace hx300_4 := (HB.out.cell (World.block_lt_of_cell? w _ hx300_4)).trans hx300_4
           replace p300 := eq_true p300
           replace q300 := eq_true q300
           try go_wp2_with (first | ((with_reducible refine gate_dst (N := 8) rfl ?_); (try (refine gate_guard (by rfl) ?_; dsimp only)); refine box_event ?hg (N := 8) ?hd (cs := #[.int .i64 0, .int .i64 0, .int .i64 0, .int .i64 0, .int .i64 0]) (t := 71) ?hr ?_; (case hd => rfl); (case hg => rfl); (case hr => first | (go_simp; done) | (go_simp; rfl)); intro gb301 hg w48 hbox hb; replace HO_6 := Aside0.mk (Kd.R_below (Kd.R_elderB (rr HO_6.out) gb301 (Nat.le_of_eq hg.symm)) hb); have BK301 := Aside0.mk (hbox); have GW301 := Aside0.mk ((by rw [hg]; exact (below_size (bs1 HB GE295)) : w.heap.size ≤ gb301)); have GE301 := Aside0.mk ((by rw [hg]; exact (below_size (bs1 HB GE295)) : w.heap.size ≤ gb301)); replace HB := Aside0.mk (below_step (bs1 HB GE295) hb); have NB295_301 := Aside0.mk ((bn BK295 hg : gb295 ≠ gb301)); have NB301_295 := Aside0.mk ((bm BK295 hg : gb301 ≠ gb295)); replace BK295 := nb BK295 hb; clear hb hbox hg; have hnb49 := NB301_295.out; have hnc49 := NB295_301.out; obtain ⟨hcz50_0, hcz50_1, hcz50_2, hcz50_3, hcz50_4⟩ := cz5 BK301; obtain ⟨hfz50_0, hfz50_1, hfz50_2, hfz50_3, hfz50_4⟩ := fz5 BK301))
           have n0_ : Aside0 (Kd.R k71 71 (((((w48.setCell ⟨gb301, 0, none⟩ (.int .i64 ((rd_T71 l1 x22_2).f0))).setCell ⟨gb301, 1, none⟩ (.int .i64 ((rd_T71 l1 x22_2).f1))).setCell ⟨gb301, 2, none⟩ (.int .i64 ((rd_T71 l1 x22_2).f2.f0))).setCell ⟨gb301, 3, none⟩ (.int .i64 ((rd_T71 l1 x22_2).f2.f1))).setCell ⟨gb301, 4, none⟩ (.int .i64 ((rd_T71 l1 x22_2).f3))) w.heap.size (fun k_ => k_ ≠ gb301) u6 x6_2) := ⟨by (with_reducible repeat (first | apply Kd.R_alloc | apply Kd.R_drewN | apply Kd.R_drew)); exact Kd.R_mono (Kd.R_far (p := ⟨gb301, 4, none⟩) (Kd.R_far (p := ⟨gb301, 3, none⟩) (Kd.R_far (p := ⟨gb301, 2, none⟩) (Kd.R_far (p := ⟨gb301, 1, none⟩) (Kd.R_far (p := ⟨gb301, 0, none⟩) (Kd.R_mono HO_6.out (fun k_ hk => (⟨hk, hk.2⟩ : _ ∧ k_ ≠ gb301))) (fun _ hk => hk.2) (.int .i64 ((rd_T71 l1 x22_2).f0))) (fun _ hk => hk.2) (.int .i64 ((rd_T71 l1 x22_2).f1))) (fun _ hk => hk.2) (.int .i64 ((rd_T71 l1 x22_2).f2.f0))) (fun _ hk => hk.2) (.int .i64 ((rd_T71 l1 x22_2).f2.f1))) (fun _ hk => hk.2) (.int .i64 ((rd_T71 l1 x22_2).f3))) (fun _ hk => hk.1.2)⟩
           have n1_ : Aside0 ((((((w48.setCell ⟨gb301, 0, none⟩ (.int .i64 ((rd_T71 l1 x22_2).f0))).setCell ⟨gb301, 1, none⟩ (.int .i64 ((rd_T71 l1 x22_2).f1))).setCell ⟨gb301, 2, none⟩ (.int .i64 ((rd_T71 l1 x22_2).f2.f0))).setCell ⟨gb301, 3, none⟩ (.int .i64 ((rd_T71 l1 x22_2).f2.f1))).setCell ⟨gb301, 4, none⟩ (.int .i64 ((rd_T71 l1 x22_2).f3))).heap[gb295]? = some (.cells #[.int .i64 a0_0, .slice A0_1 l0_1.length c0_1, .slice A0_2 l0_2.length c0_2] 24 (0, 0))) := ⟨bf BK295 NB295_301⟩
           have n2_ : Aside0 ((((((w48.setCell ⟨gb301, 0, none⟩ (.int .i64 ((rd_T71 l1 x22_2).f0))).setCell ⟨gb301, 1, none⟩ (.int .i64 ((rd_T71 l1 x22_2).f1))).setCell ⟨gb301, 2, none⟩ (.int .i64 ((rd_T71 l1 x22_2).f2.f0))).setCell ⟨gb301, 3, none⟩ (.int .i64 ((rd_T71 l1 x22_2).f2.f1))).setCell ⟨gb301, 4, none⟩ (.int .i64 ((rd_T71 l1 x22_2).f3))).heap[gb301]? = some (.cells #[.int .i64 ((rd_T71 l1 x22_2).f0), .int .i64 ((rd_T71 l1 x22_2).f1), .int .i64 ((rd_T71 l1 x22_2).f2.f0), .int .i64 ((rd_T71 l1 x22_2).f2.f1), .int .i64 ((rd_T71 l1 x22_2).f3)] 71 (0, 0))) := ⟨by (with_reducible repeat (first | refine blk_drewN ?_ _ | refine blk_drew ?_ | refine blk_alloc ?_ _)); refine blk_put (cs := #[.int .i64 ((rd_T71 l1 x22_2).f0), .int .i64 ((rd_T71 l1 x22_2).f1), .int .i64 ((rd_T71 l1 x22_2).f2.f0), .int .i64 ((rd_T71 l1 x22_2).f2.f1), .int .i64 0]) ?_ 4 _ rfl; (with_reducible repeat (first | refine blk_drewN ?_ _ | refine blk_drew ?_ | refine blk_alloc ?_ _)); refine blk_put (cs := #[.int .i64 ((rd_T71 l1 x22_2).f0), .int .i64 ((rd_T71 l1 x22_2).f1), .int .i64 ((rd_T71 l1 x22_2).f2.f0), .int .i64 0, .int .i64 0]) ?_ 3 _ rfl; (with_reducible repeat (first | refine blk_drewN ?_ _ | refine blk_drew ?_ | refine blk_alloc ?_ _)); refine blk_put (cs := #[.int .i64 ((rd_T71 l1 x22_2).f0), .int .i64 ((rd_T71 l1 x22_2).f1), .int .i64 0, .int .i64 0, .int .i64 0]) ?_ 2 _ rfl; (with_reducible repeat (first | refine blk_drewN ?_ _ | refine blk_drew ?_ | refine blk_alloc ?_ _)); refine blk_put (cs := #[.int .i64 ((rd_T71 l1 x22_2).f0), .int .i64 0, .int .i64 0, .int .i64 0, .int .i64 0]) ?_ 1 _ rfl; (with_reducible repeat (first | refine blk_drewN ?_ _ | refine blk_drew ?_ | refine blk_alloc ?_ _)); refine blk_put (cs := #[.int .i64 0, .int .i64 0, .int .i64 0, .int .i64 0, .int .i64 0]) ?_ 0 _ rfl; (with_reducible repeat (first | refine blk_drewN ?_ _ | refine blk_drew ?_ | refine blk_alloc ?_ _)); exact BK301.out⟩
           have n3_ : Aside0 (Below w.heap.size w (((((w48.setCell ⟨gb301, 0, none⟩ (.int .i64 ((rd_T71 l1 x22_2).f0))).setCell ⟨gb301, 1, none⟩ (.int .i64 ((rd_T71 l1 x22_2).f1))).setCell ⟨gb301, 2, none⟩ (.int .i64 ((rd_T71 l1 x22_2).f2.f0))).setCell ⟨gb301, 3, none⟩ (.int .i64 ((rd_T71 l1 x22_2).f2.f1))).setCell ⟨gb301, 4, none⟩ (.int .i64 ((rd_T71 l1 x22_2).f3)))) := ⟨bs2 HB GE295 GE301⟩
           (try clear HO_6)
           (try clear BK295)
           (try clear BK301)
           (try clear HB)
           generalize (((((w48.setCell ⟨gb301, 0, none⟩ (.int .i64 ((rd_T71 l1 x22_2).f0))).setCell ⟨gb301, 1, none⟩ (.int .i64 ((rd_T71 l1 x22_2).f1))).setCell ⟨gb301, 2, none⟩ (.int .i64 ((rd_T71 l1 x22_2).f2.f0))).setCell ⟨gb301, 3, none⟩ (.int .i64 ((rd_T71 l1 x22_2).f2.f1))).setCell ⟨gb301, 4, none⟩ (.int .i64 ((rd_T71 l1 x22_2).f3))) = w51 at n0_ n1_ n2_ n3_ ⊢
           have HO_6 := n0_
           have BK295 := n1_
           have BK301 := n2_
           have HB := n3_
           clear n0_ n1_ n2_ n3_
           have n0_ := Aside0.mk (Kd.R_drew HO_6.out)
           have n1_ := Aside0.mk (blk_drew BK295.out)
           have n2_ := Aside0.mk (blk_drew BK301.out)
           have n3_ := Aside0.mk (below_drew1 HB.out)
           clear HO_6
           clear BK295
           clear BK301
           clear HB
           have HO_6 := n0_
           have BK295 := n1_
           have BK301 := n2_
           have HB := n3_
           clear n0_ n1_ n2_ n3_
           obtain ⟨Ao53, co53, eo53⟩ := Kd.R_slice HO_6.out
           (first | subst eo53 | (injection eo53 with f1_ f2_ f3_; have f4_ := f1_.symm; have f5_ := f3_.symm; clear f1_ f2_ f3_; subst f4_; subst f5_))
           refine start_ (n := 34) (S := fun w' => w'.cell? ⟨gb301, 0, none⟩ = some (.int .i64 ((rd_T71 l1 x22_2).f0)) ∧ w'.cell? ⟨gb301, 1, none⟩ = some (.int .i64 ((rd_T71 l1 x22_2).f1)) ∧ w'.cell? ⟨gb301, 2, none⟩ = some (.int .i64 ((rd_T71 l1 x22_2).f2.f0)) ∧ w'.cell? ⟨gb301, 3, none⟩ = some (.int .i64 ((rd_T71 l1 x22_2).f2.f1)) ∧ w'.cell? ⟨gb301, 4, none⟩ = some (.int .i64 ((rd_T71 l1 x22_2).f3))) (ds := []) #[false, false, false, false, false, false, false, false, false, false, false, false, false, false, false, false, false, false, false, false, false, false, false, false, false, false, false, false, false, false, false, false, false, false] (by kernel_rfl) rfl rfl ⟨(blk_cell BK301.out 0).trans rfl, (blk_cell BK301.out 1).trans rfl, (blk_cell BK301.out 2).trans rfl, (blk_cell BK301.out 3).trans rfl, (blk_cell BK301.out 4).trans rfl⟩ (fun hHeld => ?_); refine with_tabW impl_intentsOf.tab8 impl_intentsOf.bits8 (fun HT_ HW_ => ?_)
           generalize w51.drew = w52 at HO_6 BK295 BK301 HB hHeld ⊢
           refine pureS 0 29 HT_.out ?_
           refine pureS 2 31 HT_.out ?_
           refine pureS 3 32 HT_.out ?_
           refine takeS 1 30 HT_.out HW_.out hHeld (hr := by rintro w' ⟨s0, s1, s2, s3, s4⟩; go_simp; with_reducible rfl) (h := ?_)
           refine one_ (i := 4) (N := some 33) #[true, true, true, true, true, false, false, false, false, false, false, false, false, false, false, false, false, false, false, false, false, false, false, false, false, false, false, false, false, false, false, false, false, false] rfl rfl (one_of HT_.out (by kernel_rfl)) (by decide) (fun K hK => ?_)
           refine goes_ Try.func32 (by kernel_rfl) rfl #[.int .i64 ((rd_T71 l1 x22_2).f1), .int .i64 1, .int .i64 (x6_2.length : Int)] (by rfl) rfl rfl (by (try simp only [List.map_toArray, List.map_cons, List.map_nil]); first | done | rfl | (simp only [List.length_drop, List.length_take]; rfl)) ?_
           with_reducible refine (impl_within.calls ((rd_T71 l1 x22_2).f1) 1 (x6_2.length : Int) false _ A18.out).mono ?_
           rintro e w' ⟨rfl, ⟨nd, rfl⟩⟩
           refine ⟨_, rfl, ?_⟩
           refine hK.out _ _ ⟨(blk_cell BK301.out 0).trans rfl, (blk_cell BK301.out 1).trans rfl, (blk_cell BK301.out 2).trans rfl, (blk_cell BK301.out 3).trans rfl, (blk_cell BK301.out 4).trans rfl⟩ (fun hHeld => ?_)
           clear hK K
           refine norm_ (a' := ?_) ?_ ?_
           rotate_left
           ·
            show Act.put _ (some 33) _ = _
            simp only [Act.put, List.setIfInBounds_toArray, List.set_cons_zero, List.set_cons_succ, i64_w, i32_w]
            rfl
           refine pureS 5 34 HT_.out ?_
           refine pureS 6 35 HT_.out ?_
           refine pureU 7 36 HT_.out ?_
           refine pureU 8 37 HT_.out ?_
           refine pureU 9 38 HT_.out ?_
           refine pureU 10 39 HT_.out ?_
           refine pureS 11 40 HT_.out ?_
           refine pureS 12 41 HT_.out ?_
           refine pureU 13 42 HT_.out ?_
           refine pureU 14 43 HT_.out ?_
           refine pureU 15 44 HT_.out ?_
           refine pureU 16 45 HT_.out ?_
           refine pureU 17 46 HT_.out ?_
           refine pureU 18 47 HT_.out ?_
           refine pureU 19 48 HT_.out ?_
           refine pureU 20 49 HT_.out ?_
           refine pureU 21 50 HT_.out ?_
           refine pureU 22 51 HT_.out ?_
           refine pureU 23 52 HT_.out ?_
           refine pureU 24 53 HT_.out ?_
           refine pureU 25 54 HT_.out ?_
           refine pureU 26 55 HT_.out ?_
           refine pureU 27 56 HT_.out ?_
           refine pureU 28 57 HT_.out ?_
           refine pureU 29 58 HT_.out ?_
           refine pureU 30 59 HT_.out ?_
           refine pureU 31 60 HT_.out ?_
           refine pureU 32 61 HT_.out ?_
           refine pureS 33 62 HT_.out ?_
           refine done_ (done_of HT_.out (by kernel_rfl)) ?_
           try go_wp2
           go_ret2
           exact ⟨_, by first | rfl | (simp [errW_none, errW_some] <;> rfl) | (simp [*, errW_none, errW_some] <;> rfl), by first | exact Kd.R_nil _ _ _ _ _ | exact Kd.N_nil _ _ _ _ _ | exact Kd.V_nil _ _ _ _ _ | exact Kd.Q_nil _ _ _ _ _ | exact Kd.S_nil _ _ _ _ _, bs2 HB GE295 GE301⟩
         ·
          rw [if_neg c17] at H
          have c17b0 : (((rd_T71 l1 x22_2).f0) == 2) = false := beq_eq_false_iff_ne.mpr c17
          have c17b1 : (((rd_T71 l1 x22_2).f0) != 2) = true := bne_iff_ne.mpr c17
          by_cases c54 : ((rd_T71 l1 x22_2).f0) = 1
          ·
           rw [if_pos c54] at H
           have c54b0 : (((rd_T71 l1 x22_2).f0) == 1) = true := beq_iff_eq.mpr c54
           have c54b1 : (((rd_T71 l1 x22_2).f0) != 1) = false := bne_eq_false_iff_eq.mpr c54
           clear c54
           by_cases c55 : ((rd_T71 l1 x22_2).f1) = (wrap64 ((x6_2.length : Int) + 1))
           ·
            rw [if_pos c55] at H
            have c55b0 : (((rd_T71 l1 x22_2).f1) == (wrap64 ((x6_2.length : Int) + 1))) = true := beq_iff_eq.mpr c55
            have c55b1 : (((rd_T71 l1 x22_2).f1) != (wrap64 ((x6_2.length : Int) + 1))) = false := bne_eq_false_iff_eq.mpr c55
            clear c55
            by_cases c56 : ((rd_T71 l1 x22_2).f3) = 0
            ·
             rw [if_pos c56] at H
             have c56b0 : (((rd_T71 l1 x22_2).f3) == 0) = true := beq_iff_eq.mpr c56
             have c56b1 : (((rd_T71 l1 x22_2).f3) != 0) = false := bne_eq_false_iff_eq.mpr c56
             clear c56
             replace H := Option.bind_eq_some_iff.mp H
             obtain ⟨t307, A570, H⟩ := H
             replace H : (if t307 = true then ((slices_ContainsFunc_impl_Item_at_impl_intentsOf_1.f k2 x6_2 ((rd_T71 l1 x22_2).f0) ((rd_T71 l1 x22_2).f1) ((rd_T71 l1 x22_2).f2.f0) ((rd_T71 l1 x22_2).f2.f1) ((rd_T71 l1 x22_2).f3)).bind fun t308 => (if t308 = true then (some (([] : List (S71)), false)) else ((slices_ContainsFunc_impl_Extent_at_impl_intentsOf_2.f k2 l0_1 ((rd_T71 l1 x22_2).f0) ((rd_T71 l1 x22_2).f1) ((rd_T71 l1 x22_2).f2.f0) ((rd_T71 l1 x22_2).f2.f1) ((rd_T71 l1 x22_2).f3)).bind fun t309 => (if t309 = true then (some (([] : List (S71)), false)) else (if x6_2.length < 3518437208883 then (impl_intentsOf.l0 k2 (x6_2 ++ [(⟨(rd_T71 l1 x22_2).f0, (rd_T71 l1 x22_2).f1, (⟨(rd_T71 l1 x22_2).f2.f0, (rd_T71 l1 x22_2).f2.f1⟩ : S53), (rd_T71 l1 x22_2).f3⟩ : S71)]) l1 (l1.length : Int) (wrap64 (x22_2 + 1)) a0_0 l0_1 l0_2) else (none)))))) else (some (([] : List (S71)), false))) = some (r1, r2) := H
             have A57 := Aside0.mk A570
             clear A570
             by_cases c58 : t307 = true
             ·
              subst c58
              rw [if_pos rfl] at H
              replace H := Option.bind_eq_some_iff.mp H
              obtain ⟨t308, A590, H⟩ := H
              replace H : (if t308 = true then (some (([] : List (S71)), false)) else ((slices_ContainsFunc_impl_Extent_at_impl_intentsOf_2.f k2 l0_1 ((rd_T71 l1 x22_2).f0) ((rd_T71 l1 x22_2).f1) ((rd_T71 l1 x22_2).f2.f0) ((rd_T71 l1 x22_2).f2.f1) ((rd_T71 l1 x22_2).f3)).bind fun t309 => (if t309 = true then (some (([] : List (S71)), false)) else (if x6_2.length < 3518437208883 then (impl_intentsOf.l0 k2 (x6_2 ++ [(⟨(rd_T71 l1 x22_2).f0, (rd_T71 l1 x22_2).f1, (⟨(rd_T71 l1 x22_2).f2.f0, (rd_T71 l1 x22_2).f2.f1⟩ : S53), (rd_T71 l1 x22_2).f3⟩ : S71)]) l1 (l1.length : Int) (wrap64 (x22_2 + 1)) a0_0 l0_1 l0_2) else (none))))) = some (r1, r2) := H
              have A59 := Aside0.mk A590
              clear A590
              by_cases c60 : t308 = true
              ·
               subst c60
               rw [if_pos rfl] at H
               simp only [Option.some.injEq, Prod.mk.injEq] at H
               obtain ⟨rfl, rfl⟩ := H
               have p300 : 0 ≤ (x22_2 : Int) := of_decide_eq_true (by first | (with_reducible assumption) | assumption)
               have q300 : x22_2 < (l1.length : Int) := of_decide_eq_true (by first | (with_reducible assumption) | assumption)
               obtain ⟨ad300, e300, hx300_0, hx300_1, hx300_2, hx300_3, hx300_4⟩ := at_T71 HR1.out x22_2 p300 q300
               cases e300
               replace hx300_0 := (HB.out.cell (World.block_lt_of_cell? w _ hx300_0)).trans hx300_0
               replace hx300_1 := (HB.out.cell (World.block_lt_of_cell? w _ hx300_1)).trans hx300_1
               replace hx300_2 := (HB.out.cell (World.block_lt_of_cell? w _ hx300_2)).trans hx300_2
               replace hx300_3 := (HB.out.cell (World.block_lt_of_cell? w _ hx300_3)).trans hx300_3
               replace hx300_4 := (HB.out.cell (World.block_lt_of_cell? w _ hx300_4)).trans hx300_4
               replace p300 := eq_true p300
               replace q300 := eq_true q300
               go_wp2_with (first | ((with_reducible refine gate_dst (N := 8) rfl ?_); (try (refine gate_guard (by rfl) ?_; dsimp only)); refine box_event ?hg (N := 8) ?hd (cs := #[.int .i64 0, .int .i64 0, .int .i64 0, .int .i64 0, .int .i64 0]) (t := 71) ?hr ?_; (case hd => rfl); (case hg => rfl); (case hr => first | (go_simp; done) | (go_simp; rfl)); intro gb301 hg w61 hbox hb; replace HO_6 := Aside0.mk (Kd.R_below (Kd.R_elderB (rr HO_6.out) gb301 (Nat.le_of_eq hg.symm)) hb); have BK301 := Aside0.mk (hbox); have GW301 := Aside0.mk ((by rw [hg]; exact (below_size (bs1 HB GE295)) : w.heap.size ≤ gb301)); have GE301 := Aside0.mk ((by rw [hg]; exact (below_size (bs1 HB GE295)) : w.heap.size ≤ gb301)); replace HB := Aside0.mk (below_step (bs1 HB GE295) hb); have NB295_301 := Aside0.mk ((bn BK295 hg : gb295 ≠ gb301)); have NB301_295 := Aside0.mk ((bm BK295 hg : gb301 ≠ gb295)); replace BK295 := nb BK295 hb; clear hb hbox hg; have hnb62 := NB301_295.out; have hnc62 := NB295_301.out; obtain ⟨hcz63_0, hcz63_1, hcz63_2, hcz63_3, hcz63_4⟩ := cz5 BK301; obtain ⟨hfz63_0, hfz63_1, hfz63_2, hfz63_3, hfz63_4⟩ := fz5 BK301; obtain ⟨Ao64, co64, eo64⟩ := Kd.R_slice HO_6.out; subst eo64; obtain ⟨hcz65_0, hcz65_1, hcz65_2⟩ := cz3 BK295; obtain ⟨hfz65_0, hfz65_1, hfz65_2⟩ := fz3 BK295) | (go_at_call 78; (with_reducible refine (impl_isExtent.calls ((rd_T71 l1 x22_2).f2.f0) ((rd_T71 l1 x22_2).f2.f1) a0_0 true _ A57.out).mono ?_); rintro e w66 ⟨rfl, hb⟩; replace HO_6 := Aside0.mk (Kd.R_below (by (with_reducible repeat (first | apply Kd.R_alloc | apply Kd.R_drewN | apply Kd.R_drew)); exact (Kd.R_mono (Kd.R_far (p := ⟨gb301, 4, none⟩) (Kd.R_far (p := ⟨gb301, 3, none⟩) (Kd.R_far (p := ⟨gb301, 2, none⟩) (Kd.R_far (p := ⟨gb301, 1, none⟩) (Kd.R_far (p := ⟨gb301, 0, none⟩) (Kd.R_mono HO_6.out (fun k_ hk => (⟨hk, hk.2⟩ : _ ∧ k_ ≠ gb301))) (fun _ hk => hk.2) (.int .i64 ((rd_T71 l1 x22_2).f0))) (fun _ hk => hk.2) (.int .i64 ((rd_T71 l1 x22_2).f1))) (fun _ hk => hk.2) (.int .i64 ((rd_T71 l1 x22_2).f2.f0))) (fun _ hk => hk.2) (.int .i64 ((rd_T71 l1 x22_2).f2.f1))) (fun _ hk => hk.2) (.int .i64 ((rd_T71 l1 x22_2).f3))) (fun _ h_ => h_.1))) hb); replace BK295 := Aside0.mk (blk_below (bf BK295 NB295_301) hb); replace BK301 := Aside0.mk (blk_below (g := gb301) (o := .cells #[.int .i64 ((rd_T71 l1 x22_2).f0), .int .i64 ((rd_T71 l1 x22_2).f1), .int .i64 ((rd_T71 l1 x22_2).f2.f0), .int .i64 ((rd_T71 l1 x22_2).f2.f1), .int .i64 ((rd_T71 l1 x22_2).f3)] 71 (0, 0)) (by (with_reducible repeat (first | refine blk_drewN ?_ _ | refine blk_drew ?_ | refine blk_alloc ?_ _)); refine blk_put (cs := #[.int .i64 ((rd_T71 l1 x22_2).f0), .int .i64 ((rd_T71 l1 x22_2).f1), .int .i64 ((rd_T71 l1 x22_2).f2.f0), .int .i64 ((rd_T71 l1 x22_2).f2.f1), .int .i64 0]) ?_ 4 _ rfl; (with_reducible repeat (first | refine blk_drewN ?_ _ | refine blk_drew ?_ | refine blk_alloc ?_ _)); refine blk_put (cs := #[.int .i64 ((rd_T71 l1 x22_2).f0), .int .i64 ((rd_T71 l1 x22_2).f1), .int .i64 ((rd_T71 l1 x22_2).f2.f0), .int .i64 0, .int .i64 0]) ?_ 3 _ rfl; (with_reducible repeat (first | refine blk_drewN ?_ _ | refine blk_drew ?_ | refine blk_alloc ?_ _)); refine blk_put (cs := #[.int .i64 ((rd_T71 l1 x22_2).f0), .int .i64 ((rd_T71 l1 x22_2).f1), .int .i64 0, .int .i64 0, .int .i64 0]) ?_ 2 _ rfl; (with_reducible repeat (first | refine blk_drewN ?_ _ | refine blk_drew ?_ | refine blk_alloc ?_ _)); refine blk_put (cs := #[.int .i64 ((rd_T71 l1 x22_2).f0), .int .i64 0, .int .i64 0, .int .i64 0, .int .i64 0]) ?_ 1 _ rfl; (with_reducible repeat (first | refine blk_drewN ?_ _ | refine blk_drew ?_ | refine blk_alloc ?_ _)); refine blk_put (cs := #[.int .i64 0, .int .i64 0, .int .i64 0, .int .i64 0, .int .i64 0]) ?_ 0 _ rfl; (with_reducible repeat (first | refine blk_drewN ?_ _ | refine blk_drew ?_ | refine blk_alloc ?_ _)); exact BK301.out) hb); replace HB := Aside0.mk (below_step (bs2 HB GE295 GE301) hb); (try clear hb); (try clear hb2); (try clear hk); (try clear hi)) | (go_at_call 79; (with_reducible refine (slices_ContainsFunc_impl_Item_at_impl_intentsOf_1.calls k2 _ _ x6_2 gb301 ((rd_T71 l1 x22_2).f0) ((rd_T71 l1 x22_2).f1) ((rd_T71 l1 x22_2).f2.f0) ((rd_T71 l1 x22_2).f2.f1) ((rd_T71 l1 x22_2).f3) true _ ?side1 ?side2 ?side3 A59.out).mono ?_); (case side1 => exact rc0 HO_6); (case side2 => exact (Kd.R_reads' HO_6.out).2.1); (case side3 => (with_reducible repeat (first | refine blk_drewN ?_ _ | refine blk_drew ?_ | refine blk_alloc ?_ _)); exact BK301.out); rintro e w67 ⟨rfl, hb⟩; replace HO_6 := nr HO_6 hb; replace BK295 := nb BK295 hb; replace BK301 := nb BK301 hb; replace HB := Aside0.mk (below_step (bs2 HB GE295 GE301) hb); (try clear hb); (try clear hb2); (try clear hk); (try clear hi)))
               go_ret2
               exact ⟨_, by first | rfl | (simp [errW_none, errW_some] <;> rfl) | (simp [*, errW_none, errW_some] <;> rfl), by first | exact Kd.R_nil _ _ _ _ _ | exact Kd.N_nil _ _ _ _ _ | exact Kd.V_nil _ _ _ _ _ | exact Kd.Q_nil _ _ _ _ _ | exact Kd.S_nil _ _ _ _ _, bs2 HB GE295 GE301⟩
              ·
               replace c60 := Bool.eq_false_iff.mpr c60
               subst c60
               rw [if_neg (show ¬ (false = true) by decide)] at H
               replace H := Option.bind_eq_some_iff.mp H
               obtain ⟨t309, A680, H⟩ := H
               replace H : (if t309 = true then (some (([] : List (S71)), false)) else (if x6_2.length < 3518437208883 then (impl_intentsOf.l0 k2 (x6_2 ++ [(⟨(rd_T71 l1 x22_2).f0, (rd_T71 l1 x22_2).f1, (⟨(rd_T71 l1 x22_2).f2.f0, (rd_T71 l1 x22_2).f2.f1⟩ : S53), (rd_T71 l1 x22_2).f3⟩ : S71)]) l1 (l1.length : Int) (wrap64 (x22_2 + 1)) a0_0 l0_1 l0_2) else (none))) = some (r1, r2) := H
               have A68 := Aside0.mk A680
               clear A680
               by_cases c69 : t309 = true
               ·
                subst c69
                rw [if_pos rfl] at H
                simp only [Option.some.injEq, Prod.mk.injEq] at H
                obtain ⟨rfl, rfl⟩ := H
                have p300 : 0 ≤ (x22_2 : Int) := of_decide_eq_true (by first | (with_reducible assumption) | assumption)
                have q300 : x22_2 < (l1.length : Int) := of_decide_eq_true (by first | (with_reducible assumption) | assumption)
                obtain ⟨ad300, e300, hx300_0, hx300_1, hx300_2, hx300_3, hx300_4⟩ := at_T71 HR1.out x22_2 p300 q300
                cases e300
                replace hx300_0 := (HB.out.cell (World.block_lt_of_cell? w _ hx300_0)).trans hx300_0
                replace hx300_1 := (HB.out.cell (World.block_lt_of_cell? w _ hx300_1)).trans hx300_1
                replace hx300_2 := (HB.out.cell (World.block_lt_of_cell? w _ hx300_2)).trans hx300_2
                replace hx300_3 := (HB.out.cell (World.block_lt_of_cell? w _ hx300_3)).trans hx300_3
                replace hx300_4 := (HB.out.cell (World.block_lt_of_cell? w _ hx300_4)).trans hx300_4
                replace p300 := eq_true p300
                replace q300 := eq_true q300
                go_wp2_with (first | ((with_reducible refine gate_dst (N := 8) rfl ?_); (try (refine gate_guard (by rfl) ?_; dsimp only)); refine box_event ?hg (N := 8) ?hd (cs := #[.int .i64 0, .int .i64 0, .int .i64 0, .int .i64 0, .int .i64 0]) (t := 71) ?hr ?_; (case hd => rfl); (case hg => rfl); (case hr => first | (go_simp; done) | (go_simp; rfl)); intro gb301 hg w70 hbox hb; replace HO_6 := Aside0.mk (Kd.R_below (Kd.R_elderB (rr HO_6.out) gb301 (Nat.le_of_eq hg.symm)) hb); have BK301 := Aside0.mk (hbox); have GW301 := Aside0.mk ((by rw [hg]; exact (below_size (bs1 HB GE295)) : w.heap.size ≤ gb301)); have GE301 := Aside0.mk ((by rw [hg]; exact (below_size (bs1 HB GE295)) : w.heap.size ≤ gb301)); replace HB := Aside0.mk (below_step (bs1 HB GE295) hb); have NB295_301 := Aside0.mk ((bn BK295 hg : gb295 ≠ gb301)); have NB301_295 := Aside0.mk ((bm BK295 hg : gb301 ≠ gb295)); replace BK295 := nb BK295 hb; clear hb hbox hg; have hnb71 := NB301_295.out; have hnc71 := NB295_301.out; obtain ⟨hcz72_0, hcz72_1, hcz72_2, hcz72_3, hcz72_4⟩ := cz5 BK301; obtain ⟨hfz72_0, hfz72_1, hfz72_2, hfz72_3, hfz72_4⟩ := fz5 BK301; obtain ⟨Ao73, co73, eo73⟩ := Kd.R_slice HO_6.out; subst eo73; obtain ⟨hcz74_0, hcz74_1, hcz74_2⟩ := cz3 BK295; obtain ⟨hfz74_0, hfz74_1, hfz74_2⟩ := fz3 BK295) | (go_at_call 78; (with_reducible refine (impl_isExtent.calls ((rd_T71 l1 x22_2).f2.f0) ((rd_T71 l1 x22_2).f2.f1) a0_0 true _ A57.out).mono ?_); rintro e w75 ⟨rfl, hb⟩; replace HO_6 := Aside0.mk (Kd.R_below (by (with_reducible repeat (first | apply Kd.R_alloc | apply Kd.R_drewN | apply Kd.R_drew)); exact (Kd.R_mono (Kd.R_far (p := ⟨gb301, 4, none⟩) (Kd.R_far (p := ⟨gb301, 3, none⟩) (Kd.R_far (p := ⟨gb301, 2, none⟩) (Kd.R_far (p := ⟨gb301, 1, none⟩) (Kd.R_far (p := ⟨gb301, 0, none⟩) (Kd.R_mono HO_6.out (fun k_ hk => (⟨hk, hk.2⟩ : _ ∧ k_ ≠ gb301))) (fun _ hk => hk.2) (.int .i64 ((rd_T71 l1 x22_2).f0))) (fun _ hk => hk.2) (.int .i64 ((rd_T71 l1 x22_2).f1))) (fun _ hk => hk.2) (.int .i64 ((rd_T71 l1 x22_2).f2.f0))) (fun _ hk => hk.2) (.int .i64 ((rd_T71 l1 x22_2).f2.f1))) (fun _ hk => hk.2) (.int .i64 ((rd_T71 l1 x22_2).f3))) (fun _ h_ => h_.1))) hb); replace BK295 := Aside0.mk (blk_below (bf BK295 NB295_301) hb); replace BK301 := Aside0.mk (blk_below (g := gb301) (o := .cells #[.int .i64 ((rd_T71 l1 x22_2).f0), .int .i64 ((rd_T71 l1 x22_2).f1), .int .i64 ((rd_T71 l1 x22_2).f2.f0), .int .i64 ((rd_T71 l1 x22_2).f2.f1), .int .i64 ((rd_T71 l1 x22_2).f3)] 71 (0, 0)) (by (with_reducible repeat (first | refine blk_drewN ?_ _ | refine blk_drew ?_ | refine blk_alloc ?_ _)); refine blk_put (cs := #[.int .i64 ((rd_T71 l1 x22_2).f0), .int .i64 ((rd_T71 l1 x22_2).f1), .int .i64 ((rd_T71 l1 x22_2).f2.f0), .int .i64 ((rd_T71 l1 x22_2).f2.f1), .int .i64 0]) ?_ 4 _ rfl; (with_reducible repeat (first | refine blk_drewN ?_ _ | refine blk_drew ?_ | refine blk_alloc ?_ _)); refine blk_put (cs := #[.int .i64 ((rd_T71 l1 x22_2).f0), .int .i64 ((rd_T71 l1 x22_2).f1), .int .i64 ((rd_T71 l1 x22_2).f2.f0), .int .i64 0, .int .i64 0]) ?_ 3 _ rfl; (with_reducible repeat (first | refine blk_drewN ?_ _ | refine blk_drew ?_ | refine blk_alloc ?_ _)); refine blk_put (cs := #[.int .i64 ((rd_T71 l1 x22_2).f0), .int .i64 ((rd_T71 l1 x22_2).f1), .int .i64 0, .int .i64 0, .int .i64 0]) ?_ 2 _ rfl; (with_reducible repeat (first | refine blk_drewN ?_ _ | refine blk_drew ?_ | refine blk_alloc ?_ _)); refine blk_put (cs := #[.int .i64 ((rd_T71 l1 x22_2).f0), .int .i64 0, .int .i64 0, .int .i64 0, .int .i64 0]) ?_ 1 _ rfl; (with_reducible repeat (first | refine blk_drewN ?_ _ | refine blk_drew ?_ | refine blk_alloc ?_ _)); refine blk_put (cs := #[.int .i64 0, .int .i64 0, .int .i64 0, .int .i64 0, .int .i64 0]) ?_ 0 _ rfl; (with_reducible repeat (first | refine blk_drewN ?_ _ | refine blk_drew ?_ | refine blk_alloc ?_ _)); exact BK301.out) hb); replace HB := Aside0.mk (below_step (bs2 HB GE295 GE301) hb); (try clear hb); (try clear hb2); (try clear hk); (try clear hi)) | (go_at_call 79; (with_reducible refine (slices_ContainsFunc_impl_Item_at_impl_intentsOf_1.calls k2 _ _ x6_2 gb301 ((rd_T71 l1 x22_2).f0) ((rd_T71 l1 x22_2).f1) ((rd_T71 l1 x22_2).f2.f0) ((rd_T71 l1 x22_2).f2.f1) ((rd_T71 l1 x22_2).f3) false _ ?side1 ?side2 ?side3 A59.out).mono ?_); (case side1 => exact rc0 HO_6); (case side2 => exact (Kd.R_reads' HO_6.out).2.1); (case side3 => (with_reducible repeat (first | refine blk_drewN ?_ _ | refine blk_drew ?_ | refine blk_alloc ?_ _)); exact BK301.out); rintro e w76 ⟨rfl, hb⟩; replace HO_6 := nr HO_6 hb; replace BK295 := nb BK295 hb; replace BK301 := nb BK301 hb; replace HB := Aside0.mk (below_step (bs2 HB GE295 GE301) hb); (try clear hb); (try clear hb2); (try clear hk); (try clear hi); obtain ⟨hcz77_0, hcz77_1, hcz77_2⟩ := cz3 BK295; obtain ⟨hfz77_0, hfz77_1, hfz77_2⟩ := fz3 BK295) | (go_at_call 80; (with_reducible refine (slices_ContainsFunc_impl_Extent_at_impl_intentsOf_2.calls k2 _ _ l0_1 gb301 ((rd_T71 l1 x22_2).f0) ((rd_T71 l1 x22_2).f1) ((rd_T71 l1 x22_2).f2.f0) ((rd_T71 l1 x22_2).f2.f1) ((rd_T71 l1 x22_2).f3) true _ ?side1 ?side2 ?side3 A68.out).mono ?_); (case side1 => exact cb HR0_1 HB); (case side2 => exact HC0_1.out); (case side3 => (with_reducible repeat (first | refine blk_drewN ?_ _ | refine blk_drew ?_ | refine blk_alloc ?_ _)); exact BK301.out); rintro e w78 ⟨rfl, hb⟩; replace HO_6 := nr HO_6 hb; replace BK295 := nb BK295 hb; replace BK301 := nb BK301 hb; replace HB := Aside0.mk (below_step (bs2 HB GE295 GE301) hb); (try clear hb); (try clear hb2); (try clear hk); (try clear hi)))
                go_ret2
                exact ⟨_, by first | rfl | (simp [errW_none, errW_some] <;> rfl) | (simp [*, errW_none, errW_some] <;> rfl), by first | exact Kd.R_nil _ _ _ _ _ | exact Kd.N_nil _ _ _ _ _ | exact Kd.V_nil _ _ _ _ _ | exact Kd.Q_nil _ _ _ _ _ | exact Kd.S_nil _ _ _ _ _, bs2 HB GE295 GE301⟩
               ·
                replace c69 := Bool.eq_false_iff.mpr c69
                subst c69
                rw [if_neg (show ¬ (false = true) by decide)] at H
                by_cases c79 : x6_2.length < 3518437208883
                ·
                 rw [if_pos c79] at H
                 have LMc79 := Aside0.mk c79
                 clear c79
                 obtain ⟨y310, hy310⟩ : ∃ y_ : List (S71), y_ = (x6_2 ++ [(⟨(rd_T71 l1 x22_2).f0, (rd_T71 l1 x22_2).f1, (⟨(rd_T71 l1 x22_2).f2.f0, (rd_T71 l1 x22_2).f2.f1⟩ : S53), (rd_T71 l1 x22_2).f3⟩ : S71)]) := ⟨_, rfl⟩
                 replace H : (impl_intentsOf.l0 k2 y310 l1 (l1.length : Int) (wrap64 (x22_2 + 1)) a0_0 l0_1 l0_2) = some (r1, r2) := by first | (rw [hy310]; with_reducible exact H) | (have H2_ := (Option.bind_some _ _).symm.trans H; rw [hy310]; with_reducible exact H2_) | (have H2_ := (Option.bind_some _ _).symm.trans H; with_reducible exact H2_) | with_reducible exact H | (rw [hy310]; exact H) | exact H
                 have Ny310 := Aside0.mk hy310
                 clear hy310
                 have H' := Aside0.mk H
                 clear H
                 have p300 : 0 ≤ (x22_2 : Int) := of_decide_eq_true (by first | (with_reducible assumption) | assumption)
                 have q300 : x22_2 < (l1.length : Int) := of_decide_eq_true (by first | (with_reducible assumption) | assumption)
                 obtain ⟨ad300, e300, hx300_0, hx300_1, hx300_2, hx300_3, hx300_4⟩ := at_T71 HR1.out x22_2 p300 q300
                 cases e300
                 replace hx300_0 := (HB.out.cell (World.block_lt_of_cell? w _ hx300_0)).trans hx300_0
                 replace hx300_1 := (HB.out.cell (World.block_lt_of_cell? w _ hx300_1)).trans hx300_1
                 replace hx300_2 := (HB.out.cell (World.block_lt_of_cell? w _ hx300_2)).trans hx300_2
                 replace hx300_3 := (HB.out.cell (World.block_lt_of_cell? w _ hx300_3)).trans hx300_3
                 replace hx300_4 := (HB.out.cell (World.block_lt_of_cell? w _ hx300_4)).trans hx300_4
                 replace p300 := eq_true p300
                 replace q300 := eq_true q300
                 go_wp2_with (first | ((with_reducible refine gate_dst (N := 8) rfl ?_); (try (refine gate_guard (by rfl) ?_; dsimp only)); refine box_event ?hg (N := 8) ?hd (cs := #[.int .i64 0, .int .i64 0, .int .i64 0, .int .i64 0, .int .i64 0]) (t := 71) ?hr ?_; (case hd => rfl); (case hg => rfl); (case hr => first | (go_simp; done) | (go_simp; rfl)); intro gb301 hg w80 hbox hb; replace HO_6 := Aside0.mk (Kd.R_below (Kd.R_elderB (rr HO_6.out) gb301 (Nat.le_of_eq hg.symm)) hb); have BK301 := Aside0.mk (hbox); have GW301 := Aside0.mk ((by rw [hg]; exact (below_size (bs1 HB GE295)) : w.heap.size ≤ gb301)); have GE301 := Aside0.mk ((by rw [hg]; exact (below_size (bs1 HB GE295)) : w.heap.size ≤ gb301)); replace HB := Aside0.mk (below_step (bs1 HB GE295) hb); have NB295_301 := Aside0.mk ((bn BK295 hg : gb295 ≠ gb301)); have NB301_295 := Aside0.mk ((bm BK295 hg : gb301 ≠ gb295)); replace BK295 := nb BK295 hb; clear hb hbox hg; have hnb81 := NB301_295.out; have hnc81 := NB295_301.out; obtain ⟨hcz82_0, hcz82_1, hcz82_2, hcz82_3, hcz82_4⟩ := cz5 BK301; obtain ⟨hfz82_0, hfz82_1, hfz82_2, hfz82_3, hfz82_4⟩ := fz5 BK301; obtain ⟨Ao83, co83, eo83⟩ := Kd.R_slice HO_6.out; subst eo83; obtain ⟨hcz84_0, hcz84_1, hcz84_2⟩ := cz3 BK295; obtain ⟨hfz84_0, hfz84_1, hfz84_2⟩ := fz3 BK295) | (go_at_call 78; (with_reducible refine (impl_isExtent.calls ((rd_T71 l1 x22_2).f2.f0) ((rd_T71 l1 x22_2).f2.f1) a0_0 true _ A57.out).mono ?_); rintro e w85 ⟨rfl, hb⟩; replace HO_6 := Aside0.mk (Kd.R_below (by (with_reducible repeat (first | apply Kd.R_alloc | apply Kd.R_drewN | apply Kd.R_drew)); exact (Kd.R_mono (Kd.R_far (p := ⟨gb301, 4, none⟩) (Kd.R_far (p := ⟨gb301, 3, none⟩) (Kd.R_far (p := ⟨gb301, 2, none⟩) (Kd.R_far (p := ⟨gb301, 1, none⟩) (Kd.R_far (p := ⟨gb301, 0, none⟩) (Kd.R_mono HO_6.out (fun k_ hk => (⟨hk, hk.2⟩ : _ ∧ k_ ≠ gb301))) (fun _ hk => hk.2) (.int .i64 ((rd_T71 l1 x22_2).f0))) (fun _ hk => hk.2) (.int .i64 ((rd_T71 l1 x22_2).f1))) (fun _ hk => hk.2) (.int .i64 ((rd_T71 l1 x22_2).f2.f0))) (fun _ hk => hk.2) (.int .i64 ((rd_T71 l1 x22_2).f2.f1))) (fun _ hk => hk.2) (.int .i64 ((rd_T71 l1 x22_2).f3))) (fun _ h_ => h_.1))) hb); replace BK295 := Aside0.mk (blk_below (bf BK295 NB295_301) hb); replace BK301 := Aside0.mk (blk_below (g := gb301) (o := .cells #[.int .i64 ((rd_T71 l1 x22_2).f0), .int .i64 ((rd_T71 l1 x22_2).f1), .int .i64 ((rd_T71 l1 x22_2).f2.f0), .int .i64 ((rd_T71 l1 x22_2).f2.f1), .int .i64 ((rd_T71 l1 x22_2).f3)] 71 (0, 0)) (by (with_reducible repeat (first | refine blk_drewN ?_ _ | refine blk_drew ?_ | refine blk_alloc ?_ _)); refine blk_put (cs := #[.int .i64 ((rd_T71 l1 x22_2).f0), .int .i64 ((rd_T71 l1 x22_2).f1), .int .i64 ((rd_T71 l1 x22_2).f2.f0), .int .i64 ((rd_T71 l1 x22_2).f2.f1), .int .i64 0]) ?_ 4 _ rfl; (with_reducible repeat (first | refine blk_drewN ?_ _ | refine blk_drew ?_ | refine blk_alloc ?_ _)); refine blk_put (cs := #[.int .i64 ((rd_T71 l1 x22_2).f0), .int .i64 ((rd_T71 l1 x22_2).f1), .int .i64 ((rd_T71 l1 x22_2).f2.f0), .int .i64 0, .int .i64 0]) ?_ 3 _ rfl; (with_reducible repeat (first | refine blk_drewN ?_ _ | refine blk_drew ?_ | refine blk_alloc ?_ _)); refine blk_put (cs := #[.int .i64 ((rd_T71 l1 x22_2).f0), .int .i64 ((rd_T71 l1 x22_2).f1), .int .i64 0, .int .i64 0, .int .i64 0]) ?_ 2 _ rfl; (with_reducible repeat (first | refine blk_drewN ?_ _ | refine blk_drew ?_ | refine blk_alloc ?_ _)); refine blk_put (cs := #[.int .i64 ((rd_T71 l1 x22_2).f0), .int .i64 0, .int .i64 0, .int .i64 0, .int .i64 0]) ?_ 1 _ rfl; (with_reducible repeat (first | refine blk_drewN ?_ _ | refine blk_drew ?_ | refine blk_alloc ?_ _)); refine blk_put (cs := #[.int .i64 0, .int .i64 0, .int .i64 0, .int .i64 0, .int .i64 0]) ?_ 0 _ rfl; (with_reducible repeat (first | refine blk_drewN ?_ _ | refine blk_drew ?_ | refine blk_alloc ?_ _)); exact BK301.out) hb); replace HB := Aside0.mk (below_step (bs2 HB GE295 GE301) hb); (try clear hb); (try clear hb2); (try clear hk); (try clear hi)) | (go_at_call 79; (with_reducible refine (slices_ContainsFunc_impl_Item_at_impl_intentsOf_1.calls k2 _ _ x6_2 gb301 ((rd_T71 l1 x22_2).f0) ((rd_T71 l1 x22_2).f1) ((rd_T71 l1 x22_2).f2.f0) ((rd_T71 l1 x22_2).f2.f1) ((rd_T71 l1 x22_2).f3) false _ ?side1 ?side2 ?side3 A59.out).mono ?_); (case side1 => exact rc0 HO_6); (case side2 => exact (Kd.R_reads' HO_6.out).2.1); (case side3 => (with_reducible repeat (first | refine blk_drewN ?_ _ | refine blk_drew ?_ | refine blk_alloc ?_ _)); exact BK301.out); rintro e w86 ⟨rfl, hb⟩; replace HO_6 := nr HO_6 hb; replace BK295 := nb BK295 hb; replace BK301 := nb BK301 hb; replace HB := Aside0.mk (below_step (bs2 HB GE295 GE301) hb); (try clear hb); (try clear hb2); (try clear hk); (try clear hi); obtain ⟨hcz87_0, hcz87_1, hcz87_2⟩ := cz3 BK295; obtain ⟨hfz87_0, hfz87_1, hfz87_2⟩ := fz3 BK295) | (go_at_call 80; (with_reducible refine (slices_ContainsFunc_impl_Extent_at_impl_intentsOf_2.calls k2 _ _ l0_1 gb301 ((rd_T71 l1 x22_2).f0) ((rd_T71 l1 x22_2).f1) ((rd_T71 l1 x22_2).f2.f0) ((rd_T71 l1 x22_2).f2.f1) ((rd_T71 l1 x22_2).f3) false _ ?side1 ?side2 ?side3 A68.out).mono ?_); (case side1 => exact cb HR0_1 HB); (case side2 => exact HC0_1.out); (case side3 => (with_reducible repeat (first | refine blk_drewN ?_ _ | refine blk_drew ?_ | refine blk_alloc ?_ _)); exact BK301.out); rintro e w88 ⟨rfl, hb⟩; replace HO_6 := nr HO_6 hb; replace BK295 := nb BK295 hb; replace BK301 := nb BK301 hb; replace HB := Aside0.mk (below_step (bs2 HB GE295 GE301) hb); (try clear hb); (try clear hb2); (try clear hk); (try clear hi); obtain ⟨hcz89_0, hcz89_1, hcz89_2, hcz89_3, hcz89_4⟩ := cz5 BK301; obtain ⟨hfz89_0, hfz89_1, hfz89_2, hfz89_3, hfz89_4⟩ := fz5 BK301) | ((with_reducible refine gate_builtin (b := .append) (xs := #[.tmp 108, .tmp 110]) rfl ?_); (try (refine gate_guard (by rfl) ?_; dsimp only)); at_builtin; refine Kd.R_append k71 (w0 := w) w.heap.size rfl (.tmp 108) (.tmp 110) 25 71 (.agg #[(.int .i64 0), (.int .i64 0), (.int .i64 0), (.int .i64 0), (.int .i64 0)]) 40 rfl Try.underlying25 info71 rfl (by decide) (by omega) (.slice Ao83 x6_2.length co83) x6_2 (⟨(rd_T71 l1 x22_2).f0, (rd_T71 l1 x22_2).f1, (⟨(rd_T71 l1 x22_2).f2.f0, (rd_T71 l1 x22_2).f2.f1⟩ : S53), (rd_T71 l1 x22_2).f3⟩ : S71) [.int .i64 ((rd_T71 l1 x22_2).f0), .int .i64 ((rd_T71 l1 x22_2).f1), .int .i64 ((rd_T71 l1 x22_2).f2.f0), .int .i64 ((rd_T71 l1 x22_2).f2.f1), .int .i64 ((rd_T71 l1 x22_2).f3)] (fun k_ => k_ ≠ gb301) (fun _ => False) rfl rfl ?aP (fun _ hk => hk.elim) ?aF ?aO ?aB ?aS ?aL ?_; (case aP => exact k71_mkM _ _ _ (⟨(rd_T71 l1 x22_2).f0, (rd_T71 l1 x22_2).f1, (⟨(rd_T71 l1 x22_2).f2.f0, (rd_T71 l1 x22_2).f2.f1⟩ : S53), (rd_T71 l1 x22_2).f3⟩ : S71)); (case aB => exact (bs2 HB GE295 GE301)); (case aF => exact (fun k_ hk => Kd.freshB (bk BK301) k_ hk)); (case aO => exact (by (with_reducible repeat (first | apply Kd.R_alloc | apply Kd.R_drewN | apply Kd.R_drew)); exact Kd.R_mono HO_6.out (fun _ hk => hk.2))); (case aS => exact (below_size (bs2 HB GE295 GE301))); (case aL => have := LMc79.out; omega); intro v311 w90 ho hb hg hat; rw [← Ny310.out] at ho; replace BK295 := Aside0.mk (blk_grown (bk BK295) hg (Kd.R_ne HO_6.out BK295.out (by decide))); replace BK301 := Aside0.mk (blk_grown (bk BK301) hg (Kd.R_away HO_6.out (fun _ hk => hk.2))); replace HB := Aside0.mk (hb); have HO312 := Aside0.mk (ho); clear HO_6; clear ho hb hg hat))
                 go_roundg k2
                 case measure => have := HJ2.out; have := HK2.out; omega
                 case rel => exact ⟨(y310), (wrap64 (x22_2 + 1)), (by first | rfl | (simp; done) | (simp [*]; done)), H', ⟨by have := HJ2.out; have := HK2.out; omega⟩, rm HO312 (fun _ hk => trivial), ⟨bk BK295⟩, ⟨bs2 HB GE295 GE301⟩⟩
                ·
                 rw [if_neg c79] at H
                 exact absurd H (by simp)
             ·
              replace c58 := Bool.eq_false_iff.mpr c58
              subst c58
              rw [if_neg (show ¬ (false = true) by decide)] at H
              simp only [Option.some.injEq, Prod.mk.injEq] at H
              obtain ⟨rfl, rfl⟩ := H
              have p300 : 0 ≤ (x22_2 : Int) := of_decide_eq_true (by first | (with_reducible assumption) | assumption)
              have q300 : x22_2 < (l1.length : Int) := of_decide_eq_true (by first | (with_reducible assumption) | assumption)
              obtain ⟨ad300, e300, hx300_0, hx300_1, hx300_2, hx300_3, hx300_4⟩ := at_T71 HR1.out x22_2 p300 q300
              cases e300
              replace hx300_0 := (HB.out.cell (World.block_lt_of_cell? w _ hx300_0)).trans hx300_0
              replace hx300_1 := (HB.out.cell (World.block_lt_of_cell? w _ hx300_1)).trans hx300_1
              replace hx300_2 := (HB.out.cell (World.block_lt_of_cell? w _ hx300_2)).trans hx300_2
              replace hx300_3 := (HB.out.cell (World.block_lt_of_cell? w _ hx300_3)).trans hx300_3
              replace hx300_4 := (HB.out.cell (World.block_lt_of_cell? w _ hx300_4)).trans hx300_4
              replace p300 := eq_true p300
              replace q300 := eq_true q300
              go_wp2_with (first | ((with_reducible refine gate_dst (N := 8) rfl ?_); (try (refine gate_guard (by rfl) ?_; dsimp only)); refine box_event ?hg (N := 8) ?hd (cs := #[.int .i64 0, .int .i64 0, .int .i64 0, .int .i64 0, .int .i64 0]) (t := 71) ?hr ?_; (case hd => rfl); (case hg => rfl); (case hr => first | (go_simp; done) | (go_simp; rfl)); intro gb301 hg w91 hbox hb; replace HO_6 := Aside0.mk (Kd.R_below (Kd.R_elderB (rr HO_6.out) gb301 (Nat.le_of_eq hg.symm)) hb); have BK301 := Aside0.mk (hbox); have GW301 := Aside0.mk ((by rw [hg]; exact (below_size (bs1 HB GE295)) : w.heap.size ≤ gb301)); have GE301 := Aside0.mk ((by rw [hg]; exact (below_size (bs1 HB GE295)) : w.heap.size ≤ gb301)); replace HB := Aside0.mk (below_step (bs1 HB GE295) hb); have NB295_301 := Aside0.mk ((bn BK295 hg : gb295 ≠ gb301)); have NB301_295 := Aside0.mk ((bm BK295 hg : gb301 ≠ gb295)); replace BK295 := nb BK295 hb; clear hb hbox hg; have hnb92 := NB301_295.out; have hnc92 := NB295_301.out; obtain ⟨hcz93_0, hcz93_1, hcz93_2, hcz93_3, hcz93_4⟩ := cz5 BK301; obtain ⟨hfz93_0, hfz93_1, hfz93_2, hfz93_3, hfz93_4⟩ := fz5 BK301; obtain ⟨Ao94, co94, eo94⟩ := Kd.R_slice HO_6.out; subst eo94; obtain ⟨hcz95_0, hcz95_1, hcz95_2⟩ := cz3 BK295; obtain ⟨hfz95_0, hfz95_1, hfz95_2⟩ := fz3 BK295) | (go_at_call 78; (with_reducible refine (impl_isExtent.calls ((rd_T71 l1 x22_2).f2.f0) ((rd_T71 l1 x22_2).f2.f1) a0_0 false _ A57.out).mono ?_); rintro e w96 ⟨rfl, hb⟩; replace HO_6 := Aside0.mk (Kd.R_below (by (with_reducible repeat (first | apply Kd.R_alloc | apply Kd.R_drewN | apply Kd.R_drew)); exact (Kd.R_mono (Kd.R_far (p := ⟨gb301, 4, none⟩) (Kd.R_far (p := ⟨gb301, 3, none⟩) (Kd.R_far (p := ⟨gb301, 2, none⟩) (Kd.R_far (p := ⟨gb301, 1, none⟩) (Kd.R_far (p := ⟨gb301, 0, none⟩) (Kd.R_mono HO_6.out (fun k_ hk => (⟨hk, hk.2⟩ : _ ∧ k_ ≠ gb301))) (fun _ hk => hk.2) (.int .i64 ((rd_T71 l1 x22_2).f0))) (fun _ hk => hk.2) (.int .i64 ((rd_T71 l1 x22_2).f1))) (fun _ hk => hk.2) (.int .i64 ((rd_T71 l1 x22_2).f2.f0))) (fun _ hk => hk.2) (.int .i64 ((rd_T71 l1 x22_2).f2.f1))) (fun _ hk => hk.2) (.int .i64 ((rd_T71 l1 x22_2).f3))) (fun _ h_ => h_.1))) hb); replace BK295 := Aside0.mk (blk_below (bf BK295 NB295_301) hb); replace BK301 := Aside0.mk (blk_below (g := gb301) (o := .cells #[.int .i64 ((rd_T71 l1 x22_2).f0), .int .i64 ((rd_T71 l1 x22_2).f1), .int .i64 ((rd_T71 l1 x22_2).f2.f0), .int .i64 ((rd_T71 l1 x22_2).f2.f1), .int .i64 ((rd_T71 l1 x22_2).f3)] 71 (0, 0)) (by (with_reducible repeat (first | refine blk_drewN ?_ _ | refine blk_drew ?_ | refine blk_alloc ?_ _)); refine blk_put (cs := #[.int .i64 ((rd_T71 l1 x22_2).f0), .int .i64 ((rd_T71 l1 x22_2).f1), .int .i64 ((rd_T71 l1 x22_2).f2.f0), .int .i64 ((rd_T71 l1 x22_2).f2.f1), .int .i64 0]) ?_ 4 _ rfl; (with_reducible repeat (first | refine blk_drewN ?_ _ | refine blk_drew ?_ | refine blk_alloc ?_ _)); refine blk_put (cs := #[.int .i64 ((rd_T71 l1 x22_2).f0), .int .i64 ((rd_T71 l1 x22_2).f1), .int .i64 ((rd_T71 l1 x22_2).f2.f0), .int .i64 0, .int .i64 0]) ?_ 3 _ rfl; (with_reducible repeat (first | refine blk_drewN ?_ _ | refine blk_drew ?_ | refine blk_alloc ?_ _)); refine blk_put (cs := #[.int .i64 ((rd_T71 l1 x22_2).f0), .int .i64 ((rd_T71 l1 x22_2).f1), .int .i64 0, .int .i64 0, .int .i64 0]) ?_ 2 _ rfl; (with_reducible repeat (first | refine blk_drewN ?_ _ | refine blk_drew ?_ | refine blk_alloc ?_ _)); refine blk_put (cs := #[.int .i64 ((rd_T71 l1 x22_2).f0), .int .i64 0, .int .i64 0, .int .i64 0, .int .i64 0]) ?_ 1 _ rfl; (with_reducible repeat (first | refine blk_drewN ?_ _ | refine blk_drew ?_ | refine blk_alloc ?_ _)); refine blk_put (cs := #[.int .i64 0, .int .i64 0, .int .i64 0, .int .i64 0, .int .i64 0]) ?_ 0 _ rfl; (with_reducible repeat (first | refine blk_drewN ?_ _ | refine blk_drew ?_ | refine blk_alloc ?_ _)); exact BK301.out) hb); replace HB := Aside0.mk (below_step (bs2 HB GE295 GE301) hb); (try clear hb); (try clear hb2); (try clear hk); (try clear hi)))
              go_ret2
              exact ⟨_, by first | rfl | (simp [errW_none, errW_some] <;> rfl) | (simp [*, errW_none, errW_some] <;> rfl), by first | exact Kd.R_nil _ _ _ _ _ | exact Kd.N_nil _ _ _ _ _ | exact Kd.V_nil _ _ _ _ _ | exact Kd.Q_nil _ _ _ _ _ | exact Kd.S_nil _ _ _ _ _, bs2 HB GE295 GE301⟩
            ·
             rw [if_neg c56] at H
             have c56b0 : (((rd_T71 l1 x22_2).f3) == 0) = false := beq_eq_false_iff_ne.mpr c56
             have c56b1 : (((rd_T71 l1 x22_2).f3) != 0) = true := bne_iff_ne.mpr c56
             simp only [Option.some.injEq, Prod.mk.injEq] at H
             obtain ⟨rfl, rfl⟩ := H
             have p300 : 0 ≤ (x22_2 : Int) := of_decide_eq_true (by first | (with_reducible assumption) | assumption)
             have q300 : x22_2 < (l1.length : Int) := of_decide_eq_true (by first | (with_reducible assumption) | assumption)
             obtain ⟨ad300, e300, hx300_0, hx300_1, hx300_2, hx300_3, hx300_4⟩ := at_T71 HR1.out x22_2 p300 q300
             cases e300
             replace hx300_0 := (HB.out.cell (World.block_lt_of_cell? w _ hx300_0)).trans hx300_0
             replace hx300_1 := (HB.out.cell (World.block_lt_of_cell? w _ hx300_1)).trans hx300_1
             replace hx300_2 := (HB.out.cell (World.block_lt_of_cell? w _ hx300_2)).trans hx300_2
             replace hx300_3 := (HB.out.cell (World.block_lt_of_cell? w _ hx300_3)).trans hx300_3
             replace hx300_4 := (HB.out.cell (World.block_lt_of_cell? w _ hx300_4)).trans hx300_4
             replace p300 := eq_true p300
             replace q300 := eq_true q300
             go_wp2_with (first | ((with_reducible refine gate_dst (N := 8) rfl ?_); (try (refine gate_guard (by rfl) ?_; dsimp only)); refine box_event ?hg (N := 8) ?hd (cs := #[.int .i64 0, .int .i64 0, .int .i64 0, .int .i64 0, .int .i64 0]) (t := 71) ?hr ?_; (case hd => rfl); (case hg => rfl); (case hr => first | (go_simp; done) | (go_simp; rfl)); intro gb301 hg w97 hbox hb; replace HO_6 := Aside0.mk (Kd.R_below (Kd.R_elderB (rr HO_6.out) gb301 (Nat.le_of_eq hg.symm)) hb); have BK301 := Aside0.mk (hbox); have GW301 := Aside0.mk ((by rw [hg]; exact (below_size (bs1 HB GE295)) : w.heap.size ≤ gb301)); have GE301 := Aside0.mk ((by rw [hg]; exact (below_size (bs1 HB GE295)) : w.heap.size ≤ gb301)); replace HB := Aside0.mk (below_step (bs1 HB GE295) hb); have NB295_301 := Aside0.mk ((bn BK295 hg : gb295 ≠ gb301)); have NB301_295 := Aside0.mk ((bm BK295 hg : gb301 ≠ gb295)); replace BK295 := nb BK295 hb; clear hb hbox hg; have hnb98 := NB301_295.out; have hnc98 := NB295_301.out; obtain ⟨hcz99_0, hcz99_1, hcz99_2, hcz99_3, hcz99_4⟩ := cz5 BK301; obtain ⟨hfz99_0, hfz99_1, hfz99_2, hfz99_3, hfz99_4⟩ := fz5 BK301; obtain ⟨Ao100, co100, eo100⟩ := Kd.R_slice HO_6.out; subst eo100))
             go_ret2
             exact ⟨_, by first | rfl | (simp [errW_none, errW_some] <;> rfl) | (simp [*, errW_none, errW_some] <;> rfl), by first | exact Kd.R_nil _ _ _ _ _ | exact Kd.N_nil _ _ _ _ _ | exact Kd.V_nil _ _ _ _ _ | exact Kd.Q_nil _ _ _ _ _ | exact Kd.S_nil _ _ _ _ _, bs2 HB GE295 GE301⟩
           ·
            rw [if_neg c55] at H
            have c55b0 : (((rd_T71 l1 x22_2).f1) == (wrap64 ((x6_2.length : Int) + 1))) = false := beq_eq_false_iff_ne.mpr c55
            have c55b1 : (((rd_T71 l1 x22_2).f1) != (wrap64 ((x6_2.length : Int) + 1))) = true := bne_iff_ne.mpr c55
            simp only [Option.some.injEq, Prod.mk.injEq] at H
            obtain ⟨rfl, rfl⟩ := H
            have p300 : 0 ≤ (x22_2 : Int) := of_decide_eq_true (by first | (with_reducible assumption) | assumption)
            have q300 : x22_2 < (l1.length : Int) := of_decide_eq_true (by first | (with_reducible assumption) | assumption)
            obtain ⟨ad300, e300, hx300_0, hx300_1, hx300_2, hx300_3, hx300_4⟩ := at_T71 HR1.out x22_2 p300 q300
            cases e300
            replace hx300_0 := (HB.out.cell (World.block_lt_of_cell? w _ hx300_0)).trans hx300_0
            replace hx300_1 := (HB.out.cell (World.block_lt_of_cell? w _ hx300_1)).trans hx300_1
            replace hx300_2 := (HB.out.cell (World.block_lt_of_cell? w _ hx300_2)).trans hx300_2
            replace hx300_3 := (HB.out.cell (World.block_lt_of_cell? w _ hx300_3)).trans hx300_3
            replace hx300_4 := (HB.out.cell (World.block_lt_of_cell? w _ hx300_4)).trans hx300_4
            replace p300 := eq_true p300
            replace q300 := eq_true q300
            go_wp2_with (first | ((with_reducible refine gate_dst (N := 8) rfl ?_); (try (refine gate_guard (by rfl) ?_; dsimp only)); refine box_event ?hg (N := 8) ?hd (cs := #[.int .i64 0, .int .i64 0, .int .i64 0, .int .i64 0, .int .i64 0]) (t := 71) ?hr ?_; (case hd => rfl); (case hg => rfl); (case hr => first | (go_simp; done) | (go_simp; rfl)); intro gb301 hg w101 hbox hb; replace HO_6 := Aside0.mk (Kd.R_below (Kd.R_elderB (rr HO_6.out) gb301 (Nat.le_of_eq hg.symm)) hb); have BK301 := Aside0.mk (hbox); have GW301 := Aside0.mk ((by rw [hg]; exact (below_size (bs1 HB GE295)) : w.heap.size ≤ gb301)); have GE301 := Aside0.mk ((by rw [hg]; exact (below_size (bs1 HB GE295)) : w.heap.size ≤ gb301)); replace HB := Aside0.mk (below_step (bs1 HB GE295) hb); have NB295_301 := Aside0.mk ((bn BK295 hg : gb295 ≠ gb301)); have NB301_295 := Aside0.mk ((bm BK295 hg : gb301 ≠ gb295)); replace BK295 := nb BK295 hb; clear hb hbox hg; have hnb102 := NB301_295.out; have hnc102 := NB295_301.out; obtain ⟨hcz103_0, hcz103_1, hcz103_2, hcz103_3, hcz103_4⟩ := cz5 BK301; obtain ⟨hfz103_0, hfz103_1, hfz103_2, hfz103_3, hfz103_4⟩ := fz5 BK301; obtain ⟨Ao104, co104, eo104⟩ := Kd.R_slice HO_6.out; subst eo104))
            go_ret2
            exact ⟨_, by first | rfl | (simp [errW_none, errW_some] <;> rfl) | (simp [*, errW_none, errW_some] <;> rfl), by first | exact Kd.R_nil _ _ _ _ _ | exact Kd.N_nil _ _ _ _ _ | exact Kd.V_nil _ _ _ _ _ | exact Kd.Q_nil _ _ _ _ _ | exact Kd.S_nil _ _ _ _ _, bs2 HB GE295 GE301⟩
          ·
           rw [if_neg c54] at H
           have c54b0 : (((rd_T71 l1 x22_2).f0) == 1) = false := beq_eq_false_iff_ne.mpr c54
           have c54b1 : (((rd_T71 l1 x22_2).f0) != 1) = true := bne_iff_ne.mpr c54
           simp only [Option.some.injEq, Prod.mk.injEq] at H
           obtain ⟨rfl, rfl⟩ := H
           have p300 : 0 ≤ (x22_2 : Int) := of_decide_eq_true (by first | (with_reducible assumption) | assumption)
           have q300 : x22_2 < (l1.length : Int) := of_decide_eq_true (by first | (with_reducible assumption) | assumption)
           obtain ⟨ad300, e300, hx300_0, hx300_1, hx300_2, hx300_3, hx300_4⟩ := at_T71 HR1.out x22_2 p300 q300
           cases e300
           replace hx300_0 := (HB.out.cell (World.block_lt_of_cell? w _ hx300_0)).trans hx300_0
           replace hx300_1 := (HB.out.cell (World.block_lt_of_cell? w _ hx300_1)).trans hx300_1
           replace hx300_2 := (HB.out.cell (World.block_lt_of_cell? w _ hx300_2)).trans hx300_2
           replace hx300_3 := (HB.out.cell (World.block_lt_of_cell? w _ hx300_3)).trans hx300_3
           replace hx300_4 := (HB.out.cell (World.block_lt_of_cell? w _ hx300_4)).trans hx300_4
           replace p300 := eq_true p300
           replace q300 := eq_true q300
           go_wp2_with (first | ((with_reducible refine gate_dst (N := 8) rfl ?_); (try (refine gate_guard (by rfl) ?_; dsimp only)); refine box_event ?hg (N := 8) ?hd (cs := #[.int .i64 0, .int .i64 0, .int .i64 0, .int .i64 0, .int .i64 0]) (t := 71) ?hr ?_; (case hd => rfl); (case hg => rfl); (case hr => first | (go_simp; done) | (go_simp; rfl)); intro gb301 hg w105 hbox hb; replace HO_6 := Aside0.mk (Kd.R_below (Kd.R_elderB (rr HO_6.out) gb301 (Nat.le_of_eq hg.symm)) hb); have BK301 := Aside0.mk (hbox); have GW301 := Aside0.mk ((by rw [hg]; exact (below_size (bs1 HB GE295)) : w.heap.size ≤ gb301)); have GE301 := Aside0.mk ((by rw [hg]; exact (below_size (bs1 HB GE295)) : w.heap.size ≤ gb301)); replace HB := Aside0.mk (below_step (bs1 HB GE295) hb); have NB295_301 := Aside0.mk ((bn BK295 hg : gb295 ≠ gb301)); have NB301_295 := Aside0.mk ((bm BK295 hg : gb301 ≠ gb295)); replace BK295 := nb BK295 hb; clear hb hbox hg; have hnb106 := NB301_295.out; have hnc106 := NB295_301.out; obtain ⟨hcz107_0, hcz107_1, hcz107_2, hcz107_3, hcz107_4⟩ := cz5 BK301; obtain ⟨hfz107_0, hfz107_1, hfz107_2, hfz107_3, hfz107_4⟩ := fz5 BK301))
           go_ret2
           exact ⟨_, by first | rfl | (simp [errW_none, errW_some] <;> rfl) | (simp [*, errW_none, errW_some] <;> rfl), by first | exact Kd.R_nil _ _ _ _ _ | exact Kd.N_nil _ _ _ _ _ | exact Kd.V_nil _ _ _ _ _ | exact Kd.Q_nil _ _ _ _ _ | exact Kd.S_nil _ _ _ _ _, bs2 HB GE295 GE301⟩
        ·
         rw [if_neg c16] at H
         exact absurd H (by simp)
       ·
        rw [if_neg c15] at H
        exact absurd H (by simp)
      ·
       rw [if_neg c14] at H
       have c14b0 : decide (x22_2 < (l1.length : Int)) = false := decide_eq_false c14
       clear c14
       simp only [Option.some.injEq, Prod.mk.injEq] at H
       obtain ⟨rfl, rfl⟩ := H
       go_wp2
       go_ret2
       exact ⟨_, by first | rfl | (simp [errW_none, errW_some] <;> rfl) | (simp [*, errW_none, errW_some] <;> rfl), by (with_reducible repeat (first | apply Kd.R_alloc | apply Kd.R_drewN | apply Kd.R_drew)); exact HO_6.out, bs1 HB GE295⟩

/-! ### impl_goodIntents: function 43 -/
def impl_goodIntents.f (k : Nat) (a0_0 : Int) (l0_1 : List (S53)) (l0_2 : List (S53)) (a0_3 : Int) (l0_4 : List (S71)) : Option ((List (S71)) × Bool) := (impl_intentsOf.f k a0_0 l0_1 l0_2 l0_4).bind fun bt314 => (if bt314.2 = true then (if a0_3 = (wrap64 ((bt314.1.length : Int) + 1)) then (some (bt314.1, true)) else (some (([] : List (S71)), false))) else (some (([] : List (S71)), false)))
theorem impl_goodIntents.mono : ∀ a0 a1 a2 a3 a4 k, LeO (impl_goodIntents.f k a0 a1 a2 a3 a4) (impl_goodIntents.f (k + 1) a0 a1 a2 a3 a4) := by
 intro a0 a1 a2 a3 a4 k
 unfold impl_goodIntents.f
 repeat' first
   | (with_reducible exact impl_intentsOf.mono _ _ _ _ _)
   | (with_reducible exact LeO.refl _)
   | (with_reducible exact LeO.none _)
   | (with_reducible refine LeO.ite ?_ ?_)
   | (with_reducible refine LeO.bind ?_ (fun _ => ?_))
   | exact impl_intentsOf.mono _ _ _ _ _
   | exact LeO.none _
   | refine LeO.ite ?_ ?_
   | refine LeO.bind ?_ (fun _ => ?_)
set_option maxHeartbeats 8000000 in
set_option maxRecDepth 100000 in
theorem impl_goodIntents.calls (k : Nat) (a0_0 : Int) (A0_1 : Option Addr) (c0_1 : Nat) (l0_1 : List (S53)) (A0_2 : Option Addr) (c0_2 : Nat) (l0_2 : List (S53)) (a0_3 : Int) (A0_4 : Option Addr) (c0_4 : Nat) (l0_4 : List (S71)) (r1 : List (S71)) (r2 : Bool) (w : World) (hr0_1 : Kd.C k53 w A0_1 l0_1.length l0_1) (hc0_1 : l0_1.length ≤ c0_1) (hr0_2 : Kd.C k53 w A0_2 l0_2.length l0_2) (hc0_2 : l0_2.length ≤ c0_2) (hr0_4 : Kd.C k71 w A0_4 l0_4.length l0_4) (hc0_4 : l0_4.length ≤ c0_4) (h : impl_goodIntents.f k a0_0 l0_1 l0_2 a0_3 l0_4 = some (r1, r2)) :
  Calls Try.prog 43 #[.agg #[.int .i64 a0_0, .slice A0_1 l0_1.length c0_1, .slice A0_2 l0_2.length c0_2, .int .i64 a0_3, .slice A0_4 l0_4.length c0_4]] w fun e w' => ∃ v0_ : Value, e = .returned (.tuple #[v0_, .bool r2]) ∧ Kd.R k71 71 w' w.heap.size (fun _ => True) v0_ r1 ∧ Below w.heap.size w w' := by
 have hu27 := Try.underlying27
 have hu24 := Try.underlying24
 have HR0_1 := Aside0.mk hr0_1
 have HC0_1 := Aside0.mk hc0_1
 clear hr0_1 hc0_1
 have HR0_2 := Aside0.mk hr0_2
 have HC0_2 := Aside0.mk hc0_2
 clear hr0_2 hc0_2
 have HR0_4 := Aside0.mk hr0_4
 have HC0_4 := Aside0.mk hc0_4
 clear hr0_4 hc0_4
 have HB := Aside0.mk (Below.refl w.heap.size w)
 have H : ((impl_intentsOf.f k a0_0 l0_1 l0_2 l0_4).bind fun bt314 => (if bt314.2 = true then (if a0_3 = (wrap64 ((bt314.1.length : Int) + 1)) then (some (bt314.1, true)) else (some (([] : List (S71)), false))) else (some (([] : List (S71)), false)))) = some (r1, r2) := h
 clear h
 replace H := Option.bind_eq_some_iff.mp H
 obtain ⟨⟨t314, t317⟩, A20, H⟩ := H
 replace H : (if t317 = true then (if a0_3 = (wrap64 ((t314.length : Int) + 1)) then (some (t314, true)) else (some (([] : List (S71)), false))) else (some (([] : List (S71)), false))) = some (r1, r2) := H
 have A2 := Aside0.mk A20
 clear A20
 by_cases c3 : t317 = true
 ·
  subst c3
  rw [if_pos rfl] at H
  by_cases c4 : a0_3 = (wrap64 ((t314.length : Int) + 1))
  ·
   rw [if_pos c4] at H
   have c4b0 : (a0_3 == (wrap64 ((t314.length : Int) + 1))) = true := beq_iff_eq.mpr c4
   have c4b1 : (a0_3 != (wrap64 ((t314.length : Int) + 1))) = false := bne_eq_false_iff_eq.mpr c4
   clear c4
   simp only [Option.some.injEq, Prod.mk.injEq] at H
   obtain ⟨rfl, rfl⟩ := H
   go_enter Try.func43, Try.ntmps43
   go_wp2_with (first | ((with_reducible refine gate_dst (N := 1) rfl ?_); (try (refine gate_guard (by rfl) ?_; dsimp only)); refine box_event ?hg (N := 1) ?hd (cs := #[.int .i64 a0_0, .slice A0_1 l0_1.length c0_1, .slice A0_2 l0_2.length c0_2, .int .i64 a0_3, .slice A0_4 l0_4.length c0_4]) (t := 27) ?hr ?_; (case hd => rfl); (case hg => rfl); (case hr => first | (go_simp; done) | (go_simp; rfl)); intro gb313 hg w5 hbox hb; have BK313 := Aside0.mk (hbox); have GW313 := Aside0.mk ((by rw [hg]; exact (below_size (bs HB)) : w.heap.size ≤ gb313)); have GE313 := Aside0.mk ((by rw [hg]; exact (below_size (bs HB)) : w.heap.size ≤ gb313)); replace HB := Aside0.mk (below_step (bs HB) hb); clear hb hbox hg; obtain ⟨hcz6_0, hcz6_1, hcz6_2, hcz6_3, hcz6_4⟩ := cz5 BK313; obtain ⟨hfz6_0, hfz6_1, hfz6_2, hfz6_3, hfz6_4⟩ := fz5 BK313) | ((with_reducible refine gate_callee (f := 64) rfl ?_); refine gL (some 11) rfl rfl Try.func64 (by kernel_rfl) rfl #[.agg #[.int .i64 a0_0, .slice A0_1 l0_1.length c0_1, .slice A0_2 l0_2.length c0_2], .slice A0_4 l0_4.length c0_4] rfl ?_; (with_reducible refine (impl_intentsOf.calls k a0_0 _ _ l0_1 _ _ l0_2 _ _ l0_4 t314 true _ ?side1 ?side2 ?side3 ?side4 ?side5 ?side6 A2.out).mono ?_); (case side1 => exact cb HR0_1 HB); (case side2 => exact HC0_1.out); (case side3 => exact cb HR0_2 HB); (case side4 => exact HC0_2.out); (case side5 => exact cb HR0_4 HB); (case side6 => exact HC0_4.out); rintro e w7 ⟨v315, rfl, ho0, hb⟩; refine ⟨_, rfl, ?_⟩; have HO316 := Aside0.mk (Kd.R_lower ho0 (below_size (bs1 HB GE313))); replace BK313 := nb BK313 hb; replace HB := Aside0.mk (below_step (bs1 HB GE313) hb); (try clear hb); (try clear hb2); (try clear hk); (try clear hi); (try clear ho0); obtain ⟨hcz8_0, hcz8_1, hcz8_2, hcz8_3, hcz8_4⟩ := cz5 BK313; obtain ⟨hfz8_0, hfz8_1, hfz8_2, hfz8_3, hfz8_4⟩ := fz5 BK313; obtain ⟨Ao9, co9, eo9⟩ := Kd.R_slice HO316.out; subst eo9))
   go_ret2
   exact ⟨_, by first | rfl | (simp [errW_none, errW_some] <;> rfl) | (simp [*, errW_none, errW_some] <;> rfl), by (with_reducible repeat (first | apply Kd.R_alloc | apply Kd.R_drewN | apply Kd.R_drew)); exact HO316.out, bs1 HB GE313⟩
  ·
   rw [if_neg c4] at H
   have c4b0 : (a0_3 == (wrap64 ((t314.length : Int) + 1))) = false := beq_eq_false_iff_ne.mpr c4
   have c4b1 : (a0_3 != (wrap64 ((t314.length : Int) + 1))) = true := bne_iff_ne.mpr c4
   simp only [Option.some.injEq, Prod.mk.injEq] at H
   obtain ⟨rfl, rfl⟩ := H
   go_enter Try.func43, Try.ntmps43
   go_wp2_with (first | ((with_reducible refine gate_dst (N := 1) rfl ?_); (try (refine gate_guard (by rfl) ?_; dsimp only)); refine box_event ?hg (N := 1) ?hd (cs := #[.int .i64 a0_0, .slice A0_1 l0_1.length c0_1, .slice A0_2 l0_2.length c0_2, .int .i64 a0_3, .slice A0_4 l0_4.length c0_4]) (t := 27) ?hr ?_; (case hd => rfl); (case hg => rfl); (case hr => first | (go_simp; done) | (go_simp; rfl)); intro gb313 hg w10 hbox hb; have BK313 := Aside0.mk (hbox); have GW313 := Aside0.mk ((by rw [hg]; exact (below_size (bs HB)) : w.heap.size ≤ gb313)); have GE313 := Aside0.mk ((by rw [hg]; exact (below_size (bs HB)) : w.heap.size ≤ gb313)); replace HB := Aside0.mk (below_step (bs HB) hb); clear hb hbox hg; obtain ⟨hcz11_0, hcz11_1, hcz11_2, hcz11_3, hcz11_4⟩ := cz5 BK313; obtain ⟨hfz11_0, hfz11_1, hfz11_2, hfz11_3, hfz11_4⟩ := fz5 BK313) | ((with_reducible refine gate_callee (f := 64) rfl ?_); refine gL (some 11) rfl rfl Try.func64 (by kernel_rfl) rfl #[.agg #[.int .i64 a0_0, .slice A0_1 l0_1.length c0_1, .slice A0_2 l0_2.length c0_2], .slice A0_4 l0_4.length c0_4] rfl ?_; (with_reducible refine (impl_intentsOf.calls k a0_0 _ _ l0_1 _ _ l0_2 _ _ l0_4 t314 true _ ?side1 ?side2 ?side3 ?side4 ?side5 ?side6 A2.out).mono ?_); (case side1 => exact cb HR0_1 HB); (case side2 => exact HC0_1.out); (case side3 => exact cb HR0_2 HB); (case side4 => exact HC0_2.out); (case side5 => exact cb HR0_4 HB); (case side6 => exact HC0_4.out); rintro e w12 ⟨v315, rfl, ho0, hb⟩; refine ⟨_, rfl, ?_⟩; have HO316 := Aside0.mk (Kd.R_lower ho0 (below_size (bs1 HB GE313))); replace BK313 := nb BK313 hb; replace HB := Aside0.mk (below_step (bs1 HB GE313) hb); (try clear hb); (try clear hb2); (try clear hk); (try clear hi); (try clear ho0); obtain ⟨hcz13_0, hcz13_1, hcz13_2, hcz13_3, hcz13_4⟩ := cz5 BK313; obtain ⟨hfz13_0, hfz13_1, hfz13_2, hfz13_3, hfz13_4⟩ := fz5 BK313; obtain ⟨Ao14, co14, eo14⟩ := Kd.R_slice HO316.out; subst eo14))
   go_ret2
   exact ⟨_, by first | rfl | (simp [errW_none, errW_some] <;> rfl) | (simp [*, errW_none, errW_some] <;> rfl), by first | exact Kd.R_nil _ _ _ _ _ | exact Kd.N_nil _ _ _ _ _ | exact Kd.V_nil _ _ _ _ _ | exact Kd.Q_nil _ _ _ _ _ | exact Kd.S_nil _ _ _ _ _, bs1 HB GE313⟩
 ·
  replace c3 := Bool.eq_false_iff.mpr c3
  subst c3
  rw [if_neg (show ¬ (false = true) by decide)] at H
  simp only [Option.some.injEq, Prod.mk.injEq] at H
  obtain ⟨rfl, rfl⟩ := H
  go_enter Try.func43, Try.ntmps43
  go_wp2_with (first | ((with_reducible refine gate_dst (N := 1) rfl ?_); (try (refine gate_guard (by rfl) ?_; dsimp only)); refine box_event ?hg (N := 1) ?hd (cs := #[.int .i64 a0_0, .slice A0_1 l0_1.length c0_1, .slice A0_2 l0_2.length c0_2, .int .i64 a0_3, .slice A0_4 l0_4.length c0_4]) (t := 27) ?hr ?_; (case hd => rfl); (case hg => rfl); (case hr => first | (go_simp; done) | (go_simp; rfl)); intro gb313 hg w15 hbox hb; have BK313 := Aside0.mk (hbox); have GW313 := Aside0.mk ((by rw [hg]; exact (below_size (bs HB)) : w.heap.size ≤ gb313)); have GE313 := Aside0.mk ((by rw [hg]; exact (below_size (bs HB)) : w.heap.size ≤ gb313)); replace HB := Aside0.mk (below_step (bs HB) hb); clear hb hbox hg; obtain ⟨hcz16_0, hcz16_1, hcz16_2, hcz16_3, hcz16_4⟩ := cz5 BK313; obtain ⟨hfz16_0, hfz16_1, hfz16_2, hfz16_3, hfz16_4⟩ := fz5 BK313) | ((with_reducible refine gate_callee (f := 64) rfl ?_); refine gL (some 11) rfl rfl Try.func64 (by kernel_rfl) rfl #[.agg #[.int .i64 a0_0, .slice A0_1 l0_1.length c0_1, .slice A0_2 l0_2.length c0_2], .slice A0_4 l0_4.length c0_4] rfl ?_; (with_reducible refine (impl_intentsOf.calls k a0_0 _ _ l0_1 _ _ l0_2 _ _ l0_4 t314 false _ ?side1 ?side2 ?side3 ?side4 ?side5 ?side6 A2.out).mono ?_); (case side1 => exact cb HR0_1 HB); (case side2 => exact HC0_1.out); (case side3 => exact cb HR0_2 HB); (case side4 => exact HC0_2.out); (case side5 => exact cb HR0_4 HB); (case side6 => exact HC0_4.out); rintro e w17 ⟨v315, rfl, ho0, hb⟩; refine ⟨_, rfl, ?_⟩; have HO316 := Aside0.mk (Kd.R_lower ho0 (below_size (bs1 HB GE313))); replace BK313 := nb BK313 hb; replace HB := Aside0.mk (below_step (bs1 HB GE313) hb); (try clear hb); (try clear hb2); (try clear hk); (try clear hi); (try clear ho0)))
  go_ret2
  exact ⟨_, by first | rfl | (simp [errW_none, errW_some] <;> rfl) | (simp [*, errW_none, errW_some] <;> rfl), by first | exact Kd.R_nil _ _ _ _ _ | exact Kd.N_nil _ _ _ _ _ | exact Kd.V_nil _ _ _ _ _ | exact Kd.Q_nil _ _ _ _ _ | exact Kd.S_nil _ _ _ _ _, bs1 HB GE313⟩

end Go.Proofs.Ytakgjdckolllaaa.G
