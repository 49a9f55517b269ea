-- Printed by a program of this session (drive.py, by way of the kit's print). Not trusted: Lean checks it.
import Derived.Test.YtnjnlocndalpjaaDoorG0
import Derived.Test.YtnjnlocndalpjaaDoorG1
import Derived.Test.YtnjnlocndalpjaaDoorG2
import Derived.Test.YtnjnlocndalpjaaDoorG3
import Derived.Test.YtnjnlocndalpjaaDoorG4
import Derived.Test.YtnjnlocndalpjaaDoorG5
import Derived.Test.YtnjnlocndalpjaaDoorG6
namespace Go.Proofs.YtnjnlocndalpjaaDoor.G
open Go.RowKit Go.Proofs.YtnjnlocndalpjaaDoorW.PrintWords Go.Proofs.YtnjnlocndalpjaaDoorW.PrintLast Go.Proofs.YtnjnlocndalpjaaDoorW.PrintMore
attribute [local go_sem] max2_int min2_int max_two min_two max_three min_three max_four min_four   -- for this text's walks alone
set_option linter.unusedVariables false
set_option linter.unusedSimpArgs false

/-! ### spec_l8At: function 32 -/
def spec_l8At.l0 : Nat → List (S46) → ByteArray → Int → Option (Int × Bool)
 | 0, _, _, _ => none
 | k + 1, x0, x1, x6 => if x6 < (x0.length : Int) then (if 0 ≤ x6 then (if (Op.bytesLess (((rd_T46 x0 x6).f0).toList) x1.toList) = true then (spec_l8At.l0 k x0 x1 (wrap64 (x6 + 1))) else (some (x6, (((rd_T46 x0 x6).f0).toList == x1.toList)))) else (none)) else (some (x6, false))
def spec_l8At.f (k : Nat) (l0 : List (S46)) (a1 : ByteArray) : Option (Int × Bool) := spec_l8At.l0 k l0 a1 0
theorem spec_l8At.mono_l : ∀ k, (∀ y0 y1 y2, LeO (spec_l8At.l0 k y0 y1 y2) (spec_l8At.l0 (k + 1) y0 y1 y2))
 | 0 => fun _ _ _ r h => by simp [spec_l8At.l0] at h
 | k + 1 => by
  have ih0 := spec_l8At.mono_l k
  ·
   intro y0 y1 y2
   unfold spec_l8At.l0
   repeat' first
   | (with_reducible exact ih0 _ _ _)
   | (with_reducible exact LeO.refl _)
   | (with_reducible exact LeO.none _)
   | (with_reducible refine LeO.ite ?_ ?_)
   | (with_reducible refine LeO.bind ?_ (fun _ => ?_))
   | exact ih0 _ _ _
   | exact LeO.none _
   | refine LeO.ite ?_ ?_
   | refine LeO.bind ?_ (fun _ => ?_)
theorem spec_l8At.mono : ∀ a0 a1 k, LeO (spec_l8At.f k a0 a1) (spec_l8At.f (k + 1) a0 a1) := by
 intro a0 a1 k
 have ih0 := spec_l8At.mono_l k
 unfold spec_l8At.f
 repeat' first
   | (with_reducible exact ih0 _ _ _)
   | (with_reducible exact LeO.refl _)
   | (with_reducible exact LeO.none _)
   | (with_reducible refine LeO.ite ?_ ?_)
   | (with_reducible refine LeO.bind ?_ (fun _ => ?_))
   | exact ih0 _ _ _
   | exact LeO.none _
   | refine LeO.ite ?_ ?_
   | refine LeO.bind ?_ (fun _ => ?_)
set_option maxHeartbeats 8000000 in
set_option maxRecDepth 100000 in
theorem spec_l8At.calls (k : Nat) (A0 : Option Addr) (c0 : Nat) (l0 : List (S46)) (a1 : ByteArray) (r1 : Int) (r2 : Bool) (w : World) (hr0 : Kd.C k46 w A0 l0.length l0) (hc0 : l0.length ≤ c0) (h : spec_l8At.f k l0 a1 = some (r1, r2)) :
  Calls Tryd.prog 32 #[.slice A0 l0.length c0, .string a1] w fun e w' => e = .returned (.tuple #[.int .i64 r1, .bool r2]) ∧ Drawn0 w w' := by
 have HR0 := Aside0.mk hr0
 have HC0 := Aside0.mk hc0
 clear hr0 hc0
 have H : (spec_l8At.l0 k l0 a1 0) = some (r1, r2) := h
 clear h
 have H' := Aside0.mk H
 clear H
 go_enter Tryd.func32, Tryd.ntmps32
 go_wp2
 repeat (go_quiet (fail); try go_wp2)
 go_loopg [6] k (fun kq v6 w' => ∃ (x6_1 : Int), v6 = .int .i64 x6_1 ∧ Aside0 (spec_l8At.l0 kq l0 a1 x6_1 = some (r1, r2)) ∧ Aside0 (kq ≤ k) ∧ Drawn0 w w')
 case atStart => exact ⟨(0), (by first | rfl | (simp; done) | (simp [*]; done)), H', ⟨Nat.le_refl _⟩, by repeat (first | exact Drawn0.refl _ | apply Drawn0.step)⟩
 case round =>
  clear H'
  try clear p2
  obtain ⟨x6_1, rfl, HA, HK1, ⟨m1, rfl⟩⟩ := hrel
  cases gk with
  | zero => exact absurd HA.out (by simp [spec_l8At.l0])
  | succ k1 =>
   have H := HA.out
   clear HA
   simp only [spec_l8At.l0] at H
   by_cases c3 : x6_1 < (l0.length : Int)
   ·
    rw [if_pos c3] at H
    have c3b0 : decide (x6_1 < (l0.length : Int)) = true := decide_eq_true c3
    clear c3
    by_cases c4 : 0 ≤ x6_1
    ·
     rw [if_pos c4] at H
     have c4b0 : decide (0 ≤ x6_1) = true := decide_eq_true c4
     clear c4
     by_cases c5 : (Op.bytesLess (((rd_T46 l0 x6_1).f0).toList) a1.toList) = true
     ·
      rw [if_pos c5] at H
      have c5b0 : (Op.bytesLess (((rd_T46 l0 x6_1).f0).toList) a1.toList) = true := c5
      clear c5
      have H' := Aside0.mk H
      clear H
      have p298 : 0 ≤ (x6_1 : Int) := of_decide_eq_true (by first | (with_reducible assumption) | assumption)
      have q298 : x6_1 < (l0.length : Int) := of_decide_eq_true (by first | (with_reducible assumption) | assumption)
      obtain ⟨ad298, e298, hx298_0, hx298_1⟩ := at_T46 HR0.out x6_1 p298 q298
      cases e298
      replace p298 := eq_true p298
      replace q298 := eq_true q298
      go_wp2
      repeat (go_quiet (fail); try go_wp2)
      go_roundg k1
      case measure => have := HK1.out; omega
      case rel => exact ⟨(wrap64 (x6_1 + 1)), (by first | rfl | (simp; done) | (simp [*]; done)), H', ⟨by have := HK1.out; omega⟩, by repeat (first | exact Drawn0.refl _ | apply Drawn0.step)⟩
     ·
      rw [if_neg c5] at H
      have c5b0 : (Op.bytesLess (((rd_T46 l0 x6_1).f0).toList) a1.toList) = false := by simpa using c5
      clear c5
      simp only [Option.some.injEq, Prod.mk.injEq] at H
      obtain ⟨rfl, rfl⟩ := H
      have p298 : 0 ≤ (x6_1 : Int) := of_decide_eq_true (by first | (with_reducible assumption) | assumption)
      have q298 : x6_1 < (l0.length : Int) := of_decide_eq_true (by first | (with_reducible assumption) | assumption)
      obtain ⟨ad298, e298, hx298_0, hx298_1⟩ := at_T46 HR0.out x6_1 p298 q298
      cases e298
      replace p298 := eq_true p298
      replace q298 := eq_true q298
      have p299 : 0 ≤ (x6_1 : Int) := of_decide_eq_true (by first | (with_reducible assumption) | assumption)
      have q299 : x6_1 < (l0.length : Int) := of_decide_eq_true (by first | (with_reducible assumption) | assumption)
      obtain ⟨ad299, e299, hx299_0, hx299_1⟩ := at_T46 HR0.out x6_1 p299 q299
      obtain rfl : ad298 = ad299 := (by injection e299)
      replace p299 := eq_true p299
      replace q299 := eq_true q299
      go_wp2
      repeat (go_quiet (fail); try go_wp2)
      go_ret2
      exact ⟨by first | rfl | (simp; done) | (simp [*]; done), by repeat (first | exact Drawn0.refl _ | apply Drawn0.step)⟩
    ·
     rw [if_neg c4] at H
     exact absurd H (by simp)
   ·
    rw [if_neg c3] at H
    have c3b0 : decide (x6_1 < (l0.length : Int)) = false := decide_eq_false c3
    clear c3
    simp only [Option.some.injEq, Prod.mk.injEq] at H
    obtain ⟨rfl, rfl⟩ := H
    go_wp2
    repeat (go_quiet (fail); try go_wp2)
    go_ret2
    exact ⟨by first | rfl | (simp; done) | (simp [*]; done), by repeat (first | exact Drawn0.refl _ | apply Drawn0.step)⟩

/-! ### spec_LookName: function 13 -/
def spec_LookName.j0 : Nat → ByteArray → Bool → Int → List Int → List (S43) → Option (Int × Bool)
 | 0, _, _, _, _, _ => none
 | k + 1, x1, x16, x301000, x301001, x301002 => if x16 = true then (some (0, false)) else ((spec_l8Bucket.f k x301000 x301001 x301002 x1).bind fun t303 => (if 0 ≤ t303 then (if t303 < (x301002.length : Int) then ((spec_l8At.f k ((rd_T43 x301002 t303).f1) x1).bind fun bt306 => (if bt306.2 = true then (if 0 ≤ bt306.1 then (if bt306.1 < (((rd_T43 x301002 t303).f1).length : Int) then (some ((rd_T46 ((rd_T43 x301002 t303).f1) bt306.1).f1, true)) else (none)) else (none)) else (some (0, false)))) else (none)) else (none)))
def spec_LookName.f (k : Nat) (a0_0 : Int) (l0_1 : List Int) (l0_2 : List (S43)) (a1 : ByteArray) : Option (Int × Bool) := (spec_GoodDir.f k a0_0 l0_1 l0_2).bind fun t301 => (if t301 = true then ((spec_l8Name.f k a1).bind fun t302 => (spec_LookName.j0 k a1 (!t302) a0_0 l0_1 l0_2)) else (spec_LookName.j0 k a1 true a0_0 l0_1 l0_2))
theorem spec_LookName.mono_l : ∀ k, (∀ y0 y1 y2 y3 y4, LeO (spec_LookName.j0 k y0 y1 y2 y3 y4) (spec_LookName.j0 (k + 1) y0 y1 y2 y3 y4))
 | 0 => fun _ _ _ _ _ r h => by simp [spec_LookName.j0] at h
 | k + 1 => by
  have ih0 := spec_LookName.mono_l k
  ·
   intro y0 y1 y2 y3 y4
   unfold spec_LookName.j0
   repeat' first
   | (with_reducible exact ih0 _ _ _ _ _)
   | (with_reducible exact spec_GoodDir.mono _ _ _ _)
   | (with_reducible exact spec_l8At.mono _ _ _)
   | (with_reducible exact spec_l8Bucket.mono _ _ _ _ _)
   | (with_reducible exact spec_l8Name.mono _ _)
   | (with_reducible exact LeO.refl _)
   | (with_reducible exact LeO.none _)
   | (with_reducible refine LeO.ite ?_ ?_)
   | (with_reducible refine LeO.bind ?_ (fun _ => ?_))
   | exact ih0 _ _ _ _ _
   | exact spec_GoodDir.mono _ _ _ _
   | exact spec_l8At.mono _ _ _
   | exact spec_l8Bucket.mono _ _ _ _ _
   | exact spec_l8Name.mono _ _
   | exact LeO.none _
   | refine LeO.ite ?_ ?_
   | refine LeO.bind ?_ (fun _ => ?_)
theorem spec_LookName.mono : ∀ a0 a1 a2 a3 k, LeO (spec_LookName.f k a0 a1 a2 a3) (spec_LookName.f (k + 1) a0 a1 a2 a3) := by
 intro a0 a1 a2 a3 k
 have ih0 := spec_LookName.mono_l k
 unfold spec_LookName.f
 repeat' first
   | (with_reducible exact ih0 _ _ _ _ _)
   | (with_reducible exact spec_GoodDir.mono _ _ _ _)
   | (with_reducible exact spec_l8At.mono _ _ _)
   | (with_reducible exact spec_l8Bucket.mono _ _ _ _ _)
   | (with_reducible exact spec_l8Name.mono _ _)
   | (with_reducible exact LeO.refl _)
   | (with_reducible exact LeO.none _)
   | (with_reducible refine LeO.ite ?_ ?_)
   | (with_reducible refine LeO.bind ?_ (fun _ => ?_))
   | exact ih0 _ _ _ _ _
   | exact spec_GoodDir.mono _ _ _ _
   | exact spec_l8At.mono _ _ _
   | exact spec_l8Bucket.mono _ _ _ _ _
   | exact spec_l8Name.mono _ _
   | exact LeO.none _
   | refine LeO.ite ?_ ?_
   | refine LeO.bind ?_ (fun _ => ?_)
def spec_LookName.T3 : Bool × List (List Nat × List Nat) := (true, [([], []), ([0], [0]), ([], []), ([], []), ([2, 3], [2, 3]), ([1, 4], [1, 4]), ([5], [5]), ([], []), ([7, 6, 4, 0, 1, 2, 3, 4, 5, 6, 7], [6, 7])])
def spec_LookName.B3 : List Nat := [0, 1, 0, 0, 12, 31, 63, 0, 255]
theorem spec_LookName.tab3 : rtab .any (opsOf Tryd.f13 3) = spec_LookName.T3 := by kernel_rfl
theorem spec_LookName.bits3 : waitsOk spec_LookName.T3.2 spec_LookName.B3 = true := by kernel_rfl
set_option maxHeartbeats 8000000 in
set_option maxRecDepth 100000 in
theorem spec_LookName.calls (k : Nat) (a0_0 : Int) (A0_1 : Option Addr) (c0_1 : Nat) (l0_1 : List Int) (A0_2 : Option Addr) (c0_2 : Nat) (l0_2 : List (S43)) (a1 : ByteArray) (r1 : Int) (r2 : Bool) (w : World) (hr0_1 : Kd.C (Kd.int .i64) w A0_1 l0_1.length l0_1) (hc0_1 : l0_1.length ≤ c0_1) (hr0_2 : Kd.C k43 w A0_2 l0_2.length l0_2) (hc0_2 : l0_2.length ≤ c0_2) (h : spec_LookName.f k a0_0 l0_1 l0_2 a1 = some (r1, r2)) :
  Calls Tryd.prog 13 #[.agg #[.int .i64 a0_0, .slice A0_1 l0_1.length c0_1, .slice A0_2 l0_2.length c0_2], .string a1] w fun e w' => e = .returned (.tuple #[.int .i64 r1, .bool r2]) ∧ Below w.heap.size w w' := by
 have hu30 := Tryd.underlying30
 have hu43 := Tryd.underlying43
 have HR0_1 := Aside0.mk hr0_1
 have HC0_1 := Aside0.mk hc0_1
 clear hr0_1 hc0_1
 have HR0_2 := Aside0.mk hr0_2
 have HC0_2 := Aside0.mk hc0_2
 clear hr0_2 hc0_2
 have HB := Aside0.mk (Below.refl w.heap.size w)
 have H : ((spec_GoodDir.f k a0_0 l0_1 l0_2).bind fun t301 => (if t301 = true then ((spec_l8Name.f k a1).bind fun t302 => (spec_LookName.j0 k a1 (!t302) a0_0 l0_1 l0_2)) else (spec_LookName.j0 k a1 true a0_0 l0_1 l0_2))) = some (r1, r2) := h
 clear h
 have HC3 := Aside0.mk H
 clear H
 go_enter Tryd.func13, Tryd.ntmps13
 go_upto_region 1 with (first | ((with_reducible refine gate_dst (N := 2) rfl ?_); refine box_event ?hg (N := 2) ?hd (cs := #[.int .i64 a0_0, .slice A0_1 l0_1.length c0_1, .slice A0_2 l0_2.length c0_2]) (t := 30) ?hr ?_; (case hd => rfl); (case hg => rfl); (case hr => first | (go_simp; done) | (go_simp; rfl)); intro gb300 hg w4 hbox hb; have BK300 := Aside0.mk (hbox); have GW300 := Aside0.mk ((by rw [hg]; exact (below_size (bs HB)) : w.heap.size ≤ gb300)); have GE300 := Aside0.mk ((by rw [hg]; exact (below_size (bs HB)) : w.heap.size ≤ gb300)); replace HB := Aside0.mk (below_step (bs HB) hb); clear hb hbox hg))
 (try simp only [Act.put, List.setIfInBounds_toArray, List.set_cons_zero, List.set_cons_succ])
 go_cut [16] (fun v16 wc => ∃ (kq : Nat) (x16_2 : Bool), v16 = .bool x16_2 ∧ Aside0 (spec_LookName.j0 kq a1 x16_2 a0_0 l0_1 l0_2 = some (r1, r2)) ∧ Aside0 (kq ≤ k) ∧ Aside0 (wc.heap[gb300]? = some (.cells #[.int .i64 a0_0, (.slice A0_1 l0_1.length c0_1), (.slice A0_2 l0_2.length c0_2)] 30 (0, 0))) ∧ Aside0 (Below w.heap.size w wc))
 case first =>
  have H := HC3.out
  clear HC3
  replace H := Option.bind_eq_some_iff.mp H
  obtain ⟨t301, A50, H⟩ := H
  replace H : (if t301 = true then ((spec_l8Name.f k a1).bind fun t302 => (spec_LookName.j0 k a1 (!t302) a0_0 l0_1 l0_2)) else (spec_LookName.j0 k a1 true a0_0 l0_1 l0_2)) = some (r1, r2) := H
  have A5 := Aside0.mk A50
  clear A50
  by_cases c6 : t301 = true
  ·
   subst c6
   rw [if_pos rfl] at H
   replace H := Option.bind_eq_some_iff.mp H
   obtain ⟨t302, A70, H⟩ := H
   replace H : (spec_LookName.j0 k a1 (!t302) a0_0 l0_1 l0_2) = some (r1, r2) := H
   have A7 := Aside0.mk A70
   clear A70
   have H' := Aside0.mk H
   clear H
   obtain ⟨hcz8_0, hcz8_1, hcz8_2⟩ := cz3 BK300
   obtain ⟨hfz8_0, hfz8_1, hfz8_2⟩ := fz3 BK300
   go_wp2_with (first | ((with_reducible refine gate_callee (f := 7) rfl ?_); refine gL (some 10) rfl rfl Tryd.func7 (by kernel_rfl) rfl #[.agg #[.int .i64 a0_0, .slice A0_1 l0_1.length c0_1, .slice A0_2 l0_2.length c0_2]] rfl ?_; (with_reducible refine (spec_GoodDir.calls k a0_0 _ _ l0_1 _ _ l0_2 true _ ?side1 ?side2 ?side3 ?side4 A5.out).mono ?_); (case side1 => exact cb HR0_1 HB); (case side2 => exact HC0_1.out); (case side3 => exact cb HR0_2 HB); (case side4 => exact HC0_2.out); rintro e w9 ⟨rfl, hb⟩; refine ⟨_, rfl, ?_⟩; replace BK300 := nb BK300 hb; replace HB := Aside0.mk (below_step (bs1 HB GE300) hb); (try clear hb); (try clear hb2); (try clear hk); (try clear hi)) | (go_at_call 19; (with_reducible refine (spec_l8Name.calls k a1 t302 _ A7.out).mono ?_); rintro e w' ⟨rfl, ⟨nd, rfl⟩⟩))
   go_meet
   case rel => exact ⟨_, (!t302), (by first | rfl | (simp; done) | (simp [*]; done)), H', ⟨by first | omega | exact Nat.le_refl _⟩, ⟨bk BK300⟩, ⟨bs1 HB GE300⟩⟩
  ·
   replace c6 := Bool.eq_false_iff.mpr c6
   subst c6
   rw [if_neg (show ¬ (false = true) by decide)] at H
   have H' := Aside0.mk H
   clear H
   obtain ⟨hcz10_0, hcz10_1, hcz10_2⟩ := cz3 BK300
   obtain ⟨hfz10_0, hfz10_1, hfz10_2⟩ := fz3 BK300
   go_wp2_with (first | ((with_reducible refine gate_callee (f := 7) rfl ?_); refine gL (some 10) rfl rfl Tryd.func7 (by kernel_rfl) rfl #[.agg #[.int .i64 a0_0, .slice A0_1 l0_1.length c0_1, .slice A0_2 l0_2.length c0_2]] rfl ?_; (with_reducible refine (spec_GoodDir.calls k a0_0 _ _ l0_1 _ _ l0_2 false _ ?side1 ?side2 ?side3 ?side4 A5.out).mono ?_); (case side1 => exact cb HR0_1 HB); (case side2 => exact HC0_1.out); (case side3 => exact cb HR0_2 HB); (case side4 => exact HC0_2.out); rintro e w11 ⟨rfl, hb⟩; refine ⟨_, rfl, ?_⟩; replace BK300 := nb BK300 hb; replace HB := Aside0.mk (below_step (bs1 HB GE300) hb); (try clear hb); (try clear hb2); (try clear hk); (try clear hi)))
   go_meet
   case rel => exact ⟨_, (true), (by first | rfl | (simp; done) | (simp [*]; done)), H', ⟨by first | omega | exact Nat.le_refl _⟩, ⟨bk BK300⟩, ⟨bs1 HB GE300⟩⟩
 case rest =>
  clear HC3
  try clear c1
  try clear p2
  try clear c6
  try clear c7
  try clear hcz10_0 hcz10_1 hcz10_2
  try clear hcz8_0 hcz8_1 hcz8_2
  try clear hfz10_0 hfz10_1 hfz10_2
  try clear hfz8_0 hfz8_1 hfz8_2
  obtain ⟨kq, x16_2, rfl, HA, HJ2, BK300, HB⟩ := hcut
  cases kq with
  | zero => exact absurd HA.out (by simp [spec_LookName.j0])
  | succ kj2 =>
   have H := HA.out
   clear HA
   simp only [spec_LookName.j0] at H
   by_cases c12 : x16_2 = true
   ·
    subst c12
    rw [if_pos rfl] at H
    simp only [Option.some.injEq, Prod.mk.injEq] at H
    obtain ⟨rfl, rfl⟩ := H
    go_wp2
    go_ret2
    exact ⟨by first | rfl | (simp [errW_none, errW_some] <;> rfl) | (simp [*, errW_none, errW_some] <;> rfl), bs1 HB GE300⟩
   ·
    replace c12 := Bool.eq_false_iff.mpr c12
    subst c12
    rw [if_neg (show ¬ (false = true) by decide)] at H
    replace H := Option.bind_eq_some_iff.mp H
    obtain ⟨t303, A130, H⟩ := H
    replace H : (if 0 ≤ t303 then (if t303 < (l0_2.length : Int) then ((spec_l8At.f kj2 ((rd_T43 l0_2 t303).f1) a1).bind fun bt306 => (if bt306.2 = true then (if 0 ≤ bt306.1 then (if bt306.1 < (((rd_T43 l0_2 t303).f1).length : Int) then (some ((rd_T46 ((rd_T43 l0_2 t303).f1) bt306.1).f1, true)) else (none)) else (none)) else (some (0, false)))) else (none)) else (none)) = some (r1, r2) := H
    have A13 := Aside0.mk A130
    clear A130
    by_cases c14 : 0 ≤ t303
    ·
     rw [if_pos c14] at H
     have c14b0 : decide (0 ≤ t303) = true := decide_eq_true c14
     clear c14
     by_cases c15 : t303 < (l0_2.length : Int)
     ·
      rw [if_pos c15] at H
      have c15b0 : decide (t303 < (l0_2.length : Int)) = true := decide_eq_true c15
      clear c15
      replace H := Option.bind_eq_some_iff.mp H
      obtain ⟨⟨t306, t307⟩, A160, H⟩ := H
      replace H : (if t307 = true then (if 0 ≤ t306 then (if t306 < (((rd_T43 l0_2 t303).f1).length : Int) then (some ((rd_T46 ((rd_T43 l0_2 t303).f1) t306).f1, true)) else (none)) else (none)) else (some (0, false))) = some (r1, r2) := H
      have A16 := Aside0.mk A160
      clear A160
      by_cases c17 : t307 = true
      ·
       subst c17
       rw [if_pos rfl] at H
       by_cases c18 : 0 ≤ t306
       ·
        rw [if_pos c18] at H
        have c18b0 : decide (0 ≤ t306) = true := decide_eq_true c18
        clear c18
        by_cases c19 : t306 < (((rd_T43 l0_2 t303).f1).length : Int)
        ·
         rw [if_pos c19] at H
         have c19b0 : decide (t306 < (((rd_T43 l0_2 t303).f1).length : Int)) = true := decide_eq_true c19
         clear c19
         simp only [Option.some.injEq, Prod.mk.injEq] at H
         obtain ⟨rfl, rfl⟩ := H
         try go_wp2
         have n0_ := Aside0.mk (blk_drew BK300.out)
         have n1_ := Aside0.mk (below_drew1 HB.out)
         clear BK300
         clear HB
         have BK300 := n0_
         have HB := n1_
         clear n0_ n1_
         have p304 : 0 ≤ (t303 : Int) := of_decide_eq_true (by first | (with_reducible assumption) | assumption)
         have q304 : t303 < (l0_2.length : Int) := of_decide_eq_true (by first | (with_reducible assumption) | assumption)
         obtain ⟨ad304, A304_1, c304_1, e304, hx304_0, hx304_1, hl304_1, hi304_1⟩ := at_T43 HR0_2.out t303 p304 q304
         have hw304_1 := hx304_1
         have hw304_0 := hx304_0
         cases e304
         replace hx304_0 := (HB.out.cell (World.block_lt_of_cell? w _ hx304_0)).trans hx304_0
         replace hx304_1 := (HB.out.cell (World.block_lt_of_cell? w _ hx304_1)).trans hx304_1
         have HR304_1 := Aside0.mk hi304_1
         have HC304_1 := Aside0.mk hl304_1
         clear hi304_1 hl304_1
         replace p304 := eq_true p304
         replace q304 := eq_true q304
         refine start_ (n := 9) (S := fun w' => w'.cell? ⟨gb300, 0, none⟩ = some (.int .i64 a0_0) ∧ w'.cell? ⟨gb300, 1, none⟩ = some (.slice A0_1 l0_1.length c0_1) ∧ w'.cell? ⟨gb300, 2, none⟩ = some (.slice (some ad304) l0_2.length c0_2) ∧ w'.cell? (ad304.add ((t303).toNat * 2)) = some (.int .i64 ((rd_T43 l0_2 t303).f0)) ∧ w'.cell? ⟨(ad304.add ((t303).toNat * 2)).block, (ad304.add ((t303).toNat * 2)).off + 1, none⟩ = some (.slice A304_1 ((rd_T43 l0_2 t303).f1).length c304_1)) (ds := []) #[false, false, false, false, false, false, false, false, false] (by kernel_rfl) rfl rfl ⟨(blk_cell BK300.out 0).trans rfl, (blk_cell BK300.out 1).trans rfl, (blk_cell BK300.out 2).trans rfl, ((HB.out.cell (World.block_lt_of_cell? w _ hw304_0)).trans hw304_0), ((HB.out.cell (World.block_lt_of_cell? w _ hw304_1)).trans hw304_1)⟩ (fun hHeld => ?_); refine with_tabW spec_LookName.tab3 spec_LookName.bits3 (fun HT_ HW_ => ?_)
         generalize wc.drew = w20 at BK300 HB HR304_1 hx304_0 hx304_1 hHeld ⊢
         refine pureS 0 17 HT_.out ?_
         refine pureS 3 20 HT_.out ?_
         refine takeS 1 18 HT_.out HW_.out hHeld (hr := by rintro w' ⟨s0, s1, s2, s3, s4⟩; go_simp; with_reducible rfl) (h := ?_)
         refine takeS 2 19 HT_.out HW_.out hHeld (hr := by rintro w' ⟨s0, s1, s2, s3, s4⟩; go_simp; with_reducible rfl) (h := ?_)
         refine join_ (σ := Nat) 1 #[true, true, true, true, true, true, true, true, false] (fun s_ => [(21, .int .i64 t303), (6, .pointer (some ⟨s_, 0, none⟩)), (22, .pointer (some (ad304.add ((t303).toNat * 2)))), (23, .agg #[.int .i64 ((rd_T43 l0_2 t303).f0), .slice A304_1 ((rd_T43 l0_2 t303).f1).length c304_1])]) (fun s_ w' => (w'.cell? ⟨gb300, 0, none⟩ = some (.int .i64 a0_0) ∧ w'.cell? ⟨gb300, 1, none⟩ = some (.slice A0_1 l0_1.length c0_1) ∧ w'.cell? ⟨gb300, 2, none⟩ = some (.slice (some ad304) l0_2.length c0_2) ∧ w'.cell? (ad304.add ((t303).toNat * 2)) = some (.int .i64 ((rd_T43 l0_2 t303).f0)) ∧ w'.cell? ⟨(ad304.add ((t303).toNat * 2)).block, (ad304.add ((t303).toNat * 2)).off + 1, none⟩ = some (.slice A304_1 ((rd_T43 l0_2 t303).f1).length c304_1)) ∧ (w'.heap[gb300]? = some (.cells #[.int .i64 a0_0, .slice A0_1 l0_1.length c0_1, .slice (some ad304) l0_2.length c0_2] 30 (0, 0))) ∧ (w'.heap[s_]? = some (.cells #[.int .i64 0, .slice none 0 0] 43 (0, 0))) ∧ (w.heap.size ≤ s_) ∧ (w.heap.size ≤ s_) ∧ (gb300 ≠ s_) ∧ (s_ ≠ gb300) ∧ (Below w.heap.size w w')) ?_ ?_
         rotate_left
         ·
          intro hCont
          refine two_ (i := 4) (j := 7) (Ni := some 21) (Nj := some 6) #[true, true, true, true, true, false, false, false, false] #[true, true, true, true, false, false, false, true, false] rfl rfl rfl rfl (two_of HT_.out (by kernel_rfl)) (by decide) (by decide) (fun K hK => ?_) (fun K hK => ?_)
          ·
           skip
           refine goes_ Tryd.func30 (by kernel_rfl) rfl #[.agg #[.int .i64 a0_0, .slice A0_1 l0_1.length c0_1, .slice (some ad304) l0_2.length c0_2], .string a1] (by rfl) rfl rfl (by (try simp only [List.map_toArray, List.map_cons, List.map_nil]); first | done | rfl | (simp only [List.length_drop, List.length_take]; rfl)) ?_
           with_reducible refine (spec_l8Bucket.calls kj2 a0_0 _ _ l0_1 _ _ l0_2 a1 t303 _ ?side1 ?side2 ?side3 ?side4 A13.out).mono ?_
           (case side1 => exact cb HR0_1 HB)
           (case side2 => exact HC0_1.out)
           (case side3 => exact cb HR0_2 HB)
           (case side4 => exact HC0_2.out)
           rintro e w21 ⟨rfl, hb⟩
           refine ⟨_, rfl, ?_⟩
           have n0_ := Aside0.mk (bb BK300 hb)
           have n1_ := Aside0.mk (below_step (bs1 HB GE300) hb)
           clear BK300
           clear HB
           have BK300 := n0_
           have HB := n1_
           clear n0_ n1_
           (try clear hb)
           (try clear hb2)
           (try clear hk)
           (try clear hi)
           refine hK.out _ _ ⟨(blk_cell BK300.out 0).trans rfl, (blk_cell BK300.out 1).trans rfl, (blk_cell BK300.out 2).trans rfl, ((HB.out.cell (World.block_lt_of_cell? w _ hw304_0)).trans hw304_0), ((HB.out.cell (World.block_lt_of_cell? w _ hw304_1)).trans hw304_1)⟩ (fun hHeld => ?_)
           clear hK K
           refine norm_ (a' := ?_) ?_ ?_
           rotate_left
           ·
            show Act.put _ (some 21) _ = _
            simp only [Act.put, List.setIfInBounds_toArray, List.set_cons_zero, List.set_cons_succ, i64_w, i32_w]
            rfl
           refine pureS 5 22 HT_.out ?_
           refine takeS 6 23 HT_.out HW_.out hHeld (hr := by rintro w' ⟨s0, s1, s2, s3, s4⟩; go_simp; with_reducible rfl) (h := ?_)
           refine one_ (i := 7) (N := some 6) #[true, true, true, true, true, true, true, true, false] rfl rfl (one_of HT_.out (by kernel_rfl)) (by decide) (fun K hK => ?_)
           refine box_step ?hg (N := 6) ?hd (cs := #[.int .i64 0, .slice none 0 0]) (t := 43) ?hr ?_; (case hd => rfl); (case hg => rfl); (case hr => first | (go_simp; done) | (go_simp; rfl))
           intro gb305 hg w22 hbox hb
           have n0_ := Aside0.mk (bb BK300 hb)
           have n1_ := Aside0.mk (below_step (bs1 HB GE300) hb)
           have n2_ := Aside0.mk (hbox)
           have n3_ := Aside0.mk ((by rw [hg]; exact (below_size (bs1 HB GE300)) : w.heap.size ≤ gb305))
           have n4_ := Aside0.mk ((by rw [hg]; exact (below_size (bs1 HB GE300)) : w.heap.size ≤ gb305))
           have n5_ := Aside0.mk ((bn BK300 hg : gb300 ≠ gb305))
           have n6_ := Aside0.mk ((bm BK300 hg : gb305 ≠ gb300))
           clear BK300
           clear HB
           have BK300 := n0_
           have HB := n1_
           have BK305 := n2_
           have GW305 := n3_
           have GE305 := n4_
           have NB300_305 := n5_
           have NB305_300 := n6_
           clear n0_ n1_ n2_ n3_ n4_ n5_ n6_
           clear hb hbox hg
           refine hK.out _ _ ⟨(blk_cell BK300.out 0).trans rfl, (blk_cell BK300.out 1).trans rfl, (blk_cell BK300.out 2).trans rfl, ((HB.out.cell (World.block_lt_of_cell? w _ hw304_0)).trans hw304_0), ((HB.out.cell (World.block_lt_of_cell? w _ hw304_1)).trans hw304_1)⟩ (fun hHeld => ?_)
           clear hK K
           refine norm_ (a' := ?_) ?_ ?_
           rotate_left
           ·
            show Act.put _ (some 6) _ = _
            simp only [Act.put, List.setIfInBounds_toArray, List.set_cons_zero, List.set_cons_succ, i64_w, i32_w]
            rfl
           exact norm_ (by simp only [putAll, Act.put, List.setIfInBounds_toArray, List.set_cons_zero, List.set_cons_succ]) (hCont (gb305) _ ⟨hHeld, (bk BK300), (bk BK305), GW305.out, GE305.out, NB300_305.out, NB305_300.out, (bs2 HB GE300 GE305)⟩)
          ·
           skip
           refine box_step ?hg (N := 6) ?hd (cs := #[.int .i64 0, .slice none 0 0]) (t := 43) ?hr ?_; (case hd => rfl); (case hg => rfl); (case hr => first | (go_simp; done) | (go_simp; rfl))
           intro gb305 hg w21 hbox hb
           have n0_ := Aside0.mk (bb BK300 hb)
           have n1_ := Aside0.mk (below_step (bs1 HB GE300) hb)
           have n2_ := Aside0.mk (hbox)
           have n3_ := Aside0.mk ((by rw [hg]; exact (below_size (bs1 HB GE300)) : w.heap.size ≤ gb305))
           have n4_ := Aside0.mk ((by rw [hg]; exact (below_size (bs1 HB GE300)) : w.heap.size ≤ gb305))
           have n5_ := Aside0.mk ((bn BK300 hg : gb300 ≠ gb305))
           have n6_ := Aside0.mk ((bm BK300 hg : gb305 ≠ gb300))
           clear BK300
           clear HB
           have BK300 := n0_
           have HB := n1_
           have BK305 := n2_
           have GW305 := n3_
           have GE305 := n4_
           have NB300_305 := n5_
           have NB305_300 := n6_
           clear n0_ n1_ n2_ n3_ n4_ n5_ n6_
           clear hb hbox hg
           refine hK.out _ _ ⟨(blk_cell BK300.out 0).trans rfl, (blk_cell BK300.out 1).trans rfl, (blk_cell BK300.out 2).trans rfl, ((HB.out.cell (World.block_lt_of_cell? w _ hw304_0)).trans hw304_0), ((HB.out.cell (World.block_lt_of_cell? w _ hw304_1)).trans hw304_1)⟩ (fun hHeld => ?_)
           clear hK K
           refine norm_ (a' := ?_) ?_ ?_
           rotate_left
           ·
            show Act.put _ (some 6) _ = _
            simp only [Act.put, List.setIfInBounds_toArray, List.set_cons_zero, List.set_cons_succ, i64_w, i32_w]
            rfl
           refine one_ (i := 4) (N := some 21) #[true, true, true, true, true, false, false, true, false] rfl rfl (one_of HT_.out (by kernel_rfl)) (by decide) (fun K hK => ?_)
           refine goes_ Tryd.func30 (by kernel_rfl) rfl #[.agg #[.int .i64 a0_0, .slice A0_1 l0_1.length c0_1, .slice (some ad304) l0_2.length c0_2], .string a1] (by rfl) rfl rfl (by (try simp only [List.map_toArray, List.map_cons, List.map_nil]); first | done | rfl | (simp only [List.length_drop, List.length_take]; rfl)) ?_
           with_reducible refine (spec_l8Bucket.calls kj2 a0_0 _ _ l0_1 _ _ l0_2 a1 t303 _ ?side1 ?side2 ?side3 ?side4 A13.out).mono ?_
           (case side1 => exact cb HR0_1 HB)
           (case side2 => exact HC0_1.out)
           (case side3 => exact cb HR0_2 HB)
           (case side4 => exact HC0_2.out)
           rintro e w22 ⟨rfl, hb⟩
           refine ⟨_, rfl, ?_⟩
           have n0_ := Aside0.mk (bb BK300 hb)
           have n1_ := Aside0.mk (bb BK305 hb)
           have n2_ := Aside0.mk (below_step (bs2 HB GE300 GE305) hb)
           clear BK300
           clear BK305
           clear HB
           have BK300 := n0_
           have BK305 := n1_
           have HB := n2_
           clear n0_ n1_ n2_
           (try clear hb)
           (try clear hb2)
           (try clear hk)
           (try clear hi)
           refine hK.out _ _ ⟨(blk_cell BK300.out 0).trans rfl, (blk_cell BK300.out 1).trans rfl, (blk_cell BK300.out 2).trans rfl, ((HB.out.cell (World.block_lt_of_cell? w _ hw304_0)).trans hw304_0), ((HB.out.cell (World.block_lt_of_cell? w _ hw304_1)).trans hw304_1)⟩ (fun hHeld => ?_)
           clear hK K
           refine norm_ (a' := ?_) ?_ ?_
           rotate_left
           ·
            show Act.put _ (some 21) _ = _
            simp only [Act.put, List.setIfInBounds_toArray, List.set_cons_zero, List.set_cons_succ, i64_w, i32_w]
            rfl
           refine pureS 5 22 HT_.out ?_
           refine takeS 6 23 HT_.out HW_.out hHeld (hr := by rintro w' ⟨s0, s1, s2, s3, s4⟩; go_simp; with_reducible rfl) (h := ?_)
           exact norm_ (by simp only [putAll, Act.put, List.setIfInBounds_toArray, List.set_cons_zero, List.set_cons_succ]) (hCont (gb305) _ ⟨hHeld, (bk BK300), (bk BK305), GW305.out, GE305.out, NB300_305.out, NB305_300.out, (bs2 HB GE300 GE305)⟩)
         rintro gb305 w23 ⟨hS_, h0_, h1_, h2_, h3_, h4_, h5_, h6_⟩
         have n0_ : Aside0 (w23.heap[gb300]? = some (.cells #[.int .i64 a0_0, .slice A0_1 l0_1.length c0_1, .slice (some ad304) l0_2.length c0_2] 30 (0, 0))) := ⟨h0_⟩
         have n1_ : Aside0 (w23.heap[gb305]? = some (.cells #[.int .i64 0, .slice none 0 0] 43 (0, 0))) := ⟨h1_⟩
         have n2_ : Aside0 (w.heap.size ≤ gb305) := ⟨h2_⟩
         have n3_ : Aside0 (w.heap.size ≤ gb305) := ⟨h3_⟩
         have n4_ : Aside0 (gb300 ≠ gb305) := ⟨h4_⟩
         have n5_ : Aside0 (gb305 ≠ gb300) := ⟨h5_⟩
         have n6_ : Aside0 (Below w.heap.size w w23) := ⟨h6_⟩
         clear BK300
         clear HB
         clear h0_ h1_ h2_ h3_ h4_ h5_ h6_
         have BK300 := n0_
         have BK305 := n1_
         have GW305 := n2_
         have GE305 := n3_
         have NB300_305 := n4_
         have NB305_300 := n5_
         have HB := n6_
         clear n0_ n1_ n2_ n3_ n4_ n5_ n6_
         have hHeld : w23.cell? ⟨gb300, 0, none⟩ = some (.int .i64 a0_0) ∧ w23.cell? ⟨gb300, 1, none⟩ = some (.slice A0_1 l0_1.length c0_1) ∧ w23.cell? ⟨gb300, 2, none⟩ = some (.slice (some ad304) l0_2.length c0_2) ∧ w23.cell? (ad304.add ((t303).toNat * 2)) = some (.int .i64 ((rd_T43 l0_2 t303).f0)) ∧ w23.cell? ⟨(ad304.add ((t303).toNat * 2)).block, (ad304.add ((t303).toNat * 2)).off + 1, none⟩ = some (.slice A304_1 ((rd_T43 l0_2 t303).f1).length c304_1) := hS_
         refine norm_ (a' := ?_) ?_ ?_
         rotate_left
         ·
          simp only [putAll, Act.put, List.setIfInBounds_toArray, List.set_cons_zero, List.set_cons_succ]
          rfl
         refine one_ (i := 8) (N := none) #[true, true, true, true, true, true, true, true, true] rfl rfl (one_of HT_.out (by kernel_rfl)) (by decide) (fun K hK => ?_)
         have hs24 : w23.cell? ⟨gb305, 0, none⟩ = some (.int .i64 0) := (blk_cell BK305.out 0).trans rfl
         have hfs24 := blk_frozen BK305.out 0
         have hns24_0 := NB300_305.out
         have hms24_0 := NB305_300.out
         have hs25 : w23.cell? ⟨gb305, 1, none⟩ = some (.slice none 0 0) := (blk_cell BK305.out 1).trans rfl
         have hfs25 := blk_frozen BK305.out 1
         have hns25_0 := NB300_305.out
         have hms25_0 := NB305_300.out
         refine skip_ (w1 := ?_) (by rfl) rfl ?_ ?_
         rotate_left
         ·
          go_simp
          rfl
         refine hK.out _ _ ⟨((cell_far (p := ⟨gb305, _, none⟩) NB300_305.out _).trans (((cell_far (p := ⟨gb305, _, none⟩) NB300_305.out _).trans (hHeld.1)))), ((cell_far (p := ⟨gb305, _, none⟩) NB300_305.out _).trans (((cell_far (p := ⟨gb305, _, none⟩) NB300_305.out _).trans (hHeld.2.1)))), ((cell_far (p := ⟨gb305, _, none⟩) NB300_305.out _).trans (((cell_far (p := ⟨gb305, _, none⟩) NB300_305.out _).trans (hHeld.2.2.1)))), ((cell_far (p := ⟨gb305, _, none⟩) (by first | exact Nat.ne_of_lt (Nat.lt_of_lt_of_le (by have := World.block_lt_of_cell? _ _ hw304_0; first | rwa [add_block] at this | exact this) GW305.out) | (rw [add_block]; exact Nat.ne_of_lt (Nat.lt_of_lt_of_le (by have := World.block_lt_of_cell? _ _ hw304_0; first | rwa [add_block] at this | exact this) GW305.out)) | (show (Addr.add _ _).block ≠ _; rw [add_block]; exact Nat.ne_of_lt (Nat.lt_of_lt_of_le (by have := World.block_lt_of_cell? _ _ hw304_0; first | rwa [add_block] at this | exact this) GW305.out)) | (dsimp only; exact Nat.ne_of_lt (Nat.lt_of_lt_of_le (by have := World.block_lt_of_cell? _ _ hw304_0; first | rwa [add_block] at this | exact this) GW305.out))) _).trans (((cell_far (p := ⟨gb305, _, none⟩) (by first | exact Nat.ne_of_lt (Nat.lt_of_lt_of_le (by have := World.block_lt_of_cell? _ _ hw304_0; first | rwa [add_block] at this | exact this) GW305.out) | (rw [add_block]; exact Nat.ne_of_lt (Nat.lt_of_lt_of_le (by have := World.block_lt_of_cell? _ _ hw304_0; first | rwa [add_block] at this | exact this) GW305.out)) | (show (Addr.add _ _).block ≠ _; rw [add_block]; exact Nat.ne_of_lt (Nat.lt_of_lt_of_le (by have := World.block_lt_of_cell? _ _ hw304_0; first | rwa [add_block] at this | exact this) GW305.out)) | (dsimp only; exact Nat.ne_of_lt (Nat.lt_of_lt_of_le (by have := World.block_lt_of_cell? _ _ hw304_0; first | rwa [add_block] at this | exact this) GW305.out))) _).trans (hHeld.2.2.2.1)))), ((cell_far (p := ⟨gb305, _, none⟩) (by first | exact Nat.ne_of_lt (Nat.lt_of_lt_of_le (by have := World.block_lt_of_cell? _ _ hw304_1; first | rwa [add_block] at this | exact this) GW305.out) | (rw [add_block]; exact Nat.ne_of_lt (Nat.lt_of_lt_of_le (by have := World.block_lt_of_cell? _ _ hw304_1; first | rwa [add_block] at this | exact this) GW305.out)) | (show (Addr.add _ _).block ≠ _; rw [add_block]; exact Nat.ne_of_lt (Nat.lt_of_lt_of_le (by have := World.block_lt_of_cell? _ _ hw304_1; first | rwa [add_block] at this | exact this) GW305.out)) | (dsimp only; exact Nat.ne_of_lt (Nat.lt_of_lt_of_le (by have := World.block_lt_of_cell? _ _ hw304_1; first | rwa [add_block] at this | exact this) GW305.out))) _).trans (((cell_far (p := ⟨gb305, _, none⟩) (by first | exact Nat.ne_of_lt (Nat.lt_of_lt_of_le (by have := World.block_lt_of_cell? _ _ hw304_1; first | rwa [add_block] at this | exact this) GW305.out) | (rw [add_block]; exact Nat.ne_of_lt (Nat.lt_of_lt_of_le (by have := World.block_lt_of_cell? _ _ hw304_1; first | rwa [add_block] at this | exact this) GW305.out)) | (show (Addr.add _ _).block ≠ _; rw [add_block]; exact Nat.ne_of_lt (Nat.lt_of_lt_of_le (by have := World.block_lt_of_cell? _ _ hw304_1; first | rwa [add_block] at this | exact this) GW305.out)) | (dsimp only; exact Nat.ne_of_lt (Nat.lt_of_lt_of_le (by have := World.block_lt_of_cell? _ _ hw304_1; first | rwa [add_block] at this | exact this) GW305.out))) _).trans (hHeld.2.2.2.2))))⟩ (fun hHeld => ?_)
         clear hK K
         refine done_ (done_of HT_.out (by kernel_rfl)) ?_
         have hnb26 := NB305_300.out
         have hnc26 := NB300_305.out
         obtain ⟨hcz27_0, hcz27_1⟩ := cz2 BK305
         obtain ⟨hfz27_0, hfz27_1⟩ := fz2 BK305
         try go_wp2_with (first | ((with_reducible refine gate_callee (f := 32) rfl ?_); refine gL (some 28) rfl rfl Tryd.func32 (by kernel_rfl) rfl #[.slice A304_1 ((rd_T43 l0_2 t303).f1).length c304_1, .string a1] rfl ?_; (with_reducible refine (spec_l8At.calls kj2 _ _ ((rd_T43 l0_2 t303).f1) a1 t306 true _ ?side1 ?side2 A16.out).mono ?_); (case side1 => exact Kd.C_below HR304_1.out (bs2 HB GE300 GE305)); (case side2 => exact HC304_1.out); rintro e w' ⟨rfl, ⟨nd, rfl⟩⟩; refine ⟨_, rfl, ?_⟩; have p308 : 0 ≤ (t306 : Int) := of_decide_eq_true (by first | (with_reducible assumption) | assumption); have q308 : t306 < (((rd_T43 l0_2 t303).f1).length : Int) := of_decide_eq_true (by first | (with_reducible assumption) | assumption); obtain ⟨ad308, e308, hx308_0, hx308_1⟩ := at_T46 HR304_1.out t306 p308 q308; cases e308; have hn308_0 : ad308.block ≠ gb305 := Nat.ne_of_lt (Nat.lt_of_lt_of_le (by have := World.block_lt_of_cell? _ _ hx308_0; first | rwa [add_block] at this | exact this) GW305.out); have hn308_1 : ad308.block ≠ gb305 := Nat.ne_of_lt (Nat.lt_of_lt_of_le (by have := World.block_lt_of_cell? _ _ hx308_0; first | rwa [add_block] at this | exact this) GW305.out); replace hx308_0 := (HB.out.cell (World.block_lt_of_cell? w _ hx308_0)).trans hx308_0; replace hx308_1 := (HB.out.cell (World.block_lt_of_cell? w _ hx308_1)).trans hx308_1; replace hx308_0 := (cell_far (p := ⟨gb305, 0, none⟩) (by first | (rw [add_block]; exact hn308_0) | (show (Addr.add _ _).block ≠ _; rw [add_block]; exact hn308_0) | exact hn308_0) (.int .i64 ((rd_T43 l0_2 t303).f0))).trans hx308_0; replace hx308_1 := (cell_far (p := ⟨gb305, 0, none⟩) (by first | (rw [add_block]; exact hn308_0) | (show (Addr.add _ _).block ≠ _; rw [add_block]; exact hn308_0) | exact hn308_0) (.int .i64 ((rd_T43 l0_2 t303).f0))).trans hx308_1; replace hx308_0 := (cell_far (p := ⟨gb305, 1, none⟩) (by first | (rw [add_block]; exact hn308_1) | (show (Addr.add _ _).block ≠ _; rw [add_block]; exact hn308_1) | exact hn308_1) (.slice (some ad308) ((rd_T43 l0_2 t303).f1).length c304_1)).trans hx308_0; replace hx308_1 := (cell_far (p := ⟨gb305, 1, none⟩) (by first | (rw [add_block]; exact hn308_1) | (show (Addr.add _ _).block ≠ _; rw [add_block]; exact hn308_1) | exact hn308_1) (.slice (some ad308) ((rd_T43 l0_2 t303).f1).length c304_1)).trans hx308_1; clear hn308_0; clear hn308_1; replace p308 := eq_true p308; replace q308 := eq_true q308))
         go_ret2
         exact ⟨by first | rfl | (simp [errW_none, errW_some] <;> rfl) | (simp [*, errW_none, errW_some] <;> rfl), bs2 HB GE300 GE305⟩
        ·
         rw [if_neg c19] at H
         exact absurd H (by simp)
       ·
        rw [if_neg c18] at H
        exact absurd H (by simp)
      ·
       replace c17 := Bool.eq_false_iff.mpr c17
       subst c17
       rw [if_neg (show ¬ (false = true) by decide)] at H
       simp only [Option.some.injEq, Prod.mk.injEq] at H
       obtain ⟨rfl, rfl⟩ := H
       try go_wp2
       have n0_ := Aside0.mk (blk_drew BK300.out)
       have n1_ := Aside0.mk (below_drew1 HB.out)
       clear BK300
       clear HB
       have BK300 := n0_
       have HB := n1_
       clear n0_ n1_
       have p304 : 0 ≤ (t303 : Int) := of_decide_eq_true (by first | (with_reducible assumption) | assumption)
       have q304 : t303 < (l0_2.length : Int) := of_decide_eq_true (by first | (with_reducible assumption) | assumption)
       obtain ⟨ad304, A304_1, c304_1, e304, hx304_0, hx304_1, hl304_1, hi304_1⟩ := at_T43 HR0_2.out t303 p304 q304
       have hw304_1 := hx304_1
       have hw304_0 := hx304_0
       cases e304
       replace hx304_0 := (HB.out.cell (World.block_lt_of_cell? w _ hx304_0)).trans hx304_0
       replace hx304_1 := (HB.out.cell (World.block_lt_of_cell? w _ hx304_1)).trans hx304_1
       have HR304_1 := Aside0.mk hi304_1
       have HC304_1 := Aside0.mk hl304_1
       clear hi304_1 hl304_1
       replace p304 := eq_true p304
       replace q304 := eq_true q304
       refine start_ (n := 9) (S := fun w' => w'.cell? ⟨gb300, 0, none⟩ = some (.int .i64 a0_0) ∧ w'.cell? ⟨gb300, 1, none⟩ = some (.slice A0_1 l0_1.length c0_1) ∧ w'.cell? ⟨gb300, 2, none⟩ = some (.slice (some ad304) l0_2.length c0_2) ∧ w'.cell? (ad304.add ((t303).toNat * 2)) = some (.int .i64 ((rd_T43 l0_2 t303).f0)) ∧ w'.cell? ⟨(ad304.add ((t303).toNat * 2)).block, (ad304.add ((t303).toNat * 2)).off + 1, none⟩ = some (.slice A304_1 ((rd_T43 l0_2 t303).f1).length c304_1)) (ds := []) #[false, false, false, false, false, false, false, false, false] (by kernel_rfl) rfl rfl ⟨(blk_cell BK300.out 0).trans rfl, (blk_cell BK300.out 1).trans rfl, (blk_cell BK300.out 2).trans rfl, ((HB.out.cell (World.block_lt_of_cell? w _ hw304_0)).trans hw304_0), ((HB.out.cell (World.block_lt_of_cell? w _ hw304_1)).trans hw304_1)⟩ (fun hHeld => ?_); refine with_tabW spec_LookName.tab3 spec_LookName.bits3 (fun HT_ HW_ => ?_)
       generalize wc.drew = w28 at BK300 HB HR304_1 hx304_0 hx304_1 hHeld ⊢
       refine pureS 0 17 HT_.out ?_
       refine pureS 3 20 HT_.out ?_
       refine takeS 1 18 HT_.out HW_.out hHeld (hr := by rintro w' ⟨s0, s1, s2, s3, s4⟩; go_simp; with_reducible rfl) (h := ?_)
       refine takeS 2 19 HT_.out HW_.out hHeld (hr := by rintro w' ⟨s0, s1, s2, s3, s4⟩; go_simp; with_reducible rfl) (h := ?_)
       refine join_ (σ := Nat) 1 #[true, true, true, true, true, true, true, true, false] (fun s_ => [(21, .int .i64 t303), (6, .pointer (some ⟨s_, 0, none⟩)), (22, .pointer (some (ad304.add ((t303).toNat * 2)))), (23, .agg #[.int .i64 ((rd_T43 l0_2 t303).f0), .slice A304_1 ((rd_T43 l0_2 t303).f1).length c304_1])]) (fun s_ w' => (w'.cell? ⟨gb300, 0, none⟩ = some (.int .i64 a0_0) ∧ w'.cell? ⟨gb300, 1, none⟩ = some (.slice A0_1 l0_1.length c0_1) ∧ w'.cell? ⟨gb300, 2, none⟩ = some (.slice (some ad304) l0_2.length c0_2) ∧ w'.cell? (ad304.add ((t303).toNat * 2)) = some (.int .i64 ((rd_T43 l0_2 t303).f0)) ∧ w'.cell? ⟨(ad304.add ((t303).toNat * 2)).block, (ad304.add ((t303).toNat * 2)).off + 1, none⟩ = some (.slice A304_1 ((rd_T43 l0_2 t303).f1).length c304_1)) ∧ (w'.heap[gb300]? = some (.cells #[.int .i64 a0_0, .slice A0_1 l0_1.length c0_1, .slice (some ad304) l0_2.length c0_2] 30 (0, 0))) ∧ (w'.heap[s_]? = some (.cells #[.int .i64 0, .slice none 0 0] 43 (0, 0))) ∧ (w.heap.size ≤ s_) ∧ (w.heap.size ≤ s_) ∧ (gb300 ≠ s_) ∧ (s_ ≠ gb300) ∧ (Below w.heap.size w w')) ?_ ?_
       rotate_left
       ·
        intro hCont
        refine two_ (i := 4) (j := 7) (Ni := some 21) (Nj := some 6) #[true, true, true, true, true, false, false, false, false] #[true, true, true, true, false, false, false, true, false] rfl rfl rfl rfl (two_of HT_.out (by kernel_rfl)) (by decide) (by decide) (fun K hK => ?_) (fun K hK => ?_)
        ·
         skip
         refine goes_ Tryd.func30 (by kernel_rfl) rfl #[.agg #[.int .i64 a0_0, .slice A0_1 l0_1.length c0_1, .slice (some ad304) l0_2.length c0_2], .string a1] (by rfl) rfl rfl (by (try simp only [List.map_toArray, List.map_cons, List.map_nil]); first | done | rfl | (simp only [List.length_drop, List.length_take]; rfl)) ?_
         with_reducible refine (spec_l8Bucket.calls kj2 a0_0 _ _ l0_1 _ _ l0_2 a1 t303 _ ?side1 ?side2 ?side3 ?side4 A13.out).mono ?_
         (case side1 => exact cb HR0_1 HB)
         (case side2 => exact HC0_1.out)
         (case side3 => exact cb HR0_2 HB)
         (case side4 => exact HC0_2.out)
         rintro e w29 ⟨rfl, hb⟩
         refine ⟨_, rfl, ?_⟩
         have n0_ := Aside0.mk (bb BK300 hb)
         have n1_ := Aside0.mk (below_step (bs1 HB GE300) hb)
         clear BK300
         clear HB
         have BK300 := n0_
         have HB := n1_
         clear n0_ n1_
         (try clear hb)
         (try clear hb2)
         (try clear hk)
         (try clear hi)
         refine hK.out _ _ ⟨(blk_cell BK300.out 0).trans rfl, (blk_cell BK300.out 1).trans rfl, (blk_cell BK300.out 2).trans rfl, ((HB.out.cell (World.block_lt_of_cell? w _ hw304_0)).trans hw304_0), ((HB.out.cell (World.block_lt_of_cell? w _ hw304_1)).trans hw304_1)⟩ (fun hHeld => ?_)
         clear hK K
         refine norm_ (a' := ?_) ?_ ?_
         rotate_left
         ·
          show Act.put _ (some 21) _ = _
          simp only [Act.put, List.setIfInBounds_toArray, List.set_cons_zero, List.set_cons_succ, i64_w, i32_w]
          rfl
         refine pureS 5 22 HT_.out ?_
         refine takeS 6 23 HT_.out HW_.out hHeld (hr := by rintro w' ⟨s0, s1, s2, s3, s4⟩; go_simp; with_reducible rfl) (h := ?_)
         refine one_ (i := 7) (N := some 6) #[true, true, true, true, true, true, true, true, false] rfl rfl (one_of HT_.out (by kernel_rfl)) (by decide) (fun K hK => ?_)
         refine box_step ?hg (N := 6) ?hd (cs := #[.int .i64 0, .slice none 0 0]) (t := 43) ?hr ?_; (case hd => rfl); (case hg => rfl); (case hr => first | (go_simp; done) | (go_simp; rfl))
         intro gb305 hg w30 hbox hb
         have n0_ := Aside0.mk (bb BK300 hb)
         have n1_ := Aside0.mk (below_step (bs1 HB GE300) hb)
         have n2_ := Aside0.mk (hbox)
         have n3_ := Aside0.mk ((by rw [hg]; exact (below_size (bs1 HB GE300)) : w.heap.size ≤ gb305))
         have n4_ := Aside0.mk ((by rw [hg]; exact (below_size (bs1 HB GE300)) : w.heap.size ≤ gb305))
         have n5_ := Aside0.mk ((bn BK300 hg : gb300 ≠ gb305))
         have n6_ := Aside0.mk ((bm BK300 hg : gb305 ≠ gb300))
         clear BK300
         clear HB
         have BK300 := n0_
         have HB := n1_
         have BK305 := n2_
         have GW305 := n3_
         have GE305 := n4_
         have NB300_305 := n5_
         have NB305_300 := n6_
         clear n0_ n1_ n2_ n3_ n4_ n5_ n6_
         clear hb hbox hg
         refine hK.out _ _ ⟨(blk_cell BK300.out 0).trans rfl, (blk_cell BK300.out 1).trans rfl, (blk_cell BK300.out 2).trans rfl, ((HB.out.cell (World.block_lt_of_cell? w _ hw304_0)).trans hw304_0), ((HB.out.cell (World.block_lt_of_cell? w _ hw304_1)).trans hw304_1)⟩ (fun hHeld => ?_)
         clear hK K
         refine norm_ (a' := ?_) ?_ ?_
         rotate_left
         ·
          show Act.put _ (some 6) _ = _
          simp only [Act.put, List.setIfInBounds_toArray, List.set_cons_zero, List.set_cons_succ, i64_w, i32_w]
          rfl
         exact norm_ (by simp only [putAll, Act.put, List.setIfInBounds_toArray, List.set_cons_zero, List.set_cons_succ]) (hCont (gb305) _ ⟨hHeld, (bk BK300), (bk BK305), GW305.out, GE305.out, NB300_305.out, NB305_300.out, (bs2 HB GE300 GE305)⟩)
        ·
         skip
         refine box_step ?hg (N := 6) ?hd (cs := #[.int .i64 0, .slice none 0 0]) (t := 43) ?hr ?_; (case hd => rfl); (case hg => rfl); (case hr => first | (go_simp; done) | (go_simp; rfl))
         intro gb305 hg w29 hbox hb
         have n0_ := Aside0.mk (bb BK300 hb)
         have n1_ := Aside0.mk (below_step (bs1 HB GE300) hb)
         have n2_ := Aside0.mk (hbox)
         have n3_ := Aside0.mk ((by rw [hg]; exact (below_size (bs1 HB GE300)) : w.heap.size ≤ gb305))
         have n4_ := Aside0.mk ((by rw [hg]; exact (below_size (bs1 HB GE300)) : w.heap.size ≤ gb305))
         have n5_ := Aside0.mk ((bn BK300 hg : gb300 ≠ gb305))
         have n6_ := Aside0.mk ((bm BK300 hg : gb305 ≠ gb300))
         clear BK300
         clear HB
         have BK300 := n0_
         have HB := n1_
         have BK305 := n2_
         have GW305 := n3_
         have GE305 := n4_
         have NB300_305 := n5_
         have NB305_300 := n6_
         clear n0_ n1_ n2_ n3_ n4_ n5_ n6_
         clear hb hbox hg
         refine hK.out _ _ ⟨(blk_cell BK300.out 0).trans rfl, (blk_cell BK300.out 1).trans rfl, (blk_cell BK300.out 2).trans rfl, ((HB.out.cell (World.block_lt_of_cell? w _ hw304_0)).trans hw304_0), ((HB.out.cell (World.block_lt_of_cell? w _ hw304_1)).trans hw304_1)⟩ (fun hHeld => ?_)
         clear hK K
         refine norm_ (a' := ?_) ?_ ?_
         rotate_left
         ·
          show Act.put _ (some 6) _ = _
          simp only [Act.put, List.setIfInBounds_toArray, List.set_cons_zero, List.set_cons_succ, i64_w, i32_w]
          rfl
         refine one_ (i := 4) (N := some 21) #[true, true, true, true, true, false, false, true, false] rfl rfl (one_of HT_.out (by kernel_rfl)) (by decide) (fun K hK => ?_)
         refine goes_ Tryd.func30 (by kernel_rfl) rfl #[.agg #[.int .i64 a0_0, .slice A0_1 l0_1.length c0_1, .slice (some ad304) l0_2.length c0_2], .string a1] (by rfl) rfl rfl (by (try simp only [List.map_toArray, List.map_cons, List.map_nil]); first | done | rfl | (simp only [List.length_drop, List.length_take]; rfl)) ?_
         with_reducible refine (spec_l8Bucket.calls kj2 a0_0 _ _ l0_1 _ _ l0_2 a1 t303 _ ?side1 ?side2 ?side3 ?side4 A13.out).mono ?_
         (case side1 => exact cb HR0_1 HB)
         (case side2 => exact HC0_1.out)
         (case side3 => exact cb HR0_2 HB)
         (case side4 => exact HC0_2.out)
         rintro e w30 ⟨rfl, hb⟩
         refine ⟨_, rfl, ?_⟩
         have n0_ := Aside0.mk (bb BK300 hb)
         have n1_ := Aside0.mk (bb BK305 hb)
         have n2_ := Aside0.mk (below_step (bs2 HB GE300 GE305) hb)
         clear BK300
         clear BK305
         clear HB
         have BK300 := n0_
         have BK305 := n1_
         have HB := n2_
         clear n0_ n1_ n2_
         (try clear hb)
         (try clear hb2)
         (try clear hk)
         (try clear hi)
         refine hK.out _ _ ⟨(blk_cell BK300.out 0).trans rfl, (blk_cell BK300.out 1).trans rfl, (blk_cell BK300.out 2).trans rfl, ((HB.out.cell (World.block_lt_of_cell? w _ hw304_0)).trans hw304_0), ((HB.out.cell (World.block_lt_of_cell? w _ hw304_1)).trans hw304_1)⟩ (fun hHeld => ?_)
         clear hK K
         refine norm_ (a' := ?_) ?_ ?_
         rotate_left
         ·
          show Act.put _ (some 21) _ = _
          simp only [Act.put, List.setIfInBounds_toArray, List.set_cons_zero, List.set_cons_succ, i64_w, i32_w]
          rfl
         refine pureS 5 22 HT_.out ?_
         refine takeS 6 23 HT_.out HW_.out hHeld (hr := by rintro w' ⟨s0, s1, s2, s3, s4⟩; go_simp; with_reducible rfl) (h := ?_)
         exact norm_ (by simp only [putAll, Act.put, List.setIfInBounds_toArray, List.set_cons_zero, List.set_cons_succ]) (hCont (gb305) _ ⟨hHeld, (bk BK300), (bk BK305), GW305.out, GE305.out, NB300_305.out, NB305_300.out, (bs2 HB GE300 GE305)⟩)
       rintro gb305 w31 ⟨hS_, h0_, h1_, h2_, h3_, h4_, h5_, h6_⟩
       have n0_ : Aside0 (w31.heap[gb300]? = some (.cells #[.int .i64 a0_0, .slice A0_1 l0_1.length c0_1, .slice (some ad304) l0_2.length c0_2] 30 (0, 0))) := ⟨h0_⟩
       have n1_ : Aside0 (w31.heap[gb305]? = some (.cells #[.int .i64 0, .slice none 0 0] 43 (0, 0))) := ⟨h1_⟩
       have n2_ : Aside0 (w.heap.size ≤ gb305) := ⟨h2_⟩
       have n3_ : Aside0 (w.heap.size ≤ gb305) := ⟨h3_⟩
       have n4_ : Aside0 (gb300 ≠ gb305) := ⟨h4_⟩
       have n5_ : Aside0 (gb305 ≠ gb300) := ⟨h5_⟩
       have n6_ : Aside0 (Below w.heap.size w w31) := ⟨h6_⟩
       clear BK300
       clear HB
       clear h0_ h1_ h2_ h3_ h4_ h5_ h6_
       have BK300 := n0_
       have BK305 := n1_
       have GW305 := n2_
       have GE305 := n3_
       have NB300_305 := n4_
       have NB305_300 := n5_
       have HB := n6_
       clear n0_ n1_ n2_ n3_ n4_ n5_ n6_
       have hHeld : w31.cell? ⟨gb300, 0, none⟩ = some (.int .i64 a0_0) ∧ w31.cell? ⟨gb300, 1, none⟩ = some (.slice A0_1 l0_1.length c0_1) ∧ w31.cell? ⟨gb300, 2, none⟩ = some (.slice (some ad304) l0_2.length c0_2) ∧ w31.cell? (ad304.add ((t303).toNat * 2)) = some (.int .i64 ((rd_T43 l0_2 t303).f0)) ∧ w31.cell? ⟨(ad304.add ((t303).toNat * 2)).block, (ad304.add ((t303).toNat * 2)).off + 1, none⟩ = some (.slice A304_1 ((rd_T43 l0_2 t303).f1).length c304_1) := hS_
       refine norm_ (a' := ?_) ?_ ?_
       rotate_left
       ·
        simp only [putAll, Act.put, List.setIfInBounds_toArray, List.set_cons_zero, List.set_cons_succ]
        rfl
       refine one_ (i := 8) (N := none) #[true, true, true, true, true, true, true, true, true] rfl rfl (one_of HT_.out (by kernel_rfl)) (by decide) (fun K hK => ?_)
       have hs32 : w31.cell? ⟨gb305, 0, none⟩ = some (.int .i64 0) := (blk_cell BK305.out 0).trans rfl
       have hfs32 := blk_frozen BK305.out 0
       have hns32_0 := NB300_305.out
       have hms32_0 := NB305_300.out
       have hs33 : w31.cell? ⟨gb305, 1, none⟩ = some (.slice none 0 0) := (blk_cell BK305.out 1).trans rfl
       have hfs33 := blk_frozen BK305.out 1
       have hns33_0 := NB300_305.out
       have hms33_0 := NB305_300.out
       refine skip_ (w1 := ?_) (by rfl) rfl ?_ ?_
       rotate_left
       ·
        go_simp
        rfl
       refine hK.out _ _ ⟨((cell_far (p := ⟨gb305, _, none⟩) NB300_305.out _).trans (((cell_far (p := ⟨gb305, _, none⟩) NB300_305.out _).trans (hHeld.1)))), ((cell_far (p := ⟨gb305, _, none⟩) NB300_305.out _).trans (((cell_far (p := ⟨gb305, _, none⟩) NB300_305.out _).trans (hHeld.2.1)))), ((cell_far (p := ⟨gb305, _, none⟩) NB300_305.out _).trans (((cell_far (p := ⟨gb305, _, none⟩) NB300_305.out _).trans (hHeld.2.2.1)))), ((cell_far (p := ⟨gb305, _, none⟩) (by first | exact Nat.ne_of_lt (Nat.lt_of_lt_of_le (by have := World.block_lt_of_cell? _ _ hw304_0; first | rwa [add_block] at this | exact this) GW305.out) | (rw [add_block]; exact Nat.ne_of_lt (Nat.lt_of_lt_of_le (by have := World.block_lt_of_cell? _ _ hw304_0; first | rwa [add_block] at this | exact this) GW305.out)) | (show (Addr.add _ _).block ≠ _; rw [add_block]; exact Nat.ne_of_lt (Nat.lt_of_lt_of_le (by have := World.block_lt_of_cell? _ _ hw304_0; first | rwa [add_block] at this | exact this) GW305.out)) | (dsimp only; exact Nat.ne_of_lt (Nat.lt_of_lt_of_le (by have := World.block_lt_of_cell? _ _ hw304_0; first | rwa [add_block] at this | exact this) GW305.out))) _).trans (((cell_far (p := ⟨gb305, _, none⟩) (by first | exact Nat.ne_of_lt (Nat.lt_of_lt_of_le (by have := World.block_lt_of_cell? _ _ hw304_0; first | rwa [add_block] at this | exact this) GW305.out) | (rw [add_block]; exact Nat.ne_of_lt (Nat.lt_of_lt_of_le (by have := World.block_lt_of_cell? _ _ hw304_0; first | rwa [add_block] at this | exact this) GW305.out)) | (show (Addr.add _ _).block ≠ _; rw [add_block]; exact Nat.ne_of_lt (Nat.lt_of_lt_of_le (by have := World.block_lt_of_cell? _ _ hw304_0; first | rwa [add_block] at this | exact this) GW305.out)) | (dsimp only; exact Nat.ne_of_lt (Nat.lt_of_lt_of_le (by have := World.block_lt_of_cell? _ _ hw304_0; first | rwa [add_block] at this | exact this) GW305.out))) _).trans (hHeld.2.2.2.1)))), ((cell_far (p := ⟨gb305, _, none⟩) (by first | exact Nat.ne_of_lt (Nat.lt_of_lt_of_le (by have := World.block_lt_of_cell? _ _ hw304_1; first | rwa [add_block] at this | exact this) GW305.out) | (rw [add_block]; exact Nat.ne_of_lt (Nat.lt_of_lt_of_le (by have := World.block_lt_of_cell? _ _ hw304_1; first | rwa [add_block] at this | exact this) GW305.out)) | (show (Addr.add _ _).block ≠ _; rw [add_block]; exact Nat.ne_of_lt (Nat.lt_of_lt_of_le (by have := World.block_lt_of_cell? _ _ hw304_1; first | rwa [add_block] at this | exact this) GW305.out)) | (dsimp only; exact Nat.ne_of_lt (Nat.lt_of_lt_of_le (by have := World.block_lt_of_cell? _ _ hw304_1; first | rwa [add_block] at this | exact this) GW305.out))) _).trans (((cell_far (p := ⟨gb305, _, none⟩) (by first | exact Nat.ne_of_lt (Nat.lt_of_lt_of_le (by have := World.block_lt_of_cell? _ _ hw304_1; first | rwa [add_block] at this | exact this) GW305.out) | (rw [add_block]; exact Nat.ne_of_lt (Nat.lt_of_lt_of_le (by have := World.block_lt_of_cell? _ _ hw304_1; first | rwa [add_block] at this | exact this) GW305.out)) | (show (Addr.add _ _).block ≠ _; rw [add_block]; exact Nat.ne_of_lt (Nat.lt_of_lt_of_le (by have := World.block_lt_of_cell? _ _ hw304_1; first | rwa [add_block] at this | exact this) GW305.out)) | (dsimp only; exact Nat.ne_of_lt (Nat.lt_of_lt_of_le (by have := World.block_lt_of_cell? _ _ hw304_1; first | rwa [add_block] at this | exact this) GW305.out))) _).trans (hHeld.2.2.2.2))))⟩ (fun hHeld => ?_)
       clear hK K
       refine done_ (done_of HT_.out (by kernel_rfl)) ?_
       have hnb34 := NB305_300.out
       have hnc34 := NB300_305.out
       obtain ⟨hcz35_0, hcz35_1⟩ := cz2 BK305
       obtain ⟨hfz35_0, hfz35_1⟩ := fz2 BK305
       try go_wp2_with (first | ((with_reducible refine gate_callee (f := 32) rfl ?_); refine gL (some 28) rfl rfl Tryd.func32 (by kernel_rfl) rfl #[.slice A304_1 ((rd_T43 l0_2 t303).f1).length c304_1, .string a1] rfl ?_; (with_reducible refine (spec_l8At.calls kj2 _ _ ((rd_T43 l0_2 t303).f1) a1 t306 false _ ?side1 ?side2 A16.out).mono ?_); (case side1 => exact Kd.C_below HR304_1.out (bs2 HB GE300 GE305)); (case side2 => exact HC304_1.out); rintro e w' ⟨rfl, ⟨nd, rfl⟩⟩; refine ⟨_, rfl, ?_⟩))
       go_ret2
       exact ⟨by first | rfl | (simp [errW_none, errW_some] <;> rfl) | (simp [*, errW_none, errW_some] <;> rfl), bs2 HB GE300 GE305⟩
     ·
      rw [if_neg c15] at H
      exact absurd H (by simp)
    ·
     rw [if_neg c14] at H
     exact absurd H (by simp)

/-! ### strings_Compare: function 41 -/
-- strings.Compare: the bytes compared.
def strings_Compare.f (a0 : ByteArray) (a1 : ByteArray) : Option Int := some (Lib.compareBytes a0.data.toList a1.data.toList)
theorem strings_Compare.calls (a0 : ByteArray) (a1 : ByteArray) (r : Int) (w : World) (h : strings_Compare.f a0 a1 = some r) :
    Calls Tryd.prog 41 #[.string a0, .string a1] w fun e w' => e = .returned (.int .i64 r) ∧ Drawn0 w w' := by
  unfold strings_Compare.f at h
  obtain rfl := Option.some.inj h
  refine (Rt.cmp_calls a0 a1 w).mono ?_
  rintro e w' ⟨rfl, rfl⟩
  exact ⟨rfl, Drawn0.refl _⟩

/-! ### impl_Dir_find_1: function 40 -/
def impl_Dir_find_1.f (a0_0 : ByteArray) (a0_1 : Int) (a1 : ByteArray) : Option (Int) := (strings_Compare.f a0_0 a1).bind fun t310 => (some t310)
set_option maxHeartbeats 8000000 in
set_option maxRecDepth 100000 in
theorem impl_Dir_find_1.calls (a0_0 : ByteArray) (a0_1 : Int) (a1 : ByteArray) (r : Int) (w : World) (h : impl_Dir_find_1.f a0_0 a0_1 a1 = some r) :
  Calls Tryd.prog 40 #[.agg #[.string a0_0, .int .i64 a0_1], .string a1] w fun e w' => e = .returned (.int .i64 r) ∧ Below w.heap.size w w' := by
 have hu46 := Tryd.underlying46
 have HB := Aside0.mk (Below.refl w.heap.size w)
 have H : ((strings_Compare.f a0_0 a1).bind fun t310 => (some t310)) = some r := h
 clear h
 replace H := Option.bind_eq_some_iff.mp H
 obtain ⟨t310, A30, H⟩ := H
 replace H : (some t310) = some r := H
 have A3 := Aside0.mk A30
 clear A30
 obtain rfl := Option.some.inj H
 go_enter Tryd.func40, Tryd.ntmps40
 go_wp2_with (first | ((with_reducible refine gate_dst (N := 2) rfl ?_); refine box_event ?hg (N := 2) ?hd (cs := #[.string a0_0, .int .i64 a0_1]) (t := 46) ?hr ?_; (case hd => rfl); (case hg => rfl); (case hr => first | (go_simp; done) | (go_simp; rfl)); intro gb309 hg w4 hbox hb; have BK309 := Aside0.mk (hbox); have GW309 := Aside0.mk ((by rw [hg]; exact (below_size (bs HB)) : w.heap.size ≤ gb309)); have GE309 := Aside0.mk ((by rw [hg]; exact (below_size (bs HB)) : w.heap.size ≤ gb309)); replace HB := Aside0.mk (below_step (bs HB) hb); clear hb hbox hg; obtain ⟨hcz5_0, hcz5_1⟩ := cz2 BK309; obtain ⟨hfz5_0, hfz5_1⟩ := fz2 BK309) | ((with_reducible refine gate_callee (f := 41) rfl ?_); refine gL (some 8) rfl rfl Tryd.func41 (by kernel_rfl) rfl #[.string a0_0, .string a1] rfl ?_; (with_reducible refine (strings_Compare.calls a0_0 a1 t310 _ A3.out).mono ?_); rintro e w' ⟨rfl, ⟨nd, rfl⟩⟩; refine ⟨_, rfl, ?_⟩))
 go_ret
 exact ⟨by first | rfl | (simp [errW_none, errW_some] <;> rfl) | (simp [*, errW_none, errW_some] <;> rfl), bs1 HB GE309⟩

/-! ### slices_BinarySearchFunc_impl_Name_string_at_impl_Dir_find_1: function 39 -/
def slices_BinarySearchFunc_impl_Name_string_at_impl_Dir_find_1.l0 : Nat → List (S46) → ByteArray → Int → Int → Int → Option (Int × Bool)
 | 0, _, _, _, _, _ => none
 | k + 1, x0, x1, x8, x9, x10 => if x9 < x10 then (if 0 ≤ (wrap64 ((IntKind.u64.wrap (wrap64 (x9 + x10))) / 2)) then (if (wrap64 ((IntKind.u64.wrap (wrap64 (x9 + x10))) / 2)) < (x0.length : Int) then ((impl_Dir_find_1.f ((rd_T46 x0 (wrap64 ((IntKind.u64.wrap (wrap64 (x9 + x10))) / 2))).f0) ((rd_T46 x0 (wrap64 ((IntKind.u64.wrap (wrap64 (x9 + x10))) / 2))).f1) x1).bind fun t312 => (if t312 < 0 then (slices_BinarySearchFunc_impl_Name_string_at_impl_Dir_find_1.l0 k x0 x1 x8 (wrap64 ((wrap64 ((IntKind.u64.wrap (wrap64 (x9 + x10))) / 2)) + 1)) x10) else (slices_BinarySearchFunc_impl_Name_string_at_impl_Dir_find_1.l0 k x0 x1 x8 x9 (wrap64 ((IntKind.u64.wrap (wrap64 (x9 + x10))) / 2))))) else (none)) else (none)) else (if x9 < x8 then (if 0 ≤ x9 then (if x9 < (x0.length : Int) then ((impl_Dir_find_1.f ((rd_T46 x0 x9).f0) ((rd_T46 x0 x9).f1) x1).bind fun t314 => (some (x9, (t314 == 0)))) else (none)) else (none)) else (some (x9, false)))
def slices_BinarySearchFunc_impl_Name_string_at_impl_Dir_find_1.f (k : Nat) (l0 : List (S46)) (a1 : ByteArray)  : Option (Int × Bool) := slices_BinarySearchFunc_impl_Name_string_at_impl_Dir_find_1.l0 k l0 a1 (l0.length : Int) 0 (l0.length : Int)
theorem slices_BinarySearchFunc_impl_Name_string_at_impl_Dir_find_1.mono_l : ∀ k, (∀ y0 y1 y2 y3 y4, LeO (slices_BinarySearchFunc_impl_Name_string_at_impl_Dir_find_1.l0 k y0 y1 y2 y3 y4) (slices_BinarySearchFunc_impl_Name_string_at_impl_Dir_find_1.l0 (k + 1) y0 y1 y2 y3 y4))
 | 0 => fun _ _ _ _ _ r h => by simp [slices_BinarySearchFunc_impl_Name_string_at_impl_Dir_find_1.l0] at h
 | k + 1 => by
  have ih0 := slices_BinarySearchFunc_impl_Name_string_at_impl_Dir_find_1.mono_l k
  ·
   intro y0 y1 y2 y3 y4
   unfold slices_BinarySearchFunc_impl_Name_string_at_impl_Dir_find_1.l0
   repeat' first
   | (with_reducible exact ih0 _ _ _ _ _)
   | (with_reducible exact LeO.refl _)
   | (with_reducible exact LeO.none _)
   | (with_reducible refine LeO.ite ?_ ?_)
   | (with_reducible refine LeO.bind ?_ (fun _ => ?_))
   | exact ih0 _ _ _ _ _
   | exact LeO.none _
   | refine LeO.ite ?_ ?_
   | refine LeO.bind ?_ (fun _ => ?_)
theorem slices_BinarySearchFunc_impl_Name_string_at_impl_Dir_find_1.mono : ∀ a0 a1 k, LeO (slices_BinarySearchFunc_impl_Name_string_at_impl_Dir_find_1.f k a0 a1) (slices_BinarySearchFunc_impl_Name_string_at_impl_Dir_find_1.f (k + 1) a0 a1) := by
 intro a0 a1 k
 have ih0 := slices_BinarySearchFunc_impl_Name_string_at_impl_Dir_find_1.mono_l k
 unfold slices_BinarySearchFunc_impl_Name_string_at_impl_Dir_find_1.f
 repeat' first
   | (with_reducible exact ih0 _ _ _ _ _)
   | (with_reducible exact LeO.refl _)
   | (with_reducible exact LeO.none _)
   | (with_reducible refine LeO.ite ?_ ?_)
   | (with_reducible refine LeO.bind ?_ (fun _ => ?_))
   | exact ih0 _ _ _ _ _
   | exact LeO.none _
   | refine LeO.ite ?_ ?_
   | refine LeO.bind ?_ (fun _ => ?_)
set_option maxHeartbeats 8000000 in
set_option maxRecDepth 100000 in
theorem slices_BinarySearchFunc_impl_Name_string_at_impl_Dir_find_1.calls (k : Nat) (A0 : Option Addr) (c0 : Nat) (l0 : List (S46)) (a1 : ByteArray)  (r1 : Int) (r2 : Bool) (w : World) (hr0 : Kd.C k46 w A0 l0.length l0) (hc0 : l0.length ≤ c0) (h : slices_BinarySearchFunc_impl_Name_string_at_impl_Dir_find_1.f k l0 a1 = some (r1, r2)) :
  Calls Tryd.prog 39 #[.slice A0 l0.length c0, .string a1, .func (.func 40) #[] #[]] w fun e w' => e = .returned (.tuple #[.int .i64 r1, .bool r2]) ∧ Below w.heap.size w w' := by
 have hu46 := Tryd.underlying46
 have eg40 := fun (args : Array Value) (w : World) => enters_ (P := Tryd.prog) Tryd.func40 (by kernel_rfl) rfl args w
 have HR0 := Aside0.mk hr0
 have HC0 := Aside0.mk hc0
 clear hr0 hc0
 have HB := Aside0.mk (Below.refl w.heap.size w)
 have H : (slices_BinarySearchFunc_impl_Name_string_at_impl_Dir_find_1.l0 k l0 a1 (l0.length : Int) 0 (l0.length : Int)) = some (r1, r2) := h
 clear h
 have H' := Aside0.mk H
 clear H
 go_enter Tryd.func39, Tryd.ntmps39
 go_wp2
 go_loopg [9, 10] k (fun kq v9 v10 w' => ∃ (x9_1 : Int) (x10_1 : Int), v9 = .int .i64 x9_1 ∧ v10 = .int .i64 x10_1 ∧ Aside0 (slices_BinarySearchFunc_impl_Name_string_at_impl_Dir_find_1.l0 kq l0 a1 (l0.length : Int) x9_1 x10_1 = some (r1, r2)) ∧ Aside0 (kq ≤ k) ∧ Aside0 (Below w.heap.size w w'))
 case atStart => exact ⟨(0), ((l0.length : Int)), (by first | rfl | (simp; done) | (simp [*]; done)), (by first | rfl | (simp; done) | (simp [*]; done)), H', ⟨Nat.le_refl _⟩, ⟨bs HB⟩⟩
 case round =>
  clear H'
  try clear p2
  try clear c3
  obtain ⟨x9_1, x10_1, rfl, rfl, HA, HK1, HB⟩ := hrel
  cases gk with
  | zero => exact absurd HA.out (by simp [slices_BinarySearchFunc_impl_Name_string_at_impl_Dir_find_1.l0])
  | succ k1 =>
   have H := HA.out
   clear HA
   simp only [slices_BinarySearchFunc_impl_Name_string_at_impl_Dir_find_1.l0] at H
   by_cases c4 : x9_1 < x10_1
   ·
    rw [if_pos c4] at H
    have c4b0 : decide (x9_1 < x10_1) = true := decide_eq_true c4
    clear c4
    obtain ⟨ji5, hji5⟩ : ∃ j_ : Int, (wrap64 ((IntKind.u64.wrap (wrap64 (x9_1 + x10_1))) / 2)) = j_ := ⟨_, rfl⟩
    replace H : (if 0 ≤ (ji5) then (if (ji5) < (l0.length : Int) then ((impl_Dir_find_1.f ((rd_T46 l0 (ji5)).f0) ((rd_T46 l0 (ji5)).f1) a1).bind fun t312 => (if t312 < 0 then (slices_BinarySearchFunc_impl_Name_string_at_impl_Dir_find_1.l0 k1 l0 a1 (l0.length : Int) (wrap64 ((ji5) + 1)) x10_1) else (slices_BinarySearchFunc_impl_Name_string_at_impl_Dir_find_1.l0 k1 l0 a1 (l0.length : Int) x9_1 ji5))) else (none)) else (none)) = some (r1, r2) := by first | (rw [hji5] at H; exact H) | (simp only [hji5] at H ⊢; exact H)
    have hji5w : (IntKind.i64.wrap ((IntKind.u64.wrap (wrap64 (x9_1 + x10_1))) / 2)) = ji5 := (i64_w _).trans hji5
    by_cases c6 : 0 ≤ (ji5)
    ·
     rw [if_pos c6] at H
     have c6b0 : decide (0 ≤ (ji5)) = true := decide_eq_true c6
     clear c6
     by_cases c7 : (ji5) < (l0.length : Int)
     ·
      rw [if_pos c7] at H
      have c7b0 : decide ((ji5) < (l0.length : Int)) = true := decide_eq_true c7
      clear c7
      replace H := Option.bind_eq_some_iff.mp H
      obtain ⟨t312, A80, H⟩ := H
      replace H : (if t312 < 0 then (slices_BinarySearchFunc_impl_Name_string_at_impl_Dir_find_1.l0 k1 l0 a1 (l0.length : Int) (wrap64 ((ji5) + 1)) x10_1) else (slices_BinarySearchFunc_impl_Name_string_at_impl_Dir_find_1.l0 k1 l0 a1 (l0.length : Int) x9_1 ji5)) = some (r1, r2) := H
      have A8 := Aside0.mk A80
      clear A80
      by_cases c9 : t312 < 0
      ·
       rw [if_pos c9] at H
       have c9b0 : decide (t312 < 0) = true := decide_eq_true c9
       clear c9
       have H' := Aside0.mk H
       clear H
       have p311 : 0 ≤ ((ji5) : Int) := of_decide_eq_true (by first | (with_reducible assumption) | assumption)
       have q311 : (ji5) < (l0.length : Int) := of_decide_eq_true (by first | (with_reducible assumption) | assumption)
       obtain ⟨ad311, e311, hx311_0, hx311_1⟩ := at_T46 HR0.out (ji5) p311 q311
       cases e311
       replace hx311_0 := (HB.out.cell (World.block_lt_of_cell? w _ hx311_0)).trans hx311_0
       replace hx311_1 := (HB.out.cell (World.block_lt_of_cell? w _ hx311_1)).trans hx311_1
       replace p311 := eq_true p311
       replace q311 := eq_true q311
       go_wp2_with (first | ((with_reducible refine gate_value (t := 24) rfl ?_); refine goesV_ (some 30) rfl rfl Tryd.func40 (by kernel_rfl) rfl #[.agg #[.string ((rd_T46 l0 (ji5)).f0), .int .i64 ((rd_T46 l0 (ji5)).f1)], .string a1] rfl rfl (by (try simp only [List.map_toArray, List.map_cons, List.map_nil]); first | done | (simp only [hji5]; rfl) | rfl | (simp only [List.length_drop, List.length_take]; rfl)) ?_; (with_reducible refine (impl_Dir_find_1.calls ((rd_T46 l0 (ji5)).f0) ((rd_T46 l0 (ji5)).f1) a1 t312 _ A8.out).mono ?_); rintro e w10 ⟨rfl, hb⟩; refine ⟨_, rfl, ?_⟩; replace HB := Aside0.mk (below_step (bs HB) hb); (try clear hb); (try clear hb2); (try clear hk); (try clear hi)))
       go_roundg k1
       case measure => have := HK1.out; omega
       case rel => exact ⟨(wrap64 ((ji5) + 1)), (x10_1), (by first | rfl | (simp; done) | (simp only [← hji5] <;> (first | rfl | simp)) | (simp [*]; done)), (by first | rfl | (simp; done) | (simp [*]; done)), H', ⟨by have := HK1.out; omega⟩, ⟨bs HB⟩⟩
      ·
       rw [if_neg c9] at H
       have c9b0 : decide (t312 < 0) = false := decide_eq_false c9
       clear c9
       have H' := Aside0.mk H
       clear H
       have p311 : 0 ≤ ((ji5) : Int) := of_decide_eq_true (by first | (with_reducible assumption) | assumption)
       have q311 : (ji5) < (l0.length : Int) := of_decide_eq_true (by first | (with_reducible assumption) | assumption)
       obtain ⟨ad311, e311, hx311_0, hx311_1⟩ := at_T46 HR0.out (ji5) p311 q311
       cases e311
       replace hx311_0 := (HB.out.cell (World.block_lt_of_cell? w _ hx311_0)).trans hx311_0
       replace hx311_1 := (HB.out.cell (World.block_lt_of_cell? w _ hx311_1)).trans hx311_1
       replace p311 := eq_true p311
       replace q311 := eq_true q311
       go_wp2_with (first | ((with_reducible refine gate_value (t := 24) rfl ?_); refine goesV_ (some 30) rfl rfl Tryd.func40 (by kernel_rfl) rfl #[.agg #[.string ((rd_T46 l0 (ji5)).f0), .int .i64 ((rd_T46 l0 (ji5)).f1)], .string a1] rfl rfl (by (try simp only [List.map_toArray, List.map_cons, List.map_nil]); first | done | (simp only [hji5]; rfl) | rfl | (simp only [List.length_drop, List.length_take]; rfl)) ?_; (with_reducible refine (impl_Dir_find_1.calls ((rd_T46 l0 (ji5)).f0) ((rd_T46 l0 (ji5)).f1) a1 t312 _ A8.out).mono ?_); rintro e w11 ⟨rfl, hb⟩; refine ⟨_, rfl, ?_⟩; replace HB := Aside0.mk (below_step (bs HB) hb); (try clear hb); (try clear hb2); (try clear hk); (try clear hi)))
       go_roundg k1
       case measure => have := HK1.out; omega
       case rel => exact ⟨(x9_1), (ji5), (by first | rfl | (simp; done) | (simp [*]; done)), (by first | rfl | (simp; done) | (simp only [← hji5] <;> (first | rfl | simp)) | (simp [*]; done)), H', ⟨by have := HK1.out; omega⟩, ⟨bs HB⟩⟩
     ·
      rw [if_neg c7] at H
      exact absurd H (by simp)
    ·
     rw [if_neg c6] at H
     exact absurd H (by simp)
   ·
    rw [if_neg c4] at H
    have c4b0 : decide (x9_1 < x10_1) = false := decide_eq_false c4
    clear c4
    by_cases c12 : x9_1 < (l0.length : Int)
    ·
     rw [if_pos c12] at H
     have c12b0 : decide (x9_1 < (l0.length : Int)) = true := decide_eq_true c12
     clear c12
     by_cases c13 : 0 ≤ x9_1
     ·
      rw [if_pos c13] at H
      have c13b0 : decide (0 ≤ x9_1) = true := decide_eq_true c13
      clear c13
      by_cases c14 : x9_1 < (l0.length : Int)
      ·
       rw [if_pos c14] at H
       have c14b0 : decide (x9_1 < (l0.length : Int)) = true := decide_eq_true c14
       clear c14
       replace H := Option.bind_eq_some_iff.mp H
       obtain ⟨t314, A150, H⟩ := H
       replace H : (some (x9_1, (t314 == 0))) = some (r1, r2) := H
       have A15 := Aside0.mk A150
       clear A150
       simp only [Option.some.injEq, Prod.mk.injEq] at H
       obtain ⟨rfl, rfl⟩ := H
       have p313 : 0 ≤ (x9_1 : Int) := of_decide_eq_true (by first | (with_reducible assumption) | assumption)
       have q313 : x9_1 < (l0.length : Int) := of_decide_eq_true (by first | (with_reducible assumption) | assumption)
       obtain ⟨ad313, e313, hx313_0, hx313_1⟩ := at_T46 HR0.out x9_1 p313 q313
       cases e313
       replace hx313_0 := (HB.out.cell (World.block_lt_of_cell? w _ hx313_0)).trans hx313_0
       replace hx313_1 := (HB.out.cell (World.block_lt_of_cell? w _ hx313_1)).trans hx313_1
       replace p313 := eq_true p313
       replace q313 := eq_true q313
       go_wp2_with (first | (go_at_call 40; (with_reducible refine (impl_Dir_find_1.calls ((rd_T46 l0 x9_1).f0) ((rd_T46 l0 x9_1).f1) a1 t314 _ A15.out).mono ?_); rintro e w16 ⟨rfl, hb⟩; replace HB := Aside0.mk (below_step (bs HB) hb); (try clear hb); (try clear hb2); (try clear hk); (try clear hi)))
       go_ret2
       exact ⟨by first | rfl | (simp [errW_none, errW_some] <;> rfl) | (simp [*, errW_none, errW_some] <;> rfl), bs HB⟩
      ·
       rw [if_neg c14] at H
       exact absurd H (by simp)
     ·
      rw [if_neg c13] at H
      exact absurd H (by simp)
    ·
     rw [if_neg c12] at H
     have c12b0 : decide (x9_1 < (l0.length : Int)) = false := decide_eq_false c12
     clear c12
     simp only [Option.some.injEq, Prod.mk.injEq] at H
     obtain ⟨rfl, rfl⟩ := H
     go_wp2
     go_ret2
     exact ⟨by first | rfl | (simp [errW_none, errW_some] <;> rfl) | (simp [*, errW_none, errW_some] <;> rfl), bs HB⟩

/-! ### impl_Dir_find: function 33 -/
def impl_Dir_find.f (k : Nat) (a0_0 : Int) (l0_1 : List Int) (l0_2 : List (S43)) (a1 : ByteArray) : Option (Int × Int × Bool) := (impl_Dir_slotOf.f k a0_0 l0_1 l0_2 a1).bind fun t316 => (if 0 ≤ t316 then (if t316 < (l0_1.length : Int) then (if 0 ≤ (rd l0_1 t316) then (if (rd l0_1 t316) < (l0_2.length : Int) then ((slices_BinarySearchFunc_impl_Name_string_at_impl_Dir_find_1.f k ((rd_T43 l0_2 (rd l0_1 t316)).f1) a1).bind fun bt319 => (some (rd l0_1 t316, bt319.1, bt319.2))) else (none)) else (none)) else (none)) else (none))
theorem impl_Dir_find.mono : ∀ a0 a1 a2 a3 k, LeO (impl_Dir_find.f k a0 a1 a2 a3) (impl_Dir_find.f (k + 1) a0 a1 a2 a3) := by
 intro a0 a1 a2 a3 k
 unfold impl_Dir_find.f
 repeat' first
   | (with_reducible exact impl_Dir_slotOf.mono _ _ _ _ _)
   | (with_reducible exact slices_BinarySearchFunc_impl_Name_string_at_impl_Dir_find_1.mono _ _ _)
   | (with_reducible exact LeO.refl _)
   | (with_reducible exact LeO.none _)
   | (with_reducible refine LeO.ite ?_ ?_)
   | (with_reducible refine LeO.bind ?_ (fun _ => ?_))
   | exact impl_Dir_slotOf.mono _ _ _ _ _
   | exact slices_BinarySearchFunc_impl_Name_string_at_impl_Dir_find_1.mono _ _ _
   | exact LeO.none _
   | refine LeO.ite ?_ ?_
   | refine LeO.bind ?_ (fun _ => ?_)
def impl_Dir_find.T1 : Bool × List (List Nat × List Nat) := (true, [([], []), ([0], [0]), ([], []), ([], []), ([2, 3], [2, 3]), ([1, 4], [1, 4]), ([5], [5]), ([6, 4, 0, 1, 2, 3, 4, 5, 6], [6])])
def impl_Dir_find.B1 : List Nat := [0, 1, 0, 0, 12, 31, 63, 127]
theorem impl_Dir_find.tab1 : rtab .any (opsOf Tryd.f33 1) = impl_Dir_find.T1 := by kernel_rfl
theorem impl_Dir_find.bits1 : waitsOk impl_Dir_find.T1.2 impl_Dir_find.B1 = true := by kernel_rfl
set_option maxHeartbeats 8000000 in
set_option maxRecDepth 100000 in
theorem impl_Dir_find.calls (k : Nat) (a0_0 : Int) (A0_1 : Option Addr) (c0_1 : Nat) (l0_1 : List Int) (A0_2 : Option Addr) (c0_2 : Nat) (l0_2 : List (S43)) (a1 : ByteArray) (r1 : Int) (r2 : Int) (r3 : Bool) (w : World) (hr0_1 : Kd.C (Kd.int .i64) w A0_1 l0_1.length l0_1) (hc0_1 : l0_1.length ≤ c0_1) (hr0_2 : Kd.C k43 w A0_2 l0_2.length l0_2) (hc0_2 : l0_2.length ≤ c0_2) (h : impl_Dir_find.f k a0_0 l0_1 l0_2 a1 = some (r1, r2, r3)) :
  Calls Tryd.prog 33 #[.agg #[.int .i64 a0_0, .slice A0_1 l0_1.length c0_1, .slice A0_2 l0_2.length c0_2], .string a1] w fun e w' => e = .returned (.tuple #[.int .i64 r1, .int .i64 r2, .bool r3]) ∧ Below w.heap.size w w' := by
 have hu30 := Tryd.underlying30
 have HR0_1 := Aside0.mk hr0_1
 have HC0_1 := Aside0.mk hc0_1
 clear hr0_1 hc0_1
 have HR0_2 := Aside0.mk hr0_2
 have HC0_2 := Aside0.mk hc0_2
 clear hr0_2 hc0_2
 have HB := Aside0.mk (Below.refl w.heap.size w)
 have H : ((impl_Dir_slotOf.f k a0_0 l0_1 l0_2 a1).bind fun t316 => (if 0 ≤ t316 then (if t316 < (l0_1.length : Int) then (if 0 ≤ (rd l0_1 t316) then (if (rd l0_1 t316) < (l0_2.length : Int) then ((slices_BinarySearchFunc_impl_Name_string_at_impl_Dir_find_1.f k ((rd_T43 l0_2 (rd l0_1 t316)).f1) a1).bind fun bt319 => (some (rd l0_1 t316, bt319.1, bt319.2))) else (none)) else (none)) else (none)) else (none))) = some (r1, r2, r3) := h
 clear h
 replace H := Option.bind_eq_some_iff.mp H
 obtain ⟨t316, A30, H⟩ := H
 replace H : (if 0 ≤ t316 then (if t316 < (l0_1.length : Int) then (if 0 ≤ (rd l0_1 t316) then (if (rd l0_1 t316) < (l0_2.length : Int) then ((slices_BinarySearchFunc_impl_Name_string_at_impl_Dir_find_1.f k ((rd_T43 l0_2 (rd l0_1 t316)).f1) a1).bind fun bt319 => (some (rd l0_1 t316, bt319.1, bt319.2))) else (none)) else (none)) else (none)) else (none)) = some (r1, r2, r3) := H
 have A3 := Aside0.mk A30
 clear A30
 by_cases c4 : 0 ≤ t316
 ·
  rw [if_pos c4] at H
  have c4b0 : decide (0 ≤ t316) = true := decide_eq_true c4
  clear c4
  by_cases c5 : t316 < (l0_1.length : Int)
  ·
   rw [if_pos c5] at H
   have c5b0 : decide (t316 < (l0_1.length : Int)) = true := decide_eq_true c5
   clear c5
   by_cases c6 : 0 ≤ (rd l0_1 t316)
   ·
    rw [if_pos c6] at H
    have c6b0 : decide (0 ≤ (rd l0_1 t316)) = true := decide_eq_true c6
    clear c6
    by_cases c7 : (rd l0_1 t316) < (l0_2.length : Int)
    ·
     rw [if_pos c7] at H
     have c7b0 : decide ((rd l0_1 t316) < (l0_2.length : Int)) = true := decide_eq_true c7
     clear c7
     replace H := Option.bind_eq_some_iff.mp H
     obtain ⟨⟨t319, t320⟩, A80, H⟩ := H
     replace H : (some (rd l0_1 t316, t319, t320)) = some (r1, r2, r3) := H
     have A8 := Aside0.mk A80
     clear A80
     simp only [Option.some.injEq, Prod.mk.injEq] at H
     obtain ⟨rfl, rfl, rfl⟩ := H
     go_enter Tryd.func33, Tryd.ntmps33
     try go_wp2_with (first | ((with_reducible refine gate_dst (N := 2) rfl ?_); refine box_event ?hg (N := 2) ?hd (cs := #[.int .i64 a0_0, .slice A0_1 l0_1.length c0_1, .slice A0_2 l0_2.length c0_2]) (t := 30) ?hr ?_; (case hd => rfl); (case hg => rfl); (case hr => first | (go_simp; done) | (go_simp; rfl)); intro gb315 hg w9 hbox hb; have BK315 := Aside0.mk (hbox); have GW315 := Aside0.mk ((by rw [hg]; exact (below_size (bs HB)) : w.heap.size ≤ gb315)); have GE315 := Aside0.mk ((by rw [hg]; exact (below_size (bs HB)) : w.heap.size ≤ gb315)); replace HB := Aside0.mk (below_step (bs HB) hb); clear hb hbox hg))
     have n0_ := Aside0.mk (blk_drew BK315.out)
     have n1_ := Aside0.mk (below_drew1 HB.out)
     clear BK315
     clear HB
     have BK315 := n0_
     have HB := n1_
     clear n0_ n1_
     have p317 : 0 ≤ (t316 : Int) := of_decide_eq_true (by first | (with_reducible assumption) | assumption)
     have q317 : t316 < (l0_1.length : Int) := of_decide_eq_true (by first | (with_reducible assumption) | assumption)
     obtain ⟨ad317, e317, hx317_0⟩ := Kd.at_int HR0_1.out t316 p317 q317
     have hw317_0 := hx317_0
     cases e317
     replace hx317_0 := (HB.out.cell (World.block_lt_of_cell? w _ hx317_0)).trans hx317_0
     replace p317 := eq_true p317
     replace q317 := eq_true q317
     refine start_ (n := 8) (S := fun w' => w'.cell? ⟨gb315, 0, none⟩ = some (.int .i64 a0_0) ∧ w'.cell? ⟨gb315, 1, none⟩ = some (.slice (some ad317) l0_1.length c0_1) ∧ w'.cell? ⟨gb315, 2, none⟩ = some (.slice A0_2 l0_2.length c0_2) ∧ w'.cell? (ad317.add (t316).toNat) = some (.int .i64 (rd l0_1 t316))) (ds := []) #[false, false, false, false, false, false, false, false] (by kernel_rfl) rfl rfl ⟨(blk_cell BK315.out 0).trans rfl, (blk_cell BK315.out 1).trans rfl, (blk_cell BK315.out 2).trans rfl, ((HB.out.cell (World.block_lt_of_cell? w _ hw317_0)).trans hw317_0)⟩ (fun hHeld => ?_); refine with_tabW impl_Dir_find.tab1 impl_Dir_find.bits1 (fun HT_ HW_ => ?_)
     generalize w9.drew = w10 at BK315 HB hx317_0 hHeld ⊢
     refine pureS 0 10 HT_.out ?_
     refine pureS 3 13 HT_.out ?_
     refine takeS 1 11 HT_.out HW_.out hHeld (hr := by rintro w' ⟨s0, s1, s2, s3⟩; go_simp; with_reducible rfl) (h := ?_)
     refine takeS 2 12 HT_.out HW_.out hHeld (hr := by rintro w' ⟨s0, s1, s2, s3⟩; go_simp; with_reducible rfl) (h := ?_)
     refine one_ (i := 4) (N := some 14) #[true, true, true, true, true, false, false, false] rfl rfl (one_of HT_.out (by kernel_rfl)) (by decide) (fun K hK => ?_)
     refine goes_ Tryd.func27 (by kernel_rfl) rfl #[.agg #[.int .i64 a0_0, .slice (some ad317) l0_1.length c0_1, .slice A0_2 l0_2.length c0_2], .string a1] (by rfl) rfl rfl (by (try simp only [List.map_toArray, List.map_cons, List.map_nil]); first | done | rfl | (simp only [List.length_drop, List.length_take]; rfl)) ?_
     with_reducible refine (impl_Dir_slotOf.calls k a0_0 _ _ l0_1 _ _ l0_2 a1 t316 _ ?side1 ?side2 ?side3 ?side4 A3.out).mono ?_
     (case side1 => exact cb HR0_1 HB)
     (case side2 => exact HC0_1.out)
     (case side3 => exact cb HR0_2 HB)
     (case side4 => exact HC0_2.out)
     rintro e w11 ⟨rfl, hb⟩
     refine ⟨_, rfl, ?_⟩
     have n0_ := Aside0.mk (bb BK315 hb)
     have n1_ := Aside0.mk (below_step (bs1 HB GE315) hb)
     clear BK315
     clear HB
     have BK315 := n0_
     have HB := n1_
     clear n0_ n1_
     (try clear hb)
     (try clear hb2)
     (try clear hk)
     (try clear hi)
     refine hK.out _ _ ⟨(blk_cell BK315.out 0).trans rfl, (blk_cell BK315.out 1).trans rfl, (blk_cell BK315.out 2).trans rfl, ((HB.out.cell (World.block_lt_of_cell? w _ hw317_0)).trans hw317_0)⟩ (fun hHeld => ?_)
     clear hK K
     refine norm_ (a' := ?_) ?_ ?_
     rotate_left
     ·
      show Act.put _ (some 14) _ = _
      simp only [Act.put, List.setIfInBounds_toArray, List.set_cons_zero, List.set_cons_succ, i64_w, i32_w]
      rfl
     refine pureS 5 15 HT_.out ?_
     refine takeS 6 16 HT_.out HW_.out hHeld (hr := by rintro w' ⟨s0, s1, s2, s3⟩; go_simp; with_reducible rfl) (h := ?_)
     refine pureS 7 7 HT_.out ?_
     refine done_ (done_of HT_.out (by kernel_rfl)) ?_
     obtain ⟨hcz12_0, hcz12_1, hcz12_2⟩ := cz3 BK315
     obtain ⟨hfz12_0, hfz12_1, hfz12_2⟩ := fz3 BK315
     have p318 : 0 ≤ ((rd l0_1 t316) : Int) := of_decide_eq_true (by first | (with_reducible assumption) | assumption)
     have q318 : (rd l0_1 t316) < (l0_2.length : Int) := of_decide_eq_true (by first | (with_reducible assumption) | assumption)
     obtain ⟨ad318, A318_1, c318_1, e318, hx318_0, hx318_1, hl318_1, hi318_1⟩ := at_T43 HR0_2.out (rd l0_1 t316) p318 q318
     cases e318
     replace hx318_0 := (HB.out.cell (World.block_lt_of_cell? w _ hx318_0)).trans hx318_0
     replace hx318_1 := (HB.out.cell (World.block_lt_of_cell? w _ hx318_1)).trans hx318_1
     have HR318_1 := Aside0.mk hi318_1
     have HC318_1 := Aside0.mk hl318_1
     clear hi318_1 hl318_1
     replace p318 := eq_true p318
     replace q318 := eq_true q318
     try go_wp2_with (first | ((with_reducible refine gate_callee (f := 39) rfl ?_); refine gL (some 25) rfl rfl Tryd.func39 (by kernel_rfl) rfl #[.slice A318_1 ((rd_T43 l0_2 (rd l0_1 t316)).f1).length c318_1, .string a1, .func (.func 40) #[] #[]] rfl ?_; (with_reducible refine (slices_BinarySearchFunc_impl_Name_string_at_impl_Dir_find_1.calls k _ _ ((rd_T43 l0_2 (rd l0_1 t316)).f1) a1  t319 t320 _ ?side1 ?side2 A8.out).mono ?_); (case side1 => exact cb HR318_1 HB); (case side2 => exact HC318_1.out); rintro e w13 ⟨rfl, hb⟩; refine ⟨_, rfl, ?_⟩; replace BK315 := nb BK315 hb; replace HB := Aside0.mk (below_step (bs1 HB GE315) hb); (try clear hb); (try clear hb2); (try clear hk); (try clear hi)))
     go_ret3
     exact ⟨by first | rfl | (simp [errW_none, errW_some] <;> rfl) | (simp [*, errW_none, errW_some] <;> rfl), bs1 HB GE315⟩
    ·
     rw [if_neg c7] at H
     exact absurd H (by simp)
   ·
    rw [if_neg c6] at H
    exact absurd H (by simp)
  ·
   rw [if_neg c5] at H
   exact absurd H (by simp)
 ·
  rw [if_neg c4] at H
  exact absurd H (by simp)

/-! ### impl_LookName: function 14 -/
def impl_LookName.j0 : Nat → ByteArray → Bool → Int → List Int → List (S43) → Option (Int × Bool)
 | 0, _, _, _, _, _ => none
 | k + 1, x1, x16, x322000, x322001, x322002 => if x16 = true then (some (0, false)) else ((impl_Dir_find.f k x322000 x322001 x322002 x1).bind fun bt324 => (if bt324.2.2 = true then (if 0 ≤ bt324.1 then (if bt324.1 < (x322002.length : Int) then (if 0 ≤ bt324.2.1 then (if bt324.2.1 < (((rd_T43 x322002 bt324.1).f1).length : Int) then (some ((rd_T46 ((rd_T43 x322002 bt324.1).f1) bt324.2.1).f1, true)) else (none)) else (none)) else (none)) else (none)) else (some (0, false))))
def impl_LookName.f (k : Nat) (a0_0 : Int) (l0_1 : List Int) (l0_2 : List (S43)) (a1 : ByteArray) : Option (Int × Bool) := (impl_GoodDir.f k a0_0 l0_1 l0_2).bind fun t322 => (if t322 = true then ((impl_isName.f a1).bind fun t323 => (impl_LookName.j0 k a1 (!t323) a0_0 l0_1 l0_2)) else (impl_LookName.j0 k a1 true a0_0 l0_1 l0_2))
theorem impl_LookName.mono_l : ∀ k, (∀ y0 y1 y2 y3 y4, LeO (impl_LookName.j0 k y0 y1 y2 y3 y4) (impl_LookName.j0 (k + 1) y0 y1 y2 y3 y4))
 | 0 => fun _ _ _ _ _ r h => by simp [impl_LookName.j0] at h
 | k + 1 => by
  have ih0 := impl_LookName.mono_l k
  ·
   intro y0 y1 y2 y3 y4
   unfold impl_LookName.j0
   repeat' first
   | (with_reducible exact ih0 _ _ _ _ _)
   | (with_reducible exact impl_Dir_find.mono _ _ _ _ _)
   | (with_reducible exact impl_GoodDir.mono _ _ _ _)
   | (with_reducible exact LeO.refl _)
   | (with_reducible exact LeO.none _)
   | (with_reducible refine LeO.ite ?_ ?_)
   | (with_reducible refine LeO.bind ?_ (fun _ => ?_))
   | exact ih0 _ _ _ _ _
   | exact impl_Dir_find.mono _ _ _ _ _
   | exact impl_GoodDir.mono _ _ _ _
   | exact LeO.none _
   | refine LeO.ite ?_ ?_
   | refine LeO.bind ?_ (fun _ => ?_)
theorem impl_LookName.mono : ∀ a0 a1 a2 a3 k, LeO (impl_LookName.f k a0 a1 a2 a3) (impl_LookName.f (k + 1) a0 a1 a2 a3) := by
 intro a0 a1 a2 a3 k
 have ih0 := impl_LookName.mono_l k
 unfold impl_LookName.f
 repeat' first
   | (with_reducible exact ih0 _ _ _ _ _)
   | (with_reducible exact impl_Dir_find.mono _ _ _ _ _)
   | (with_reducible exact impl_GoodDir.mono _ _ _ _)
   | (with_reducible exact LeO.refl _)
   | (with_reducible exact LeO.none _)
   | (with_reducible refine LeO.ite ?_ ?_)
   | (with_reducible refine LeO.bind ?_ (fun _ => ?_))
   | exact ih0 _ _ _ _ _
   | exact impl_Dir_find.mono _ _ _ _ _
   | exact impl_GoodDir.mono _ _ _ _
   | exact LeO.none _
   | refine LeO.ite ?_ ?_
   | refine LeO.bind ?_ (fun _ => ?_)
set_option maxHeartbeats 8000000 in
set_option maxRecDepth 100000 in
theorem impl_LookName.calls (k : Nat) (a0_0 : Int) (A0_1 : Option Addr) (c0_1 : Nat) (l0_1 : List Int) (A0_2 : Option Addr) (c0_2 : Nat) (l0_2 : List (S43)) (a1 : ByteArray) (r1 : Int) (r2 : Bool) (w : World) (hr0_1 : Kd.C (Kd.int .i64) w A0_1 l0_1.length l0_1) (hc0_1 : l0_1.length ≤ c0_1) (hr0_2 : Kd.C k43 w A0_2 l0_2.length l0_2) (hc0_2 : l0_2.length ≤ c0_2) (h : impl_LookName.f k a0_0 l0_1 l0_2 a1 = some (r1, r2)) :
  Calls Tryd.prog 14 #[.agg #[.int .i64 a0_0, .slice A0_1 l0_1.length c0_1, .slice A0_2 l0_2.length c0_2], .string a1] w fun e w' => e = .returned (.tuple #[.int .i64 r1, .bool r2]) ∧ Below w.heap.size w w' := by
 have hu30 := Tryd.underlying30
 have HR0_1 := Aside0.mk hr0_1
 have HC0_1 := Aside0.mk hc0_1
 clear hr0_1 hc0_1
 have HR0_2 := Aside0.mk hr0_2
 have HC0_2 := Aside0.mk hc0_2
 clear hr0_2 hc0_2
 have HB := Aside0.mk (Below.refl w.heap.size w)
 have H : ((impl_GoodDir.f k a0_0 l0_1 l0_2).bind fun t322 => (if t322 = true then ((impl_isName.f a1).bind fun t323 => (impl_LookName.j0 k a1 (!t323) a0_0 l0_1 l0_2)) else (impl_LookName.j0 k a1 true a0_0 l0_1 l0_2))) = some (r1, r2) := h
 clear h
 have HC3 := Aside0.mk H
 clear H
 go_enter Tryd.func14, Tryd.ntmps14
 go_upto_region 1 with (first | ((with_reducible refine gate_dst (N := 2) rfl ?_); refine box_event ?hg (N := 2) ?hd (cs := #[.int .i64 a0_0, .slice A0_1 l0_1.length c0_1, .slice A0_2 l0_2.length c0_2]) (t := 30) ?hr ?_; (case hd => rfl); (case hg => rfl); (case hr => first | (go_simp; done) | (go_simp; rfl)); intro gb321 hg w4 hbox hb; have BK321 := Aside0.mk (hbox); have GW321 := Aside0.mk ((by rw [hg]; exact (below_size (bs HB)) : w.heap.size ≤ gb321)); have GE321 := Aside0.mk ((by rw [hg]; exact (below_size (bs HB)) : w.heap.size ≤ gb321)); replace HB := Aside0.mk (below_step (bs HB) hb); clear hb hbox hg))
 (try simp only [Act.put, List.setIfInBounds_toArray, List.set_cons_zero, List.set_cons_succ])
 go_cut [16] (fun v16 wc => ∃ (kq : Nat) (x16_2 : Bool), v16 = .bool x16_2 ∧ Aside0 (impl_LookName.j0 kq a1 x16_2 a0_0 l0_1 l0_2 = some (r1, r2)) ∧ Aside0 (kq ≤ k) ∧ Aside0 (wc.heap[gb321]? = some (.cells #[.int .i64 a0_0, (.slice A0_1 l0_1.length c0_1), (.slice A0_2 l0_2.length c0_2)] 30 (0, 0))) ∧ Aside0 (Below w.heap.size w wc))
 case first =>
  have H := HC3.out
  clear HC3
  replace H := Option.bind_eq_some_iff.mp H
  obtain ⟨t322, A50, H⟩ := H
  replace H : (if t322 = true then ((impl_isName.f a1).bind fun t323 => (impl_LookName.j0 k a1 (!t323) a0_0 l0_1 l0_2)) else (impl_LookName.j0 k a1 true a0_0 l0_1 l0_2)) = some (r1, r2) := H
  have A5 := Aside0.mk A50
  clear A50
  by_cases c6 : t322 = true
  ·
   subst c6
   rw [if_pos rfl] at H
   replace H := Option.bind_eq_some_iff.mp H
   obtain ⟨t323, A70, H⟩ := H
   replace H : (impl_LookName.j0 k a1 (!t323) a0_0 l0_1 l0_2) = some (r1, r2) := H
   have A7 := Aside0.mk A70
   clear A70
   have H' := Aside0.mk H
   clear H
   obtain ⟨hcz8_0, hcz8_1, hcz8_2⟩ := cz3 BK321
   obtain ⟨hfz8_0, hfz8_1, hfz8_2⟩ := fz3 BK321
   go_wp2_with (first | ((with_reducible refine gate_callee (f := 9) rfl ?_); refine gL (some 10) rfl rfl Tryd.func9 (by kernel_rfl) rfl #[.agg #[.int .i64 a0_0, .slice A0_1 l0_1.length c0_1, .slice A0_2 l0_2.length c0_2]] rfl ?_; (with_reducible refine (impl_GoodDir.calls k a0_0 _ _ l0_1 _ _ l0_2 true _ ?side1 ?side2 ?side3 ?side4 A5.out).mono ?_); (case side1 => exact cb HR0_1 HB); (case side2 => exact HC0_1.out); (case side3 => exact cb HR0_2 HB); (case side4 => exact HC0_2.out); rintro e w9 ⟨rfl, hb⟩; refine ⟨_, rfl, ?_⟩; replace BK321 := nb BK321 hb; replace HB := Aside0.mk (below_step (bs1 HB GE321) hb); (try clear hb); (try clear hb2); (try clear hk); (try clear hi)) | (go_at_call 31; (with_reducible refine (impl_isName.calls a1 t323 _ A7.out).mono ?_); rintro e w10 ⟨rfl, hb⟩; replace BK321 := nb BK321 hb; replace HB := Aside0.mk (below_step (bs1 HB GE321) hb); (try clear hb); (try clear hb2); (try clear hk); (try clear hi)))
   go_meet
   case rel => exact ⟨_, (!t323), (by first | rfl | (simp; done) | (simp [*]; done)), H', ⟨by first | omega | exact Nat.le_refl _⟩, ⟨bk BK321⟩, ⟨bs1 HB GE321⟩⟩
  ·
   replace c6 := Bool.eq_false_iff.mpr c6
   subst c6
   rw [if_neg (show ¬ (false = true) by decide)] at H
   have H' := Aside0.mk H
   clear H
   obtain ⟨hcz11_0, hcz11_1, hcz11_2⟩ := cz3 BK321
   obtain ⟨hfz11_0, hfz11_1, hfz11_2⟩ := fz3 BK321
   go_wp2_with (first | ((with_reducible refine gate_callee (f := 9) rfl ?_); refine gL (some 10) rfl rfl Tryd.func9 (by kernel_rfl) rfl #[.agg #[.int .i64 a0_0, .slice A0_1 l0_1.length c0_1, .slice A0_2 l0_2.length c0_2]] rfl ?_; (with_reducible refine (impl_GoodDir.calls k a0_0 _ _ l0_1 _ _ l0_2 false _ ?side1 ?side2 ?side3 ?side4 A5.out).mono ?_); (case side1 => exact cb HR0_1 HB); (case side2 => exact HC0_1.out); (case side3 => exact cb HR0_2 HB); (case side4 => exact HC0_2.out); rintro e w12 ⟨rfl, hb⟩; refine ⟨_, rfl, ?_⟩; replace BK321 := nb BK321 hb; replace HB := Aside0.mk (below_step (bs1 HB GE321) hb); (try clear hb); (try clear hb2); (try clear hk); (try clear hi)))
   go_meet
   case rel => exact ⟨_, (true), (by first | rfl | (simp; done) | (simp [*]; done)), H', ⟨by first | omega | exact Nat.le_refl _⟩, ⟨bk BK321⟩, ⟨bs1 HB GE321⟩⟩
 case rest =>
  clear HC3
  try clear c1
  try clear p2
  try clear c6
  try clear c9
  try clear hcz11_0 hcz11_1 hcz11_2
  try clear hcz8_0 hcz8_1 hcz8_2
  try clear hfz11_0 hfz11_1 hfz11_2
  try clear hfz8_0 hfz8_1 hfz8_2
  obtain ⟨kq, x16_2, rfl, HA, HJ2, BK321, HB⟩ := hcut
  cases kq with
  | zero => exact absurd HA.out (by simp [impl_LookName.j0])
  | succ kj2 =>
   have H := HA.out
   clear HA
   simp only [impl_LookName.j0] at H
   by_cases c13 : x16_2 = true
   ·
    subst c13
    rw [if_pos rfl] at H
    simp only [Option.some.injEq, Prod.mk.injEq] at H
    obtain ⟨rfl, rfl⟩ := H
    go_wp2
    go_ret2
    exact ⟨by first | rfl | (simp [errW_none, errW_some] <;> rfl) | (simp [*, errW_none, errW_some] <;> rfl), bs1 HB GE321⟩
   ·
    replace c13 := Bool.eq_false_iff.mpr c13
    subst c13
    rw [if_neg (show ¬ (false = true) by decide)] at H
    replace H := Option.bind_eq_some_iff.mp H
    obtain ⟨⟨t324, t325, t326⟩, A140, H⟩ := H
    replace H : (if t326 = true then (if 0 ≤ t324 then (if t324 < (l0_2.length : Int) then (if 0 ≤ t325 then (if t325 < (((rd_T43 l0_2 t324).f1).length : Int) then (some ((rd_T46 ((rd_T43 l0_2 t324).f1) t325).f1, true)) else (none)) else (none)) else (none)) else (none)) else (some (0, false))) = some (r1, r2) := H
    have A14 := Aside0.mk A140
    clear A140
    by_cases c15 : t326 = true
    ·
     subst c15
     rw [if_pos rfl] at H
     by_cases c16 : 0 ≤ t324
     ·
      rw [if_pos c16] at H
      have c16b0 : decide (0 ≤ t324) = true := decide_eq_true c16
      clear c16
      by_cases c17 : t324 < (l0_2.length : Int)
      ·
       rw [if_pos c17] at H
       have c17b0 : decide (t324 < (l0_2.length : Int)) = true := decide_eq_true c17
       clear c17
       by_cases c18 : 0 ≤ t325
       ·
        rw [if_pos c18] at H
        have c18b0 : decide (0 ≤ t325) = true := decide_eq_true c18
        clear c18
        by_cases c19 : t325 < (((rd_T43 l0_2 t324).f1).length : Int)
        ·
         rw [if_pos c19] at H
         have c19b0 : decide (t325 < (((rd_T43 l0_2 t324).f1).length : Int)) = true := decide_eq_true c19
         clear c19
         simp only [Option.some.injEq, Prod.mk.injEq] at H
         obtain ⟨rfl, rfl⟩ := H
         obtain ⟨hcz20_0, hcz20_1, hcz20_2⟩ := cz3 BK321
         obtain ⟨hfz20_0, hfz20_1, hfz20_2⟩ := fz3 BK321
         go_wp2_with (first | ((with_reducible refine gate_callee (f := 33) rfl ?_); refine gL (some 20) rfl rfl Tryd.func33 (by kernel_rfl) rfl #[.agg #[.int .i64 a0_0, .slice A0_1 l0_1.length c0_1, .slice A0_2 l0_2.length c0_2], .string a1] rfl ?_; (with_reducible refine (impl_Dir_find.calls kj2 a0_0 _ _ l0_1 _ _ l0_2 a1 t324 t325 true _ ?side1 ?side2 ?side3 ?side4 A14.out).mono ?_); (case side1 => exact cb HR0_1 HB); (case side2 => exact HC0_1.out); (case side3 => exact cb HR0_2 HB); (case side4 => exact HC0_2.out); rintro e w21 ⟨rfl, hb⟩; refine ⟨_, rfl, ?_⟩; replace BK321 := nb BK321 hb; replace HB := Aside0.mk (below_step (bs1 HB GE321) hb); (try clear hb); (try clear hb2); (try clear hk); (try clear hi); obtain ⟨hcz22_0, hcz22_1, hcz22_2⟩ := cz3 BK321; obtain ⟨hfz22_0, hfz22_1, hfz22_2⟩ := fz3 BK321; have p327 : 0 ≤ (t324 : Int) := of_decide_eq_true (by first | (with_reducible assumption) | assumption); have q327 : t324 < (l0_2.length : Int) := of_decide_eq_true (by first | (with_reducible assumption) | assumption); obtain ⟨ad327, A327_1, c327_1, e327, hx327_0, hx327_1, hl327_1, hi327_1⟩ := at_T43 HR0_2.out t324 p327 q327; cases e327; replace hx327_0 := (HB.out.cell (World.block_lt_of_cell? w _ hx327_0)).trans hx327_0; replace hx327_1 := (HB.out.cell (World.block_lt_of_cell? w _ hx327_1)).trans hx327_1; have HR327_1 := Aside0.mk hi327_1; have HC327_1 := Aside0.mk hl327_1; clear hi327_1 hl327_1; replace p327 := eq_true p327; replace q327 := eq_true q327; have p328 : 0 ≤ (t325 : Int) := of_decide_eq_true (by first | (with_reducible assumption) | assumption); have q328 : t325 < (((rd_T43 l0_2 t324).f1).length : Int) := of_decide_eq_true (by first | (with_reducible assumption) | assumption); obtain ⟨ad328, e328, hx328_0, hx328_1⟩ := at_T46 HR327_1.out t325 p328 q328; cases e328; replace hx328_0 := (HB.out.cell (World.block_lt_of_cell? w _ hx328_0)).trans hx328_0; replace hx328_1 := (HB.out.cell (World.block_lt_of_cell? w _ hx328_1)).trans hx328_1; replace p328 := eq_true p328; replace q328 := eq_true q328))
         go_ret2
         exact ⟨by first | rfl | (simp [errW_none, errW_some] <;> rfl) | (simp [*, errW_none, errW_some] <;> rfl), bs1 HB GE321⟩
        ·
         rw [if_neg c19] at H
         exact absurd H (by simp)
       ·
        rw [if_neg c18] at H
        exact absurd H (by simp)
      ·
       rw [if_neg c17] at H
       exact absurd H (by simp)
     ·
      rw [if_neg c16] at H
      exact absurd H (by simp)
    ·
     replace c15 := Bool.eq_false_iff.mpr c15
     subst c15
     rw [if_neg (show ¬ (false = true) by decide)] at H
     simp only [Option.some.injEq, Prod.mk.injEq] at H
     obtain ⟨rfl, rfl⟩ := H
     obtain ⟨hcz23_0, hcz23_1, hcz23_2⟩ := cz3 BK321
     obtain ⟨hfz23_0, hfz23_1, hfz23_2⟩ := fz3 BK321
     go_wp2_with (first | ((with_reducible refine gate_callee (f := 33) rfl ?_); refine gL (some 20) rfl rfl Tryd.func33 (by kernel_rfl) rfl #[.agg #[.int .i64 a0_0, .slice A0_1 l0_1.length c0_1, .slice A0_2 l0_2.length c0_2], .string a1] rfl ?_; (with_reducible refine (impl_Dir_find.calls kj2 a0_0 _ _ l0_1 _ _ l0_2 a1 t324 t325 false _ ?side1 ?side2 ?side3 ?side4 A14.out).mono ?_); (case side1 => exact cb HR0_1 HB); (case side2 => exact HC0_1.out); (case side3 => exact cb HR0_2 HB); (case side4 => exact HC0_2.out); rintro e w24 ⟨rfl, hb⟩; refine ⟨_, rfl, ?_⟩; replace BK321 := nb BK321 hb; replace HB := Aside0.mk (below_step (bs1 HB GE321) hb); (try clear hb); (try clear hb2); (try clear hk); (try clear hi)))
     go_ret2
     exact ⟨by first | rfl | (simp [errW_none, errW_some] <;> rfl) | (simp [*, errW_none, errW_some] <;> rfl), bs1 HB GE321⟩

/-! ### laws_FnExactLookName: function 5 -/
def laws_FnExactLookName.j0 : Nat → Bool → Int → List Int → List (S62) → Int → List Int → List (S43) → Option (Bool)
 | 0, _, _, _, _, _, _, _ => none
 | k + 1, x41, x330000, x330001, x330002, x348000, x348001, x348002 => if x41 = true then (some false) else ((laws_toDir.f k x330000 x330001 x330002).bind fun bt350 => ((laws_eqDir.f k x348000 x348001 x348002 bt350.1 bt350.2.1 bt350.2.2).bind fun t357 => (if t357 = true then (some true) else (some false))))
def laws_FnExactLookName.f (k : Nat) (a0_0 : Int) (l0_1 : List Int) (l0_2 : List (S62)) (a1 : ByteArray) : Option (Bool) := if (a1.size : Int) > 1048576 then (some true) else ((laws_szDir.f k a0_0 l0_1 l0_2 1048576).bind fun t330 => (if t330 < 0 then (some true) else ((laws_toDir.f k a0_0 l0_1 l0_2).bind fun bt331 => ((spec_LookName.f k bt331.1 bt331.2.1 bt331.2.2 a1).bind fun bt338 => ((laws_toDir.f k a0_0 l0_1 l0_2).bind fun bt340 => ((impl_LookName.f k bt340.1 bt340.2.1 bt340.2.2 a1).bind fun bt348 => (if bt348.1 = bt338.1 then (laws_FnExactLookName.j0 k (bt348.2 != bt338.2) a0_0 l0_1 l0_2 bt340.1 bt340.2.1 bt340.2.2) else (laws_FnExactLookName.j0 k true a0_0 l0_1 l0_2 bt340.1 bt340.2.1 bt340.2.2))))))))
theorem laws_FnExactLookName.mono_l : ∀ k, (∀ y0 y1 y2 y3 y4 y5 y6, LeO (laws_FnExactLookName.j0 k y0 y1 y2 y3 y4 y5 y6) (laws_FnExactLookName.j0 (k + 1) y0 y1 y2 y3 y4 y5 y6))
 | 0 => fun _ _ _ _ _ _ _ r h => by simp [laws_FnExactLookName.j0] at h
 | k + 1 => by
  have ih0 := laws_FnExactLookName.mono_l k
  ·
   intro y0 y1 y2 y3 y4 y5 y6
   unfold laws_FnExactLookName.j0
   repeat' first
   | (with_reducible exact ih0 _ _ _ _ _ _ _)
   | (with_reducible exact impl_LookName.mono _ _ _ _ _)
   | (with_reducible exact laws_eqDir.mono _ _ _ _ _ _ _)
   | (with_reducible exact laws_szDir.mono _ _ _ _ _)
   | (with_reducible exact laws_toDir.mono _ _ _ _)
   | (with_reducible exact spec_LookName.mono _ _ _ _ _)
   | (with_reducible exact LeO.refl _)
   | (with_reducible exact LeO.none _)
   | (with_reducible refine LeO.ite ?_ ?_)
   | (with_reducible refine LeO.bind ?_ (fun _ => ?_))
   | exact ih0 _ _ _ _ _ _ _
   | exact impl_LookName.mono _ _ _ _ _
   | exact laws_eqDir.mono _ _ _ _ _ _ _
   | exact laws_szDir.mono _ _ _ _ _
   | exact laws_toDir.mono _ _ _ _
   | exact spec_LookName.mono _ _ _ _ _
   | exact LeO.none _
   | refine LeO.ite ?_ ?_
   | refine LeO.bind ?_ (fun _ => ?_)
theorem laws_FnExactLookName.mono : ∀ a0 a1 a2 a3 k, LeO (laws_FnExactLookName.f k a0 a1 a2 a3) (laws_FnExactLookName.f (k + 1) a0 a1 a2 a3) := by
 intro a0 a1 a2 a3 k
 have ih0 := laws_FnExactLookName.mono_l k
 unfold laws_FnExactLookName.f
 repeat' first
   | (with_reducible exact ih0 _ _ _ _ _ _ _)
   | (with_reducible exact impl_LookName.mono _ _ _ _ _)
   | (with_reducible exact laws_eqDir.mono _ _ _ _ _ _ _)
   | (with_reducible exact laws_szDir.mono _ _ _ _ _)
   | (with_reducible exact laws_toDir.mono _ _ _ _)
   | (with_reducible exact spec_LookName.mono _ _ _ _ _)
   | (with_reducible exact LeO.refl _)
   | (with_reducible exact LeO.none _)
   | (with_reducible refine LeO.ite ?_ ?_)
   | (with_reducible refine LeO.bind ?_ (fun _ => ?_))
   | exact ih0 _ _ _ _ _ _ _
   | exact impl_LookName.mono _ _ _ _ _
   | exact laws_eqDir.mono _ _ _ _ _ _ _
   | exact laws_szDir.mono _ _ _ _ _
   | exact laws_toDir.mono _ _ _ _
   | exact spec_LookName.mono _ _ _ _ _
   | exact LeO.none _
   | refine LeO.ite ?_ ?_
   | refine LeO.bind ?_ (fun _ => ?_)
set_option maxHeartbeats 8000000 in
set_option maxRecDepth 100000 in
theorem laws_FnExactLookName.calls (k : Nat) (a0_0 : Int) (A0_1 : Option Addr) (c0_1 : Nat) (l0_1 : List Int) (A0_2 : Option Addr) (c0_2 : Nat) (l0_2 : List (S62)) (a1 : ByteArray) (r : Bool) (w : World) (hr0_1 : Kd.C (Kd.int .i64) w A0_1 l0_1.length l0_1) (hc0_1 : l0_1.length ≤ c0_1) (hr0_2 : Kd.C k62 w A0_2 l0_2.length l0_2) (hc0_2 : l0_2.length ≤ c0_2) (h : laws_FnExactLookName.f k a0_0 l0_1 l0_2 a1 = some r) :
  Calls Tryd.prog 5 #[.agg #[.int .i64 a0_0, .slice A0_1 l0_1.length c0_1, .slice A0_2 l0_2.length c0_2], .string a1] w fun e w' => e = .returned (.bool r) ∧ Below w.heap.size w w' := by
 have hu25 := Tryd.underlying25
 have hu30 := Tryd.underlying30
 have HR0_1 := Aside0.mk hr0_1
 have HC0_1 := Aside0.mk hc0_1
 clear hr0_1 hc0_1
 have HR0_2 := Aside0.mk hr0_2
 have HC0_2 := Aside0.mk hc0_2
 clear hr0_2 hc0_2
 have HB := Aside0.mk (Below.refl w.heap.size w)
 have H : (if (a1.size : Int) > 1048576 then (some true) else ((laws_szDir.f k a0_0 l0_1 l0_2 1048576).bind fun t330 => (if t330 < 0 then (some true) else ((laws_toDir.f k a0_0 l0_1 l0_2).bind fun bt331 => ((spec_LookName.f k bt331.1 bt331.2.1 bt331.2.2 a1).bind fun bt338 => ((laws_toDir.f k a0_0 l0_1 l0_2).bind fun bt340 => ((impl_LookName.f k bt340.1 bt340.2.1 bt340.2.2 a1).bind fun bt348 => (if bt348.1 = bt338.1 then (laws_FnExactLookName.j0 k (bt348.2 != bt338.2) a0_0 l0_1 l0_2 bt340.1 bt340.2.1 bt340.2.2) else (laws_FnExactLookName.j0 k true a0_0 l0_1 l0_2 bt340.1 bt340.2.1 bt340.2.2))))))))) = some r := h
 clear h
 by_cases c3 : (a1.size : Int) > 1048576
 ·
  rw [if_pos c3] at H
  have c3b0 : decide (1048576 < (a1.size : Int)) = true := decide_eq_true c3
  have c3b1 : decide (1048576 < a1.size) = true := decide_eq_true (by omega)
  clear c3
  obtain rfl := Option.some.inj H
  go_enter Tryd.func5, Tryd.ntmps5
  go_wp2_with (first | ((with_reducible refine gate_dst (N := 2) rfl ?_); refine box_event ?hg (N := 2) ?hd (cs := #[.int .i64 a0_0, .slice A0_1 l0_1.length c0_1, .slice A0_2 l0_2.length c0_2]) (t := 25) ?hr ?_; (case hd => rfl); (case hg => rfl); (case hr => first | (go_simp; done) | (go_simp; rfl)); intro gb329 hg w4 hbox hb; have BK329 := Aside0.mk (hbox); have GW329 := Aside0.mk ((by rw [hg]; exact (below_size (bs HB)) : w.heap.size ≤ gb329)); have GE329 := Aside0.mk ((by rw [hg]; exact (below_size (bs HB)) : w.heap.size ≤ gb329)); replace HB := Aside0.mk (below_step (bs HB) hb); clear hb hbox hg))
  go_ret
  exact ⟨by first | rfl | (simp [errW_none, errW_some] <;> rfl) | (simp [*, errW_none, errW_some] <;> rfl), bs1 HB GE329⟩
 ·
  rw [if_neg c3] at H
  have c3b0 : decide (1048576 < (a1.size : Int)) = false := decide_eq_false c3
  have c3b1 : decide (1048576 < a1.size) = false := decide_eq_false (by omega)
  clear c3
  replace H := Option.bind_eq_some_iff.mp H
  obtain ⟨t330, A50, H⟩ := H
  replace H : (if t330 < 0 then (some true) else ((laws_toDir.f k a0_0 l0_1 l0_2).bind fun bt331 => ((spec_LookName.f k bt331.1 bt331.2.1 bt331.2.2 a1).bind fun bt338 => ((laws_toDir.f k a0_0 l0_1 l0_2).bind fun bt340 => ((impl_LookName.f k bt340.1 bt340.2.1 bt340.2.2 a1).bind fun bt348 => (if bt348.1 = bt338.1 then (laws_FnExactLookName.j0 k (bt348.2 != bt338.2) a0_0 l0_1 l0_2 bt340.1 bt340.2.1 bt340.2.2) else (laws_FnExactLookName.j0 k true a0_0 l0_1 l0_2 bt340.1 bt340.2.1 bt340.2.2))))))) = some r := H
  have A5 := Aside0.mk A50
  clear A50
  by_cases c6 : t330 < 0
  ·
   rw [if_pos c6] at H
   have c6b0 : decide (t330 < 0) = true := decide_eq_true c6
   clear c6
   obtain rfl := Option.some.inj H
   go_enter Tryd.func5, Tryd.ntmps5
   go_wp2_with (first | ((with_reducible refine gate_dst (N := 2) rfl ?_); refine box_event ?hg (N := 2) ?hd (cs := #[.int .i64 a0_0, .slice A0_1 l0_1.length c0_1, .slice A0_2 l0_2.length c0_2]) (t := 25) ?hr ?_; (case hd => rfl); (case hg => rfl); (case hr => first | (go_simp; done) | (go_simp; rfl)); intro gb329 hg w7 hbox hb; have BK329 := Aside0.mk (hbox); have GW329 := Aside0.mk ((by rw [hg]; exact (below_size (bs HB)) : w.heap.size ≤ gb329)); have GE329 := Aside0.mk ((by rw [hg]; exact (below_size (bs HB)) : w.heap.size ≤ gb329)); replace HB := Aside0.mk (below_step (bs HB) hb); clear hb hbox hg; obtain ⟨hcz8_0, hcz8_1, hcz8_2⟩ := cz3 BK329; obtain ⟨hfz8_0, hfz8_1, hfz8_2⟩ := fz3 BK329) | ((with_reducible refine gate_callee (f := 6) rfl ?_); refine gL (some 16) rfl rfl Tryd.func6 (by kernel_rfl) rfl #[.agg #[.int .i64 a0_0, .slice A0_1 l0_1.length c0_1, .slice A0_2 l0_2.length c0_2], .int .i64 1048576] rfl ?_; (with_reducible refine (laws_szDir.calls k a0_0 _ _ l0_1 _ _ l0_2 1048576 t330 _ ?side1 ?side2 ?side3 ?side4 A5.out).mono ?_); (case side1 => exact cb HR0_1 HB); (case side2 => exact HC0_1.out); (case side3 => exact cb HR0_2 HB); (case side4 => exact HC0_2.out); rintro e w9 ⟨rfl, hb⟩; refine ⟨_, rfl, ?_⟩; replace BK329 := nb BK329 hb; replace HB := Aside0.mk (below_step (bs1 HB GE329) hb); (try clear hb); (try clear hb2); (try clear hk); (try clear hi)))
   go_ret
   exact ⟨by first | rfl | (simp [errW_none, errW_some] <;> rfl) | (simp [*, errW_none, errW_some] <;> rfl), bs1 HB GE329⟩
  ·
   rw [if_neg c6] at H
   have c6b0 : decide (t330 < 0) = false := decide_eq_false c6
   clear c6
   replace H := Option.bind_eq_some_iff.mp H
   obtain ⟨⟨t331, t332, t335⟩, A100, H⟩ := H
   replace H : ((spec_LookName.f k t331 t332 t335 a1).bind fun bt338 => ((laws_toDir.f k a0_0 l0_1 l0_2).bind fun bt340 => ((impl_LookName.f k bt340.1 bt340.2.1 bt340.2.2 a1).bind fun bt348 => (if bt348.1 = bt338.1 then (laws_FnExactLookName.j0 k (bt348.2 != bt338.2) a0_0 l0_1 l0_2 bt340.1 bt340.2.1 bt340.2.2) else (laws_FnExactLookName.j0 k true a0_0 l0_1 l0_2 bt340.1 bt340.2.1 bt340.2.2))))) = some r := H
   have A10 := Aside0.mk A100
   clear A100
   replace H := Option.bind_eq_some_iff.mp H
   obtain ⟨⟨t338, t339⟩, A110, H⟩ := H
   replace H : ((laws_toDir.f k a0_0 l0_1 l0_2).bind fun bt340 => ((impl_LookName.f k bt340.1 bt340.2.1 bt340.2.2 a1).bind fun bt348 => (if bt348.1 = t338 then (laws_FnExactLookName.j0 k (bt348.2 != t339) a0_0 l0_1 l0_2 bt340.1 bt340.2.1 bt340.2.2) else (laws_FnExactLookName.j0 k true a0_0 l0_1 l0_2 bt340.1 bt340.2.1 bt340.2.2)))) = some r := H
   have A11 := Aside0.mk A110
   clear A110
   replace H := Option.bind_eq_some_iff.mp H
   obtain ⟨⟨t340, t341, t344⟩, A120, H⟩ := H
   replace H : ((impl_LookName.f k t340 t341 t344 a1).bind fun bt348 => (if bt348.1 = t338 then (laws_FnExactLookName.j0 k (bt348.2 != t339) a0_0 l0_1 l0_2 t340 t341 t344) else (laws_FnExactLookName.j0 k true a0_0 l0_1 l0_2 t340 t341 t344))) = some r := H
   have A12 := Aside0.mk A120
   clear A120
   replace H := Option.bind_eq_some_iff.mp H
   obtain ⟨⟨t348, t349⟩, A130, H⟩ := H
   replace H : (if t348 = t338 then (laws_FnExactLookName.j0 k (t349 != t339) a0_0 l0_1 l0_2 t340 t341 t344) else (laws_FnExactLookName.j0 k true a0_0 l0_1 l0_2 t340 t341 t344)) = some r := H
   have A13 := Aside0.mk A130
   clear A130
   have HC14 := Aside0.mk H
   clear H
   go_enter Tryd.func5, Tryd.ntmps5
   go_upto_region 10 with (first | ((with_reducible refine gate_dst (N := 2) rfl ?_); refine box_event ?hg (N := 2) ?hd (cs := #[.int .i64 a0_0, .slice A0_1 l0_1.length c0_1, .slice A0_2 l0_2.length c0_2]) (t := 25) ?hr ?_; (case hd => rfl); (case hg => rfl); (case hr => first | (go_simp; done) | (go_simp; rfl)); intro gb329 hg w15 hbox hb; have BK329 := Aside0.mk (hbox); have GW329 := Aside0.mk ((by rw [hg]; exact (below_size (bs HB)) : w.heap.size ≤ gb329)); have GE329 := Aside0.mk ((by rw [hg]; exact (below_size (bs HB)) : w.heap.size ≤ gb329)); replace HB := Aside0.mk (below_step (bs HB) hb); clear hb hbox hg; obtain ⟨hcz16_0, hcz16_1, hcz16_2⟩ := cz3 BK329; obtain ⟨hfz16_0, hfz16_1, hfz16_2⟩ := fz3 BK329) | ((with_reducible refine gate_callee (f := 6) rfl ?_); refine gL (some 16) rfl rfl Tryd.func6 (by kernel_rfl) rfl #[.agg #[.int .i64 a0_0, .slice A0_1 l0_1.length c0_1, .slice A0_2 l0_2.length c0_2], .int .i64 1048576] rfl ?_; (with_reducible refine (laws_szDir.calls k a0_0 _ _ l0_1 _ _ l0_2 1048576 t330 _ ?side1 ?side2 ?side3 ?side4 A5.out).mono ?_); (case side1 => exact cb HR0_1 HB); (case side2 => exact HC0_1.out); (case side3 => exact cb HR0_2 HB); (case side4 => exact HC0_2.out); rintro e w17 ⟨rfl, hb⟩; refine ⟨_, rfl, ?_⟩; replace BK329 := nb BK329 hb; replace HB := Aside0.mk (below_step (bs1 HB GE329) hb); (try clear hb); (try clear hb2); (try clear hk); (try clear hi); obtain ⟨hcz18_0, hcz18_1, hcz18_2⟩ := cz3 BK329; obtain ⟨hfz18_0, hfz18_1, hfz18_2⟩ := fz3 BK329) | ((with_reducible refine gate_callee (f := 8) rfl ?_); refine gL (some 21) rfl rfl Tryd.func8 (by kernel_rfl) rfl #[.agg #[.int .i64 a0_0, .slice A0_1 l0_1.length c0_1, .slice A0_2 l0_2.length c0_2]] rfl ?_; (with_reducible refine (laws_toDir.calls k a0_0 _ _ l0_1 _ _ l0_2 t331 t332 t335 _ ?side1 ?side2 ?side3 ?side4 A10.out).mono ?_); (case side1 => exact cb HR0_1 HB); (case side2 => exact HC0_1.out); (case side3 => exact cb HR0_2 HB); (case side4 => exact HC0_2.out); rintro e w19 ⟨v333, v336, rfl, ho0, ho1, hb⟩; refine ⟨_, rfl, ?_⟩; have HO334 := Aside0.mk (Kd.R_lower ho0 (below_size (bs1 HB GE329))); have HO337 := Aside0.mk (Kd.S_lower ho1 (below_size (bs1 HB GE329))); replace BK329 := nb BK329 hb; replace HB := Aside0.mk (below_step (bs1 HB GE329) hb); (try clear hb); (try clear hb2); (try clear hk); (try clear hi); (try clear ho0); (try clear ho1); obtain ⟨Ao20, co20, eo20⟩ := Kd.R_slice HO334.out; subst eo20; obtain ⟨Ao21, co21, eo21⟩ := Kd.S_slice HO337.out; subst eo21) | ((with_reducible refine gate_callee (f := 13) rfl ?_); refine gL (some 23) rfl rfl Tryd.func13 (by kernel_rfl) rfl #[.agg #[.int .i64 t331, .slice Ao20 t332.length co20, .slice Ao21 t335.length co21], .string a1] rfl ?_; (with_reducible refine (spec_LookName.calls k t331 _ _ t332 _ _ t335 a1 t338 t339 _ ?side1 ?side2 ?side3 ?side4 A11.out).mono ?_); (case side1 => exact rc0 HO334); (case side2 => exact (Kd.R_reads' HO334.out).2.1); (case side3 => repeat (first | exact (Kd.S_reads' HO337.out).2.2 | (with_reducible refine Kd.C_alloc ?_ _) | (with_reducible refine Kd.C_drewN ?_ _) | (with_reducible refine Kd.C_drew ?_))); (case side4 => exact (Kd.S_reads' HO337.out).2.1); rintro e w22 ⟨rfl, hb⟩; refine ⟨_, rfl, ?_⟩; replace HO334 := nr HO334 hb; replace HO337 := Aside0.mk (Kd.S_below (by (with_reducible repeat (first | apply Kd.S_alloc | apply Kd.S_drewN | apply Kd.S_drew)); exact HO337.out) hb); replace BK329 := nb BK329 hb; replace HB := Aside0.mk (below_step (bs1 HB GE329) hb); (try clear hb); (try clear hb2); (try clear hk); (try clear hi); obtain ⟨hcz23_0, hcz23_1, hcz23_2⟩ := cz3 BK329; obtain ⟨hfz23_0, hfz23_1, hfz23_2⟩ := fz3 BK329) | ((with_reducible refine gate_callee (f := 8) rfl ?_); refine gL (some 27) rfl rfl Tryd.func8 (by kernel_rfl) rfl #[.agg #[.int .i64 a0_0, .slice A0_1 l0_1.length c0_1, .slice A0_2 l0_2.length c0_2]] rfl ?_; (with_reducible refine (laws_toDir.calls k a0_0 _ _ l0_1 _ _ l0_2 t340 t341 t344 _ ?side1 ?side2 ?side3 ?side4 A12.out).mono ?_); (case side1 => exact cb HR0_1 HB); (case side2 => exact HC0_1.out); (case side3 => exact cb HR0_2 HB); (case side4 => exact HC0_2.out); rintro e w24 ⟨v342, v345, rfl, ho0, ho1, hb⟩; refine ⟨_, rfl, ?_⟩; have HO343 := Aside0.mk (Kd.R_lower (Kd.R_new' ho0 (Kd.R_lt (rr HO334.out))) (below_size (bs1 HB GE329))); replace HO334 := Aside0.mk (Kd.R_elder' (rr HO334.out) (Kd.R_base ho0) hb); have HO346 := Aside0.mk (Kd.S_lower (Kd.S_new' ho1 (Kd.S_lt (by (with_reducible repeat (first | apply Kd.S_alloc | apply Kd.S_drewN | apply Kd.S_drew)); exact HO337.out))) (below_size (bs1 HB GE329))); replace HO337 := Aside0.mk (Kd.S_elder' (by (with_reducible repeat (first | apply Kd.S_alloc | apply Kd.S_drewN | apply Kd.S_drew)); exact HO337.out) (Kd.S_base ho1) hb); replace BK329 := nb BK329 hb; replace HB := Aside0.mk (below_step (bs1 HB GE329) hb); (try clear hb); (try clear hb2); (try clear hk); (try clear hi); (try clear ho0); (try clear ho1)) | ((with_reducible refine gate_dst (N := 8) rfl ?_); refine box_event ?hg (N := 8) ?hd (cs := #[.int .i64 0, .slice none 0 0, .slice none 0 0]) (t := 30) ?hr ?_; (case hd => rfl); (case hg => rfl); (case hr => first | (go_simp; done) | (go_simp; rfl)); intro gb347 hg w25 hbox hb; replace HO334 := nr HO334 hb; replace HO337 := Aside0.mk (Kd.S_below (by (with_reducible repeat (first | apply Kd.S_alloc | apply Kd.S_drewN | apply Kd.S_drew)); exact HO337.out) hb); replace HO343 := nr HO343 hb; replace HO346 := Aside0.mk (Kd.S_below (by (with_reducible repeat (first | apply Kd.S_alloc | apply Kd.S_drewN | apply Kd.S_drew)); exact HO346.out) hb); have BK347 := Aside0.mk (hbox); have GW347 := Aside0.mk ((by rw [hg]; exact (below_size (bs1 HB GE329)) : w.heap.size ≤ gb347)); have GE347 := Aside0.mk ((by rw [hg]; exact (below_size (bs1 HB GE329)) : w.heap.size ≤ gb347)); replace HB := Aside0.mk (below_step (bs1 HB GE329) hb); have NB329_347 := Aside0.mk ((bn BK329 hg : gb329 ≠ gb347)); have NB347_329 := Aside0.mk ((bm BK329 hg : gb347 ≠ gb329)); replace BK329 := nb BK329 hb; clear hb hbox hg; have hnb26 := NB347_329.out; have hnc26 := NB329_347.out; obtain ⟨hcz27_0, hcz27_1, hcz27_2⟩ := cz3 BK347; obtain ⟨hfz27_0, hfz27_1, hfz27_2⟩ := fz3 BK347; obtain ⟨Ao28, co28, eo28⟩ := Kd.R_slice HO343.out; subst eo28; obtain ⟨Ao29, co29, eo29⟩ := Kd.S_slice HO346.out; subst eo29) | ((with_reducible refine gate_callee (f := 14) rfl ?_); refine gL (some 31) rfl rfl Tryd.func14 (by kernel_rfl) rfl #[.agg #[.int .i64 t340, .slice Ao28 t341.length co28, .slice Ao29 t344.length co29], .string a1] rfl ?_; (with_reducible refine (impl_LookName.calls k t340 _ _ t341 _ _ t344 a1 t348 t349 _ ?side1 ?side2 ?side3 ?side4 A13.out).mono ?_); (case side1 => exact rc HO343 BK347); (case side2 => exact (Kd.R_reads' HO343.out).2.1); (case side3 => refine (Kd.S_reads' (e := 43) (base := w.heap.size) (ok := fun k_ => (True ∧ some k_ ≠ (.slice Ao21 t335.length co21 : Value).ownBlock)) (n := t344.length) (c := co29) ?_).2.2; exact (by (with_reducible repeat (first | apply Kd.S_alloc | apply Kd.S_drewN | apply Kd.S_drew)); exact (Kd.S_mono (Kd.S_far (p := ⟨gb347, 2, none⟩) (Kd.S_far (p := ⟨gb347, 1, none⟩) (Kd.S_far (p := ⟨gb347, 0, none⟩) (Kd.S_types HO346.out BK347.out (by decide)) (fun _ hk => hk.2) (.int .i64 t340)) (fun _ hk => hk.2) (.slice Ao28 t341.length co28)) (fun _ hk => hk.2) (.slice Ao29 t344.length co29)) (fun _ h_ => h_.1)))); (case side4 => exact (Kd.S_reads' HO346.out).2.1); rintro e w30 ⟨rfl, hb⟩; refine ⟨_, rfl, ?_⟩; replace HO334 := nf HO334 BK347 hb; replace HO337 := Aside0.mk (Kd.S_below (by (with_reducible repeat (first | apply Kd.S_alloc | apply Kd.S_drewN | apply Kd.S_drew)); exact (Kd.S_mono (Kd.S_far (p := ⟨gb347, 2, none⟩) (Kd.S_far (p := ⟨gb347, 1, none⟩) (Kd.S_far (p := ⟨gb347, 0, none⟩) (Kd.S_types HO337.out BK347.out (by decide)) (fun _ hk => hk.2) (.int .i64 t340)) (fun _ hk => hk.2) (.slice Ao28 t341.length co28)) (fun _ hk => hk.2) (.slice Ao29 t344.length co29)) (fun _ h_ => h_.1))) hb); replace HO343 := nf HO343 BK347 hb; replace HO346 := Aside0.mk (Kd.S_below (by (with_reducible repeat (first | apply Kd.S_alloc | apply Kd.S_drewN | apply Kd.S_drew)); exact (Kd.S_mono (Kd.S_far (p := ⟨gb347, 2, none⟩) (Kd.S_far (p := ⟨gb347, 1, none⟩) (Kd.S_far (p := ⟨gb347, 0, none⟩) (Kd.S_types HO346.out BK347.out (by decide)) (fun _ hk => hk.2) (.int .i64 t340)) (fun _ hk => hk.2) (.slice Ao28 t341.length co28)) (fun _ hk => hk.2) (.slice Ao29 t344.length co29)) (fun _ h_ => h_.1))) hb); replace BK329 := Aside0.mk (blk_below (bf BK329 NB329_347) hb); replace BK347 := Aside0.mk (blk_below (g := gb347) (o := .cells #[.int .i64 t340, .slice Ao28 t341.length co28, .slice Ao29 t344.length co29] 30 (0, 0)) (by (with_reducible repeat (first | refine blk_drewN ?_ _ | refine blk_drew ?_ | refine blk_alloc ?_ _)); refine blk_put (cs := #[.int .i64 t340, .slice Ao28 t341.length co28, .slice none 0 0]) ?_ 2 _ rfl; (with_reducible repeat (first | refine blk_drewN ?_ _ | refine blk_drew ?_ | refine blk_alloc ?_ _)); refine blk_put (cs := #[.int .i64 t340, .slice none 0 0, .slice none 0 0]) ?_ 1 _ rfl; (with_reducible repeat (first | refine blk_drewN ?_ _ | refine blk_drew ?_ | refine blk_alloc ?_ _)); refine blk_put (cs := #[.int .i64 0, .slice none 0 0, .slice none 0 0]) ?_ 0 _ rfl; (with_reducible repeat (first | refine blk_drewN ?_ _ | refine blk_drew ?_ | refine blk_alloc ?_ _)); exact BK347.out) hb); replace HB := Aside0.mk (below_step (bs2 HB GE329 GE347) hb); (try clear hb); (try clear hb2); (try clear hk); (try clear hi)))
   (try simp only [Act.put, List.setIfInBounds_toArray, List.set_cons_zero, List.set_cons_succ])
   go_cut [41] (fun v41 wc => ∃ (kq : Nat) (x41_13 : Bool), v41 = .bool x41_13 ∧ Aside0 (laws_FnExactLookName.j0 kq x41_13 a0_0 l0_1 l0_2 t340 t341 t344 = some r) ∧ Aside0 (kq ≤ k) ∧ Aside0 (Kd.R (Kd.int .i64) 3 wc w.heap.size (fun _ => True) (.slice Ao28 t341.length co28) t341) ∧ Aside0 (Kd.S k43 43 wc w.heap.size (fun _ => True) (.slice Ao29 t344.length co29) t344) ∧ Aside0 (wc.heap[gb329]? = some (.cells #[.int .i64 a0_0, (.slice A0_1 l0_1.length c0_1), (.slice A0_2 l0_2.length c0_2)] 25 (0, 0))) ∧ Aside0 (wc.heap[gb347]? = some (.cells #[.int .i64 t340, (.slice Ao28 t341.length co28), (.slice Ao29 t344.length co29)] 30 (0, 0))) ∧ Aside0 (Below w.heap.size w wc))
   case first =>
    have H := HC14.out
    clear HC14
    by_cases c31 : t348 = t338
    ·
     rw [if_pos c31] at H
     have c31b0 : (t348 == t338) = true := beq_iff_eq.mpr c31
     have c31b1 : (t348 != t338) = false := bne_eq_false_iff_eq.mpr c31
     clear c31
     (first | rw [c31b0] | (simp only [i64_w, i32_w]; rw [c31b0]) | (simp only [c31b2, Bool.not_false, Bool.not_true]) | skip)
     have H' := Aside0.mk H
     clear H
     go_wp2
     go_meet
     case rel => exact ⟨_, ((t349 != t339)), (by first | rfl | (simp; done) | (simp [*]; done)), H', ⟨by first | omega | exact Nat.le_refl _⟩, rm HO343 (fun _ hk => trivial), ⟨by (with_reducible repeat (first | apply Kd.S_alloc | apply Kd.S_drewN | apply Kd.S_drew)); exact Kd.S_mono HO346.out (fun _ hk => trivial)⟩, ⟨bk BK329⟩, ⟨bk BK347⟩, ⟨bs2 HB GE329 GE347⟩⟩
    ·
     rw [if_neg c31] at H
     have c31b0 : (t348 == t338) = false := beq_eq_false_iff_ne.mpr c31
     have c31b1 : (t348 != t338) = true := bne_iff_ne.mpr c31
     (first | rw [c31b0] | (simp only [i64_w, i32_w]; rw [c31b0]) | (simp only [c31b2, Bool.not_false, Bool.not_true]) | skip)
     have H' := Aside0.mk H
     clear H
     go_wp2
     go_meet
     case rel => exact ⟨_, (true), (by first | rfl | (simp; done) | (simp [*]; done)), H', ⟨by first | omega | exact Nat.le_refl _⟩, rm HO343 (fun _ hk => trivial), ⟨by (with_reducible repeat (first | apply Kd.S_alloc | apply Kd.S_drewN | apply Kd.S_drew)); exact Kd.S_mono HO346.out (fun _ hk => trivial)⟩, ⟨bk BK329⟩, ⟨bk BK347⟩, ⟨bs2 HB GE329 GE347⟩⟩
   case rest =>
    clear HC14
    try clear c1
    try clear c2
    try clear p2
    try clear c3
    try clear c3b0
    try clear c3b1
    try clear c5
    try clear c6
    try clear c6b0
    try clear c8
    try clear c13
    try clear c14
    try clear c26
    try clear c31
    try clear c31b0
    try clear c31b1
    try clear hcz16_0 hcz16_1 hcz16_2
    try clear hcz18_0 hcz18_1 hcz18_2
    try clear hcz23_0 hcz23_1 hcz23_2
    try clear hcz27_0 hcz27_1 hcz27_2
    try clear hcz8_0 hcz8_1 hcz8_2
    try clear hfz16_0 hfz16_1 hfz16_2
    try clear hfz18_0 hfz18_1 hfz18_2
    try clear hfz23_0 hfz23_1 hfz23_2
    try clear hfz27_0 hfz27_1 hfz27_2
    try clear hfz8_0 hfz8_1 hfz8_2
    obtain ⟨kq, x41_13, rfl, HA, HJ13, HO_348001, HO_348002, BK329, BK347, HB⟩ := hcut
    cases kq with
    | zero => exact absurd HA.out (by simp [laws_FnExactLookName.j0])
    | succ kj13 =>
     have H := HA.out
     clear HA
     simp only [laws_FnExactLookName.j0] at H
     by_cases c32 : x41_13 = true
     ·
      subst c32
      rw [if_pos rfl] at H
      obtain rfl := Option.some.inj H
      go_wp2
      go_ret
      exact ⟨by first | rfl | (simp [errW_none, errW_some] <;> rfl) | (simp [*, errW_none, errW_some] <;> rfl), bs2 HB GE329 GE347⟩
     ·
      replace c32 := Bool.eq_false_iff.mpr c32
      subst c32
      rw [if_neg (show ¬ (false = true) by decide)] at H
      replace H := Option.bind_eq_some_iff.mp H
      obtain ⟨⟨t350, t351, t354⟩, A330, H⟩ := H
      replace H : ((laws_eqDir.f kj13 t340 t341 t344 t350 t351 t354).bind fun t357 => (if t357 = true then (some true) else (some false))) = some r := H
      have A33 := Aside0.mk A330
      clear A330
      replace H := Option.bind_eq_some_iff.mp H
      obtain ⟨t357, A340, H⟩ := H
      replace H : (if t357 = true then (some true) else (some false)) = some r := H
      have A34 := Aside0.mk A340
      clear A340
      by_cases c35 : t357 = true
      ·
       subst c35
       rw [if_pos rfl] at H
       obtain rfl := Option.some.inj H
       try go_wp2
       have n0_ := Aside0.mk (Kd.R_drew HO_348001.out)
       have n1_ := Aside0.mk (Kd.S_drew HO_348002.out)
       have n2_ := Aside0.mk (blk_drew BK329.out)
       have n3_ := Aside0.mk (blk_drew BK347.out)
       have n4_ := Aside0.mk (below_drew1 HB.out)
       clear HO_348001
       clear HO_348002
       clear BK329
       clear BK347
       clear HB
       have HO_348001 := n0_
       have HO_348002 := n1_
       have BK329 := n2_
       have BK347 := n3_
       have HB := n4_
       clear n0_ n1_ n2_ n3_ n4_
       refine start_ (n := 5) (S := fun w' => w'.cell? ⟨gb347, 0, none⟩ = some (.int .i64 t340) ∧ w'.cell? ⟨gb347, 1, none⟩ = some (.slice Ao28 t341.length co28) ∧ w'.cell? ⟨gb347, 2, none⟩ = some (.slice Ao29 t344.length co29) ∧ w'.cell? ⟨gb329, 0, none⟩ = some (.int .i64 a0_0) ∧ w'.cell? ⟨gb329, 1, none⟩ = some (.slice A0_1 l0_1.length c0_1) ∧ w'.cell? ⟨gb329, 2, none⟩ = some (.slice A0_2 l0_2.length c0_2)) (ds := []) #[false, false, false, false, false] (by kernel_rfl) rfl rfl ⟨(blk_cell BK347.out 0).trans rfl, (blk_cell BK347.out 1).trans rfl, (blk_cell BK347.out 2).trans rfl, (blk_cell BK329.out 0).trans rfl, (blk_cell BK329.out 1).trans rfl, (blk_cell BK329.out 2).trans rfl⟩ (fun hHeld => ?_)
       generalize wc.drew = w36 at HO_348001 HO_348002 BK329 BK347 HB hHeld ⊢
       refine take_ (i := 0) (N := some 42) (v := ?_) (a' := ?_) #[true, false, false, false, false] rfl rfl (by kernel_rfl) (fun _ _ _ h => h) (Or.inl ⟨by rfl, ?_⟩) hHeld ?_ ?_
       rotate_left
       ·
        rintro w' ⟨s0, s1, s2, s3, s4, s5⟩
        go_simp
        with_reducible rfl
       rotate_left
       ·
        simp only [Act.put, List.setIfInBounds_toArray, List.set_cons_zero, List.set_cons_succ, i64_w, i32_w]
        rfl
       refine take_ (i := 1) (N := some 43) (v := ?_) (a' := ?_) #[true, true, false, false, false] rfl rfl (by kernel_rfl) (fun _ _ _ h => h) (Or.inl ⟨by rfl, ?_⟩) hHeld ?_ ?_
       rotate_left
       ·
        rintro w' ⟨s0, s1, s2, s3, s4, s5⟩
        go_simp
        with_reducible rfl
       rotate_left
       ·
        simp only [Act.put, List.setIfInBounds_toArray, List.set_cons_zero, List.set_cons_succ, i64_w, i32_w]
        rfl
       refine one_ (i := 2) (N := some 44) #[true, true, true, false, false] rfl rfl (by kernel_rfl) (by decide) (fun K hK => ?_)
       refine goes_ Tryd.func8 (by kernel_rfl) rfl #[.agg #[.int .i64 a0_0, .slice A0_1 l0_1.length c0_1, .slice A0_2 l0_2.length c0_2]] (by rfl) rfl rfl (by (try simp only [List.map_toArray, List.map_cons, List.map_nil]); first | done | rfl | (simp only [List.length_drop, List.length_take]; rfl)) ?_
       with_reducible refine (laws_toDir.calls kj13 a0_0 _ _ l0_1 _ _ l0_2 t350 t351 t354 _ ?side1 ?side2 ?side3 ?side4 A33.out).mono ?_
       (case side1 => exact cb HR0_1 HB)
       (case side2 => exact HC0_1.out)
       (case side3 => exact cb HR0_2 HB)
       (case side4 => exact HC0_2.out)
       rintro e w37 ⟨v352, v355, rfl, ho0, ho1, hb⟩
       refine ⟨_, rfl, ?_⟩
       have n0_ := Aside0.mk (Kd.R_elder' (rr HO_348001.out) (Kd.R_base ho0) hb)
       have n1_ := Aside0.mk (Kd.S_elder' (by (with_reducible repeat (first | apply Kd.S_alloc | apply Kd.S_drewN | apply Kd.S_drew)); exact HO_348002.out) (Kd.S_base ho1) hb)
       have n2_ := Aside0.mk (Kd.R_lower (Kd.R_new' ho0 (Kd.R_lt (rr HO_348001.out))) (below_size (bs2 HB GE329 GE347)))
       have n3_ := Aside0.mk (Kd.S_lower (Kd.S_new' ho1 (Kd.S_lt (by (with_reducible repeat (first | apply Kd.S_alloc | apply Kd.S_drewN | apply Kd.S_drew)); exact HO_348002.out))) (below_size (bs2 HB GE329 GE347)))
       have n4_ := Aside0.mk (bb BK329 hb)
       have n5_ := Aside0.mk (bb BK347 hb)
       have n6_ := Aside0.mk (below_step (bs2 HB GE329 GE347) hb)
       clear HO_348001
       clear HO_348002
       clear BK329
       clear BK347
       clear HB
       have HO_348001 := n0_
       have HO_348002 := n1_
       have HO353 := n2_
       have HO356 := n3_
       have BK329 := n4_
       have BK347 := n5_
       have HB := n6_
       clear n0_ n1_ n2_ n3_ n4_ n5_ n6_
       (try clear hb)
       (try clear hb2)
       (try clear hk)
       (try clear hi)
       (try clear ho0)
       (try clear ho1)
       obtain ⟨Ao38, co38, eo38⟩ := Kd.R_slice HO353.out
       (first | subst eo38 | (injection eo38 with f1_ f2_ f3_; have f4_ := f1_.symm; have f5_ := f3_.symm; clear f1_ f2_ f3_; subst f4_; subst f5_))
       obtain ⟨Ao39, co39, eo39⟩ := Kd.S_slice HO356.out
       (first | subst eo39 | (injection eo39 with f1_ f2_ f3_; have f4_ := f1_.symm; have f5_ := f3_.symm; clear f1_ f2_ f3_; subst f4_; subst f5_))
       refine hK.out _ _ ⟨(blk_cell BK347.out 0).trans rfl, (blk_cell BK347.out 1).trans rfl, (blk_cell BK347.out 2).trans rfl, (blk_cell BK329.out 0).trans rfl, (blk_cell BK329.out 1).trans rfl, (blk_cell BK329.out 2).trans rfl⟩ (fun hHeld => ?_)
       clear hK K
       refine norm_ (a' := ?_) ?_ ?_
       rotate_left
       ·
        show Act.put _ (some 44) _ = _
        simp only [Act.put, List.setIfInBounds_toArray, List.set_cons_zero, List.set_cons_succ, i64_w, i32_w]
        rfl
       refine one_ (i := 3) (N := some 45) #[true, true, true, true, false] rfl rfl (by kernel_rfl) (by decide) (fun K hK => ?_)
       refine goes_ Tryd.func10 (by kernel_rfl) rfl #[.agg #[.int .i64 t340, .slice Ao28 t341.length co28, .slice Ao29 t344.length co29], .agg #[.int .i64 t350, .slice Ao38 t351.length co38, .slice Ao39 t354.length co39]] (by rfl) rfl rfl (by (try simp only [List.map_toArray, List.map_cons, List.map_nil]); first | done | rfl | (simp only [List.length_drop, List.length_take]; rfl)) ?_
       with_reducible refine (laws_eqDir.calls kj13 t340 _ _ t341 _ _ t344 t350 _ _ t351 _ _ t354 true _ ?side1 ?side2 ?side3 ?side4 ?side5 ?side6 ?side7 ?side8 A34.out).mono ?_
       (case side1 => exact rc0 HO_348001)
       (case side2 => exact (Kd.R_reads' HO_348001.out).2.1)
       (case side3 => repeat (first | exact (Kd.S_reads' HO_348002.out).2.2 | (with_reducible refine Kd.C_alloc ?_ _) | (with_reducible refine Kd.C_drewN ?_ _) | (with_reducible refine Kd.C_drew ?_)))
       (case side4 => exact (Kd.S_reads' HO_348002.out).2.1)
       (case side5 => exact rc0 HO353)
       (case side6 => exact (Kd.R_reads' HO353.out).2.1)
       (case side7 => repeat (first | exact (Kd.S_reads' HO356.out).2.2 | (with_reducible refine Kd.C_alloc ?_ _) | (with_reducible refine Kd.C_drewN ?_ _) | (with_reducible refine Kd.C_drew ?_)))
       (case side8 => exact (Kd.S_reads' HO356.out).2.1)
       rintro e w40 ⟨rfl, hb⟩
       refine ⟨_, rfl, ?_⟩
       have n0_ := Aside0.mk (Kd.R_below (rr HO_348001.out) hb)
       have n1_ := Aside0.mk (Kd.S_below (by (with_reducible repeat (first | apply Kd.S_alloc | apply Kd.S_drewN | apply Kd.S_drew)); exact HO_348002.out) hb)
       have n2_ := Aside0.mk (Kd.R_below (rr HO353.out) hb)
       have n3_ := Aside0.mk (Kd.S_below (by (with_reducible repeat (first | apply Kd.S_alloc | apply Kd.S_drewN | apply Kd.S_drew)); exact HO356.out) hb)
       have n4_ := Aside0.mk (bb BK329 hb)
       have n5_ := Aside0.mk (bb BK347 hb)
       have n6_ := Aside0.mk (below_step (bs2 HB GE329 GE347) hb)
       clear HO_348001
       clear HO_348002
       clear HO353
       clear HO356
       clear BK329
       clear BK347
       clear HB
       have HO_348001 := n0_
       have HO_348002 := n1_
       have HO353 := n2_
       have HO356 := n3_
       have BK329 := n4_
       have BK347 := n5_
       have HB := n6_
       clear n0_ n1_ n2_ n3_ n4_ n5_ n6_
       (try clear hb)
       (try clear hb2)
       (try clear hk)
       (try clear hi)
       refine hK.out _ _ ⟨(blk_cell BK347.out 0).trans rfl, (blk_cell BK347.out 1).trans rfl, (blk_cell BK347.out 2).trans rfl, (blk_cell BK329.out 0).trans rfl, (blk_cell BK329.out 1).trans rfl, (blk_cell BK329.out 2).trans rfl⟩ (fun hHeld => ?_)
       clear hK K
       refine norm_ (a' := ?_) ?_ ?_
       rotate_left
       ·
        show Act.put _ (some 45) _ = _
        simp only [Act.put, List.setIfInBounds_toArray, List.set_cons_zero, List.set_cons_succ, i64_w, i32_w]
        rfl
       refine pure_ (i := 4) (N := some 46) (v := ?_) (a' := ?_) #[true, true, true, true, true] rfl rfl (by kernel_rfl) (fun _ _ _ h => h) (Or.inl ⟨by rfl, ?_⟩) ?_ ?_
       rotate_left
       ·
        intro w'
        go_simp
        with_reducible rfl
       rotate_left
       ·
        simp only [Act.put, List.setIfInBounds_toArray, List.set_cons_zero, List.set_cons_succ, i64_w, i32_w]
        rfl
       refine done_ (by kernel_rfl) ?_
       try go_wp2
       go_ret
       exact ⟨by first | rfl | (simp [errW_none, errW_some] <;> rfl) | (simp [*, errW_none, errW_some] <;> rfl), bs2 HB GE329 GE347⟩
      ·
       replace c35 := Bool.eq_false_iff.mpr c35
       subst c35
       rw [if_neg (show ¬ (false = true) by decide)] at H
       obtain rfl := Option.some.inj H
       try go_wp2
       have n0_ := Aside0.mk (Kd.R_drew HO_348001.out)
       have n1_ := Aside0.mk (Kd.S_drew HO_348002.out)
       have n2_ := Aside0.mk (blk_drew BK329.out)
       have n3_ := Aside0.mk (blk_drew BK347.out)
       have n4_ := Aside0.mk (below_drew1 HB.out)
       clear HO_348001
       clear HO_348002
       clear BK329
       clear BK347
       clear HB
       have HO_348001 := n0_
       have HO_348002 := n1_
       have BK329 := n2_
       have BK347 := n3_
       have HB := n4_
       clear n0_ n1_ n2_ n3_ n4_
       refine start_ (n := 5) (S := fun w' => w'.cell? ⟨gb347, 0, none⟩ = some (.int .i64 t340) ∧ w'.cell? ⟨gb347, 1, none⟩ = some (.slice Ao28 t341.length co28) ∧ w'.cell? ⟨gb347, 2, none⟩ = some (.slice Ao29 t344.length co29) ∧ w'.cell? ⟨gb329, 0, none⟩ = some (.int .i64 a0_0) ∧ w'.cell? ⟨gb329, 1, none⟩ = some (.slice A0_1 l0_1.length c0_1) ∧ w'.cell? ⟨gb329, 2, none⟩ = some (.slice A0_2 l0_2.length c0_2)) (ds := []) #[false, false, false, false, false] (by kernel_rfl) rfl rfl ⟨(blk_cell BK347.out 0).trans rfl, (blk_cell BK347.out 1).trans rfl, (blk_cell BK347.out 2).trans rfl, (blk_cell BK329.out 0).trans rfl, (blk_cell BK329.out 1).trans rfl, (blk_cell BK329.out 2).trans rfl⟩ (fun hHeld => ?_)
       generalize wc.drew = w41 at HO_348001 HO_348002 BK329 BK347 HB hHeld ⊢
       refine take_ (i := 0) (N := some 42) (v := ?_) (a' := ?_) #[true, false, false, false, false] rfl rfl (by kernel_rfl) (fun _ _ _ h => h) (Or.inl ⟨by rfl, ?_⟩) hHeld ?_ ?_
       rotate_left
       ·
        rintro w' ⟨s0, s1, s2, s3, s4, s5⟩
        go_simp
        with_reducible rfl
       rotate_left
       ·
        simp only [Act.put, List.setIfInBounds_toArray, List.set_cons_zero, List.set_cons_succ, i64_w, i32_w]
        rfl
       refine take_ (i := 1) (N := some 43) (v := ?_) (a' := ?_) #[true, true, false, false, false] rfl rfl (by kernel_rfl) (fun _ _ _ h => h) (Or.inl ⟨by rfl, ?_⟩) hHeld ?_ ?_
       rotate_left
       ·
        rintro w' ⟨s0, s1, s2, s3, s4, s5⟩
        go_simp
        with_reducible rfl
       rotate_left
       ·
        simp only [Act.put, List.setIfInBounds_toArray, List.set_cons_zero, List.set_cons_succ, i64_w, i32_w]
        rfl
       refine one_ (i := 2) (N := some 44) #[true, true, true, false, false] rfl rfl (by kernel_rfl) (by decide) (fun K hK => ?_)
       refine goes_ Tryd.func8 (by kernel_rfl) rfl #[.agg #[.int .i64 a0_0, .slice A0_1 l0_1.length c0_1, .slice A0_2 l0_2.length c0_2]] (by rfl) rfl rfl (by (try simp only [List.map_toArray, List.map_cons, List.map_nil]); first | done | rfl | (simp only [List.length_drop, List.length_take]; rfl)) ?_
       with_reducible refine (laws_toDir.calls kj13 a0_0 _ _ l0_1 _ _ l0_2 t350 t351 t354 _ ?side1 ?side2 ?side3 ?side4 A33.out).mono ?_
       (case side1 => exact cb HR0_1 HB)
       (case side2 => exact HC0_1.out)
       (case side3 => exact cb HR0_2 HB)
       (case side4 => exact HC0_2.out)
       rintro e w42 ⟨v352, v355, rfl, ho0, ho1, hb⟩
       refine ⟨_, rfl, ?_⟩
       have n0_ := Aside0.mk (Kd.R_elder' (rr HO_348001.out) (Kd.R_base ho0) hb)
       have n1_ := Aside0.mk (Kd.S_elder' (by (with_reducible repeat (first | apply Kd.S_alloc | apply Kd.S_drewN | apply Kd.S_drew)); exact HO_348002.out) (Kd.S_base ho1) hb)
       have n2_ := Aside0.mk (Kd.R_lower (Kd.R_new' ho0 (Kd.R_lt (rr HO_348001.out))) (below_size (bs2 HB GE329 GE347)))
       have n3_ := Aside0.mk (Kd.S_lower (Kd.S_new' ho1 (Kd.S_lt (by (with_reducible repeat (first | apply Kd.S_alloc | apply Kd.S_drewN | apply Kd.S_drew)); exact HO_348002.out))) (below_size (bs2 HB GE329 GE347)))
       have n4_ := Aside0.mk (bb BK329 hb)
       have n5_ := Aside0.mk (bb BK347 hb)
       have n6_ := Aside0.mk (below_step (bs2 HB GE329 GE347) hb)
       clear HO_348001
       clear HO_348002
       clear BK329
       clear BK347
       clear HB
       have HO_348001 := n0_
       have HO_348002 := n1_
       have HO353 := n2_
       have HO356 := n3_
       have BK329 := n4_
       have BK347 := n5_
       have HB := n6_
       clear n0_ n1_ n2_ n3_ n4_ n5_ n6_
       (try clear hb)
       (try clear hb2)
       (try clear hk)
       (try clear hi)
       (try clear ho0)
       (try clear ho1)
       obtain ⟨Ao43, co43, eo43⟩ := Kd.R_slice HO353.out
       (first | subst eo43 | (injection eo43 with f1_ f2_ f3_; have f4_ := f1_.symm; have f5_ := f3_.symm; clear f1_ f2_ f3_; subst f4_; subst f5_))
       obtain ⟨Ao44, co44, eo44⟩ := Kd.S_slice HO356.out
       (first | subst eo44 | (injection eo44 with f1_ f2_ f3_; have f4_ := f1_.symm; have f5_ := f3_.symm; clear f1_ f2_ f3_; subst f4_; subst f5_))
       refine hK.out _ _ ⟨(blk_cell BK347.out 0).trans rfl, (blk_cell BK347.out 1).trans rfl, (blk_cell BK347.out 2).trans rfl, (blk_cell BK329.out 0).trans rfl, (blk_cell BK329.out 1).trans rfl, (blk_cell BK329.out 2).trans rfl⟩ (fun hHeld => ?_)
       clear hK K
       refine norm_ (a' := ?_) ?_ ?_
       rotate_left
       ·
        show Act.put _ (some 44) _ = _
        simp only [Act.put, List.setIfInBounds_toArray, List.set_cons_zero, List.set_cons_succ, i64_w, i32_w]
        rfl
       refine one_ (i := 3) (N := some 45) #[true, true, true, true, false] rfl rfl (by kernel_rfl) (by decide) (fun K hK => ?_)
       refine goes_ Tryd.func10 (by kernel_rfl) rfl #[.agg #[.int .i64 t340, .slice Ao28 t341.length co28, .slice Ao29 t344.length co29], .agg #[.int .i64 t350, .slice Ao43 t351.length co43, .slice Ao44 t354.length co44]] (by rfl) rfl rfl (by (try simp only [List.map_toArray, List.map_cons, List.map_nil]); first | done | rfl | (simp only [List.length_drop, List.length_take]; rfl)) ?_
       with_reducible refine (laws_eqDir.calls kj13 t340 _ _ t341 _ _ t344 t350 _ _ t351 _ _ t354 false _ ?side1 ?side2 ?side3 ?side4 ?side5 ?side6 ?side7 ?side8 A34.out).mono ?_
       (case side1 => exact rc0 HO_348001)
       (case side2 => exact (Kd.R_reads' HO_348001.out).2.1)
       (case side3 => repeat (first | exact (Kd.S_reads' HO_348002.out).2.2 | (with_reducible refine Kd.C_alloc ?_ _) | (with_reducible refine Kd.C_drewN ?_ _) | (with_reducible refine Kd.C_drew ?_)))
       (case side4 => exact (Kd.S_reads' HO_348002.out).2.1)
       (case side5 => exact rc0 HO353)
       (case side6 => exact (Kd.R_reads' HO353.out).2.1)
       (case side7 => repeat (first | exact (Kd.S_reads' HO356.out).2.2 | (with_reducible refine Kd.C_alloc ?_ _) | (with_reducible refine Kd.C_drewN ?_ _) | (with_reducible refine Kd.C_drew ?_)))
       (case side8 => exact (Kd.S_reads' HO356.out).2.1)
       rintro e w45 ⟨rfl, hb⟩
       refine ⟨_, rfl, ?_⟩
       have n0_ := Aside0.mk (Kd.R_below (rr HO_348001.out) hb)
       have n1_ := Aside0.mk (Kd.S_below (by (with_reducible repeat (first | apply Kd.S_alloc | apply Kd.S_drewN | apply Kd.S_drew)); exact HO_348002.out) hb)
       have n2_ := Aside0.mk (Kd.R_below (rr HO353.out) hb)
       have n3_ := Aside0.mk (Kd.S_below (by (with_reducible repeat (first | apply Kd.S_alloc | apply Kd.S_drewN | apply Kd.S_drew)); exact HO356.out) hb)
       have n4_ := Aside0.mk (bb BK329 hb)
       have n5_ := Aside0.mk (bb BK347 hb)
       have n6_ := Aside0.mk (below_step (bs2 HB GE329 GE347) hb)
       clear HO_348001
       clear HO_348002
       clear HO353
       clear HO356
       clear BK329
       clear BK347
       clear HB
       have HO_348001 := n0_
       have HO_348002 := n1_
       have HO353 := n2_
       have HO356 := n3_
       have BK329 := n4_
       have BK347 := n5_
       have HB := n6_
       clear n0_ n1_ n2_ n3_ n4_ n5_ n6_
       (try clear hb)
       (try clear hb2)
       (try clear hk)
       (try clear hi)
       refine hK.out _ _ ⟨(blk_cell BK347.out 0).trans rfl, (blk_cell BK347.out 1).trans rfl, (blk_cell BK347.out 2).trans rfl, (blk_cell BK329.out 0).trans rfl, (blk_cell BK329.out 1).trans rfl, (blk_cell BK329.out 2).trans rfl⟩ (fun hHeld => ?_)
       clear hK K
       refine norm_ (a' := ?_) ?_ ?_
       rotate_left
       ·
        show Act.put _ (some 45) _ = _
        simp only [Act.put, List.setIfInBounds_toArray, List.set_cons_zero, List.set_cons_succ, i64_w, i32_w]
        rfl
       refine pure_ (i := 4) (N := some 46) (v := ?_) (a' := ?_) #[true, true, true, true, true] rfl rfl (by kernel_rfl) (fun _ _ _ h => h) (Or.inl ⟨by rfl, ?_⟩) ?_ ?_
       rotate_left
       ·
        intro w'
        go_simp
        with_reducible rfl
       rotate_left
       ·
        simp only [Act.put, List.setIfInBounds_toArray, List.set_cons_zero, List.set_cons_succ, i64_w, i32_w]
        rfl
       refine done_ (by kernel_rfl) ?_
       try go_wp2
       go_ret
       exact ⟨by first | rfl | (simp [errW_none, errW_some] <;> rfl) | (simp [*, errW_none, errW_some] <;> rfl), bs2 HB GE329 GE347⟩

/-- THE ONE PURE STATEMENT of laws_FnExactLookName. -/
def laws_FnExactLookName.Pure : Prop := ∀ (a0_0 : Int) (l0_1 : List Int) (l0_2 : List (S62)) (a1 : ByteArray), ok25 (⟨a0_0, l0_1, l0_2⟩ : S25) → a1.size ≤ maxLen → ∃ k, laws_FnExactLookName.f k a0_0 l0_1 l0_2 a1 = some true

end Go.Proofs.YtnjnlocndalpjaaDoor.G
