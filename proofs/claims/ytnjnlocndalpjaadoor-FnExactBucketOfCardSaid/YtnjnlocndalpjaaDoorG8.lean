-- Printed by a program of this session (drive.py, by way of the kit's print). Not trusted: Lean checks it.
import Derived.Test.YtnjnlocndalpjaaDoorG0
import Derived.Test.YtnjnlocndalpjaaDoorG1
import Derived.Test.YtnjnlocndalpjaaDoorG2
import Derived.Test.YtnjnlocndalpjaaDoorG3
import Derived.Test.YtnjnlocndalpjaaDoorG4
import Derived.Test.YtnjnlocndalpjaaDoorG5
import Derived.Test.YtnjnlocndalpjaaDoorG6
namespace Go.Proofs.YtnjnlocndalpjaaDoor.G
open Go.RowKit Go.Proofs.YtnjnlocndalpjaaDoorW.PrintWords Go.Proofs.YtnjnlocndalpjaaDoorW.PrintLast Go.Proofs.YtnjnlocndalpjaaDoorW.PrintMore
attribute [local go_sem] max2_int min2_int max_two min_two max_three min_three max_four min_four   -- for this text's walks alone
set_option linter.unusedVariables false
set_option linter.unusedSimpArgs false

/-! ### spec_BucketOf: function 11 -/
def spec_BucketOf.f (k : Nat) (a0_0 : Int) (l0_1 : List Int) (l0_2 : List (S43)) (a1 : ByteArray) : Option (Int × Bool) := (spec_GoodDir.f k a0_0 l0_1 l0_2).bind fun t261 => (if t261 = true then ((spec_l8Name.f k a1).bind fun t262 => (if t262 = true then ((spec_l8Bucket.f k a0_0 l0_1 l0_2 a1).bind fun t263 => (some (t263, true))) else (some (0, false)))) else (some (0, false)))
theorem spec_BucketOf.mono : ∀ a0 a1 a2 a3 k, LeO (spec_BucketOf.f k a0 a1 a2 a3) (spec_BucketOf.f (k + 1) a0 a1 a2 a3) := by
 intro a0 a1 a2 a3 k
 unfold spec_BucketOf.f
 repeat' first
   | (with_reducible exact spec_GoodDir.mono _ _ _ _)
   | (with_reducible exact spec_l8Bucket.mono _ _ _ _ _)
   | (with_reducible exact spec_l8Name.mono _ _)
   | (with_reducible exact LeO.refl _)
   | (with_reducible exact LeO.none _)
   | (with_reducible refine LeO.ite ?_ ?_)
   | (with_reducible refine LeO.bind ?_ (fun _ => ?_))
   | exact spec_GoodDir.mono _ _ _ _
   | exact spec_l8Bucket.mono _ _ _ _ _
   | exact spec_l8Name.mono _ _
   | exact LeO.none _
   | refine LeO.ite ?_ ?_
   | refine LeO.bind ?_ (fun _ => ?_)
set_option maxHeartbeats 8000000 in
set_option maxRecDepth 100000 in
theorem spec_BucketOf.calls (k : Nat) (a0_0 : Int) (A0_1 : Option Addr) (c0_1 : Nat) (l0_1 : List Int) (A0_2 : Option Addr) (c0_2 : Nat) (l0_2 : List (S43)) (a1 : ByteArray) (r1 : Int) (r2 : Bool) (w : World) (hr0_1 : Kd.C (Kd.int .i64) w A0_1 l0_1.length l0_1) (hc0_1 : l0_1.length ≤ c0_1) (hr0_2 : Kd.C k43 w A0_2 l0_2.length l0_2) (hc0_2 : l0_2.length ≤ c0_2) (h : spec_BucketOf.f k a0_0 l0_1 l0_2 a1 = some (r1, r2)) :
  Calls Tryd.prog 11 #[.agg #[.int .i64 a0_0, .slice A0_1 l0_1.length c0_1, .slice A0_2 l0_2.length c0_2], .string a1] w fun e w' => e = .returned (.tuple #[.int .i64 r1, .bool r2]) ∧ Below w.heap.size w w' := by
 have hu30 := Tryd.underlying30
 have HR0_1 := Aside0.mk hr0_1
 have HC0_1 := Aside0.mk hc0_1
 clear hr0_1 hc0_1
 have HR0_2 := Aside0.mk hr0_2
 have HC0_2 := Aside0.mk hc0_2
 clear hr0_2 hc0_2
 have HB := Aside0.mk (Below.refl w.heap.size w)
 have H : ((spec_GoodDir.f k a0_0 l0_1 l0_2).bind fun t261 => (if t261 = true then ((spec_l8Name.f k a1).bind fun t262 => (if t262 = true then ((spec_l8Bucket.f k a0_0 l0_1 l0_2 a1).bind fun t263 => (some (t263, true))) else (some (0, false)))) else (some (0, false)))) = some (r1, r2) := h
 clear h
 replace H := Option.bind_eq_some_iff.mp H
 obtain ⟨t261, A30, H⟩ := H
 replace H : (if t261 = true then ((spec_l8Name.f k a1).bind fun t262 => (if t262 = true then ((spec_l8Bucket.f k a0_0 l0_1 l0_2 a1).bind fun t263 => (some (t263, true))) else (some (0, false)))) else (some (0, false))) = some (r1, r2) := H
 have A3 := Aside0.mk A30
 clear A30
 by_cases c4 : t261 = true
 ·
  subst c4
  rw [if_pos rfl] at H
  replace H := Option.bind_eq_some_iff.mp H
  obtain ⟨t262, A50, H⟩ := H
  replace H : (if t262 = true then ((spec_l8Bucket.f k a0_0 l0_1 l0_2 a1).bind fun t263 => (some (t263, true))) else (some (0, false))) = some (r1, r2) := H
  have A5 := Aside0.mk A50
  clear A50
  by_cases c6 : t262 = true
  ·
   subst c6
   rw [if_pos rfl] at H
   replace H := Option.bind_eq_some_iff.mp H
   obtain ⟨t263, A70, H⟩ := H
   replace H : (some (t263, true)) = some (r1, r2) := H
   have A7 := Aside0.mk A70
   clear A70
   simp only [Option.some.injEq, Prod.mk.injEq] at H
   obtain ⟨rfl, rfl⟩ := H
   go_enter Tryd.func11, Tryd.ntmps11
   go_wp2_with (first | ((with_reducible refine gate_dst (N := 2) rfl ?_); refine box_event ?hg (N := 2) ?hd (cs := #[.int .i64 a0_0, .slice A0_1 l0_1.length c0_1, .slice A0_2 l0_2.length c0_2]) (t := 30) ?hr ?_; (case hd => rfl); (case hg => rfl); (case hr => first | (go_simp; done) | (go_simp; rfl)); intro gb260 hg w8 hbox hb; have BK260 := Aside0.mk (hbox); have GW260 := Aside0.mk ((by rw [hg]; exact (below_size (bs HB)) : w.heap.size ≤ gb260)); have GE260 := Aside0.mk ((by rw [hg]; exact (below_size (bs HB)) : w.heap.size ≤ gb260)); replace HB := Aside0.mk (below_step (bs HB) hb); clear hb hbox hg; obtain ⟨hcz9_0, hcz9_1, hcz9_2⟩ := cz3 BK260; obtain ⟨hfz9_0, hfz9_1, hfz9_2⟩ := fz3 BK260) | ((with_reducible refine gate_callee (f := 7) rfl ?_); refine gL (some 7) rfl rfl Tryd.func7 (by kernel_rfl) rfl #[.agg #[.int .i64 a0_0, .slice A0_1 l0_1.length c0_1, .slice A0_2 l0_2.length c0_2]] rfl ?_; (with_reducible refine (spec_GoodDir.calls k a0_0 _ _ l0_1 _ _ l0_2 true _ ?side1 ?side2 ?side3 ?side4 A3.out).mono ?_); (case side1 => exact cb HR0_1 HB); (case side2 => exact HC0_1.out); (case side3 => exact cb HR0_2 HB); (case side4 => exact HC0_2.out); rintro e w10 ⟨rfl, hb⟩; refine ⟨_, rfl, ?_⟩; replace BK260 := nb BK260 hb; replace HB := Aside0.mk (below_step (bs1 HB GE260) hb); (try clear hb); (try clear hb2); (try clear hk); (try clear hi)) | (go_at_call 19; (with_reducible refine (spec_l8Name.calls k a1 true _ A5.out).mono ?_); rintro e w' ⟨rfl, ⟨nd, rfl⟩⟩; obtain ⟨hcz11_0, hcz11_1, hcz11_2⟩ := cz3 BK260; obtain ⟨hfz11_0, hfz11_1, hfz11_2⟩ := fz3 BK260) | ((with_reducible refine gate_callee (f := 30) rfl ?_); refine gL (some 16) rfl rfl Tryd.func30 (by kernel_rfl) rfl #[.agg #[.int .i64 a0_0, .slice A0_1 l0_1.length c0_1, .slice A0_2 l0_2.length c0_2], .string a1] rfl ?_; (with_reducible refine (spec_l8Bucket.calls k a0_0 _ _ l0_1 _ _ l0_2 a1 t263 _ ?side1 ?side2 ?side3 ?side4 A7.out).mono ?_); (case side1 => repeat (first | exact (Kd.C_below HR0_1.out (bs1 HB GE260)) | (with_reducible refine Kd.C_alloc ?_ _) | (with_reducible refine Kd.C_drewN ?_ _) | (with_reducible refine Kd.C_drew ?_))); (case side2 => exact HC0_1.out); (case side3 => repeat (first | exact (Kd.C_below HR0_2.out (bs1 HB GE260)) | (with_reducible refine Kd.C_alloc ?_ _) | (with_reducible refine Kd.C_drewN ?_ _) | (with_reducible refine Kd.C_drew ?_))); (case side4 => exact HC0_2.out); rintro e w12 ⟨rfl, hb⟩; refine ⟨_, rfl, ?_⟩; replace BK260 := nb BK260 hb; replace HB := Aside0.mk (below_step (bs1 HB GE260) hb); (try clear hb); (try clear hb2); (try clear hk); (try clear hi)))
   go_ret2
   exact ⟨by first | rfl | (simp [errW_none, errW_some] <;> rfl) | (simp [*, errW_none, errW_some] <;> rfl), bs1 HB GE260⟩
  ·
   replace c6 := Bool.eq_false_iff.mpr c6
   subst c6
   rw [if_neg (show ¬ (false = true) by decide)] at H
   simp only [Option.some.injEq, Prod.mk.injEq] at H
   obtain ⟨rfl, rfl⟩ := H
   go_enter Tryd.func11, Tryd.ntmps11
   go_wp2_with (first | ((with_reducible refine gate_dst (N := 2) rfl ?_); refine box_event ?hg (N := 2) ?hd (cs := #[.int .i64 a0_0, .slice A0_1 l0_1.length c0_1, .slice A0_2 l0_2.length c0_2]) (t := 30) ?hr ?_; (case hd => rfl); (case hg => rfl); (case hr => first | (go_simp; done) | (go_simp; rfl)); intro gb260 hg w13 hbox hb; have BK260 := Aside0.mk (hbox); have GW260 := Aside0.mk ((by rw [hg]; exact (below_size (bs HB)) : w.heap.size ≤ gb260)); have GE260 := Aside0.mk ((by rw [hg]; exact (below_size (bs HB)) : w.heap.size ≤ gb260)); replace HB := Aside0.mk (below_step (bs HB) hb); clear hb hbox hg; obtain ⟨hcz14_0, hcz14_1, hcz14_2⟩ := cz3 BK260; obtain ⟨hfz14_0, hfz14_1, hfz14_2⟩ := fz3 BK260) | ((with_reducible refine gate_callee (f := 7) rfl ?_); refine gL (some 7) rfl rfl Tryd.func7 (by kernel_rfl) rfl #[.agg #[.int .i64 a0_0, .slice A0_1 l0_1.length c0_1, .slice A0_2 l0_2.length c0_2]] rfl ?_; (with_reducible refine (spec_GoodDir.calls k a0_0 _ _ l0_1 _ _ l0_2 true _ ?side1 ?side2 ?side3 ?side4 A3.out).mono ?_); (case side1 => exact cb HR0_1 HB); (case side2 => exact HC0_1.out); (case side3 => exact cb HR0_2 HB); (case side4 => exact HC0_2.out); rintro e w15 ⟨rfl, hb⟩; refine ⟨_, rfl, ?_⟩; replace BK260 := nb BK260 hb; replace HB := Aside0.mk (below_step (bs1 HB GE260) hb); (try clear hb); (try clear hb2); (try clear hk); (try clear hi)) | (go_at_call 19; (with_reducible refine (spec_l8Name.calls k a1 false _ A5.out).mono ?_); rintro e w' ⟨rfl, ⟨nd, rfl⟩⟩))
   go_ret2
   exact ⟨by first | rfl | (simp [errW_none, errW_some] <;> rfl) | (simp [*, errW_none, errW_some] <;> rfl), bs1 HB GE260⟩
 ·
  replace c4 := Bool.eq_false_iff.mpr c4
  subst c4
  rw [if_neg (show ¬ (false = true) by decide)] at H
  simp only [Option.some.injEq, Prod.mk.injEq] at H
  obtain ⟨rfl, rfl⟩ := H
  go_enter Tryd.func11, Tryd.ntmps11
  go_wp2_with (first | ((with_reducible refine gate_dst (N := 2) rfl ?_); refine box_event ?hg (N := 2) ?hd (cs := #[.int .i64 a0_0, .slice A0_1 l0_1.length c0_1, .slice A0_2 l0_2.length c0_2]) (t := 30) ?hr ?_; (case hd => rfl); (case hg => rfl); (case hr => first | (go_simp; done) | (go_simp; rfl)); intro gb260 hg w16 hbox hb; have BK260 := Aside0.mk (hbox); have GW260 := Aside0.mk ((by rw [hg]; exact (below_size (bs HB)) : w.heap.size ≤ gb260)); have GE260 := Aside0.mk ((by rw [hg]; exact (below_size (bs HB)) : w.heap.size ≤ gb260)); replace HB := Aside0.mk (below_step (bs HB) hb); clear hb hbox hg; obtain ⟨hcz17_0, hcz17_1, hcz17_2⟩ := cz3 BK260; obtain ⟨hfz17_0, hfz17_1, hfz17_2⟩ := fz3 BK260) | ((with_reducible refine gate_callee (f := 7) rfl ?_); refine gL (some 7) rfl rfl Tryd.func7 (by kernel_rfl) rfl #[.agg #[.int .i64 a0_0, .slice A0_1 l0_1.length c0_1, .slice A0_2 l0_2.length c0_2]] rfl ?_; (with_reducible refine (spec_GoodDir.calls k a0_0 _ _ l0_1 _ _ l0_2 false _ ?side1 ?side2 ?side3 ?side4 A3.out).mono ?_); (case side1 => exact cb HR0_1 HB); (case side2 => exact HC0_1.out); (case side3 => exact cb HR0_2 HB); (case side4 => exact HC0_2.out); rintro e w18 ⟨rfl, hb⟩; refine ⟨_, rfl, ?_⟩; replace BK260 := nb BK260 hb; replace HB := Aside0.mk (below_step (bs1 HB GE260) hb); (try clear hb); (try clear hb2); (try clear hk); (try clear hi)))
  go_ret2
  exact ⟨by first | rfl | (simp [errW_none, errW_some] <;> rfl) | (simp [*, errW_none, errW_some] <;> rfl), bs1 HB GE260⟩

/-! ### impl_BucketOf: function 12 -/
def impl_BucketOf.f (k : Nat) (a0_0 : Int) (l0_1 : List Int) (l0_2 : List (S43)) (a1 : ByteArray) : Option (Int × Bool) := (impl_GoodDir.f k a0_0 l0_1 l0_2).bind fun t265 => (if t265 = true then ((impl_isName.f a1).bind fun t266 => (if t266 = true then ((impl_Dir_slotOf.f k a0_0 l0_1 l0_2 a1).bind fun t267 => (if 0 ≤ t267 then (if t267 < (l0_1.length : Int) then (some (rd l0_1 t267, true)) else (none)) else (none))) else (some (0, false)))) else (some (0, false)))
theorem impl_BucketOf.mono : ∀ a0 a1 a2 a3 k, LeO (impl_BucketOf.f k a0 a1 a2 a3) (impl_BucketOf.f (k + 1) a0 a1 a2 a3) := by
 intro a0 a1 a2 a3 k
 unfold impl_BucketOf.f
 repeat' first
   | (with_reducible exact impl_Dir_slotOf.mono _ _ _ _ _)
   | (with_reducible exact impl_GoodDir.mono _ _ _ _)
   | (with_reducible exact LeO.refl _)
   | (with_reducible exact LeO.none _)
   | (with_reducible refine LeO.ite ?_ ?_)
   | (with_reducible refine LeO.bind ?_ (fun _ => ?_))
   | exact impl_Dir_slotOf.mono _ _ _ _ _
   | exact impl_GoodDir.mono _ _ _ _
   | exact LeO.none _
   | refine LeO.ite ?_ ?_
   | refine LeO.bind ?_ (fun _ => ?_)
def impl_BucketOf.T3 : Bool × List (List Nat × List Nat) := (true, [([], []), ([0], [0]), ([], []), ([], []), ([2, 3], [2, 3]), ([1, 4], [1, 4]), ([5], [5]), ([6, 4, 0, 1, 2, 3, 4, 5, 6], [6]), ([7, 0, 1, 2, 3, 4, 5, 6, 7], [])])
def impl_BucketOf.B3 : List Nat := [0, 1, 0, 0, 12, 31, 63, 127, 255]
theorem impl_BucketOf.tab3 : rtab .any (opsOf Tryd.f12 3) = impl_BucketOf.T3 := by kernel_rfl
theorem impl_BucketOf.bits3 : waitsOk impl_BucketOf.T3.2 impl_BucketOf.B3 = true := by kernel_rfl
set_option maxHeartbeats 8000000 in
set_option maxRecDepth 100000 in
theorem impl_BucketOf.calls (k : Nat) (a0_0 : Int) (A0_1 : Option Addr) (c0_1 : Nat) (l0_1 : List Int) (A0_2 : Option Addr) (c0_2 : Nat) (l0_2 : List (S43)) (a1 : ByteArray) (r1 : Int) (r2 : Bool) (w : World) (hr0_1 : Kd.C (Kd.int .i64) w A0_1 l0_1.length l0_1) (hc0_1 : l0_1.length ≤ c0_1) (hr0_2 : Kd.C k43 w A0_2 l0_2.length l0_2) (hc0_2 : l0_2.length ≤ c0_2) (h : impl_BucketOf.f k a0_0 l0_1 l0_2 a1 = some (r1, r2)) :
  Calls Tryd.prog 12 #[.agg #[.int .i64 a0_0, .slice A0_1 l0_1.length c0_1, .slice A0_2 l0_2.length c0_2], .string a1] w fun e w' => e = .returned (.tuple #[.int .i64 r1, .bool r2]) ∧ Below w.heap.size w w' := by
 have hu30 := Tryd.underlying30
 have HR0_1 := Aside0.mk hr0_1
 have HC0_1 := Aside0.mk hc0_1
 clear hr0_1 hc0_1
 have HR0_2 := Aside0.mk hr0_2
 have HC0_2 := Aside0.mk hc0_2
 clear hr0_2 hc0_2
 have HB := Aside0.mk (Below.refl w.heap.size w)
 have H : ((impl_GoodDir.f k a0_0 l0_1 l0_2).bind fun t265 => (if t265 = true then ((impl_isName.f a1).bind fun t266 => (if t266 = true then ((impl_Dir_slotOf.f k a0_0 l0_1 l0_2 a1).bind fun t267 => (if 0 ≤ t267 then (if t267 < (l0_1.length : Int) then (some (rd l0_1 t267, true)) else (none)) else (none))) else (some (0, false)))) else (some (0, false)))) = some (r1, r2) := h
 clear h
 replace H := Option.bind_eq_some_iff.mp H
 obtain ⟨t265, A30, H⟩ := H
 replace H : (if t265 = true then ((impl_isName.f a1).bind fun t266 => (if t266 = true then ((impl_Dir_slotOf.f k a0_0 l0_1 l0_2 a1).bind fun t267 => (if 0 ≤ t267 then (if t267 < (l0_1.length : Int) then (some (rd l0_1 t267, true)) else (none)) else (none))) else (some (0, false)))) else (some (0, false))) = some (r1, r2) := H
 have A3 := Aside0.mk A30
 clear A30
 by_cases c4 : t265 = true
 ·
  subst c4
  rw [if_pos rfl] at H
  replace H := Option.bind_eq_some_iff.mp H
  obtain ⟨t266, A50, H⟩ := H
  replace H : (if t266 = true then ((impl_Dir_slotOf.f k a0_0 l0_1 l0_2 a1).bind fun t267 => (if 0 ≤ t267 then (if t267 < (l0_1.length : Int) then (some (rd l0_1 t267, true)) else (none)) else (none))) else (some (0, false))) = some (r1, r2) := H
  have A5 := Aside0.mk A50
  clear A50
  by_cases c6 : t266 = true
  ·
   subst c6
   rw [if_pos rfl] at H
   replace H := Option.bind_eq_some_iff.mp H
   obtain ⟨t267, A70, H⟩ := H
   replace H : (if 0 ≤ t267 then (if t267 < (l0_1.length : Int) then (some (rd l0_1 t267, true)) else (none)) else (none)) = some (r1, r2) := H
   have A7 := Aside0.mk A70
   clear A70
   by_cases c8 : 0 ≤ t267
   ·
    rw [if_pos c8] at H
    have c8b0 : decide (0 ≤ t267) = true := decide_eq_true c8
    clear c8
    by_cases c9 : t267 < (l0_1.length : Int)
    ·
     rw [if_pos c9] at H
     have c9b0 : decide (t267 < (l0_1.length : Int)) = true := decide_eq_true c9
     clear c9
     simp only [Option.some.injEq, Prod.mk.injEq] at H
     obtain ⟨rfl, rfl⟩ := H
     go_enter Tryd.func12, Tryd.ntmps12
     try go_wp2_with (first | ((with_reducible refine gate_dst (N := 2) rfl ?_); refine box_event ?hg (N := 2) ?hd (cs := #[.int .i64 a0_0, .slice A0_1 l0_1.length c0_1, .slice A0_2 l0_2.length c0_2]) (t := 30) ?hr ?_; (case hd => rfl); (case hg => rfl); (case hr => first | (go_simp; done) | (go_simp; rfl)); intro gb264 hg w10 hbox hb; have BK264 := Aside0.mk (hbox); have GW264 := Aside0.mk ((by rw [hg]; exact (below_size (bs HB)) : w.heap.size ≤ gb264)); have GE264 := Aside0.mk ((by rw [hg]; exact (below_size (bs HB)) : w.heap.size ≤ gb264)); replace HB := Aside0.mk (below_step (bs HB) hb); clear hb hbox hg; obtain ⟨hcz11_0, hcz11_1, hcz11_2⟩ := cz3 BK264; obtain ⟨hfz11_0, hfz11_1, hfz11_2⟩ := fz3 BK264) | ((with_reducible refine gate_callee (f := 9) rfl ?_); refine gL (some 7) rfl rfl Tryd.func9 (by kernel_rfl) rfl #[.agg #[.int .i64 a0_0, .slice A0_1 l0_1.length c0_1, .slice A0_2 l0_2.length c0_2]] rfl ?_; (with_reducible refine (impl_GoodDir.calls k a0_0 _ _ l0_1 _ _ l0_2 true _ ?side1 ?side2 ?side3 ?side4 A3.out).mono ?_); (case side1 => exact cb HR0_1 HB); (case side2 => exact HC0_1.out); (case side3 => exact cb HR0_2 HB); (case side4 => exact HC0_2.out); rintro e w12 ⟨rfl, hb⟩; refine ⟨_, rfl, ?_⟩; replace BK264 := nb BK264 hb; replace HB := Aside0.mk (below_step (bs1 HB GE264) hb); (try clear hb); (try clear hb2); (try clear hk); (try clear hi)) | (go_at_call 31; (with_reducible refine (impl_isName.calls a1 true _ A5.out).mono ?_); rintro e w13 ⟨rfl, hb⟩; replace BK264 := nb BK264 hb; replace HB := Aside0.mk (below_step (bs1 HB GE264) hb); (try clear hb); (try clear hb2); (try clear hk); (try clear hi)))
     have n0_ := Aside0.mk (blk_drew BK264.out)
     have n1_ := Aside0.mk (below_drew1 HB.out)
     clear BK264
     clear HB
     have BK264 := n0_
     have HB := n1_
     clear n0_ n1_
     have p268 : 0 ≤ (t267 : Int) := of_decide_eq_true (by first | (with_reducible assumption) | assumption)
     have q268 : t267 < (l0_1.length : Int) := of_decide_eq_true (by first | (with_reducible assumption) | assumption)
     obtain ⟨ad268, e268, hx268_0⟩ := Kd.at_int HR0_1.out t267 p268 q268
     have hw268_0 := hx268_0
     cases e268
     replace hx268_0 := (HB.out.cell (World.block_lt_of_cell? w _ hx268_0)).trans hx268_0
     replace p268 := eq_true p268
     replace q268 := eq_true q268
     refine start_ (n := 9) (S := fun w' => w'.cell? ⟨gb264, 0, none⟩ = some (.int .i64 a0_0) ∧ w'.cell? ⟨gb264, 1, none⟩ = some (.slice (some ad268) l0_1.length c0_1) ∧ w'.cell? ⟨gb264, 2, none⟩ = some (.slice A0_2 l0_2.length c0_2) ∧ w'.cell? (ad268.add (t267).toNat) = some (.int .i64 (rd l0_1 t267))) (ds := []) #[false, false, false, false, false, false, false, false, false] (by kernel_rfl) rfl rfl ⟨(blk_cell BK264.out 0).trans rfl, (blk_cell BK264.out 1).trans rfl, (blk_cell BK264.out 2).trans rfl, ((HB.out.cell (World.block_lt_of_cell? w _ hw268_0)).trans hw268_0)⟩ (fun hHeld => ?_); refine with_tabW impl_BucketOf.tab3 impl_BucketOf.bits3 (fun HT_ HW_ => ?_)
     generalize w13.drew = w14 at BK264 HB hx268_0 hHeld ⊢
     refine pureS 0 14 HT_.out ?_
     refine pureS 3 17 HT_.out ?_
     refine takeS 1 15 HT_.out HW_.out hHeld (hr := by rintro w' ⟨s0, s1, s2, s3⟩; go_simp; with_reducible rfl) (h := ?_)
     refine takeS 2 16 HT_.out HW_.out hHeld (hr := by rintro w' ⟨s0, s1, s2, s3⟩; go_simp; with_reducible rfl) (h := ?_)
     refine one_ (i := 4) (N := some 18) #[true, true, true, true, true, false, false, false, false] rfl rfl (one_of HT_.out (by kernel_rfl)) (by decide) (fun K hK => ?_)
     refine goes_ Tryd.func27 (by kernel_rfl) rfl #[.agg #[.int .i64 a0_0, .slice (some ad268) l0_1.length c0_1, .slice A0_2 l0_2.length c0_2], .string a1] (by rfl) rfl rfl (by (try simp only [List.map_toArray, List.map_cons, List.map_nil]); first | done | rfl | (simp only [List.length_drop, List.length_take]; rfl)) ?_
     with_reducible refine (impl_Dir_slotOf.calls k a0_0 _ _ l0_1 _ _ l0_2 a1 t267 _ ?side1 ?side2 ?side3 ?side4 A7.out).mono ?_
     (case side1 => exact cb HR0_1 HB)
     (case side2 => exact HC0_1.out)
     (case side3 => exact cb HR0_2 HB)
     (case side4 => exact HC0_2.out)
     rintro e w15 ⟨rfl, hb⟩
     refine ⟨_, rfl, ?_⟩
     have n0_ := Aside0.mk (bb BK264 hb)
     have n1_ := Aside0.mk (below_step (bs1 HB GE264) hb)
     clear BK264
     clear HB
     have BK264 := n0_
     have HB := n1_
     clear n0_ n1_
     (try clear hb)
     (try clear hb2)
     (try clear hk)
     (try clear hi)
     refine hK.out _ _ ⟨(blk_cell BK264.out 0).trans rfl, (blk_cell BK264.out 1).trans rfl, (blk_cell BK264.out 2).trans rfl, ((HB.out.cell (World.block_lt_of_cell? w _ hw268_0)).trans hw268_0)⟩ (fun hHeld => ?_)
     clear hK K
     refine norm_ (a' := ?_) ?_ ?_
     rotate_left
     ·
      show Act.put _ (some 18) _ = _
      simp only [Act.put, List.setIfInBounds_toArray, List.set_cons_zero, List.set_cons_succ, i64_w, i32_w]
      rfl
     refine pureS 5 19 HT_.out ?_
     refine takeS 6 20 HT_.out HW_.out hHeld (hr := by rintro w' ⟨s0, s1, s2, s3⟩; go_simp; with_reducible rfl) (h := ?_)
     refine pureS 7 4 HT_.out ?_
     refine pureS 8 5 HT_.out ?_
     refine done_ (done_of HT_.out (by kernel_rfl)) ?_
     try go_wp2
     go_ret2
     exact ⟨by first | rfl | (simp [errW_none, errW_some] <;> rfl) | (simp [*, errW_none, errW_some] <;> rfl), bs1 HB GE264⟩
    ·
     rw [if_neg c9] at H
     exact absurd H (by simp)
   ·
    rw [if_neg c8] at H
    exact absurd H (by simp)
  ·
   replace c6 := Bool.eq_false_iff.mpr c6
   subst c6
   rw [if_neg (show ¬ (false = true) by decide)] at H
   simp only [Option.some.injEq, Prod.mk.injEq] at H
   obtain ⟨rfl, rfl⟩ := H
   go_enter Tryd.func12, Tryd.ntmps12
   go_wp2_with (first | ((with_reducible refine gate_dst (N := 2) rfl ?_); refine box_event ?hg (N := 2) ?hd (cs := #[.int .i64 a0_0, .slice A0_1 l0_1.length c0_1, .slice A0_2 l0_2.length c0_2]) (t := 30) ?hr ?_; (case hd => rfl); (case hg => rfl); (case hr => first | (go_simp; done) | (go_simp; rfl)); intro gb264 hg w16 hbox hb; have BK264 := Aside0.mk (hbox); have GW264 := Aside0.mk ((by rw [hg]; exact (below_size (bs HB)) : w.heap.size ≤ gb264)); have GE264 := Aside0.mk ((by rw [hg]; exact (below_size (bs HB)) : w.heap.size ≤ gb264)); replace HB := Aside0.mk (below_step (bs HB) hb); clear hb hbox hg; obtain ⟨hcz17_0, hcz17_1, hcz17_2⟩ := cz3 BK264; obtain ⟨hfz17_0, hfz17_1, hfz17_2⟩ := fz3 BK264) | ((with_reducible refine gate_callee (f := 9) rfl ?_); refine gL (some 7) rfl rfl Tryd.func9 (by kernel_rfl) rfl #[.agg #[.int .i64 a0_0, .slice A0_1 l0_1.length c0_1, .slice A0_2 l0_2.length c0_2]] rfl ?_; (with_reducible refine (impl_GoodDir.calls k a0_0 _ _ l0_1 _ _ l0_2 true _ ?side1 ?side2 ?side3 ?side4 A3.out).mono ?_); (case side1 => exact cb HR0_1 HB); (case side2 => exact HC0_1.out); (case side3 => exact cb HR0_2 HB); (case side4 => exact HC0_2.out); rintro e w18 ⟨rfl, hb⟩; refine ⟨_, rfl, ?_⟩; replace BK264 := nb BK264 hb; replace HB := Aside0.mk (below_step (bs1 HB GE264) hb); (try clear hb); (try clear hb2); (try clear hk); (try clear hi)) | (go_at_call 31; (with_reducible refine (impl_isName.calls a1 false _ A5.out).mono ?_); rintro e w19 ⟨rfl, hb⟩; replace BK264 := nb BK264 hb; replace HB := Aside0.mk (below_step (bs1 HB GE264) hb); (try clear hb); (try clear hb2); (try clear hk); (try clear hi)))
   go_ret2
   exact ⟨by first | rfl | (simp [errW_none, errW_some] <;> rfl) | (simp [*, errW_none, errW_some] <;> rfl), bs1 HB GE264⟩
 ·
  replace c4 := Bool.eq_false_iff.mpr c4
  subst c4
  rw [if_neg (show ¬ (false = true) by decide)] at H
  simp only [Option.some.injEq, Prod.mk.injEq] at H
  obtain ⟨rfl, rfl⟩ := H
  go_enter Tryd.func12, Tryd.ntmps12
  go_wp2_with (first | ((with_reducible refine gate_dst (N := 2) rfl ?_); refine box_event ?hg (N := 2) ?hd (cs := #[.int .i64 a0_0, .slice A0_1 l0_1.length c0_1, .slice A0_2 l0_2.length c0_2]) (t := 30) ?hr ?_; (case hd => rfl); (case hg => rfl); (case hr => first | (go_simp; done) | (go_simp; rfl)); intro gb264 hg w20 hbox hb; have BK264 := Aside0.mk (hbox); have GW264 := Aside0.mk ((by rw [hg]; exact (below_size (bs HB)) : w.heap.size ≤ gb264)); have GE264 := Aside0.mk ((by rw [hg]; exact (below_size (bs HB)) : w.heap.size ≤ gb264)); replace HB := Aside0.mk (below_step (bs HB) hb); clear hb hbox hg; obtain ⟨hcz21_0, hcz21_1, hcz21_2⟩ := cz3 BK264; obtain ⟨hfz21_0, hfz21_1, hfz21_2⟩ := fz3 BK264) | ((with_reducible refine gate_callee (f := 9) rfl ?_); refine gL (some 7) rfl rfl Tryd.func9 (by kernel_rfl) rfl #[.agg #[.int .i64 a0_0, .slice A0_1 l0_1.length c0_1, .slice A0_2 l0_2.length c0_2]] rfl ?_; (with_reducible refine (impl_GoodDir.calls k a0_0 _ _ l0_1 _ _ l0_2 false _ ?side1 ?side2 ?side3 ?side4 A3.out).mono ?_); (case side1 => exact cb HR0_1 HB); (case side2 => exact HC0_1.out); (case side3 => exact cb HR0_2 HB); (case side4 => exact HC0_2.out); rintro e w22 ⟨rfl, hb⟩; refine ⟨_, rfl, ?_⟩; replace BK264 := nb BK264 hb; replace HB := Aside0.mk (below_step (bs1 HB GE264) hb); (try clear hb); (try clear hb2); (try clear hk); (try clear hi)))
  go_ret2
  exact ⟨by first | rfl | (simp [errW_none, errW_some] <;> rfl) | (simp [*, errW_none, errW_some] <;> rfl), bs1 HB GE264⟩

/-! ### laws_FnExactBucketOf: function 4 -/
def laws_FnExactBucketOf.j0 : Nat → Bool → Int → List Int → List (S62) → Int → List Int → List (S43) → Option (Bool)
 | 0, _, _, _, _, _, _, _ => none
 | k + 1, x41, x270000, x270001, x270002, x288000, x288001, x288002 => if x41 = true then (some false) else ((laws_toDir.f k x270000 x270001 x270002).bind fun bt290 => ((laws_eqDir.f k x288000 x288001 x288002 bt290.1 bt290.2.1 bt290.2.2).bind fun t297 => (if t297 = true then (some true) else (some false))))
def laws_FnExactBucketOf.f (k : Nat) (a0_0 : Int) (l0_1 : List Int) (l0_2 : List (S62)) (a1 : ByteArray) : Option (Bool) := if (a1.size : Int) > 1048576 then (some true) else ((laws_szDir.f k a0_0 l0_1 l0_2 1048576).bind fun t270 => (if t270 < 0 then (some true) else ((laws_toDir.f k a0_0 l0_1 l0_2).bind fun bt271 => ((spec_BucketOf.f k bt271.1 bt271.2.1 bt271.2.2 a1).bind fun bt278 => ((laws_toDir.f k a0_0 l0_1 l0_2).bind fun bt280 => ((impl_BucketOf.f k bt280.1 bt280.2.1 bt280.2.2 a1).bind fun bt288 => (if bt288.1 = bt278.1 then (laws_FnExactBucketOf.j0 k (bt288.2 != bt278.2) a0_0 l0_1 l0_2 bt280.1 bt280.2.1 bt280.2.2) else (laws_FnExactBucketOf.j0 k true a0_0 l0_1 l0_2 bt280.1 bt280.2.1 bt280.2.2))))))))
theorem laws_FnExactBucketOf.mono_l : ∀ k, (∀ y0 y1 y2 y3 y4 y5 y6, LeO (laws_FnExactBucketOf.j0 k y0 y1 y2 y3 y4 y5 y6) (laws_FnExactBucketOf.j0 (k + 1) y0 y1 y2 y3 y4 y5 y6))
 | 0 => fun _ _ _ _ _ _ _ r h => by simp [laws_FnExactBucketOf.j0] at h
 | k + 1 => by
  have ih0 := laws_FnExactBucketOf.mono_l k
  ·
   intro y0 y1 y2 y3 y4 y5 y6
   unfold laws_FnExactBucketOf.j0
   repeat' first
   | (with_reducible exact ih0 _ _ _ _ _ _ _)
   | (with_reducible exact impl_BucketOf.mono _ _ _ _ _)
   | (with_reducible exact laws_eqDir.mono _ _ _ _ _ _ _)
   | (with_reducible exact laws_szDir.mono _ _ _ _ _)
   | (with_reducible exact laws_toDir.mono _ _ _ _)
   | (with_reducible exact spec_BucketOf.mono _ _ _ _ _)
   | (with_reducible exact LeO.refl _)
   | (with_reducible exact LeO.none _)
   | (with_reducible refine LeO.ite ?_ ?_)
   | (with_reducible refine LeO.bind ?_ (fun _ => ?_))
   | exact ih0 _ _ _ _ _ _ _
   | exact impl_BucketOf.mono _ _ _ _ _
   | exact laws_eqDir.mono _ _ _ _ _ _ _
   | exact laws_szDir.mono _ _ _ _ _
   | exact laws_toDir.mono _ _ _ _
   | exact spec_BucketOf.mono _ _ _ _ _
   | exact LeO.none _
   | refine LeO.ite ?_ ?_
   | refine LeO.bind ?_ (fun _ => ?_)
theorem laws_FnExactBucketOf.mono : ∀ a0 a1 a2 a3 k, LeO (laws_FnExactBucketOf.f k a0 a1 a2 a3) (laws_FnExactBucketOf.f (k + 1) a0 a1 a2 a3) := by
 intro a0 a1 a2 a3 k
 have ih0 := laws_FnExactBucketOf.mono_l k
 unfold laws_FnExactBucketOf.f
 repeat' first
   | (with_reducible exact ih0 _ _ _ _ _ _ _)
   | (with_reducible exact impl_BucketOf.mono _ _ _ _ _)
   | (with_reducible exact laws_eqDir.mono _ _ _ _ _ _ _)
   | (with_reducible exact laws_szDir.mono _ _ _ _ _)
   | (with_reducible exact laws_toDir.mono _ _ _ _)
   | (with_reducible exact spec_BucketOf.mono _ _ _ _ _)
   | (with_reducible exact LeO.refl _)
   | (with_reducible exact LeO.none _)
   | (with_reducible refine LeO.ite ?_ ?_)
   | (with_reducible refine LeO.bind ?_ (fun _ => ?_))
   | exact ih0 _ _ _ _ _ _ _
   | exact impl_BucketOf.mono _ _ _ _ _
   | exact laws_eqDir.mono _ _ _ _ _ _ _
   | exact laws_szDir.mono _ _ _ _ _
   | exact laws_toDir.mono _ _ _ _
   | exact spec_BucketOf.mono _ _ _ _ _
   | exact LeO.none _
   | refine LeO.ite ?_ ?_
   | refine LeO.bind ?_ (fun _ => ?_)
set_option maxHeartbeats 8000000 in
set_option maxRecDepth 100000 in
theorem laws_FnExactBucketOf.calls (k : Nat) (a0_0 : Int) (A0_1 : Option Addr) (c0_1 : Nat) (l0_1 : List Int) (A0_2 : Option Addr) (c0_2 : Nat) (l0_2 : List (S62)) (a1 : ByteArray) (r : Bool) (w : World) (hr0_1 : Kd.C (Kd.int .i64) w A0_1 l0_1.length l0_1) (hc0_1 : l0_1.length ≤ c0_1) (hr0_2 : Kd.C k62 w A0_2 l0_2.length l0_2) (hc0_2 : l0_2.length ≤ c0_2) (h : laws_FnExactBucketOf.f k a0_0 l0_1 l0_2 a1 = some r) :
  Calls Tryd.prog 4 #[.agg #[.int .i64 a0_0, .slice A0_1 l0_1.length c0_1, .slice A0_2 l0_2.length c0_2], .string a1] w fun e w' => e = .returned (.bool r) ∧ Below w.heap.size w w' := by
 have hu25 := Tryd.underlying25
 have hu30 := Tryd.underlying30
 have HR0_1 := Aside0.mk hr0_1
 have HC0_1 := Aside0.mk hc0_1
 clear hr0_1 hc0_1
 have HR0_2 := Aside0.mk hr0_2
 have HC0_2 := Aside0.mk hc0_2
 clear hr0_2 hc0_2
 have HB := Aside0.mk (Below.refl w.heap.size w)
 have H : (if (a1.size : Int) > 1048576 then (some true) else ((laws_szDir.f k a0_0 l0_1 l0_2 1048576).bind fun t270 => (if t270 < 0 then (some true) else ((laws_toDir.f k a0_0 l0_1 l0_2).bind fun bt271 => ((spec_BucketOf.f k bt271.1 bt271.2.1 bt271.2.2 a1).bind fun bt278 => ((laws_toDir.f k a0_0 l0_1 l0_2).bind fun bt280 => ((impl_BucketOf.f k bt280.1 bt280.2.1 bt280.2.2 a1).bind fun bt288 => (if bt288.1 = bt278.1 then (laws_FnExactBucketOf.j0 k (bt288.2 != bt278.2) a0_0 l0_1 l0_2 bt280.1 bt280.2.1 bt280.2.2) else (laws_FnExactBucketOf.j0 k true a0_0 l0_1 l0_2 bt280.1 bt280.2.1 bt280.2.2))))))))) = some r := h
 clear h
 by_cases c3 : (a1.size : Int) > 1048576
 ·
  rw [if_pos c3] at H
  have c3b0 : decide (1048576 < (a1.size : Int)) = true := decide_eq_true c3
  have c3b1 : decide (1048576 < a1.size) = true := decide_eq_true (by omega)
  clear c3
  obtain rfl := Option.some.inj H
  go_enter Tryd.func4, Tryd.ntmps4
  go_wp2_with (first | ((with_reducible refine gate_dst (N := 2) rfl ?_); refine box_event ?hg (N := 2) ?hd (cs := #[.int .i64 a0_0, .slice A0_1 l0_1.length c0_1, .slice A0_2 l0_2.length c0_2]) (t := 25) ?hr ?_; (case hd => rfl); (case hg => rfl); (case hr => first | (go_simp; done) | (go_simp; rfl)); intro gb269 hg w4 hbox hb; have BK269 := Aside0.mk (hbox); have GW269 := Aside0.mk ((by rw [hg]; exact (below_size (bs HB)) : w.heap.size ≤ gb269)); have GE269 := Aside0.mk ((by rw [hg]; exact (below_size (bs HB)) : w.heap.size ≤ gb269)); replace HB := Aside0.mk (below_step (bs HB) hb); clear hb hbox hg))
  go_ret
  exact ⟨by first | rfl | (simp [errW_none, errW_some] <;> rfl) | (simp [*, errW_none, errW_some] <;> rfl), bs1 HB GE269⟩
 ·
  rw [if_neg c3] at H
  have c3b0 : decide (1048576 < (a1.size : Int)) = false := decide_eq_false c3
  have c3b1 : decide (1048576 < a1.size) = false := decide_eq_false (by omega)
  clear c3
  replace H := Option.bind_eq_some_iff.mp H
  obtain ⟨t270, A50, H⟩ := H
  replace H : (if t270 < 0 then (some true) else ((laws_toDir.f k a0_0 l0_1 l0_2).bind fun bt271 => ((spec_BucketOf.f k bt271.1 bt271.2.1 bt271.2.2 a1).bind fun bt278 => ((laws_toDir.f k a0_0 l0_1 l0_2).bind fun bt280 => ((impl_BucketOf.f k bt280.1 bt280.2.1 bt280.2.2 a1).bind fun bt288 => (if bt288.1 = bt278.1 then (laws_FnExactBucketOf.j0 k (bt288.2 != bt278.2) a0_0 l0_1 l0_2 bt280.1 bt280.2.1 bt280.2.2) else (laws_FnExactBucketOf.j0 k true a0_0 l0_1 l0_2 bt280.1 bt280.2.1 bt280.2.2))))))) = some r := H
  have A5 := Aside0.mk A50
  clear A50
  by_cases c6 : t270 < 0
  ·
   rw [if_pos c6] at H
   have c6b0 : decide (t270 < 0) = true := decide_eq_true c6
   clear c6
   obtain rfl := Option.some.inj H
   go_enter Tryd.func4, Tryd.ntmps4
   go_wp2_with (first | ((with_reducible refine gate_dst (N := 2) rfl ?_); refine box_event ?hg (N := 2) ?hd (cs := #[.int .i64 a0_0, .slice A0_1 l0_1.length c0_1, .slice A0_2 l0_2.length c0_2]) (t := 25) ?hr ?_; (case hd => rfl); (case hg => rfl); (case hr => first | (go_simp; done) | (go_simp; rfl)); intro gb269 hg w7 hbox hb; have BK269 := Aside0.mk (hbox); have GW269 := Aside0.mk ((by rw [hg]; exact (below_size (bs HB)) : w.heap.size ≤ gb269)); have GE269 := Aside0.mk ((by rw [hg]; exact (below_size (bs HB)) : w.heap.size ≤ gb269)); replace HB := Aside0.mk (below_step (bs HB) hb); clear hb hbox hg; obtain ⟨hcz8_0, hcz8_1, hcz8_2⟩ := cz3 BK269; obtain ⟨hfz8_0, hfz8_1, hfz8_2⟩ := fz3 BK269) | ((with_reducible refine gate_callee (f := 6) rfl ?_); refine gL (some 16) rfl rfl Tryd.func6 (by kernel_rfl) rfl #[.agg #[.int .i64 a0_0, .slice A0_1 l0_1.length c0_1, .slice A0_2 l0_2.length c0_2], .int .i64 1048576] rfl ?_; (with_reducible refine (laws_szDir.calls k a0_0 _ _ l0_1 _ _ l0_2 1048576 t270 _ ?side1 ?side2 ?side3 ?side4 A5.out).mono ?_); (case side1 => exact cb HR0_1 HB); (case side2 => exact HC0_1.out); (case side3 => exact cb HR0_2 HB); (case side4 => exact HC0_2.out); rintro e w9 ⟨rfl, hb⟩; refine ⟨_, rfl, ?_⟩; replace BK269 := nb BK269 hb; replace HB := Aside0.mk (below_step (bs1 HB GE269) hb); (try clear hb); (try clear hb2); (try clear hk); (try clear hi)))
   go_ret
   exact ⟨by first | rfl | (simp [errW_none, errW_some] <;> rfl) | (simp [*, errW_none, errW_some] <;> rfl), bs1 HB GE269⟩
  ·
   rw [if_neg c6] at H
   have c6b0 : decide (t270 < 0) = false := decide_eq_false c6
   clear c6
   replace H := Option.bind_eq_some_iff.mp H
   obtain ⟨⟨t271, t272, t275⟩, A100, H⟩ := H
   replace H : ((spec_BucketOf.f k t271 t272 t275 a1).bind fun bt278 => ((laws_toDir.f k a0_0 l0_1 l0_2).bind fun bt280 => ((impl_BucketOf.f k bt280.1 bt280.2.1 bt280.2.2 a1).bind fun bt288 => (if bt288.1 = bt278.1 then (laws_FnExactBucketOf.j0 k (bt288.2 != bt278.2) a0_0 l0_1 l0_2 bt280.1 bt280.2.1 bt280.2.2) else (laws_FnExactBucketOf.j0 k true a0_0 l0_1 l0_2 bt280.1 bt280.2.1 bt280.2.2))))) = some r := H
   have A10 := Aside0.mk A100
   clear A100
   replace H := Option.bind_eq_some_iff.mp H
   obtain ⟨⟨t278, t279⟩, A110, H⟩ := H
   replace H : ((laws_toDir.f k a0_0 l0_1 l0_2).bind fun bt280 => ((impl_BucketOf.f k bt280.1 bt280.2.1 bt280.2.2 a1).bind fun bt288 => (if bt288.1 = t278 then (laws_FnExactBucketOf.j0 k (bt288.2 != t279) a0_0 l0_1 l0_2 bt280.1 bt280.2.1 bt280.2.2) else (laws_FnExactBucketOf.j0 k true a0_0 l0_1 l0_2 bt280.1 bt280.2.1 bt280.2.2)))) = some r := H
   have A11 := Aside0.mk A110
   clear A110
   replace H := Option.bind_eq_some_iff.mp H
   obtain ⟨⟨t280, t281, t284⟩, A120, H⟩ := H
   replace H : ((impl_BucketOf.f k t280 t281 t284 a1).bind fun bt288 => (if bt288.1 = t278 then (laws_FnExactBucketOf.j0 k (bt288.2 != t279) a0_0 l0_1 l0_2 t280 t281 t284) else (laws_FnExactBucketOf.j0 k true a0_0 l0_1 l0_2 t280 t281 t284))) = some r := H
   have A12 := Aside0.mk A120
   clear A120
   replace H := Option.bind_eq_some_iff.mp H
   obtain ⟨⟨t288, t289⟩, A130, H⟩ := H
   replace H : (if t288 = t278 then (laws_FnExactBucketOf.j0 k (t289 != t279) a0_0 l0_1 l0_2 t280 t281 t284) else (laws_FnExactBucketOf.j0 k true a0_0 l0_1 l0_2 t280 t281 t284)) = some r := H
   have A13 := Aside0.mk A130
   clear A130
   have HC14 := Aside0.mk H
   clear H
   go_enter Tryd.func4, Tryd.ntmps4
   go_upto_region 10 with (first | ((with_reducible refine gate_dst (N := 2) rfl ?_); refine box_event ?hg (N := 2) ?hd (cs := #[.int .i64 a0_0, .slice A0_1 l0_1.length c0_1, .slice A0_2 l0_2.length c0_2]) (t := 25) ?hr ?_; (case hd => rfl); (case hg => rfl); (case hr => first | (go_simp; done) | (go_simp; rfl)); intro gb269 hg w15 hbox hb; have BK269 := Aside0.mk (hbox); have GW269 := Aside0.mk ((by rw [hg]; exact (below_size (bs HB)) : w.heap.size ≤ gb269)); have GE269 := Aside0.mk ((by rw [hg]; exact (below_size (bs HB)) : w.heap.size ≤ gb269)); replace HB := Aside0.mk (below_step (bs HB) hb); clear hb hbox hg; obtain ⟨hcz16_0, hcz16_1, hcz16_2⟩ := cz3 BK269; obtain ⟨hfz16_0, hfz16_1, hfz16_2⟩ := fz3 BK269) | ((with_reducible refine gate_callee (f := 6) rfl ?_); refine gL (some 16) rfl rfl Tryd.func6 (by kernel_rfl) rfl #[.agg #[.int .i64 a0_0, .slice A0_1 l0_1.length c0_1, .slice A0_2 l0_2.length c0_2], .int .i64 1048576] rfl ?_; (with_reducible refine (laws_szDir.calls k a0_0 _ _ l0_1 _ _ l0_2 1048576 t270 _ ?side1 ?side2 ?side3 ?side4 A5.out).mono ?_); (case side1 => exact cb HR0_1 HB); (case side2 => exact HC0_1.out); (case side3 => exact cb HR0_2 HB); (case side4 => exact HC0_2.out); rintro e w17 ⟨rfl, hb⟩; refine ⟨_, rfl, ?_⟩; replace BK269 := nb BK269 hb; replace HB := Aside0.mk (below_step (bs1 HB GE269) hb); (try clear hb); (try clear hb2); (try clear hk); (try clear hi); obtain ⟨hcz18_0, hcz18_1, hcz18_2⟩ := cz3 BK269; obtain ⟨hfz18_0, hfz18_1, hfz18_2⟩ := fz3 BK269) | ((with_reducible refine gate_callee (f := 8) rfl ?_); refine gL (some 21) rfl rfl Tryd.func8 (by kernel_rfl) rfl #[.agg #[.int .i64 a0_0, .slice A0_1 l0_1.length c0_1, .slice A0_2 l0_2.length c0_2]] rfl ?_; (with_reducible refine (laws_toDir.calls k a0_0 _ _ l0_1 _ _ l0_2 t271 t272 t275 _ ?side1 ?side2 ?side3 ?side4 A10.out).mono ?_); (case side1 => exact cb HR0_1 HB); (case side2 => exact HC0_1.out); (case side3 => exact cb HR0_2 HB); (case side4 => exact HC0_2.out); rintro e w19 ⟨v273, v276, rfl, ho0, ho1, hb⟩; refine ⟨_, rfl, ?_⟩; have HO274 := Aside0.mk (Kd.R_lower ho0 (below_size (bs1 HB GE269))); have HO277 := Aside0.mk (Kd.S_lower ho1 (below_size (bs1 HB GE269))); replace BK269 := nb BK269 hb; replace HB := Aside0.mk (below_step (bs1 HB GE269) hb); (try clear hb); (try clear hb2); (try clear hk); (try clear hi); (try clear ho0); (try clear ho1); obtain ⟨Ao20, co20, eo20⟩ := Kd.R_slice HO274.out; subst eo20; obtain ⟨Ao21, co21, eo21⟩ := Kd.S_slice HO277.out; subst eo21) | ((with_reducible refine gate_callee (f := 11) rfl ?_); refine gL (some 23) rfl rfl Tryd.func11 (by kernel_rfl) rfl #[.agg #[.int .i64 t271, .slice Ao20 t272.length co20, .slice Ao21 t275.length co21], .string a1] rfl ?_; (with_reducible refine (spec_BucketOf.calls k t271 _ _ t272 _ _ t275 a1 t278 t279 _ ?side1 ?side2 ?side3 ?side4 A11.out).mono ?_); (case side1 => exact rc0 HO274); (case side2 => exact (Kd.R_reads' HO274.out).2.1); (case side3 => repeat (first | exact (Kd.S_reads' HO277.out).2.2 | (with_reducible refine Kd.C_alloc ?_ _) | (with_reducible refine Kd.C_drewN ?_ _) | (with_reducible refine Kd.C_drew ?_))); (case side4 => exact (Kd.S_reads' HO277.out).2.1); rintro e w22 ⟨rfl, hb⟩; refine ⟨_, rfl, ?_⟩; replace HO274 := nr HO274 hb; replace HO277 := Aside0.mk (Kd.S_below (by (with_reducible repeat (first | apply Kd.S_alloc | apply Kd.S_drewN | apply Kd.S_drew)); exact HO277.out) hb); replace BK269 := nb BK269 hb; replace HB := Aside0.mk (below_step (bs1 HB GE269) hb); (try clear hb); (try clear hb2); (try clear hk); (try clear hi); obtain ⟨hcz23_0, hcz23_1, hcz23_2⟩ := cz3 BK269; obtain ⟨hfz23_0, hfz23_1, hfz23_2⟩ := fz3 BK269) | ((with_reducible refine gate_callee (f := 8) rfl ?_); refine gL (some 27) rfl rfl Tryd.func8 (by kernel_rfl) rfl #[.agg #[.int .i64 a0_0, .slice A0_1 l0_1.length c0_1, .slice A0_2 l0_2.length c0_2]] rfl ?_; (with_reducible refine (laws_toDir.calls k a0_0 _ _ l0_1 _ _ l0_2 t280 t281 t284 _ ?side1 ?side2 ?side3 ?side4 A12.out).mono ?_); (case side1 => exact cb HR0_1 HB); (case side2 => exact HC0_1.out); (case side3 => exact cb HR0_2 HB); (case side4 => exact HC0_2.out); rintro e w24 ⟨v282, v285, rfl, ho0, ho1, hb⟩; refine ⟨_, rfl, ?_⟩; have HO283 := Aside0.mk (Kd.R_lower (Kd.R_new' ho0 (Kd.R_lt (rr HO274.out))) (below_size (bs1 HB GE269))); replace HO274 := Aside0.mk (Kd.R_elder' (rr HO274.out) (Kd.R_base ho0) hb); have HO286 := Aside0.mk (Kd.S_lower (Kd.S_new' ho1 (Kd.S_lt (by (with_reducible repeat (first | apply Kd.S_alloc | apply Kd.S_drewN | apply Kd.S_drew)); exact HO277.out))) (below_size (bs1 HB GE269))); replace HO277 := Aside0.mk (Kd.S_elder' (by (with_reducible repeat (first | apply Kd.S_alloc | apply Kd.S_drewN | apply Kd.S_drew)); exact HO277.out) (Kd.S_base ho1) hb); replace BK269 := nb BK269 hb; replace HB := Aside0.mk (below_step (bs1 HB GE269) hb); (try clear hb); (try clear hb2); (try clear hk); (try clear hi); (try clear ho0); (try clear ho1)) | ((with_reducible refine gate_dst (N := 8) rfl ?_); refine box_event ?hg (N := 8) ?hd (cs := #[.int .i64 0, .slice none 0 0, .slice none 0 0]) (t := 30) ?hr ?_; (case hd => rfl); (case hg => rfl); (case hr => first | (go_simp; done) | (go_simp; rfl)); intro gb287 hg w25 hbox hb; replace HO274 := nr HO274 hb; replace HO277 := Aside0.mk (Kd.S_below (by (with_reducible repeat (first | apply Kd.S_alloc | apply Kd.S_drewN | apply Kd.S_drew)); exact HO277.out) hb); replace HO283 := nr HO283 hb; replace HO286 := Aside0.mk (Kd.S_below (by (with_reducible repeat (first | apply Kd.S_alloc | apply Kd.S_drewN | apply Kd.S_drew)); exact HO286.out) hb); have BK287 := Aside0.mk (hbox); have GW287 := Aside0.mk ((by rw [hg]; exact (below_size (bs1 HB GE269)) : w.heap.size ≤ gb287)); have GE287 := Aside0.mk ((by rw [hg]; exact (below_size (bs1 HB GE269)) : w.heap.size ≤ gb287)); replace HB := Aside0.mk (below_step (bs1 HB GE269) hb); have NB269_287 := Aside0.mk ((bn BK269 hg : gb269 ≠ gb287)); have NB287_269 := Aside0.mk ((bm BK269 hg : gb287 ≠ gb269)); replace BK269 := nb BK269 hb; clear hb hbox hg; have hnb26 := NB287_269.out; have hnc26 := NB269_287.out; obtain ⟨hcz27_0, hcz27_1, hcz27_2⟩ := cz3 BK287; obtain ⟨hfz27_0, hfz27_1, hfz27_2⟩ := fz3 BK287; obtain ⟨Ao28, co28, eo28⟩ := Kd.R_slice HO283.out; subst eo28; obtain ⟨Ao29, co29, eo29⟩ := Kd.S_slice HO286.out; subst eo29) | ((with_reducible refine gate_callee (f := 12) rfl ?_); refine gL (some 31) rfl rfl Tryd.func12 (by kernel_rfl) rfl #[.agg #[.int .i64 t280, .slice Ao28 t281.length co28, .slice Ao29 t284.length co29], .string a1] rfl ?_; (with_reducible refine (impl_BucketOf.calls k t280 _ _ t281 _ _ t284 a1 t288 t289 _ ?side1 ?side2 ?side3 ?side4 A13.out).mono ?_); (case side1 => exact rc HO283 BK287); (case side2 => exact (Kd.R_reads' HO283.out).2.1); (case side3 => refine (Kd.S_reads' (e := 43) (base := w.heap.size) (ok := fun k_ => (True ∧ some k_ ≠ (.slice Ao21 t275.length co21 : Value).ownBlock)) (n := t284.length) (c := co29) ?_).2.2; exact (by (with_reducible repeat (first | apply Kd.S_alloc | apply Kd.S_drewN | apply Kd.S_drew)); exact (Kd.S_mono (Kd.S_far (p := ⟨gb287, 2, none⟩) (Kd.S_far (p := ⟨gb287, 1, none⟩) (Kd.S_far (p := ⟨gb287, 0, none⟩) (Kd.S_types HO286.out BK287.out (by decide)) (fun _ hk => hk.2) (.int .i64 t280)) (fun _ hk => hk.2) (.slice Ao28 t281.length co28)) (fun _ hk => hk.2) (.slice Ao29 t284.length co29)) (fun _ h_ => h_.1)))); (case side4 => exact (Kd.S_reads' HO286.out).2.1); rintro e w30 ⟨rfl, hb⟩; refine ⟨_, rfl, ?_⟩; replace HO274 := nf HO274 BK287 hb; replace HO277 := Aside0.mk (Kd.S_below (by (with_reducible repeat (first | apply Kd.S_alloc | apply Kd.S_drewN | apply Kd.S_drew)); exact (Kd.S_mono (Kd.S_far (p := ⟨gb287, 2, none⟩) (Kd.S_far (p := ⟨gb287, 1, none⟩) (Kd.S_far (p := ⟨gb287, 0, none⟩) (Kd.S_types HO277.out BK287.out (by decide)) (fun _ hk => hk.2) (.int .i64 t280)) (fun _ hk => hk.2) (.slice Ao28 t281.length co28)) (fun _ hk => hk.2) (.slice Ao29 t284.length co29)) (fun _ h_ => h_.1))) hb); replace HO283 := nf HO283 BK287 hb; replace HO286 := Aside0.mk (Kd.S_below (by (with_reducible repeat (first | apply Kd.S_alloc | apply Kd.S_drewN | apply Kd.S_drew)); exact (Kd.S_mono (Kd.S_far (p := ⟨gb287, 2, none⟩) (Kd.S_far (p := ⟨gb287, 1, none⟩) (Kd.S_far (p := ⟨gb287, 0, none⟩) (Kd.S_types HO286.out BK287.out (by decide)) (fun _ hk => hk.2) (.int .i64 t280)) (fun _ hk => hk.2) (.slice Ao28 t281.length co28)) (fun _ hk => hk.2) (.slice Ao29 t284.length co29)) (fun _ h_ => h_.1))) hb); replace BK269 := Aside0.mk (blk_below (bf BK269 NB269_287) hb); replace BK287 := Aside0.mk (blk_below (g := gb287) (o := .cells #[.int .i64 t280, .slice Ao28 t281.length co28, .slice Ao29 t284.length co29] 30 (0, 0)) (by (with_reducible repeat (first | refine blk_drewN ?_ _ | refine blk_drew ?_ | refine blk_alloc ?_ _)); refine blk_put (cs := #[.int .i64 t280, .slice Ao28 t281.length co28, .slice none 0 0]) ?_ 2 _ rfl; (with_reducible repeat (first | refine blk_drewN ?_ _ | refine blk_drew ?_ | refine blk_alloc ?_ _)); refine blk_put (cs := #[.int .i64 t280, .slice none 0 0, .slice none 0 0]) ?_ 1 _ rfl; (with_reducible repeat (first | refine blk_drewN ?_ _ | refine blk_drew ?_ | refine blk_alloc ?_ _)); refine blk_put (cs := #[.int .i64 0, .slice none 0 0, .slice none 0 0]) ?_ 0 _ rfl; (with_reducible repeat (first | refine blk_drewN ?_ _ | refine blk_drew ?_ | refine blk_alloc ?_ _)); exact BK287.out) hb); replace HB := Aside0.mk (below_step (bs2 HB GE269 GE287) hb); (try clear hb); (try clear hb2); (try clear hk); (try clear hi)))
   (try simp only [Act.put, List.setIfInBounds_toArray, List.set_cons_zero, List.set_cons_succ])
   go_cut [41] (fun v41 wc => ∃ (kq : Nat) (x41_13 : Bool), v41 = .bool x41_13 ∧ Aside0 (laws_FnExactBucketOf.j0 kq x41_13 a0_0 l0_1 l0_2 t280 t281 t284 = some r) ∧ Aside0 (kq ≤ k) ∧ Aside0 (Kd.R (Kd.int .i64) 3 wc w.heap.size (fun _ => True) (.slice Ao28 t281.length co28) t281) ∧ Aside0 (Kd.S k43 43 wc w.heap.size (fun _ => True) (.slice Ao29 t284.length co29) t284) ∧ Aside0 (wc.heap[gb269]? = some (.cells #[.int .i64 a0_0, (.slice A0_1 l0_1.length c0_1), (.slice A0_2 l0_2.length c0_2)] 25 (0, 0))) ∧ Aside0 (wc.heap[gb287]? = some (.cells #[.int .i64 t280, (.slice Ao28 t281.length co28), (.slice Ao29 t284.length co29)] 30 (0, 0))) ∧ Aside0 (Below w.heap.size w wc))
   case first =>
    have H := HC14.out
    clear HC14
    by_cases c31 : t288 = t278
    ·
     rw [if_pos c31] at H
     have c31b0 : (t288 == t278) = true := beq_iff_eq.mpr c31
     have c31b1 : (t288 != t278) = false := bne_eq_false_iff_eq.mpr c31
     clear c31
     (first | rw [c31b0] | (simp only [i64_w, i32_w]; rw [c31b0]) | (simp only [c31b2, Bool.not_false, Bool.not_true]) | skip)
     have H' := Aside0.mk H
     clear H
     go_wp2
     go_meet
     case rel => exact ⟨_, ((t289 != t279)), (by first | rfl | (simp; done) | (simp [*]; done)), H', ⟨by first | omega | exact Nat.le_refl _⟩, rm HO283 (fun _ hk => trivial), ⟨by (with_reducible repeat (first | apply Kd.S_alloc | apply Kd.S_drewN | apply Kd.S_drew)); exact Kd.S_mono HO286.out (fun _ hk => trivial)⟩, ⟨bk BK269⟩, ⟨bk BK287⟩, ⟨bs2 HB GE269 GE287⟩⟩
    ·
     rw [if_neg c31] at H
     have c31b0 : (t288 == t278) = false := beq_eq_false_iff_ne.mpr c31
     have c31b1 : (t288 != t278) = true := bne_iff_ne.mpr c31
     (first | rw [c31b0] | (simp only [i64_w, i32_w]; rw [c31b0]) | (simp only [c31b2, Bool.not_false, Bool.not_true]) | skip)
     have H' := Aside0.mk H
     clear H
     go_wp2
     go_meet
     case rel => exact ⟨_, (true), (by first | rfl | (simp; done) | (simp [*]; done)), H', ⟨by first | omega | exact Nat.le_refl _⟩, rm HO283 (fun _ hk => trivial), ⟨by (with_reducible repeat (first | apply Kd.S_alloc | apply Kd.S_drewN | apply Kd.S_drew)); exact Kd.S_mono HO286.out (fun _ hk => trivial)⟩, ⟨bk BK269⟩, ⟨bk BK287⟩, ⟨bs2 HB GE269 GE287⟩⟩
   case rest =>
    clear HC14
    try clear c1
    try clear c2
    try clear p2
    try clear c3
    try clear c3b0
    try clear c3b1
    try clear c4
    try clear c6
    try clear c6b0
    try clear c8
    try clear c11
    try clear c12
    try clear c26
    try clear c31
    try clear c31b0
    try clear c31b1
    try clear hcz16_0 hcz16_1 hcz16_2
    try clear hcz18_0 hcz18_1 hcz18_2
    try clear hcz23_0 hcz23_1 hcz23_2
    try clear hcz27_0 hcz27_1 hcz27_2
    try clear hcz8_0 hcz8_1 hcz8_2
    try clear hfz16_0 hfz16_1 hfz16_2
    try clear hfz18_0 hfz18_1 hfz18_2
    try clear hfz23_0 hfz23_1 hfz23_2
    try clear hfz27_0 hfz27_1 hfz27_2
    try clear hfz8_0 hfz8_1 hfz8_2
    obtain ⟨kq, x41_13, rfl, HA, HJ13, HO_288001, HO_288002, BK269, BK287, HB⟩ := hcut
    cases kq with
    | zero => exact absurd HA.out (by simp [laws_FnExactBucketOf.j0])
    | succ kj13 =>
     have H := HA.out
     clear HA
     simp only [laws_FnExactBucketOf.j0] at H
     by_cases c32 : x41_13 = true
     ·
      subst c32
      rw [if_pos rfl] at H
      obtain rfl := Option.some.inj H
      go_wp2
      go_ret
      exact ⟨by first | rfl | (simp [errW_none, errW_some] <;> rfl) | (simp [*, errW_none, errW_some] <;> rfl), bs2 HB GE269 GE287⟩
     ·
      replace c32 := Bool.eq_false_iff.mpr c32
      subst c32
      rw [if_neg (show ¬ (false = true) by decide)] at H
      replace H := Option.bind_eq_some_iff.mp H
      obtain ⟨⟨t290, t291, t294⟩, A330, H⟩ := H
      replace H : ((laws_eqDir.f kj13 t280 t281 t284 t290 t291 t294).bind fun t297 => (if t297 = true then (some true) else (some false))) = some r := H
      have A33 := Aside0.mk A330
      clear A330
      replace H := Option.bind_eq_some_iff.mp H
      obtain ⟨t297, A340, H⟩ := H
      replace H : (if t297 = true then (some true) else (some false)) = some r := H
      have A34 := Aside0.mk A340
      clear A340
      by_cases c35 : t297 = true
      ·
       subst c35
       rw [if_pos rfl] at H
       obtain rfl := Option.some.inj H
       try go_wp2
       have n0_ := Aside0.mk (Kd.R_drew HO_288001.out)
       have n1_ := Aside0.mk (Kd.S_drew HO_288002.out)
       have n2_ := Aside0.mk (blk_drew BK269.out)
       have n3_ := Aside0.mk (blk_drew BK287.out)
       have n4_ := Aside0.mk (below_drew1 HB.out)
       clear HO_288001
       clear HO_288002
       clear BK269
       clear BK287
       clear HB
       have HO_288001 := n0_
       have HO_288002 := n1_
       have BK269 := n2_
       have BK287 := n3_
       have HB := n4_
       clear n0_ n1_ n2_ n3_ n4_
       refine start_ (n := 5) (S := fun w' => w'.cell? ⟨gb287, 0, none⟩ = some (.int .i64 t280) ∧ w'.cell? ⟨gb287, 1, none⟩ = some (.slice Ao28 t281.length co28) ∧ w'.cell? ⟨gb287, 2, none⟩ = some (.slice Ao29 t284.length co29) ∧ w'.cell? ⟨gb269, 0, none⟩ = some (.int .i64 a0_0) ∧ w'.cell? ⟨gb269, 1, none⟩ = some (.slice A0_1 l0_1.length c0_1) ∧ w'.cell? ⟨gb269, 2, none⟩ = some (.slice A0_2 l0_2.length c0_2)) (ds := []) #[false, false, false, false, false] (by kernel_rfl) rfl rfl ⟨(blk_cell BK287.out 0).trans rfl, (blk_cell BK287.out 1).trans rfl, (blk_cell BK287.out 2).trans rfl, (blk_cell BK269.out 0).trans rfl, (blk_cell BK269.out 1).trans rfl, (blk_cell BK269.out 2).trans rfl⟩ (fun hHeld => ?_)
       generalize wc.drew = w36 at HO_288001 HO_288002 BK269 BK287 HB hHeld ⊢
       refine take_ (i := 0) (N := some 42) (v := ?_) (a' := ?_) #[true, false, false, false, false] rfl rfl (by kernel_rfl) (fun _ _ _ h => h) (Or.inl ⟨by rfl, ?_⟩) hHeld ?_ ?_
       rotate_left
       ·
        rintro w' ⟨s0, s1, s2, s3, s4, s5⟩
        go_simp
        with_reducible rfl
       rotate_left
       ·
        simp only [Act.put, List.setIfInBounds_toArray, List.set_cons_zero, List.set_cons_succ, i64_w, i32_w]
        rfl
       refine take_ (i := 1) (N := some 43) (v := ?_) (a' := ?_) #[true, true, false, false, false] rfl rfl (by kernel_rfl) (fun _ _ _ h => h) (Or.inl ⟨by rfl, ?_⟩) hHeld ?_ ?_
       rotate_left
       ·
        rintro w' ⟨s0, s1, s2, s3, s4, s5⟩
        go_simp
        with_reducible rfl
       rotate_left
       ·
        simp only [Act.put, List.setIfInBounds_toArray, List.set_cons_zero, List.set_cons_succ, i64_w, i32_w]
        rfl
       refine one_ (i := 2) (N := some 44) #[true, true, true, false, false] rfl rfl (by kernel_rfl) (by decide) (fun K hK => ?_)
       refine goes_ Tryd.func8 (by kernel_rfl) rfl #[.agg #[.int .i64 a0_0, .slice A0_1 l0_1.length c0_1, .slice A0_2 l0_2.length c0_2]] (by rfl) rfl rfl (by (try simp only [List.map_toArray, List.map_cons, List.map_nil]); first | done | rfl | (simp only [List.length_drop, List.length_take]; rfl)) ?_
       with_reducible refine (laws_toDir.calls kj13 a0_0 _ _ l0_1 _ _ l0_2 t290 t291 t294 _ ?side1 ?side2 ?side3 ?side4 A33.out).mono ?_
       (case side1 => exact cb HR0_1 HB)
       (case side2 => exact HC0_1.out)
       (case side3 => exact cb HR0_2 HB)
       (case side4 => exact HC0_2.out)
       rintro e w37 ⟨v292, v295, rfl, ho0, ho1, hb⟩
       refine ⟨_, rfl, ?_⟩
       have n0_ := Aside0.mk (Kd.R_elder' (rr HO_288001.out) (Kd.R_base ho0) hb)
       have n1_ := Aside0.mk (Kd.S_elder' (by (with_reducible repeat (first | apply Kd.S_alloc | apply Kd.S_drewN | apply Kd.S_drew)); exact HO_288002.out) (Kd.S_base ho1) hb)
       have n2_ := Aside0.mk (Kd.R_lower (Kd.R_new' ho0 (Kd.R_lt (rr HO_288001.out))) (below_size (bs2 HB GE269 GE287)))
       have n3_ := Aside0.mk (Kd.S_lower (Kd.S_new' ho1 (Kd.S_lt (by (with_reducible repeat (first | apply Kd.S_alloc | apply Kd.S_drewN | apply Kd.S_drew)); exact HO_288002.out))) (below_size (bs2 HB GE269 GE287)))
       have n4_ := Aside0.mk (bb BK269 hb)
       have n5_ := Aside0.mk (bb BK287 hb)
       have n6_ := Aside0.mk (below_step (bs2 HB GE269 GE287) hb)
       clear HO_288001
       clear HO_288002
       clear BK269
       clear BK287
       clear HB
       have HO_288001 := n0_
       have HO_288002 := n1_
       have HO293 := n2_
       have HO296 := n3_
       have BK269 := n4_
       have BK287 := n5_
       have HB := n6_
       clear n0_ n1_ n2_ n3_ n4_ n5_ n6_
       (try clear hb)
       (try clear hb2)
       (try clear hk)
       (try clear hi)
       (try clear ho0)
       (try clear ho1)
       obtain ⟨Ao38, co38, eo38⟩ := Kd.R_slice HO293.out
       (first | subst eo38 | (injection eo38 with f1_ f2_ f3_; have f4_ := f1_.symm; have f5_ := f3_.symm; clear f1_ f2_ f3_; subst f4_; subst f5_))
       obtain ⟨Ao39, co39, eo39⟩ := Kd.S_slice HO296.out
       (first | subst eo39 | (injection eo39 with f1_ f2_ f3_; have f4_ := f1_.symm; have f5_ := f3_.symm; clear f1_ f2_ f3_; subst f4_; subst f5_))
       refine hK.out _ _ ⟨(blk_cell BK287.out 0).trans rfl, (blk_cell BK287.out 1).trans rfl, (blk_cell BK287.out 2).trans rfl, (blk_cell BK269.out 0).trans rfl, (blk_cell BK269.out 1).trans rfl, (blk_cell BK269.out 2).trans rfl⟩ (fun hHeld => ?_)
       clear hK K
       refine norm_ (a' := ?_) ?_ ?_
       rotate_left
       ·
        show Act.put _ (some 44) _ = _
        simp only [Act.put, List.setIfInBounds_toArray, List.set_cons_zero, List.set_cons_succ, i64_w, i32_w]
        rfl
       refine one_ (i := 3) (N := some 45) #[true, true, true, true, false] rfl rfl (by kernel_rfl) (by decide) (fun K hK => ?_)
       refine goes_ Tryd.func10 (by kernel_rfl) rfl #[.agg #[.int .i64 t280, .slice Ao28 t281.length co28, .slice Ao29 t284.length co29], .agg #[.int .i64 t290, .slice Ao38 t291.length co38, .slice Ao39 t294.length co39]] (by rfl) rfl rfl (by (try simp only [List.map_toArray, List.map_cons, List.map_nil]); first | done | rfl | (simp only [List.length_drop, List.length_take]; rfl)) ?_
       with_reducible refine (laws_eqDir.calls kj13 t280 _ _ t281 _ _ t284 t290 _ _ t291 _ _ t294 true _ ?side1 ?side2 ?side3 ?side4 ?side5 ?side6 ?side7 ?side8 A34.out).mono ?_
       (case side1 => exact rc0 HO_288001)
       (case side2 => exact (Kd.R_reads' HO_288001.out).2.1)
       (case side3 => repeat (first | exact (Kd.S_reads' HO_288002.out).2.2 | (with_reducible refine Kd.C_alloc ?_ _) | (with_reducible refine Kd.C_drewN ?_ _) | (with_reducible refine Kd.C_drew ?_)))
       (case side4 => exact (Kd.S_reads' HO_288002.out).2.1)
       (case side5 => exact rc0 HO293)
       (case side6 => exact (Kd.R_reads' HO293.out).2.1)
       (case side7 => repeat (first | exact (Kd.S_reads' HO296.out).2.2 | (with_reducible refine Kd.C_alloc ?_ _) | (with_reducible refine Kd.C_drewN ?_ _) | (with_reducible refine Kd.C_drew ?_)))
       (case side8 => exact (Kd.S_reads' HO296.out).2.1)
       rintro e w40 ⟨rfl, hb⟩
       refine ⟨_, rfl, ?_⟩
       have n0_ := Aside0.mk (Kd.R_below (rr HO_288001.out) hb)
       have n1_ := Aside0.mk (Kd.S_below (by (with_reducible repeat (first | apply Kd.S_alloc | apply Kd.S_drewN | apply Kd.S_drew)); exact HO_288002.out) hb)
       have n2_ := Aside0.mk (Kd.R_below (rr HO293.out) hb)
       have n3_ := Aside0.mk (Kd.S_below (by (with_reducible repeat (first | apply Kd.S_alloc | apply Kd.S_drewN | apply Kd.S_drew)); exact HO296.out) hb)
       have n4_ := Aside0.mk (bb BK269 hb)
       have n5_ := Aside0.mk (bb BK287 hb)
       have n6_ := Aside0.mk (below_step (bs2 HB GE269 GE287) hb)
       clear HO_288001
       clear HO_288002
       clear HO293
       clear HO296
       clear BK269
       clear BK287
       clear HB
       have HO_288001 := n0_
       have HO_288002 := n1_
       have HO293 := n2_
       have HO296 := n3_
       have BK269 := n4_
       have BK287 := n5_
       have HB := n6_
       clear n0_ n1_ n2_ n3_ n4_ n5_ n6_
       (try clear hb)
       (try clear hb2)
       (try clear hk)
       (try clear hi)
       refine hK.out _ _ ⟨(blk_cell BK287.out 0).trans rfl, (blk_cell BK287.out 1).trans rfl, (blk_cell BK287.out 2).trans rfl, (blk_cell BK269.out 0).trans rfl, (blk_cell BK269.out 1).trans rfl, (blk_cell BK269.out 2).trans rfl⟩ (fun hHeld => ?_)
       clear hK K
       refine norm_ (a' := ?_) ?_ ?_
       rotate_left
       ·
        show Act.put _ (some 45) _ = _
        simp only [Act.put, List.setIfInBounds_toArray, List.set_cons_zero, List.set_cons_succ, i64_w, i32_w]
        rfl
       refine pure_ (i := 4) (N := some 46) (v := ?_) (a' := ?_) #[true, true, true, true, true] rfl rfl (by kernel_rfl) (fun _ _ _ h => h) (Or.inl ⟨by rfl, ?_⟩) ?_ ?_
       rotate_left
       ·
        intro w'
        go_simp
        with_reducible rfl
       rotate_left
       ·
        simp only [Act.put, List.setIfInBounds_toArray, List.set_cons_zero, List.set_cons_succ, i64_w, i32_w]
        rfl
       refine done_ (by kernel_rfl) ?_
       try go_wp2
       go_ret
       exact ⟨by first | rfl | (simp [errW_none, errW_some] <;> rfl) | (simp [*, errW_none, errW_some] <;> rfl), bs2 HB GE269 GE287⟩
      ·
       replace c35 := Bool.eq_false_iff.mpr c35
       subst c35
       rw [if_neg (show ¬ (false = true) by decide)] at H
       obtain rfl := Option.some.inj H
       try go_wp2
       have n0_ := Aside0.mk (Kd.R_drew HO_288001.out)
       have n1_ := Aside0.mk (Kd.S_drew HO_288002.out)
       have n2_ := Aside0.mk (blk_drew BK269.out)
       have n3_ := Aside0.mk (blk_drew BK287.out)
       have n4_ := Aside0.mk (below_drew1 HB.out)
       clear HO_288001
       clear HO_288002
       clear BK269
       clear BK287
       clear HB
       have HO_288001 := n0_
       have HO_288002 := n1_
       have BK269 := n2_
       have BK287 := n3_
       have HB := n4_
       clear n0_ n1_ n2_ n3_ n4_
       refine start_ (n := 5) (S := fun w' => w'.cell? ⟨gb287, 0, none⟩ = some (.int .i64 t280) ∧ w'.cell? ⟨gb287, 1, none⟩ = some (.slice Ao28 t281.length co28) ∧ w'.cell? ⟨gb287, 2, none⟩ = some (.slice Ao29 t284.length co29) ∧ w'.cell? ⟨gb269, 0, none⟩ = some (.int .i64 a0_0) ∧ w'.cell? ⟨gb269, 1, none⟩ = some (.slice A0_1 l0_1.length c0_1) ∧ w'.cell? ⟨gb269, 2, none⟩ = some (.slice A0_2 l0_2.length c0_2)) (ds := []) #[false, false, false, false, false] (by kernel_rfl) rfl rfl ⟨(blk_cell BK287.out 0).trans rfl, (blk_cell BK287.out 1).trans rfl, (blk_cell BK287.out 2).trans rfl, (blk_cell BK269.out 0).trans rfl, (blk_cell BK269.out 1).trans rfl, (blk_cell BK269.out 2).trans rfl⟩ (fun hHeld => ?_)
       generalize wc.drew = w41 at HO_288001 HO_288002 BK269 BK287 HB hHeld ⊢
       refine take_ (i := 0) (N := some 42) (v := ?_) (a' := ?_) #[true, false, false, false, false] rfl rfl (by kernel_rfl) (fun _ _ _ h => h) (Or.inl ⟨by rfl, ?_⟩) hHeld ?_ ?_
       rotate_left
       ·
        rintro w' ⟨s0, s1, s2, s3, s4, s5⟩
        go_simp
        with_reducible rfl
       rotate_left
       ·
        simp only [Act.put, List.setIfInBounds_toArray, List.set_cons_zero, List.set_cons_succ, i64_w, i32_w]
        rfl
       refine take_ (i := 1) (N := some 43) (v := ?_) (a' := ?_) #[true, true, false, false, false] rfl rfl (by kernel_rfl) (fun _ _ _ h => h) (Or.inl ⟨by rfl, ?_⟩) hHeld ?_ ?_
       rotate_left
       ·
        rintro w' ⟨s0, s1, s2, s3, s4, s5⟩
        go_simp
        with_reducible rfl
       rotate_left
       ·
        simp only [Act.put, List.setIfInBounds_toArray, List.set_cons_zero, List.set_cons_succ, i64_w, i32_w]
        rfl
       refine one_ (i := 2) (N := some 44) #[true, true, true, false, false] rfl rfl (by kernel_rfl) (by decide) (fun K hK => ?_)
       refine goes_ Tryd.func8 (by kernel_rfl) rfl #[.agg #[.int .i64 a0_0, .slice A0_1 l0_1.length c0_1, .slice A0_2 l0_2.length c0_2]] (by rfl) rfl rfl (by (try simp only [List.map_toArray, List.map_cons, List.map_nil]); first | done | rfl | (simp only [List.length_drop, List.length_take]; rfl)) ?_
       with_reducible refine (laws_toDir.calls kj13 a0_0 _ _ l0_1 _ _ l0_2 t290 t291 t294 _ ?side1 ?side2 ?side3 ?side4 A33.out).mono ?_
       (case side1 => exact cb HR0_1 HB)
       (case side2 => exact HC0_1.out)
       (case side3 => exact cb HR0_2 HB)
       (case side4 => exact HC0_2.out)
       rintro e w42 ⟨v292, v295, rfl, ho0, ho1, hb⟩
       refine ⟨_, rfl, ?_⟩
       have n0_ := Aside0.mk (Kd.R_elder' (rr HO_288001.out) (Kd.R_base ho0) hb)
       have n1_ := Aside0.mk (Kd.S_elder' (by (with_reducible repeat (first | apply Kd.S_alloc | apply Kd.S_drewN | apply Kd.S_drew)); exact HO_288002.out) (Kd.S_base ho1) hb)
       have n2_ := Aside0.mk (Kd.R_lower (Kd.R_new' ho0 (Kd.R_lt (rr HO_288001.out))) (below_size (bs2 HB GE269 GE287)))
       have n3_ := Aside0.mk (Kd.S_lower (Kd.S_new' ho1 (Kd.S_lt (by (with_reducible repeat (first | apply Kd.S_alloc | apply Kd.S_drewN | apply Kd.S_drew)); exact HO_288002.out))) (below_size (bs2 HB GE269 GE287)))
       have n4_ := Aside0.mk (bb BK269 hb)
       have n5_ := Aside0.mk (bb BK287 hb)
       have n6_ := Aside0.mk (below_step (bs2 HB GE269 GE287) hb)
       clear HO_288001
       clear HO_288002
       clear BK269
       clear BK287
       clear HB
       have HO_288001 := n0_
       have HO_288002 := n1_
       have HO293 := n2_
       have HO296 := n3_
       have BK269 := n4_
       have BK287 := n5_
       have HB := n6_
       clear n0_ n1_ n2_ n3_ n4_ n5_ n6_
       (try clear hb)
       (try clear hb2)
       (try clear hk)
       (try clear hi)
       (try clear ho0)
       (try clear ho1)
       obtain ⟨Ao43, co43, eo43⟩ := Kd.R_slice HO293.out
       (first | subst eo43 | (injection eo43 with f1_ f2_ f3_; have f4_ := f1_.symm; have f5_ := f3_.symm; clear f1_ f2_ f3_; subst f4_; subst f5_))
       obtain ⟨Ao44, co44, eo44⟩ := Kd.S_slice HO296.out
       (first | subst eo44 | (injection eo44 with f1_ f2_ f3_; have f4_ := f1_.symm; have f5_ := f3_.symm; clear f1_ f2_ f3_; subst f4_; subst f5_))
       refine hK.out _ _ ⟨(blk_cell BK287.out 0).trans rfl, (blk_cell BK287.out 1).trans rfl, (blk_cell BK287.out 2).trans rfl, (blk_cell BK269.out 0).trans rfl, (blk_cell BK269.out 1).trans rfl, (blk_cell BK269.out 2).trans rfl⟩ (fun hHeld => ?_)
       clear hK K
       refine norm_ (a' := ?_) ?_ ?_
       rotate_left
       ·
        show Act.put _ (some 44) _ = _
        simp only [Act.put, List.setIfInBounds_toArray, List.set_cons_zero, List.set_cons_succ, i64_w, i32_w]
        rfl
       refine one_ (i := 3) (N := some 45) #[true, true, true, true, false] rfl rfl (by kernel_rfl) (by decide) (fun K hK => ?_)
       refine goes_ Tryd.func10 (by kernel_rfl) rfl #[.agg #[.int .i64 t280, .slice Ao28 t281.length co28, .slice Ao29 t284.length co29], .agg #[.int .i64 t290, .slice Ao43 t291.length co43, .slice Ao44 t294.length co44]] (by rfl) rfl rfl (by (try simp only [List.map_toArray, List.map_cons, List.map_nil]); first | done | rfl | (simp only [List.length_drop, List.length_take]; rfl)) ?_
       with_reducible refine (laws_eqDir.calls kj13 t280 _ _ t281 _ _ t284 t290 _ _ t291 _ _ t294 false _ ?side1 ?side2 ?side3 ?side4 ?side5 ?side6 ?side7 ?side8 A34.out).mono ?_
       (case side1 => exact rc0 HO_288001)
       (case side2 => exact (Kd.R_reads' HO_288001.out).2.1)
       (case side3 => repeat (first | exact (Kd.S_reads' HO_288002.out).2.2 | (with_reducible refine Kd.C_alloc ?_ _) | (with_reducible refine Kd.C_drewN ?_ _) | (with_reducible refine Kd.C_drew ?_)))
       (case side4 => exact (Kd.S_reads' HO_288002.out).2.1)
       (case side5 => exact rc0 HO293)
       (case side6 => exact (Kd.R_reads' HO293.out).2.1)
       (case side7 => repeat (first | exact (Kd.S_reads' HO296.out).2.2 | (with_reducible refine Kd.C_alloc ?_ _) | (with_reducible refine Kd.C_drewN ?_ _) | (with_reducible refine Kd.C_drew ?_)))
       (case side8 => exact (Kd.S_reads' HO296.out).2.1)
       rintro e w45 ⟨rfl, hb⟩
       refine ⟨_, rfl, ?_⟩
       have n0_ := Aside0.mk (Kd.R_below (rr HO_288001.out) hb)
       have n1_ := Aside0.mk (Kd.S_below (by (with_reducible repeat (first | apply Kd.S_alloc | apply Kd.S_drewN | apply Kd.S_drew)); exact HO_288002.out) hb)
       have n2_ := Aside0.mk (Kd.R_below (rr HO293.out) hb)
       have n3_ := Aside0.mk (Kd.S_below (by (with_reducible repeat (first | apply Kd.S_alloc | apply Kd.S_drewN | apply Kd.S_drew)); exact HO296.out) hb)
       have n4_ := Aside0.mk (bb BK269 hb)
       have n5_ := Aside0.mk (bb BK287 hb)
       have n6_ := Aside0.mk (below_step (bs2 HB GE269 GE287) hb)
       clear HO_288001
       clear HO_288002
       clear HO293
       clear HO296
       clear BK269
       clear BK287
       clear HB
       have HO_288001 := n0_
       have HO_288002 := n1_
       have HO293 := n2_
       have HO296 := n3_
       have BK269 := n4_
       have BK287 := n5_
       have HB := n6_
       clear n0_ n1_ n2_ n3_ n4_ n5_ n6_
       (try clear hb)
       (try clear hb2)
       (try clear hk)
       (try clear hi)
       refine hK.out _ _ ⟨(blk_cell BK287.out 0).trans rfl, (blk_cell BK287.out 1).trans rfl, (blk_cell BK287.out 2).trans rfl, (blk_cell BK269.out 0).trans rfl, (blk_cell BK269.out 1).trans rfl, (blk_cell BK269.out 2).trans rfl⟩ (fun hHeld => ?_)
       clear hK K
       refine norm_ (a' := ?_) ?_ ?_
       rotate_left
       ·
        show Act.put _ (some 45) _ = _
        simp only [Act.put, List.setIfInBounds_toArray, List.set_cons_zero, List.set_cons_succ, i64_w, i32_w]
        rfl
       refine pure_ (i := 4) (N := some 46) (v := ?_) (a' := ?_) #[true, true, true, true, true] rfl rfl (by kernel_rfl) (fun _ _ _ h => h) (Or.inl ⟨by rfl, ?_⟩) ?_ ?_
       rotate_left
       ·
        intro w'
        go_simp
        with_reducible rfl
       rotate_left
       ·
        simp only [Act.put, List.setIfInBounds_toArray, List.set_cons_zero, List.set_cons_succ, i64_w, i32_w]
        rfl
       refine done_ (by kernel_rfl) ?_
       try go_wp2
       go_ret
       exact ⟨by first | rfl | (simp [errW_none, errW_some] <;> rfl) | (simp [*, errW_none, errW_some] <;> rfl), bs2 HB GE269 GE287⟩

/-- THE ONE PURE STATEMENT of laws_FnExactBucketOf. -/
def laws_FnExactBucketOf.Pure : Prop := ∀ (a0_0 : Int) (l0_1 : List Int) (l0_2 : List (S62)) (a1 : ByteArray), ok25 (⟨a0_0, l0_1, l0_2⟩ : S25) → a1.size ≤ maxLen → ∃ k, laws_FnExactBucketOf.f k a0_0 l0_1 l0_2 a1 = some true

end Go.Proofs.YtnjnlocndalpjaaDoor.G
