-- Printed by a program of this session (drive.py, by way of the kit's print). Not trusted: Lean checks it.
import Derived.Test.YtakgjdckolllaaaG0
import Derived.Test.YtakgjdckolllaaaG1
import Derived.Test.YtakgjdckolllaaaG3
import Derived.Test.YtakgjdckolllaaaG4
namespace Go.Proofs.Ytakgjdckolllaaa.G
open Go.RowKit Go.Proofs.YtakgjdckolllaaaW.PrintWords Go.Proofs.YtakgjdckolllaaaW.PrintLast Go.Proofs.YtakgjdckolllaaaW.PrintMore
attribute [local go_sem] max2_int min2_int max_two min_two max_three min_three max_four min_four
set_option linter.unusedVariables false
set_option linter.unusedSimpArgs false
attribute [local go_sem high] eqA53
def slices_ContainsFunc_impl_Extent_at_impl_intentsOf_2.f (k : Nat) (l0 : List (S53)) (a1_0 : Int) (a1_1 : Int) (a1_2 : Int) (a1_3 : Int) (a1_4 : Int) : Option (Bool) := (slices_IndexFunc_impl_Extent_at_impl_intentsOf_2.f k l0 a1_0 a1_1 a1_2 a1_3 a1_4).bind fun t333 => (some (decide (t333 ≥ 0)))
theorem slices_ContainsFunc_impl_Extent_at_impl_intentsOf_2.mono : ∀ a0 a1 a2 a3 a4 a5 k, LeO (slices_ContainsFunc_impl_Extent_at_impl_intentsOf_2.f k a0 a1 a2 a3 a4 a5) (slices_ContainsFunc_impl_Extent_at_impl_intentsOf_2.f (k + 1) a0 a1 a2 a3 a4 a5) := by
 intro a0 a1 a2 a3 a4 a5 k
 unfold slices_ContainsFunc_impl_Extent_at_impl_intentsOf_2.f
 repeat' first
   | (with_reducible exact slices_IndexFunc_impl_Extent_at_impl_intentsOf_2.mono _ _ _ _ _ _ _)
   | (with_reducible exact LeO.refl _)
   | (with_reducible exact LeO.none _)
   | (with_reducible refine LeO.ite ?_ ?_)
   | (with_reducible refine LeO.bind ?_ (fun _ => ?_))
   | exact slices_IndexFunc_impl_Extent_at_impl_intentsOf_2.mono _ _ _ _ _ _ _
   | exact LeO.none _
   | refine LeO.ite ?_ ?_
   | refine LeO.bind ?_ (fun _ => ?_)
set_option maxHeartbeats 8000000 in
set_option maxRecDepth 100000 in
theorem slices_ContainsFunc_impl_Extent_at_impl_intentsOf_2.calls (k : Nat) (A0 : Option Addr) (c0 : Nat) (l0 : List (S53)) (gx1_0 : Nat) (a1_0 : Int) (a1_1 : Int) (a1_2 : Int) (a1_3 : Int) (a1_4 : Int) (r : Bool) (w : World) (hr0 : Kd.C k53 w A0 l0.length l0) (hc0 : l0.length ≤ c0) (hx1_0 : w.heap[gx1_0]? = some (.cells #[.int .i64 a1_0, .int .i64 a1_1, .int .i64 a1_2, .int .i64 a1_3, .int .i64 a1_4] 71 (0, 0))) (h : slices_ContainsFunc_impl_Extent_at_impl_intentsOf_2.f k l0 a1_0 a1_1 a1_2 a1_3 a1_4 = some r) :
  Calls Try.prog 80 #[.slice A0 l0.length c0, .func (.func 77) #[] #[.pointer (some ⟨gx1_0, 0, none⟩)]] w fun e w' => e = .returned (.bool r) ∧ Below w.heap.size w w' := by
 have HR0 := Ah hr0
 have HC0 := Ah hc0
 clear hr0 hc0
 have BK332 := Ah hx1_0
 clear hx1_0
 have HB := Ah (Below.refl w.heap.size w)
 have H : ((slices_IndexFunc_impl_Extent_at_impl_intentsOf_2.f k l0 a1_0 a1_1 a1_2 a1_3 a1_4).bind fun t333 => (some (decide (t333 ≥ 0)))) = some r := h
 clear h
 replace H := Option.bind_eq_some_iff.mp H
 obtain ⟨t333, A30, H⟩ := H
 try dsimp only at H
 have A3 := Ah A30
 clear A30
 obtain rfl := Option.some.inj H
 go_enter Try.func80, Try.ntmps80
 go_wp2_with (first | ((with_reducible refine gate_callee (f := 93) rfl ?_); refine gL (some 7) rfl rfl Try.func93 (by kernel_rfl) rfl #[.slice A0 l0.length c0, .func (.func 77) #[] #[.pointer (some ⟨gx1_0, 0, none⟩)]] rfl ?_; (with_reducible refine (slices_IndexFunc_impl_Extent_at_impl_intentsOf_2.calls k _ _ l0 gx1_0 a1_0 a1_1 a1_2 a1_3 a1_4 t333 _ ?side1 ?side2 ?side3 A3.out).mono ?_); (case side1 => repeat (first | exact HR0.out | (with_reducible refine Kd.C_alloc ?_ _) | (with_reducible refine Kd.C_drewN ?_ _) | (with_reducible refine Kd.C_drew ?_))); (case side2 => exact HC0.out); (case side3 => (with_reducible repeat (first | refine blk_drewN ?_ _ | refine blk_drew ?_ | refine blk_alloc ?_ _)); exact BK332.out); rintro e w4 ⟨rfl, hb⟩; refine ⟨_, rfl, ?_⟩; replace BK332 := Ah (blk_below (g := gx1_0) (o := .cells #[.int .i64 a1_0, .int .i64 a1_1, .int .i64 a1_2, .int .i64 a1_3, .int .i64 a1_4] 71 (0, 0)) (bk BK332) hb); replace HB := Ah (below_step (bs HB) hb); (try clear hb)))
 go_ret
 exact ⟨er, bs HB⟩
mutual
def impl_intentsOf.j0 : Nat → List (S71) → Bool → Int → List (S53) → List (S53) → Option ((List (S71)) × Bool)
 | 0, _, _, _, _, _ => none
 | k + 1, x1, x18, x327000, x327001, x327002 => if x18 = true then (some (([] : List (S71)), false)) else (impl_intentsOf.l0 k (([] : List (S71))) x1 (x1.length : Int) 0 x327000 x327001 x327002)
def impl_intentsOf.l0 : Nat → List (S71) → List (S71) → Int → Int → Int → List (S53) → List (S53) → Option ((List (S71)) × Bool)
 | 0, _, _, _, _, _, _, _ => none
 | k + 1, x6, x20, x21, x22, x327000, x327001, x327002 => if x22 < x21 then (if 0 ≤ x22 then (if x22 < (x20.length : Int) then (if ((rd_T71 x20 x22).f0) = 2 then ((impl_within.f ((rd_T71 x20 x22).f1) 1 (x6.length : Int)).bind fun t333 => (if t333 = true then (if (!(((rd_T71 x20 x22).f2.f0) == 0) || (!(((rd_T71 x20 x22).f2.f1) == 0))) = true then (some (([] : List (S71)), false)) else (if 0 ≤ (wrap64 (((rd_T71 x20 x22).f1) - 1)) then (if (wrap64 (((rd_T71 x20 x22).f1) - 1)) < (x6.length : Int) then ((impl_within.f ((rd_T71 x20 x22).f3) (wrap64 (((rd_T71 x6 (wrap64 (((rd_T71 x20 x22).f1) - 1))).f3) + 1)) ((rd_T71 x6 (wrap64 (((rd_T71 x20 x22).f1) - 1))).f2.f1)).bind fun t336 => (if t336 = true then (impl_intentsOf.l0 k (x6.set ((wrap64 (((rd_T71 x20 x22).f1) - 1)) : Int).toNat (⟨(rd_T71 x6 (wrap64 (((rd_T71 x20 x22).f1) - 1))).f0, (rd_T71 x6 (wrap64 (((rd_T71 x20 x22).f1) - 1))).f1, (⟨(rd_T71 x6 (wrap64 (((rd_T71 x20 x22).f1) - 1))).f2.f0, (rd_T71 x6 (wrap64 (((rd_T71 x20 x22).f1) - 1))).f2.f1⟩ : S53), (rd_T71 x20 x22).f3⟩ : S71)) x20 x21 (wrap64 (x22 + 1)) x327000 x327001 x327002) else (some (([] : List (S71)), false)))) else (none)) else (none))) else (some (([] : List (S71)), false)))) else (if ((rd_T71 x20 x22).f0) = 1 then (if ((rd_T71 x20 x22).f1) = (wrap64 ((x6.length : Int) + 1)) then (if ((rd_T71 x20 x22).f3) = 0 then ((impl_isExtent.f ((rd_T71 x20 x22).f2.f0) ((rd_T71 x20 x22).f2.f1) x327000).bind fun t338 => (if t338 = true then ((slices_ContainsFunc_impl_Item_at_impl_intentsOf_1.f k x6 ((rd_T71 x20 x22).f0) ((rd_T71 x20 x22).f1) ((rd_T71 x20 x22).f2.f0) ((rd_T71 x20 x22).f2.f1) ((rd_T71 x20 x22).f3)).bind fun t339 => (if t339 = true then (some (([] : List (S71)), false)) else ((slices_ContainsFunc_impl_Extent_at_impl_intentsOf_2.f k x327001 ((rd_T71 x20 x22).f0) ((rd_T71 x20 x22).f1) ((rd_T71 x20 x22).f2.f0) ((rd_T71 x20 x22).f2.f1) ((rd_T71 x20 x22).f3)).bind fun t340 => (if t340 = true then (some (([] : List (S71)), false)) else (if x6.length < 3518437208883 then (impl_intentsOf.l0 k (x6 ++ [(⟨(rd_T71 x20 x22).f0, (rd_T71 x20 x22).f1, (⟨(rd_T71 x20 x22).f2.f0, (rd_T71 x20 x22).f2.f1⟩ : S53), (rd_T71 x20 x22).f3⟩ : S71)]) x20 x21 (wrap64 (x22 + 1)) x327000 x327001 x327002) else (none)))))) else (some (([] : List (S71)), false)))) else (some (([] : List (S71)), false))) else (some (([] : List (S71)), false))) else (some (([] : List (S71)), false)))) else (none)) else (none)) else (some (x6, true))
end
def impl_intentsOf.f (k : Nat) (a0_0 : Int) (l0_1 : List (S53)) (l0_2 : List (S53)) (l1 : List (S71)) : Option ((List (S71)) × Bool) := (impl_GoodFree.f k a0_0 l0_1 l0_2).bind fun t327 => (if t327 = true then (impl_intentsOf.j0 k l1 (decide ((l1.length : Int) > 30)) a0_0 l0_1 l0_2) else (impl_intentsOf.j0 k l1 true a0_0 l0_1 l0_2))
theorem impl_intentsOf.mono_l : ∀ k, (∀ y0 y1 y2 y3 y4, LeO (impl_intentsOf.j0 k y0 y1 y2 y3 y4) (impl_intentsOf.j0 (k + 1) y0 y1 y2 y3 y4)) ∧ (∀ y0 y1 y2 y3 y4 y5 y6, LeO (impl_intentsOf.l0 k y0 y1 y2 y3 y4 y5 y6) (impl_intentsOf.l0 (k + 1) y0 y1 y2 y3 y4 y5 y6))
 | 0 => ⟨fun _ _ _ _ _ r h => by simp [impl_intentsOf.j0] at h, fun _ _ _ _ _ _ _ r h => by simp [impl_intentsOf.l0] at h⟩
 | k + 1 => by
  obtain ⟨ih0, ih1⟩ := impl_intentsOf.mono_l k
  refine ⟨?_, ?_⟩ <;> intros <;> first | unfold impl_intentsOf.j0 | unfold impl_intentsOf.l0
  all_goals repeat' first
   | (with_reducible exact ih0 _ _ _ _ _)
   | (with_reducible exact ih1 _ _ _ _ _ _ _)
   | (with_reducible exact impl_GoodFree.mono _ _ _ _)
   | (with_reducible exact slices_ContainsFunc_impl_Extent_at_impl_intentsOf_2.mono _ _ _ _ _ _ _)
   | (with_reducible exact slices_ContainsFunc_impl_Item_at_impl_intentsOf_1.mono _ _ _ _ _ _ _)
   | (with_reducible exact LeO.refl _)
   | (with_reducible exact LeO.none _)
   | (with_reducible refine LeO.ite ?_ ?_)
   | (with_reducible refine LeO.bind ?_ (fun _ => ?_))
   | exact ih0 _ _ _ _ _
   | exact ih1 _ _ _ _ _ _ _
   | exact impl_GoodFree.mono _ _ _ _
   | exact slices_ContainsFunc_impl_Extent_at_impl_intentsOf_2.mono _ _ _ _ _ _ _
   | exact slices_ContainsFunc_impl_Item_at_impl_intentsOf_1.mono _ _ _ _ _ _ _
   | exact LeO.none _
   | refine LeO.ite ?_ ?_
   | refine LeO.bind ?_ (fun _ => ?_)
theorem impl_intentsOf.mono : ∀ a0 a1 a2 a3 k, LeO (impl_intentsOf.f k a0 a1 a2 a3) (impl_intentsOf.f (k + 1) a0 a1 a2 a3) := by
 intro a0 a1 a2 a3 k
 obtain ⟨ih0, ih1⟩ := impl_intentsOf.mono_l k
 unfold impl_intentsOf.f
 repeat' first
   | (with_reducible exact ih0 _ _ _ _ _)
   | (with_reducible exact ih1 _ _ _ _ _ _ _)
   | (with_reducible exact impl_GoodFree.mono _ _ _ _)
   | (with_reducible exact slices_ContainsFunc_impl_Extent_at_impl_intentsOf_2.mono _ _ _ _ _ _ _)
   | (with_reducible exact slices_ContainsFunc_impl_Item_at_impl_intentsOf_1.mono _ _ _ _ _ _ _)
   | (with_reducible exact LeO.refl _)
   | (with_reducible exact LeO.none _)
   | (with_reducible refine LeO.ite ?_ ?_)
   | (with_reducible refine LeO.bind ?_ (fun _ => ?_))
   | exact ih0 _ _ _ _ _
   | exact ih1 _ _ _ _ _ _ _
   | exact impl_GoodFree.mono _ _ _ _
   | exact slices_ContainsFunc_impl_Extent_at_impl_intentsOf_2.mono _ _ _ _ _ _ _
   | exact slices_ContainsFunc_impl_Item_at_impl_intentsOf_1.mono _ _ _ _ _ _ _
   | exact LeO.none _
   | refine LeO.ite ?_ ?_
   | refine LeO.bind ?_ (fun _ => ?_)
def impl_intentsOf.T8 : Bool × List (List Nat × List Nat) := (true, [([], []), ([0], [0]), ([], []), ([2], [2]), ([1, 3], [1, 3]), ([4], [4]), ([5, 4], [5]), ([6], [6]), ([7, 6], [6, 7]), ([6], [6]), ([8, 9, 6], [6, 8, 9]), ([6, 10], [6, 10]), ([11, 6], [11]), ([12], [12]), ([13, 12], [12, 13]), ([12], [12]), ([12], [12]), ([16, 12], [12, 16]), ([17, 12], [12, 17]), ([15, 18, 12], [12, 15, 18]), ([19, 12], [12, 19]), ([20, 12], [12, 20]), ([21, 12], [12, 21]), ([12], [12]), ([12], [12]), ([24, 12], [12, 24]), ([25, 12], [12, 25]), ([23, 26, 12], [12, 23, 26]), ([27, 12], [12, 27]), ([28, 12], [12, 28]), ([29, 12], [12, 29]), ([14, 22, 30, 12, 12], [12, 14, 22, 30]), ([31, 12], [12, 31]), ([12, 32], [12, 32])])
def impl_intentsOf.B8 : List Nat := [0, 1, 0, 4, 15, 31, 63, 127, 255, 127, 1023, 2047, 4095, 8191, 16383, 8191, 8191, 73727, 204799, 499711, 1023999, 2072575, 4169727, 8191, 8191, 16785407, 50339839, 125837311, 260055039, 528490495, 1065361407, 2147483647, 4294967295, 8589934591]
theorem impl_intentsOf.tab8 : rtab .any (opsOf Try.f64 8) = impl_intentsOf.T8 := by kernel_rfl
theorem impl_intentsOf.bits8 : waitsOk impl_intentsOf.T8.2 impl_intentsOf.B8 = true := by kernel_rfl
set_option maxHeartbeats 8000000 in
set_option maxRecDepth 100000 in
theorem impl_intentsOf.calls (k : Nat) (a0_0 : Int) (A0_1 : Option Addr) (c0_1 : Nat) (l0_1 : List (S53)) (A0_2 : Option Addr) (c0_2 : Nat) (l0_2 : List (S53)) (A1 : Option Addr) (c1 : Nat) (l1 : List (S71)) (r1 : List (S71)) (r2 : Bool) (w : World) (hr0_1 : Kd.C k53 w A0_1 l0_1.length l0_1) (hc0_1 : l0_1.length ≤ c0_1) (hr0_2 : Kd.C k53 w A0_2 l0_2.length l0_2) (hc0_2 : l0_2.length ≤ c0_2) (hr1 : Kd.C k71 w A1 l1.length l1) (hc1 : l1.length ≤ c1) (h : impl_intentsOf.f k a0_0 l0_1 l0_2 l1 = some (r1, r2)) :
  Calls Try.prog 64 #[.agg #[.int .i64 a0_0, .slice A0_1 l0_1.length c0_1, .slice A0_2 l0_2.length c0_2], .slice A1 l1.length c1] w fun e w' => ∃ v0_ : Value, e = .returned (.tuple #[v0_, .bool r2]) ∧ Kd.R k71 71 w' w.heap.size (fun _ => True) v0_ r1 ∧ Below w.heap.size w w' := by
 have hu24 := Try.underlying24
 have hu71 := Try.underlying71
 have hu53 := Try.underlying53
 have HR0_1 := Ah hr0_1
 have HC0_1 := Ah hc0_1
 clear hr0_1 hc0_1
 have HR0_2 := Ah hr0_2
 have HC0_2 := Ah hc0_2
 clear hr0_2 hc0_2
 have HR1 := Ah hr1
 have HC1 := Ah hc1
 clear hr1 hc1
 have HB := Ah (Below.refl w.heap.size w)
 have H : ((impl_GoodFree.f k a0_0 l0_1 l0_2).bind fun t327 => (if t327 = true then (impl_intentsOf.j0 k l1 (decide ((l1.length : Int) > 30)) a0_0 l0_1 l0_2) else (impl_intentsOf.j0 k l1 true a0_0 l0_1 l0_2))) = some (r1, r2) := h
 clear h
 have HC3 := Ah H
 clear H
 go_enter Try.func64, Try.ntmps64
 go_upto_region 1 with (first | ((with_reducible refine gate_dst (N := 2) rfl ?_); (try (refine gate_guard (by rfl) ?_; dsimp only)); refine boxL 2 24 #[.int .i64 a0_0, .slice A0_1 l0_1.length c0_1, .slice A0_2 l0_2.length c0_2] ?_; intro gb326 hg w4 BK326 hb; have GW326 := gw hg (bs HB); have GE326 := gw hg (bs HB); replace HB := Ah (below_step (bs HB) hb); clear hb hg))
 (try simp only [Act.put, List.setIfInBounds_toArray, List.set_cons_zero, List.set_cons_succ])
 go_cut [18] (fun v18 wc => ∃ (kq : Nat) (x18_2 : Bool), v18 = .bool x18_2 ∧ Aside0 (impl_intentsOf.j0 kq l1 x18_2 a0_0 l0_1 l0_2 = some (r1, r2)) ∧ Aside0 (kq ≤ k) ∧ Aside0 (wc.heap[gb326]? = some (.cells #[.int .i64 a0_0, (.slice A0_1 l0_1.length c0_1), (.slice A0_2 l0_2.length c0_2)] 24 (0, 0))) ∧ Aside0 (Below w.heap.size w wc))
 case first =>
  have H := HC3.out
  clear HC3
  replace H := Option.bind_eq_some_iff.mp H
  obtain ⟨t327, A50, H⟩ := H
  try dsimp only at H
  have A5 := Ah A50
  clear A50
  by_cases c6 : t327 = true
  ·
   subst c6
   rw [if_pos rfl] at H
   have H' := Ah H
   clear H
   obtain ⟨hcz7_0, hcz7_1, hcz7_2⟩ := cz3 BK326
   obtain ⟨hfz7_0, hfz7_1, hfz7_2⟩ := fz3 BK326
   go_wp2_with (first | ((with_reducible refine gate_callee (f := 74) rfl ?_); refine gL (some 12) rfl rfl Try.func74 (by kernel_rfl) rfl #[.agg #[.int .i64 a0_0, .slice A0_1 l0_1.length c0_1, .slice A0_2 l0_2.length c0_2]] rfl ?_; (with_reducible refine (impl_GoodFree.calls k a0_0 _ _ l0_1 _ _ l0_2 true _ ?side1 ?side2 ?side3 ?side4 A5.out).mono ?_); (case side1 => exact cb HR0_1 HB); (case side2 => exact HC0_1.out); (case side3 => exact cb HR0_2 HB); (case side4 => exact HC0_2.out); rintro e w8 ⟨rfl, hb⟩; refine ⟨_, rfl, ?_⟩; replace BK326 := nb BK326 hb; replace HB := Ah (below_step (bs1 HB GE326) hb); (try clear hb)))
   go_meet
   case rel => exact ⟨_, (decide ((l1.length : Int) > 30)), e3, H', ⟨by first | omega | exact Nat.le_refl _⟩, ⟨bk BK326⟩, ⟨bs1 HB GE326⟩⟩
  replace c6 := Bool.eq_false_iff.mpr c6
  subst c6
  rw [if_neg fne] at H
  have H' := Ah H
  clear H
  obtain ⟨hcz9_0, hcz9_1, hcz9_2⟩ := cz3 BK326
  obtain ⟨hfz9_0, hfz9_1, hfz9_2⟩ := fz3 BK326
  go_wp2_with (first | ((with_reducible refine gate_callee (f := 74) rfl ?_); refine gL (some 12) rfl rfl Try.func74 (by kernel_rfl) rfl #[.agg #[.int .i64 a0_0, .slice A0_1 l0_1.length c0_1, .slice A0_2 l0_2.length c0_2]] rfl ?_; (with_reducible refine (impl_GoodFree.calls k a0_0 _ _ l0_1 _ _ l0_2 false _ ?side1 ?side2 ?side3 ?side4 A5.out).mono ?_); (case side1 => exact cb HR0_1 HB); (case side2 => exact HC0_1.out); (case side3 => exact cb HR0_2 HB); (case side4 => exact HC0_2.out); rintro e w10 ⟨rfl, hb⟩; refine ⟨_, rfl, ?_⟩; replace BK326 := nb BK326 hb; replace HB := Ah (below_step (bs1 HB GE326) hb); (try clear hb)))
  go_meet
  case rel => exact ⟨_, (true), e3, H', ⟨by first | omega | exact Nat.le_refl _⟩, ⟨bk BK326⟩, ⟨bs1 HB GE326⟩⟩
 case rest =>
  clear HC3
  try clear c1
  try clear p2
  try clear c6
  try clear c7
  try clear hcz7_0 hcz7_1 hcz7_2
  try clear hcz9_0 hcz9_1 hcz9_2
  try clear hfz7_0 hfz7_1 hfz7_2
  try clear hfz9_0 hfz9_1 hfz9_2
  obtain ⟨kq, x18_2, rfl, HA, HJ2, BK326, HB⟩ := hcut
  cases kq with
  | zero => exact absurd HA.out (by simp [impl_intentsOf.j0])
  | succ kj2 =>
   have H := HA.out
   clear HA
   simp only [impl_intentsOf.j0] at H
   by_cases c11 : x18_2 = true
   ·
    subst c11
    rw [if_pos rfl] at H
    simp only [Option.some.injEq, Prod.mk.injEq] at H
    obtain ⟨rfl, rfl⟩ := H
    go_wp2
    go_ret2
    exact ⟨_, er, by first | exact Kd.R_nil _ _ _ _ _ | exact Kd.N_nil _ _ _ _ _ | exact Kd.V_nil _ _ _ _ _ | exact Kd.Q_nil _ _ _ _ _ | exact Kd.S_nil _ _ _ _ _, bs1 HB GE326⟩
   replace c11 := Bool.eq_false_iff.mpr c11
   subst c11
   rw [if_neg fne] at H
   obtain ⟨y328, hy328⟩ : ∃ y_ : List (S71), y_ = (([] : List (S71))) := ⟨_, rfl⟩
   replace H : (impl_intentsOf.l0 kj2 y328 l1 (l1.length : Int) 0 a0_0 l0_1 l0_2) = some (r1, r2) := by first | (rw [hy328]; with_reducible exact H) | (have H2_ := (Option.bind_some _ _).symm.trans H; rw [hy328]; with_reducible exact H2_) | (have H2_ := (Option.bind_some _ _).symm.trans H; with_reducible exact H2_) | with_reducible exact H | (rw [hy328]; exact H) | exact H
   have Ny328 := Ah hy328
   clear hy328
   have H' := Ah H
   clear H
   go_wp2_with (first | ((with_reducible refine gate_dst (N := 19) rfl ?_); (try (refine gate_guard (by rfl) ?_; dsimp only)); refine Kd.R_lit k71 _ 71 ?hg (N := 19) ?hd (xs := ([] : List (S71))) (inner := []) (ok := fun _ => True) (okp := fun _ => True) ?hr ?hp (fun _ hk => hk) trivial (Below.refl _ _) (Nat.le_refl _) (by simp) ?_; (case hd => rfl); (case hg => rfl); (case hr => first | (go_simp; done) | (go_simp; rfl)); (case hp => exact (Reps.none _ _)); intro v329 w12 ho13 hb hg_ hnew_; clear hg_ hnew_; (first | rw [← Ny328.out] at ho13 | (simp only [Int.reduceToNat] at ho13; rw [← Ny328.out] at ho13)); have HO330 := Ah (Kd.R_lower ho13 (below_size (bs1 HB GE326))); replace BK326 := nb BK326 hb; replace HB := Ah (below_step (bs1 HB GE326) hb); clear hb ho13))
   go_loopg [6, 22] kj2 (fun kq v6 v22 w' => ∃ (x6_2 : List (S71)) (x22_2 : Int), v22 = .int .i64 x22_2 ∧ Aside0 (impl_intentsOf.l0 kq x6_2 l1 (l1.length : Int) x22_2 a0_0 l0_1 l0_2 = some (r1, r2)) ∧ Aside0 (kq ≤ kj2) ∧ Aside0 (Kd.R k71 71 w' w.heap.size (fun _ => True) v6 x6_2) ∧ Aside0 (w'.heap[gb326]? = some (.cells #[.int .i64 a0_0, (.slice A0_1 l0_1.length c0_1), (.slice A0_2 l0_2.length c0_2)] 24 (0, 0))) ∧ Aside0 (Below w.heap.size w w'))
   case atStart => exact ⟨(y328), (0), e3, H', ⟨Nat.le_refl _⟩, ⟨rr HO330.out⟩, ⟨bk BK326⟩, ⟨bs1 HB GE326⟩⟩
   case round =>
    clear H'
    try clear c1
    try clear p2
    try clear c6
    try clear c7
    try clear c11
    try clear hcz7_0 hcz7_1 hcz7_2
    try clear hcz9_0 hcz9_1 hcz9_2
    try clear hfz7_0 hfz7_1 hfz7_2
    try clear hfz9_0 hfz9_1 hfz9_2
    try clear p2
    obtain ⟨x6_2, x22_2, rfl, HA, HK2, HO_6, BK326, HB⟩ := hrel
    cases gk with
    | zero => exact absurd HA.out (by simp [impl_intentsOf.l0])
    | succ k2 =>
     have H := HA.out
     clear HA
     simp only [impl_intentsOf.l0] at H
     by_cases c14 : x22_2 < (l1.length : Int)
     rotate_left
     ·
      rw [if_neg c14] at H
      have c14b0 : decide (x22_2 < (l1.length : Int)) = false := decide_eq_false c14
      clear c14
      simp only [Option.some.injEq, Prod.mk.injEq] at H
      obtain ⟨rfl, rfl⟩ := H
      go_wp2
      go_ret2
      exact ⟨_, er, by (with_reducible repeat (first | apply Kd.R_alloc | apply Kd.R_drewN | apply Kd.R_drew)); exact HO_6.out, bs1 HB GE326⟩
     rw [if_pos c14] at H
     have c14b0 : decide (x22_2 < (l1.length : Int)) = true := decide_eq_true c14
     clear c14
     by_cases c15 : 0 ≤ x22_2
     rotate_left
     ·
      rw [if_neg c15] at H
      exact absurd H (by simp)
     rw [if_pos c15] at H
     have c15b0 : decide (0 ≤ x22_2) = true := decide_eq_true c15
     clear c15
     by_cases c16 : x22_2 < (l1.length : Int)
     rotate_left
     ·
      rw [if_neg c16] at H
      exact absurd H (by simp)
     rw [if_pos c16] at H
     have c16b0 : decide (x22_2 < (l1.length : Int)) = true := decide_eq_true c16
     clear c16
     by_cases c17 : ((rd_T71 l1 x22_2).f0) = 2
     rotate_left
     ·
      rw [if_neg c17] at H
      have c17b0 : (((rd_T71 l1 x22_2).f0) == 2) = false := beq_eq_false_iff_ne.mpr c17
      have c17b1 : (((rd_T71 l1 x22_2).f0) != 2) = true := bne_iff_ne.mpr c17
      by_cases c54 : ((rd_T71 l1 x22_2).f0) = 1
      rotate_left
      ·
       rw [if_neg c54] at H
       have c54b0 : (((rd_T71 l1 x22_2).f0) == 1) = false := beq_eq_false_iff_ne.mpr c54
       have c54b1 : (((rd_T71 l1 x22_2).f0) != 1) = true := bne_iff_ne.mpr c54
       simp only [Option.some.injEq, Prod.mk.injEq] at H
       obtain ⟨rfl, rfl⟩ := H
       have p331 : 0 ≤ (x22_2 : Int) := od
       have q331 : x22_2 < (l1.length : Int) := od
       obtain ⟨ad331, e331, hx331_0, hx331_1, hx331_2, hx331_3, hx331_4⟩ := at_T71 HR1.out x22_2 p331 q331
       cases e331
       replace hx331_0 := (HB.out.cell (World.block_lt_of_cell? w _ hx331_0)).trans hx331_0
       replace hx331_1 := (HB.out.cell (World.block_lt_of_cell? w _ hx331_1)).trans hx331_1
       replace hx331_2 := (HB.out.cell (World.block_lt_of_cell? w _ hx331_2)).trans hx331_2
       replace hx331_3 := (HB.out.cell (World.block_lt_of_cell? w _ hx331_3)).trans hx331_3
       replace hx331_4 := (HB.out.cell (World.block_lt_of_cell? w _ hx331_4)).trans hx331_4
       replace p331 := eq_true p331
       replace q331 := eq_true q331
       go_wp2_with (first | ((with_reducible refine gate_dst (N := 8) rfl ?_); (try (refine gate_guard (by rfl) ?_; dsimp only)); refine boxL 8 71 #[.int .i64 0, .int .i64 0, .int .i64 0, .int .i64 0, .int .i64 0] ?_; intro gb332 hg w105 BK332 hb; replace HO_6 := Ah (Kd.R_below (Kd.R_elderB (rr HO_6.out) gb332 (Nat.le_of_eq hg.symm)) hb); have GW332 := gw hg (bs1 HB GE326); have GE332 := gw hg (bs1 HB GE326); replace HB := Ah (below_step (bs1 HB GE326) hb); have NB326_332 := nn BK326 hg; have NB332_326 := nm BK326 hg; replace BK326 := nb BK326 hb; clear hb hg; have hnb106 := NB332_326.out; have hnc106 := NB326_332.out; obtain ⟨hcz107_0, hcz107_1, hcz107_2, hcz107_3, hcz107_4⟩ := cz5 BK332; obtain ⟨hfz107_0, hfz107_1, hfz107_2, hfz107_3, hfz107_4⟩ := fz5 BK332))
       go_ret2
       exact ⟨_, er, by first | exact Kd.R_nil _ _ _ _ _ | exact Kd.N_nil _ _ _ _ _ | exact Kd.V_nil _ _ _ _ _ | exact Kd.Q_nil _ _ _ _ _ | exact Kd.S_nil _ _ _ _ _, bs2 HB GE326 GE332⟩
      rw [if_pos c54] at H
      have c54b0 : (((rd_T71 l1 x22_2).f0) == 1) = true := beq_iff_eq.mpr c54
      have c54b1 : (((rd_T71 l1 x22_2).f0) != 1) = false := bne_eq_false_iff_eq.mpr c54
      clear c54
      by_cases c55 : ((rd_T71 l1 x22_2).f1) = (wrap64 ((x6_2.length : Int) + 1))
      rotate_left
      ·
       rw [if_neg c55] at H
       have c55b0 : (((rd_T71 l1 x22_2).f1) == (wrap64 ((x6_2.length : Int) + 1))) = false := beq_eq_false_iff_ne.mpr c55
       have c55b1 : (((rd_T71 l1 x22_2).f1) != (wrap64 ((x6_2.length : Int) + 1))) = true := bne_iff_ne.mpr c55
       simp only [Option.some.injEq, Prod.mk.injEq] at H
       obtain ⟨rfl, rfl⟩ := H
       have p331 : 0 ≤ (x22_2 : Int) := od
       have q331 : x22_2 < (l1.length : Int) := od
       obtain ⟨ad331, e331, hx331_0, hx331_1, hx331_2, hx331_3, hx331_4⟩ := at_T71 HR1.out x22_2 p331 q331
       cases e331
       replace hx331_0 := (HB.out.cell (World.block_lt_of_cell? w _ hx331_0)).trans hx331_0
       replace hx331_1 := (HB.out.cell (World.block_lt_of_cell? w _ hx331_1)).trans hx331_1
       replace hx331_2 := (HB.out.cell (World.block_lt_of_cell? w _ hx331_2)).trans hx331_2
       replace hx331_3 := (HB.out.cell (World.block_lt_of_cell? w _ hx331_3)).trans hx331_3
       replace hx331_4 := (HB.out.cell (World.block_lt_of_cell? w _ hx331_4)).trans hx331_4
       replace p331 := eq_true p331
       replace q331 := eq_true q331
       go_wp2_with (first | ((with_reducible refine gate_dst (N := 8) rfl ?_); (try (refine gate_guard (by rfl) ?_; dsimp only)); refine boxL 8 71 #[.int .i64 0, .int .i64 0, .int .i64 0, .int .i64 0, .int .i64 0] ?_; intro gb332 hg w101 BK332 hb; replace HO_6 := Ah (Kd.R_below (Kd.R_elderB (rr HO_6.out) gb332 (Nat.le_of_eq hg.symm)) hb); have GW332 := gw hg (bs1 HB GE326); have GE332 := gw hg (bs1 HB GE326); replace HB := Ah (below_step (bs1 HB GE326) hb); have NB326_332 := nn BK326 hg; have NB332_326 := nm BK326 hg; replace BK326 := nb BK326 hb; clear hb hg; have hnb102 := NB332_326.out; have hnc102 := NB326_332.out; obtain ⟨hcz103_0, hcz103_1, hcz103_2, hcz103_3, hcz103_4⟩ := cz5 BK332; obtain ⟨hfz103_0, hfz103_1, hfz103_2, hfz103_3, hfz103_4⟩ := fz5 BK332; obtain ⟨Ao104, co104, eo104⟩ := Kd.R_slice HO_6.out; subst eo104))
       go_ret2
       exact ⟨_, er, by first | exact Kd.R_nil _ _ _ _ _ | exact Kd.N_nil _ _ _ _ _ | exact Kd.V_nil _ _ _ _ _ | exact Kd.Q_nil _ _ _ _ _ | exact Kd.S_nil _ _ _ _ _, bs2 HB GE326 GE332⟩
      rw [if_pos c55] at H
      have c55b0 : (((rd_T71 l1 x22_2).f1) == (wrap64 ((x6_2.length : Int) + 1))) = true := beq_iff_eq.mpr c55
      have c55b1 : (((rd_T71 l1 x22_2).f1) != (wrap64 ((x6_2.length : Int) + 1))) = false := bne_eq_false_iff_eq.mpr c55
      clear c55
      by_cases c56 : ((rd_T71 l1 x22_2).f3) = 0
      rotate_left
      ·
       rw [if_neg c56] at H
       have c56b0 : (((rd_T71 l1 x22_2).f3) == 0) = false := beq_eq_false_iff_ne.mpr c56
       have c56b1 : (((rd_T71 l1 x22_2).f3) != 0) = true := bne_iff_ne.mpr c56
       simp only [Option.some.injEq, Prod.mk.injEq] at H
       obtain ⟨rfl, rfl⟩ := H
       have p331 : 0 ≤ (x22_2 : Int) := od
       have q331 : x22_2 < (l1.length : Int) := od
       obtain ⟨ad331, e331, hx331_0, hx331_1, hx331_2, hx331_3, hx331_4⟩ := at_T71 HR1.out x22_2 p331 q331
       cases e331
       replace hx331_0 := (HB.out.cell (World.block_lt_of_cell? w _ hx331_0)).trans hx331_0
       replace hx331_1 := (HB.out.cell (World.block_lt_of_cell? w _ hx331_1)).trans hx331_1
       replace hx331_2 := (HB.out.cell (World.block_lt_of_cell? w _ hx331_2)).trans hx331_2
       replace hx331_3 := (HB.out.cell (World.block_lt_of_cell? w _ hx331_3)).trans hx331_3
       replace hx331_4 := (HB.out.cell (World.block_lt_of_cell? w _ hx331_4)).trans hx331_4
       replace p331 := eq_true p331
       replace q331 := eq_true q331
       go_wp2_with (first | ((with_reducible refine gate_dst (N := 8) rfl ?_); (try (refine gate_guard (by rfl) ?_; dsimp only)); refine boxL 8 71 #[.int .i64 0, .int .i64 0, .int .i64 0, .int .i64 0, .int .i64 0] ?_; intro gb332 hg w97 BK332 hb; replace HO_6 := Ah (Kd.R_below (Kd.R_elderB (rr HO_6.out) gb332 (Nat.le_of_eq hg.symm)) hb); have GW332 := gw hg (bs1 HB GE326); have GE332 := gw hg (bs1 HB GE326); replace HB := Ah (below_step (bs1 HB GE326) hb); have NB326_332 := nn BK326 hg; have NB332_326 := nm BK326 hg; replace BK326 := nb BK326 hb; clear hb hg; have hnb98 := NB332_326.out; have hnc98 := NB326_332.out; obtain ⟨hcz99_0, hcz99_1, hcz99_2, hcz99_3, hcz99_4⟩ := cz5 BK332; obtain ⟨hfz99_0, hfz99_1, hfz99_2, hfz99_3, hfz99_4⟩ := fz5 BK332; obtain ⟨Ao100, co100, eo100⟩ := Kd.R_slice HO_6.out; subst eo100))
       go_ret2
       exact ⟨_, er, by first | exact Kd.R_nil _ _ _ _ _ | exact Kd.N_nil _ _ _ _ _ | exact Kd.V_nil _ _ _ _ _ | exact Kd.Q_nil _ _ _ _ _ | exact Kd.S_nil _ _ _ _ _, bs2 HB GE326 GE332⟩
      rw [if_pos c56] at H
      have c56b0 : (((rd_T71 l1 x22_2).f3) == 0) = true := beq_iff_eq.mpr c56
      have c56b1 : (((rd_T71 l1 x22_2).f3) != 0) = false := bne_eq_false_iff_eq.mpr c56
      clear c56
      replace H := Option.bind_eq_some_iff.mp H
      obtain ⟨t338, A570, H⟩ := H
      try dsimp only at H
      have A57 := Ah A570
      clear A570
      by_cases c58 : t338 = true
      rotate_left
      ·
       replace c58 := Bool.eq_false_iff.mpr c58
       subst c58
       rw [if_neg fne] at H
       simp only [Option.some.injEq, Prod.mk.injEq] at H
       obtain ⟨rfl, rfl⟩ := H
       have p331 : 0 ≤ (x22_2 : Int) := od
       have q331 : x22_2 < (l1.length : Int) := od
       obtain ⟨ad331, e331, hx331_0, hx331_1, hx331_2, hx331_3, hx331_4⟩ := at_T71 HR1.out x22_2 p331 q331
       cases e331
       replace hx331_0 := (HB.out.cell (World.block_lt_of_cell? w _ hx331_0)).trans hx331_0
       replace hx331_1 := (HB.out.cell (World.block_lt_of_cell? w _ hx331_1)).trans hx331_1
       replace hx331_2 := (HB.out.cell (World.block_lt_of_cell? w _ hx331_2)).trans hx331_2
       replace hx331_3 := (HB.out.cell (World.block_lt_of_cell? w _ hx331_3)).trans hx331_3
       replace hx331_4 := (HB.out.cell (World.block_lt_of_cell? w _ hx331_4)).trans hx331_4
       replace p331 := eq_true p331
       replace q331 := eq_true q331
       go_wp2_with (first | ((with_reducible refine gate_dst (N := 8) rfl ?_); (try (refine gate_guard (by rfl) ?_; dsimp only)); refine boxL 8 71 #[.int .i64 0, .int .i64 0, .int .i64 0, .int .i64 0, .int .i64 0] ?_; intro gb332 hg w91 BK332 hb; replace HO_6 := Ah (Kd.R_below (Kd.R_elderB (rr HO_6.out) gb332 (Nat.le_of_eq hg.symm)) hb); have GW332 := gw hg (bs1 HB GE326); have GE332 := gw hg (bs1 HB GE326); replace HB := Ah (below_step (bs1 HB GE326) hb); have NB326_332 := nn BK326 hg; have NB332_326 := nm BK326 hg; replace BK326 := nb BK326 hb; clear hb hg; have hnb92 := NB332_326.out; have hnc92 := NB326_332.out; obtain ⟨hcz93_0, hcz93_1, hcz93_2, hcz93_3, hcz93_4⟩ := cz5 BK332; obtain ⟨hfz93_0, hfz93_1, hfz93_2, hfz93_3, hfz93_4⟩ := fz5 BK332; obtain ⟨Ao94, co94, eo94⟩ := Kd.R_slice HO_6.out; subst eo94; obtain ⟨hcz95_0, hcz95_1, hcz95_2⟩ := cz3 BK326; obtain ⟨hfz95_0, hfz95_1, hfz95_2⟩ := fz3 BK326) | (go_at_call 78; (with_reducible refine (impl_isExtent.calls ((rd_T71 l1 x22_2).f2.f0) ((rd_T71 l1 x22_2).f2.f1) a0_0 false _ A57.out).mono ?_); rintro e w96 ⟨rfl, hb⟩; replace HO_6 := Ah (Kd.R_below (by (with_reducible repeat (first | apply Kd.R_alloc | apply Kd.R_drewN | apply Kd.R_drew)); exact (Kd.R_mono (Kd.R_far (p := ⟨gb332, 4, none⟩) (Kd.R_far (p := ⟨gb332, 3, none⟩) (Kd.R_far (p := ⟨gb332, 2, none⟩) (Kd.R_far (p := ⟨gb332, 1, none⟩) (Kd.R_far (p := ⟨gb332, 0, none⟩) (Kd.R_mono HO_6.out (fun k_ hk => (⟨hk, hk.2⟩ : _ ∧ k_ ≠ gb332))) (fun _ hk => hk.2) (.int .i64 ((rd_T71 l1 x22_2).f0))) (fun _ hk => hk.2) (.int .i64 ((rd_T71 l1 x22_2).f1))) (fun _ hk => hk.2) (.int .i64 ((rd_T71 l1 x22_2).f2.f0))) (fun _ hk => hk.2) (.int .i64 ((rd_T71 l1 x22_2).f2.f1))) (fun _ hk => hk.2) (.int .i64 ((rd_T71 l1 x22_2).f3))) (fun _ h_ => h_.1))) hb); replace BK326 := Ah (blk_below (bf BK326 NB326_332) hb); replace BK332 := Ah (blk_below (g := gb332) (o := .cells #[.int .i64 ((rd_T71 l1 x22_2).f0), .int .i64 ((rd_T71 l1 x22_2).f1), .int .i64 ((rd_T71 l1 x22_2).f2.f0), .int .i64 ((rd_T71 l1 x22_2).f2.f1), .int .i64 ((rd_T71 l1 x22_2).f3)] 71 (0, 0)) (by (with_reducible repeat (first | refine blk_drewN ?_ _ | refine blk_drew ?_ | refine blk_alloc ?_ _)); refine blk_put (cs := #[.int .i64 ((rd_T71 l1 x22_2).f0), .int .i64 ((rd_T71 l1 x22_2).f1), .int .i64 ((rd_T71 l1 x22_2).f2.f0), .int .i64 ((rd_T71 l1 x22_2).f2.f1), .int .i64 0]) ?_ 4 _ rfl; (with_reducible repeat (first | refine blk_drewN ?_ _ | refine blk_drew ?_ | refine blk_alloc ?_ _)); refine blk_put (cs := #[.int .i64 ((rd_T71 l1 x22_2).f0), .int .i64 ((rd_T71 l1 x22_2).f1), .int .i64 ((rd_T71 l1 x22_2).f2.f0), .int .i64 0, .int .i64 0]) ?_ 3 _ rfl; (with_reducible repeat (first | refine blk_drewN ?_ _ | refine blk_drew ?_ | refine blk_alloc ?_ _)); refine blk_put (cs := #[.int .i64 ((rd_T71 l1 x22_2).f0), .int .i64 ((rd_T71 l1 x22_2).f1), .int .i64 0, .int .i64 0, .int .i64 0]) ?_ 2 _ rfl; (with_reducible repeat (first | refine blk_drewN ?_ _ | refine blk_drew ?_ | refine blk_alloc ?_ _)); refine blk_put (cs := #[.int .i64 ((rd_T71 l1 x22_2).f0), .int .i64 0, .int .i64 0, .int .i64 0, .int .i64 0]) ?_ 1 _ rfl; (with_reducible repeat (first | refine blk_drewN ?_ _ | refine blk_drew ?_ | refine blk_alloc ?_ _)); refine blk_put (cs := #[.int .i64 0, .int .i64 0, .int .i64 0, .int .i64 0, .int .i64 0]) ?_ 0 _ rfl; (with_reducible repeat (first | refine blk_drewN ?_ _ | refine blk_drew ?_ | refine blk_alloc ?_ _)); exact BK332.out) hb); replace HB := Ah (below_step (bs2 HB GE326 GE332) hb); (try clear hb hk)))
       go_ret2
       exact ⟨_, er, by first | exact Kd.R_nil _ _ _ _ _ | exact Kd.N_nil _ _ _ _ _ | exact Kd.V_nil _ _ _ _ _ | exact Kd.Q_nil _ _ _ _ _ | exact Kd.S_nil _ _ _ _ _, bs2 HB GE326 GE332⟩
      subst c58
      rw [if_pos rfl] at H
      replace H := Option.bind_eq_some_iff.mp H
      obtain ⟨t339, A590, H⟩ := H
      try dsimp only at H
      have A59 := Ah A590
      clear A590
      by_cases c60 : t339 = true
      ·
       subst c60
       rw [if_pos rfl] at H
       simp only [Option.some.injEq, Prod.mk.injEq] at H
       obtain ⟨rfl, rfl⟩ := H
       have p331 : 0 ≤ (x22_2 : Int) := od
       have q331 : x22_2 < (l1.length : Int) := od
       obtain ⟨ad331, e331, hx331_0, hx331_1, hx331_2, hx331_3, hx331_4⟩ := at_T71 HR1.out x22_2 p331 q331
       cases e331
       replace hx331_0 := (HB.out.cell (World.block_lt_of_cell? w _ hx331_0)).trans hx331_0
       replace hx331_1 := (HB.out.cell (World.block_lt_of_cell? w _ hx331_1)).trans hx331_1
       replace hx331_2 := (HB.out.cell (World.block_lt_of_cell? w _ hx331_2)).trans hx331_2
       replace hx331_3 := (HB.out.cell (World.block_lt_of_cell? w _ hx331_3)).trans hx331_3
       replace hx331_4 := (HB.out.cell (World.block_lt_of_cell? w _ hx331_4)).trans hx331_4
       replace p331 := eq_true p331
       replace q331 := eq_true q331
       go_wp2_with (first | ((with_reducible refine gate_dst (N := 8) rfl ?_); (try (refine gate_guard (by rfl) ?_; dsimp only)); refine boxL 8 71 #[.int .i64 0, .int .i64 0, .int .i64 0, .int .i64 0, .int .i64 0] ?_; intro gb332 hg w61 BK332 hb; replace HO_6 := Ah (Kd.R_below (Kd.R_elderB (rr HO_6.out) gb332 (Nat.le_of_eq hg.symm)) hb); have GW332 := gw hg (bs1 HB GE326); have GE332 := gw hg (bs1 HB GE326); replace HB := Ah (below_step (bs1 HB GE326) hb); have NB326_332 := nn BK326 hg; have NB332_326 := nm BK326 hg; replace BK326 := nb BK326 hb; clear hb hg; have hnb62 := NB332_326.out; have hnc62 := NB326_332.out; obtain ⟨hcz63_0, hcz63_1, hcz63_2, hcz63_3, hcz63_4⟩ := cz5 BK332; obtain ⟨hfz63_0, hfz63_1, hfz63_2, hfz63_3, hfz63_4⟩ := fz5 BK332; obtain ⟨Ao64, co64, eo64⟩ := Kd.R_slice HO_6.out; subst eo64; obtain ⟨hcz65_0, hcz65_1, hcz65_2⟩ := cz3 BK326; obtain ⟨hfz65_0, hfz65_1, hfz65_2⟩ := fz3 BK326) | (go_at_call 78; (with_reducible refine (impl_isExtent.calls ((rd_T71 l1 x22_2).f2.f0) ((rd_T71 l1 x22_2).f2.f1) a0_0 true _ A57.out).mono ?_); rintro e w66 ⟨rfl, hb⟩; replace HO_6 := Ah (Kd.R_below (by (with_reducible repeat (first | apply Kd.R_alloc | apply Kd.R_drewN | apply Kd.R_drew)); exact (Kd.R_mono (Kd.R_far (p := ⟨gb332, 4, none⟩) (Kd.R_far (p := ⟨gb332, 3, none⟩) (Kd.R_far (p := ⟨gb332, 2, none⟩) (Kd.R_far (p := ⟨gb332, 1, none⟩) (Kd.R_far (p := ⟨gb332, 0, none⟩) (Kd.R_mono HO_6.out (fun k_ hk => (⟨hk, hk.2⟩ : _ ∧ k_ ≠ gb332))) (fun _ hk => hk.2) (.int .i64 ((rd_T71 l1 x22_2).f0))) (fun _ hk => hk.2) (.int .i64 ((rd_T71 l1 x22_2).f1))) (fun _ hk => hk.2) (.int .i64 ((rd_T71 l1 x22_2).f2.f0))) (fun _ hk => hk.2) (.int .i64 ((rd_T71 l1 x22_2).f2.f1))) (fun _ hk => hk.2) (.int .i64 ((rd_T71 l1 x22_2).f3))) (fun _ h_ => h_.1))) hb); replace BK326 := Ah (blk_below (bf BK326 NB326_332) hb); replace BK332 := Ah (blk_below (g := gb332) (o := .cells #[.int .i64 ((rd_T71 l1 x22_2).f0), .int .i64 ((rd_T71 l1 x22_2).f1), .int .i64 ((rd_T71 l1 x22_2).f2.f0), .int .i64 ((rd_T71 l1 x22_2).f2.f1), .int .i64 ((rd_T71 l1 x22_2).f3)] 71 (0, 0)) (by (with_reducible repeat (first | refine blk_drewN ?_ _ | refine blk_drew ?_ | refine blk_alloc ?_ _)); refine blk_put (cs := #[.int .i64 ((rd_T71 l1 x22_2).f0), .int .i64 ((rd_T71 l1 x22_2).f1), .int .i64 ((rd_T71 l1 x22_2).f2.f0), .int .i64 ((rd_T71 l1 x22_2).f2.f1), .int .i64 0]) ?_ 4 _ rfl; (with_reducible repeat (first | refine blk_drewN ?_ _ | refine blk_drew ?_ | refine blk_alloc ?_ _)); refine blk_put (cs := #[.int .i64 ((rd_T71 l1 x22_2).f0), .int .i64 ((rd_T71 l1 x22_2).f1), .int .i64 ((rd_T71 l1 x22_2).f2.f0), .int .i64 0, .int .i64 0]) ?_ 3 _ rfl; (with_reducible repeat (first | refine blk_drewN ?_ _ | refine blk_drew ?_ | refine blk_alloc ?_ _)); refine blk_put (cs := #[.int .i64 ((rd_T71 l1 x22_2).f0), .int .i64 ((rd_T71 l1 x22_2).f1), .int .i64 0, .int .i64 0, .int .i64 0]) ?_ 2 _ rfl; (with_reducible repeat (first | refine blk_drewN ?_ _ | refine blk_drew ?_ | refine blk_alloc ?_ _)); refine blk_put (cs := #[.int .i64 ((rd_T71 l1 x22_2).f0), .int .i64 0, .int .i64 0, .int .i64 0, .int .i64 0]) ?_ 1 _ rfl; (with_reducible repeat (first | refine blk_drewN ?_ _ | refine blk_drew ?_ | refine blk_alloc ?_ _)); refine blk_put (cs := #[.int .i64 0, .int .i64 0, .int .i64 0, .int .i64 0, .int .i64 0]) ?_ 0 _ rfl; (with_reducible repeat (first | refine blk_drewN ?_ _ | refine blk_drew ?_ | refine blk_alloc ?_ _)); exact BK332.out) hb); replace HB := Ah (below_step (bs2 HB GE326 GE332) hb); (try clear hb hk)) | (go_at_call 79; (with_reducible refine (slices_ContainsFunc_impl_Item_at_impl_intentsOf_1.calls k2 _ _ x6_2 gb332 ((rd_T71 l1 x22_2).f0) ((rd_T71 l1 x22_2).f1) ((rd_T71 l1 x22_2).f2.f0) ((rd_T71 l1 x22_2).f2.f1) ((rd_T71 l1 x22_2).f3) true _ ?side1 ?side2 ?side3 A59.out).mono ?_); (case side1 => exact rc0 HO_6); (case side2 => exact (Kd.R_reads' HO_6.out).2.1); (case side3 => (with_reducible repeat (first | refine blk_drewN ?_ _ | refine blk_drew ?_ | refine blk_alloc ?_ _)); exact BK332.out); rintro e w67 ⟨rfl, hb⟩; replace HO_6 := nr HO_6 hb; replace BK326 := nb BK326 hb; replace BK332 := nb BK332 hb; replace HB := Ah (below_step (bs2 HB GE326 GE332) hb); (try clear hb)))
       go_ret2
       exact ⟨_, er, by first | exact Kd.R_nil _ _ _ _ _ | exact Kd.N_nil _ _ _ _ _ | exact Kd.V_nil _ _ _ _ _ | exact Kd.Q_nil _ _ _ _ _ | exact Kd.S_nil _ _ _ _ _, bs2 HB GE326 GE332⟩
      replace c60 := Bool.eq_false_iff.mpr c60
      subst c60
      rw [if_neg fne] at H
      replace H := Option.bind_eq_some_iff.mp H
      obtain ⟨t340, A680, H⟩ := H
      try dsimp only at H
      have A68 := Ah A680
      clear A680
      by_cases c69 : t340 = true
      ·
       subst c69
       rw [if_pos rfl] at H
       simp only [Option.some.injEq, Prod.mk.injEq] at H
       obtain ⟨rfl, rfl⟩ := H
       have p331 : 0 ≤ (x22_2 : Int) := od
       have q331 : x22_2 < (l1.length : Int) := od
       obtain ⟨ad331, e331, hx331_0, hx331_1, hx331_2, hx331_3, hx331_4⟩ := at_T71 HR1.out x22_2 p331 q331
       cases e331
       replace hx331_0 := (HB.out.cell (World.block_lt_of_cell? w _ hx331_0)).trans hx331_0
       replace hx331_1 := (HB.out.cell (World.block_lt_of_cell? w _ hx331_1)).trans hx331_1
       replace hx331_2 := (HB.out.cell (World.block_lt_of_cell? w _ hx331_2)).trans hx331_2
       replace hx331_3 := (HB.out.cell (World.block_lt_of_cell? w _ hx331_3)).trans hx331_3
       replace hx331_4 := (HB.out.cell (World.block_lt_of_cell? w _ hx331_4)).trans hx331_4
       replace p331 := eq_true p331
       replace q331 := eq_true q331
       go_wp2_with (first | ((with_reducible refine gate_dst (N := 8) rfl ?_); (try (refine gate_guard (by rfl) ?_; dsimp only)); refine boxL 8 71 #[.int .i64 0, .int .i64 0, .int .i64 0, .int .i64 0, .int .i64 0] ?_; intro gb332 hg w70 BK332 hb; replace HO_6 := Ah (Kd.R_below (Kd.R_elderB (rr HO_6.out) gb332 (Nat.le_of_eq hg.symm)) hb); have GW332 := gw hg (bs1 HB GE326); have GE332 := gw hg (bs1 HB GE326); replace HB := Ah (below_step (bs1 HB GE326) hb); have NB326_332 := nn BK326 hg; have NB332_326 := nm BK326 hg; replace BK326 := nb BK326 hb; clear hb hg; have hnb71 := NB332_326.out; have hnc71 := NB326_332.out; obtain ⟨hcz72_0, hcz72_1, hcz72_2, hcz72_3, hcz72_4⟩ := cz5 BK332; obtain ⟨hfz72_0, hfz72_1, hfz72_2, hfz72_3, hfz72_4⟩ := fz5 BK332; obtain ⟨Ao73, co73, eo73⟩ := Kd.R_slice HO_6.out; subst eo73; obtain ⟨hcz74_0, hcz74_1, hcz74_2⟩ := cz3 BK326; obtain ⟨hfz74_0, hfz74_1, hfz74_2⟩ := fz3 BK326) | (go_at_call 78; (with_reducible refine (impl_isExtent.calls ((rd_T71 l1 x22_2).f2.f0) ((rd_T71 l1 x22_2).f2.f1) a0_0 true _ A57.out).mono ?_); rintro e w75 ⟨rfl, hb⟩; replace HO_6 := Ah (Kd.R_below (by (with_reducible repeat (first | apply Kd.R_alloc | apply Kd.R_drewN | apply Kd.R_drew)); exact (Kd.R_mono (Kd.R_far (p := ⟨gb332, 4, none⟩) (Kd.R_far (p := ⟨gb332, 3, none⟩) (Kd.R_far (p := ⟨gb332, 2, none⟩) (Kd.R_far (p := ⟨gb332, 1, none⟩) (Kd.R_far (p := ⟨gb332, 0, none⟩) (Kd.R_mono HO_6.out (fun k_ hk => (⟨hk, hk.2⟩ : _ ∧ k_ ≠ gb332))) (fun _ hk => hk.2) (.int .i64 ((rd_T71 l1 x22_2).f0))) (fun _ hk => hk.2) (.int .i64 ((rd_T71 l1 x22_2).f1))) (fun _ hk => hk.2) (.int .i64 ((rd_T71 l1 x22_2).f2.f0))) (fun _ hk => hk.2) (.int .i64 ((rd_T71 l1 x22_2).f2.f1))) (fun _ hk => hk.2) (.int .i64 ((rd_T71 l1 x22_2).f3))) (fun _ h_ => h_.1))) hb); replace BK326 := Ah (blk_below (bf BK326 NB326_332) hb); replace BK332 := Ah (blk_below (g := gb332) (o := .cells #[.int .i64 ((rd_T71 l1 x22_2).f0), .int .i64 ((rd_T71 l1 x22_2).f1), .int .i64 ((rd_T71 l1 x22_2).f2.f0), .int .i64 ((rd_T71 l1 x22_2).f2.f1), .int .i64 ((rd_T71 l1 x22_2).f3)] 71 (0, 0)) (by (with_reducible repeat (first | refine blk_drewN ?_ _ | refine blk_drew ?_ | refine blk_alloc ?_ _)); refine blk_put (cs := #[.int .i64 ((rd_T71 l1 x22_2).f0), .int .i64 ((rd_T71 l1 x22_2).f1), .int .i64 ((rd_T71 l1 x22_2).f2.f0), .int .i64 ((rd_T71 l1 x22_2).f2.f1), .int .i64 0]) ?_ 4 _ rfl; (with_reducible repeat (first | refine blk_drewN ?_ _ | refine blk_drew ?_ | refine blk_alloc ?_ _)); refine blk_put (cs := #[.int .i64 ((rd_T71 l1 x22_2).f0), .int .i64 ((rd_T71 l1 x22_2).f1), .int .i64 ((rd_T71 l1 x22_2).f2.f0), .int .i64 0, .int .i64 0]) ?_ 3 _ rfl; (with_reducible repeat (first | refine blk_drewN ?_ _ | refine blk_drew ?_ | refine blk_alloc ?_ _)); refine blk_put (cs := #[.int .i64 ((rd_T71 l1 x22_2).f0), .int .i64 ((rd_T71 l1 x22_2).f1), .int .i64 0, .int .i64 0, .int .i64 0]) ?_ 2 _ rfl; (with_reducible repeat (first | refine blk_drewN ?_ _ | refine blk_drew ?_ | refine blk_alloc ?_ _)); refine blk_put (cs := #[.int .i64 ((rd_T71 l1 x22_2).f0), .int .i64 0, .int .i64 0, .int .i64 0, .int .i64 0]) ?_ 1 _ rfl; (with_reducible repeat (first | refine blk_drewN ?_ _ | refine blk_drew ?_ | refine blk_alloc ?_ _)); refine blk_put (cs := #[.int .i64 0, .int .i64 0, .int .i64 0, .int .i64 0, .int .i64 0]) ?_ 0 _ rfl; (with_reducible repeat (first | refine blk_drewN ?_ _ | refine blk_drew ?_ | refine blk_alloc ?_ _)); exact BK332.out) hb); replace HB := Ah (below_step (bs2 HB GE326 GE332) hb); (try clear hb hk)) | (go_at_call 79; (with_reducible refine (slices_ContainsFunc_impl_Item_at_impl_intentsOf_1.calls k2 _ _ x6_2 gb332 ((rd_T71 l1 x22_2).f0) ((rd_T71 l1 x22_2).f1) ((rd_T71 l1 x22_2).f2.f0) ((rd_T71 l1 x22_2).f2.f1) ((rd_T71 l1 x22_2).f3) false _ ?side1 ?side2 ?side3 A59.out).mono ?_); (case side1 => exact rc0 HO_6); (case side2 => exact (Kd.R_reads' HO_6.out).2.1); (case side3 => (with_reducible repeat (first | refine blk_drewN ?_ _ | refine blk_drew ?_ | refine blk_alloc ?_ _)); exact BK332.out); rintro e w76 ⟨rfl, hb⟩; replace HO_6 := nr HO_6 hb; replace BK326 := nb BK326 hb; replace BK332 := nb BK332 hb; replace HB := Ah (below_step (bs2 HB GE326 GE332) hb); (try clear hb); obtain ⟨hcz77_0, hcz77_1, hcz77_2⟩ := cz3 BK326; obtain ⟨hfz77_0, hfz77_1, hfz77_2⟩ := fz3 BK326) | (go_at_call 80; (with_reducible refine (slices_ContainsFunc_impl_Extent_at_impl_intentsOf_2.calls k2 _ _ l0_1 gb332 ((rd_T71 l1 x22_2).f0) ((rd_T71 l1 x22_2).f1) ((rd_T71 l1 x22_2).f2.f0) ((rd_T71 l1 x22_2).f2.f1) ((rd_T71 l1 x22_2).f3) true _ ?side1 ?side2 ?side3 A68.out).mono ?_); (case side1 => exact cb HR0_1 HB); (case side2 => exact HC0_1.out); (case side3 => (with_reducible repeat (first | refine blk_drewN ?_ _ | refine blk_drew ?_ | refine blk_alloc ?_ _)); exact BK332.out); rintro e w78 ⟨rfl, hb⟩; replace HO_6 := nr HO_6 hb; replace BK326 := nb BK326 hb; replace BK332 := nb BK332 hb; replace HB := Ah (below_step (bs2 HB GE326 GE332) hb); (try clear hb)))
       go_ret2
       exact ⟨_, er, by first | exact Kd.R_nil _ _ _ _ _ | exact Kd.N_nil _ _ _ _ _ | exact Kd.V_nil _ _ _ _ _ | exact Kd.Q_nil _ _ _ _ _ | exact Kd.S_nil _ _ _ _ _, bs2 HB GE326 GE332⟩
      replace c69 := Bool.eq_false_iff.mpr c69
      subst c69
      rw [if_neg fne] at H
      by_cases c79 : x6_2.length < 3518437208883
      rotate_left
      ·
       rw [if_neg c79] at H
       exact absurd H (by simp)
      rw [if_pos c79] at H
      have LMc79 := Ah c79
      clear c79
      obtain ⟨y341, hy341⟩ : ∃ y_ : List (S71), y_ = (x6_2 ++ [(⟨(rd_T71 l1 x22_2).f0, (rd_T71 l1 x22_2).f1, (⟨(rd_T71 l1 x22_2).f2.f0, (rd_T71 l1 x22_2).f2.f1⟩ : S53), (rd_T71 l1 x22_2).f3⟩ : S71)]) := ⟨_, rfl⟩
      replace H : (impl_intentsOf.l0 k2 y341 l1 (l1.length : Int) (wrap64 (x22_2 + 1)) a0_0 l0_1 l0_2) = some (r1, r2) := by first | (rw [hy341]; with_reducible exact H) | (have H2_ := (Option.bind_some _ _).symm.trans H; rw [hy341]; with_reducible exact H2_) | (have H2_ := (Option.bind_some _ _).symm.trans H; with_reducible exact H2_) | with_reducible exact H | (rw [hy341]; exact H) | exact H
      have Ny341 := Ah hy341
      clear hy341
      have H' := Ah H
      clear H
      have p331 : 0 ≤ (x22_2 : Int) := od
      have q331 : x22_2 < (l1.length : Int) := od
      obtain ⟨ad331, e331, hx331_0, hx331_1, hx331_2, hx331_3, hx331_4⟩ := at_T71 HR1.out x22_2 p331 q331
      cases e331
      replace hx331_0 := (HB.out.cell (World.block_lt_of_cell? w _ hx331_0)).trans hx331_0
      replace hx331_1 := (HB.out.cell (World.block_lt_of_cell? w _ hx331_1)).trans hx331_1
      replace hx331_2 := (HB.out.cell (World.block_lt_of_cell? w _ hx331_2)).trans hx331_2
      replace hx331_3 := (HB.out.cell (World.block_lt_of_cell? w _ hx331_3)).trans hx331_3
      replace hx331_4 := (HB.out.cell (World.block_lt_of_cell? w _ hx331_4)).trans hx331_4
      replace p331 := eq_true p331
      replace q331 := eq_true q331
      go_wp2_with (first | ((with_reducible refine gate_dst (N := 8) rfl ?_); (try (refine gate_guard (by rfl) ?_; dsimp only)); refine boxL 8 71 #[.int .i64 0, .int .i64 0, .int .i64 0, .int .i64 0, .int .i64 0] ?_; intro gb332 hg w80 BK332 hb; replace HO_6 := Ah (Kd.R_below (Kd.R_elderB (rr HO_6.out) gb332 (Nat.le_of_eq hg.symm)) hb); have GW332 := gw hg (bs1 HB GE326); have GE332 := gw hg (bs1 HB GE326); replace HB := Ah (below_step (bs1 HB GE326) hb); have NB326_332 := nn BK326 hg; have NB332_326 := nm BK326 hg; replace BK326 := nb BK326 hb; clear hb hg; have hnb81 := NB332_326.out; have hnc81 := NB326_332.out; obtain ⟨hcz82_0, hcz82_1, hcz82_2, hcz82_3, hcz82_4⟩ := cz5 BK332; obtain ⟨hfz82_0, hfz82_1, hfz82_2, hfz82_3, hfz82_4⟩ := fz5 BK332; obtain ⟨Ao83, co83, eo83⟩ := Kd.R_slice HO_6.out; subst eo83; obtain ⟨hcz84_0, hcz84_1, hcz84_2⟩ := cz3 BK326; obtain ⟨hfz84_0, hfz84_1, hfz84_2⟩ := fz3 BK326) | (go_at_call 78; (with_reducible refine (impl_isExtent.calls ((rd_T71 l1 x22_2).f2.f0) ((rd_T71 l1 x22_2).f2.f1) a0_0 true _ A57.out).mono ?_); rintro e w85 ⟨rfl, hb⟩; replace HO_6 := Ah (Kd.R_below (by (with_reducible repeat (first | apply Kd.R_alloc | apply Kd.R_drewN | apply Kd.R_drew)); exact (Kd.R_mono (Kd.R_far (p := ⟨gb332, 4, none⟩) (Kd.R_far (p := ⟨gb332, 3, none⟩) (Kd.R_far (p := ⟨gb332, 2, none⟩) (Kd.R_far (p := ⟨gb332, 1, none⟩) (Kd.R_far (p := ⟨gb332, 0, none⟩) (Kd.R_mono HO_6.out (fun k_ hk => (⟨hk, hk.2⟩ : _ ∧ k_ ≠ gb332))) (fun _ hk => hk.2) (.int .i64 ((rd_T71 l1 x22_2).f0))) (fun _ hk => hk.2) (.int .i64 ((rd_T71 l1 x22_2).f1))) (fun _ hk => hk.2) (.int .i64 ((rd_T71 l1 x22_2).f2.f0))) (fun _ hk => hk.2) (.int .i64 ((rd_T71 l1 x22_2).f2.f1))) (fun _ hk => hk.2) (.int .i64 ((rd_T71 l1 x22_2).f3))) (fun _ h_ => h_.1))) hb); replace BK326 := Ah (blk_below (bf BK326 NB326_332) hb); replace BK332 := Ah (blk_below (g := gb332) (o := .cells #[.int .i64 ((rd_T71 l1 x22_2).f0), .int .i64 ((rd_T71 l1 x22_2).f1), .int .i64 ((rd_T71 l1 x22_2).f2.f0), .int .i64 ((rd_T71 l1 x22_2).f2.f1), .int .i64 ((rd_T71 l1 x22_2).f3)] 71 (0, 0)) (by (with_reducible repeat (first | refine blk_drewN ?_ _ | refine blk_drew ?_ | refine blk_alloc ?_ _)); refine blk_put (cs := #[.int .i64 ((rd_T71 l1 x22_2).f0), .int .i64 ((rd_T71 l1 x22_2).f1), .int .i64 ((rd_T71 l1 x22_2).f2.f0), .int .i64 ((rd_T71 l1 x22_2).f2.f1), .int .i64 0]) ?_ 4 _ rfl; (with_reducible repeat (first | refine blk_drewN ?_ _ | refine blk_drew ?_ | refine blk_alloc ?_ _)); refine blk_put (cs := #[.int .i64 ((rd_T71 l1 x22_2).f0), .int .i64 ((rd_T71 l1 x22_2).f1), .int .i64 ((rd_T71 l1 x22_2).f2.f0), .int .i64 0, .int .i64 0]) ?_ 3 _ rfl; (with_reducible repeat (first | refine blk_drewN ?_ _ | refine blk_drew ?_ | refine blk_alloc ?_ _)); refine blk_put (cs := #[.int .i64 ((rd_T71 l1 x22_2).f0), .int .i64 ((rd_T71 l1 x22_2).f1), .int .i64 0, .int .i64 0, .int .i64 0]) ?_ 2 _ rfl; (with_reducible repeat (first | refine blk_drewN ?_ _ | refine blk_drew ?_ | refine blk_alloc ?_ _)); refine blk_put (cs := #[.int .i64 ((rd_T71 l1 x22_2).f0), .int .i64 0, .int .i64 0, .int .i64 0, .int .i64 0]) ?_ 1 _ rfl; (with_reducible repeat (first | refine blk_drewN ?_ _ | refine blk_drew ?_ | refine blk_alloc ?_ _)); refine blk_put (cs := #[.int .i64 0, .int .i64 0, .int .i64 0, .int .i64 0, .int .i64 0]) ?_ 0 _ rfl; (with_reducible repeat (first | refine blk_drewN ?_ _ | refine blk_drew ?_ | refine blk_alloc ?_ _)); exact BK332.out) hb); replace HB := Ah (below_step (bs2 HB GE326 GE332) hb); (try clear hb hk)) | (go_at_call 79; (with_reducible refine (slices_ContainsFunc_impl_Item_at_impl_intentsOf_1.calls k2 _ _ x6_2 gb332 ((rd_T71 l1 x22_2).f0) ((rd_T71 l1 x22_2).f1) ((rd_T71 l1 x22_2).f2.f0) ((rd_T71 l1 x22_2).f2.f1) ((rd_T71 l1 x22_2).f3) false _ ?side1 ?side2 ?side3 A59.out).mono ?_); (case side1 => exact rc0 HO_6); (case side2 => exact (Kd.R_reads' HO_6.out).2.1); (case side3 => (with_reducible repeat (first | refine blk_drewN ?_ _ | refine blk_drew ?_ | refine blk_alloc ?_ _)); exact BK332.out); rintro e w86 ⟨rfl, hb⟩; replace HO_6 := nr HO_6 hb; replace BK326 := nb BK326 hb; replace BK332 := nb BK332 hb; replace HB := Ah (below_step (bs2 HB GE326 GE332) hb); (try clear hb); obtain ⟨hcz87_0, hcz87_1, hcz87_2⟩ := cz3 BK326; obtain ⟨hfz87_0, hfz87_1, hfz87_2⟩ := fz3 BK326) | (go_at_call 80; (with_reducible refine (slices_ContainsFunc_impl_Extent_at_impl_intentsOf_2.calls k2 _ _ l0_1 gb332 ((rd_T71 l1 x22_2).f0) ((rd_T71 l1 x22_2).f1) ((rd_T71 l1 x22_2).f2.f0) ((rd_T71 l1 x22_2).f2.f1) ((rd_T71 l1 x22_2).f3) false _ ?side1 ?side2 ?side3 A68.out).mono ?_); (case side1 => exact cb HR0_1 HB); (case side2 => exact HC0_1.out); (case side3 => (with_reducible repeat (first | refine blk_drewN ?_ _ | refine blk_drew ?_ | refine blk_alloc ?_ _)); exact BK332.out); rintro e w88 ⟨rfl, hb⟩; replace HO_6 := nr HO_6 hb; replace BK326 := nb BK326 hb; replace BK332 := nb BK332 hb; replace HB := Ah (below_step (bs2 HB GE326 GE332) hb); (try clear hb); obtain ⟨hcz89_0, hcz89_1, hcz89_2, hcz89_3, hcz89_4⟩ := cz5 BK332; obtain ⟨hfz89_0, hfz89_1, hfz89_2, hfz89_3, hfz89_4⟩ := fz5 BK332) | ((with_reducible refine gate_builtin (b := .append) (xs := #[.tmp 108, .tmp 110]) rfl ?_); (try (refine gate_guard (by rfl) ?_; dsimp only)); at_builtin; refine Kd.R_append k71 (w0 := w) w.heap.size rfl (.tmp 108) (.tmp 110) 25 71 (.agg #[(.int .i64 0), (.int .i64 0), (.int .i64 0), (.int .i64 0), (.int .i64 0)]) 40 rfl Try.underlying25 info71 rfl (by decide) (by omega) (.slice Ao83 x6_2.length co83) x6_2 (⟨(rd_T71 l1 x22_2).f0, (rd_T71 l1 x22_2).f1, (⟨(rd_T71 l1 x22_2).f2.f0, (rd_T71 l1 x22_2).f2.f1⟩ : S53), (rd_T71 l1 x22_2).f3⟩ : S71) [.int .i64 ((rd_T71 l1 x22_2).f0), .int .i64 ((rd_T71 l1 x22_2).f1), .int .i64 ((rd_T71 l1 x22_2).f2.f0), .int .i64 ((rd_T71 l1 x22_2).f2.f1), .int .i64 ((rd_T71 l1 x22_2).f3)] (fun k_ => k_ ≠ gb332) (fun _ => False) rfl rfl ?aP (fun _ hk => hk.elim) ?aF ?aO ?aB ?aS ?aL ?_; (case aP => exact k71_mkM _ _ _ (⟨(rd_T71 l1 x22_2).f0, (rd_T71 l1 x22_2).f1, (⟨(rd_T71 l1 x22_2).f2.f0, (rd_T71 l1 x22_2).f2.f1⟩ : S53), (rd_T71 l1 x22_2).f3⟩ : S71)); (case aB => exact (bs2 HB GE326 GE332)); (case aF => exact (fun k_ hk => Kd.freshB (bk BK332) k_ hk)); (case aO => exact (by (with_reducible repeat (first | apply Kd.R_alloc | apply Kd.R_drewN | apply Kd.R_drew)); exact Kd.R_mono HO_6.out (fun _ hk => hk.2))); (case aS => exact (below_size (bs2 HB GE326 GE332))); (case aL => have := LMc79.out; omega); intro v342 w90 ho hb hg hat; rw [← Ny341.out] at ho; replace BK326 := Ah (blk_grown (bk BK326) hg (Kd.R_ne HO_6.out BK326.out (by decide))); replace BK332 := Ah (blk_grown (bk BK332) hg (Kd.R_away HO_6.out (fun _ hk => hk.2))); replace HB := Ah (hb); have HO343 := Ah (ho); clear HO_6; clear ho hb hg hat))
      go_roundg k2
      case measure => have := HJ2.out; have := HK2.out; omega
      case rel => exact ⟨(y341), (wrap64 (x22_2 + 1)), e3, H', ⟨by have := HJ2.out; have := HK2.out; omega⟩, rm HO343 (fun _ hk => trivial), ⟨bk BK326⟩, ⟨bs2 HB GE326 GE332⟩⟩
     rw [if_pos c17] at H
     have c17b0 : (((rd_T71 l1 x22_2).f0) == 2) = true := beq_iff_eq.mpr c17
     have c17b1 : (((rd_T71 l1 x22_2).f0) != 2) = false := bne_eq_false_iff_eq.mpr c17
     clear c17
     replace H := Option.bind_eq_some_iff.mp H
     obtain ⟨t333, A180, H⟩ := H
     try dsimp only at H
     have A18 := Ah A180
     clear A180
     by_cases c19 : t333 = true
     rotate_left
     ·
      replace c19 := Bool.eq_false_iff.mpr c19
      subst c19
      rw [if_neg fne] at H
      simp only [Option.some.injEq, Prod.mk.injEq] at H
      obtain ⟨rfl, rfl⟩ := H
      have p331 : 0 ≤ (x22_2 : Int) := od
      have q331 : x22_2 < (l1.length : Int) := od
      obtain ⟨ad331, e331, hx331_0, hx331_1, hx331_2, hx331_3, hx331_4⟩ := at_T71 HR1.out x22_2 p331 q331
      cases e331
      replace hx331_0 := (HB.out.cell (World.block_lt_of_cell? w _ hx331_0)).trans hx331_0
      replace hx331_1 := (HB.out.cell (World.block_lt_of_cell? w _ hx331_1)).trans hx331_1
      replace hx331_2 := (HB.out.cell (World.block_lt_of_cell? w _ hx331_2)).trans hx331_2
      replace hx331_3 := (HB.out.cell (World.block_lt_of_cell? w _ hx331_3)).trans hx331_3
      replace hx331_4 := (HB.out.cell (World.block_lt_of_cell? w _ hx331_4)).trans hx331_4
      replace p331 := eq_true p331
      replace q331 := eq_true q331
      try go_wp2_with (first | ((with_reducible refine gate_dst (N := 8) rfl ?_); (try (refine gate_guard (by rfl) ?_; dsimp only)); refine boxL 8 71 #[.int .i64 0, .int .i64 0, .int .i64 0, .int .i64 0, .int .i64 0] ?_; intro gb332 hg w48 BK332 hb; replace HO_6 := Ah (Kd.R_below (Kd.R_elderB (rr HO_6.out) gb332 (Nat.le_of_eq hg.symm)) hb); have GW332 := gw hg (bs1 HB GE326); have GE332 := gw hg (bs1 HB GE326); replace HB := Ah (below_step (bs1 HB GE326) hb); have NB326_332 := nn BK326 hg; have NB332_326 := nm BK326 hg; replace BK326 := nb BK326 hb; clear hb hg; have hnb49 := NB332_326.out; have hnc49 := NB326_332.out; obtain ⟨hcz50_0, hcz50_1, hcz50_2, hcz50_3, hcz50_4⟩ := cz5 BK332; obtain ⟨hfz50_0, hfz50_1, hfz50_2, hfz50_3, hfz50_4⟩ := fz5 BK332))
      have n0_ : Aside0 (Kd.R k71 71 (((((w48.setCell ⟨gb332, 0, none⟩ (.int .i64 ((rd_T71 l1 x22_2).f0))).setCell ⟨gb332, 1, none⟩ (.int .i64 ((rd_T71 l1 x22_2).f1))).setCell ⟨gb332, 2, none⟩ (.int .i64 ((rd_T71 l1 x22_2).f2.f0))).setCell ⟨gb332, 3, none⟩ (.int .i64 ((rd_T71 l1 x22_2).f2.f1))).setCell ⟨gb332, 4, none⟩ (.int .i64 ((rd_T71 l1 x22_2).f3))) w.heap.size (fun k_ => k_ ≠ gb332) u6 x6_2) := ⟨by (with_reducible repeat (first | apply Kd.R_alloc | apply Kd.R_drewN | apply Kd.R_drew)); exact Kd.R_mono (Kd.R_far (p := ⟨gb332, 4, none⟩) (Kd.R_far (p := ⟨gb332, 3, none⟩) (Kd.R_far (p := ⟨gb332, 2, none⟩) (Kd.R_far (p := ⟨gb332, 1, none⟩) (Kd.R_far (p := ⟨gb332, 0, none⟩) (Kd.R_mono HO_6.out (fun k_ hk => (⟨hk, hk.2⟩ : _ ∧ k_ ≠ gb332))) (fun _ hk => hk.2) (.int .i64 ((rd_T71 l1 x22_2).f0))) (fun _ hk => hk.2) (.int .i64 ((rd_T71 l1 x22_2).f1))) (fun _ hk => hk.2) (.int .i64 ((rd_T71 l1 x22_2).f2.f0))) (fun _ hk => hk.2) (.int .i64 ((rd_T71 l1 x22_2).f2.f1))) (fun _ hk => hk.2) (.int .i64 ((rd_T71 l1 x22_2).f3))) (fun _ hk => hk.1.2)⟩
      have n1_ : Aside0 ((((((w48.setCell ⟨gb332, 0, none⟩ (.int .i64 ((rd_T71 l1 x22_2).f0))).setCell ⟨gb332, 1, none⟩ (.int .i64 ((rd_T71 l1 x22_2).f1))).setCell ⟨gb332, 2, none⟩ (.int .i64 ((rd_T71 l1 x22_2).f2.f0))).setCell ⟨gb332, 3, none⟩ (.int .i64 ((rd_T71 l1 x22_2).f2.f1))).setCell ⟨gb332, 4, none⟩ (.int .i64 ((rd_T71 l1 x22_2).f3))).heap[gb326]? = some (.cells #[.int .i64 a0_0, .slice A0_1 l0_1.length c0_1, .slice A0_2 l0_2.length c0_2] 24 (0, 0))) := ⟨bf BK326 NB326_332⟩
      have n2_ : Aside0 ((((((w48.setCell ⟨gb332, 0, none⟩ (.int .i64 ((rd_T71 l1 x22_2).f0))).setCell ⟨gb332, 1, none⟩ (.int .i64 ((rd_T71 l1 x22_2).f1))).setCell ⟨gb332, 2, none⟩ (.int .i64 ((rd_T71 l1 x22_2).f2.f0))).setCell ⟨gb332, 3, none⟩ (.int .i64 ((rd_T71 l1 x22_2).f2.f1))).setCell ⟨gb332, 4, none⟩ (.int .i64 ((rd_T71 l1 x22_2).f3))).heap[gb332]? = some (.cells #[.int .i64 ((rd_T71 l1 x22_2).f0), .int .i64 ((rd_T71 l1 x22_2).f1), .int .i64 ((rd_T71 l1 x22_2).f2.f0), .int .i64 ((rd_T71 l1 x22_2).f2.f1), .int .i64 ((rd_T71 l1 x22_2).f3)] 71 (0, 0))) := ⟨by (with_reducible repeat (first | refine blk_drewN ?_ _ | refine blk_drew ?_ | refine blk_alloc ?_ _)); refine blk_put (cs := #[.int .i64 ((rd_T71 l1 x22_2).f0), .int .i64 ((rd_T71 l1 x22_2).f1), .int .i64 ((rd_T71 l1 x22_2).f2.f0), .int .i64 ((rd_T71 l1 x22_2).f2.f1), .int .i64 0]) ?_ 4 _ rfl; (with_reducible repeat (first | refine blk_drewN ?_ _ | refine blk_drew ?_ | refine blk_alloc ?_ _)); refine blk_put (cs := #[.int .i64 ((rd_T71 l1 x22_2).f0), .int .i64 ((rd_T71 l1 x22_2).f1), .int .i64 ((rd_T71 l1 x22_2).f2.f0), .int .i64 0, .int .i64 0]) ?_ 3 _ rfl; (with_reducible repeat (first | refine blk_drewN ?_ _ | refine blk_drew ?_ | refine blk_alloc ?_ _)); refine blk_put (cs := #[.int .i64 ((rd_T71 l1 x22_2).f0), .int .i64 ((rd_T71 l1 x22_2).f1), .int .i64 0, .int .i64 0, .int .i64 0]) ?_ 2 _ rfl; (with_reducible repeat (first | refine blk_drewN ?_ _ | refine blk_drew ?_ | refine blk_alloc ?_ _)); refine blk_put (cs := #[.int .i64 ((rd_T71 l1 x22_2).f0), .int .i64 0, .int .i64 0, .int .i64 0, .int .i64 0]) ?_ 1 _ rfl; (with_reducible repeat (first | refine blk_drewN ?_ _ | refine blk_drew ?_ | refine blk_alloc ?_ _)); refine blk_put (cs := #[.int .i64 0, .int .i64 0, .int .i64 0, .int .i64 0, .int .i64 0]) ?_ 0 _ rfl; (with_reducible repeat (first | refine blk_drewN ?_ _ | refine blk_drew ?_ | refine blk_alloc ?_ _)); exact BK332.out⟩
      have n3_ : Aside0 (Below w.heap.size w (((((w48.setCell ⟨gb332, 0, none⟩ (.int .i64 ((rd_T71 l1 x22_2).f0))).setCell ⟨gb332, 1, none⟩ (.int .i64 ((rd_T71 l1 x22_2).f1))).setCell ⟨gb332, 2, none⟩ (.int .i64 ((rd_T71 l1 x22_2).f2.f0))).setCell ⟨gb332, 3, none⟩ (.int .i64 ((rd_T71 l1 x22_2).f2.f1))).setCell ⟨gb332, 4, none⟩ (.int .i64 ((rd_T71 l1 x22_2).f3)))) := ⟨bs2 HB GE326 GE332⟩
      (try clear HO_6)
      (try clear BK326)
      (try clear BK332)
      (try clear HB)
      generalize (((((w48.setCell ⟨gb332, 0, none⟩ (.int .i64 ((rd_T71 l1 x22_2).f0))).setCell ⟨gb332, 1, none⟩ (.int .i64 ((rd_T71 l1 x22_2).f1))).setCell ⟨gb332, 2, none⟩ (.int .i64 ((rd_T71 l1 x22_2).f2.f0))).setCell ⟨gb332, 3, none⟩ (.int .i64 ((rd_T71 l1 x22_2).f2.f1))).setCell ⟨gb332, 4, none⟩ (.int .i64 ((rd_T71 l1 x22_2).f3))) = w51 at n0_ n1_ n2_ n3_ ⊢
      have HO_6 := n0_
      have BK326 := n1_
      have BK332 := n2_
      have HB := n3_
      clear n0_ n1_ n2_ n3_
      have n0_ := Ah (Kd.R_drew HO_6.out)
      have n1_ := Ah (blk_drew BK326.out)
      have n2_ := Ah (blk_drew BK332.out)
      have n3_ := Ah (below_drew1 HB.out)
      clear HO_6 BK326 BK332 HB
      have HO_6 := n0_
      have BK326 := n1_
      have BK332 := n2_
      have HB := n3_
      clear n0_ n1_ n2_ n3_
      obtain ⟨Ao53, co53, eo53⟩ := Kd.R_slice HO_6.out
      (first | subst eo53 | (injection eo53 with f1_ f2_ f3_; have f4_ := f1_.symm; have f5_ := f3_.symm; clear f1_ f2_ f3_; subst f4_; subst f5_))
      refine start_ (n := 34) (S := fun w' => w'.cell? ⟨gb332, 0, none⟩ = some (.int .i64 ((rd_T71 l1 x22_2).f0)) ∧ w'.cell? ⟨gb332, 1, none⟩ = some (.int .i64 ((rd_T71 l1 x22_2).f1)) ∧ w'.cell? ⟨gb332, 2, none⟩ = some (.int .i64 ((rd_T71 l1 x22_2).f2.f0)) ∧ w'.cell? ⟨gb332, 3, none⟩ = some (.int .i64 ((rd_T71 l1 x22_2).f2.f1)) ∧ w'.cell? ⟨gb332, 4, none⟩ = some (.int .i64 ((rd_T71 l1 x22_2).f3))) (ds := []) #[false, false, false, false, false, false, false, false, false, false, false, false, false, false, false, false, false, false, false, false, false, false, false, false, false, false, false, false, false, false, false, false, false, false] (by kernel_rfl) rfl rfl ⟨(blk_cell BK332.out 0).trans rfl, (blk_cell BK332.out 1).trans rfl, (blk_cell BK332.out 2).trans rfl, (blk_cell BK332.out 3).trans rfl, (blk_cell BK332.out 4).trans rfl⟩ (fun hHeld => ?_); refine with_tabW impl_intentsOf.tab8 impl_intentsOf.bits8 (fun HT_ HW_ => ?_)
      generalize w51.drew = w52 at HO_6 BK326 BK332 HB hHeld ⊢
      refine pureS 0 29 HT_.out ?_
      refine pureS 2 31 HT_.out ?_
      refine pureS 3 32 HT_.out ?_
      refine takeS 1 30 HT_.out HW_.out hHeld (hr := by rintro w' ⟨s0, s1, s2, s3, s4⟩; go_simp; with_reducible rfl) (h := ?_)
      refine one_ (i := 4) (N := some 33) #[true, true, true, true, true, false, false, false, false, false, false, false, false, false, false, false, false, false, false, false, false, false, false, false, false, false, false, false, false, false, false, false, false, false] rfl rfl (one_of HT_.out (by kernel_rfl)) (by decide) (fun K hK => ?_)
      refine goes_ Try.func32 (by kernel_rfl) rfl #[.int .i64 ((rd_T71 l1 x22_2).f1), .int .i64 1, .int .i64 (x6_2.length : Int)] (by rfl) rfl rfl (by (try simp only [List.map_toArray, List.map_cons, List.map_nil]); first | done | rfl | (simp only [List.length_drop, List.length_take]; rfl)) ?_
      with_reducible refine (impl_within.calls ((rd_T71 l1 x22_2).f1) 1 (x6_2.length : Int) false _ A18.out).mono ?_
      rintro e w' ⟨rfl, ⟨nd, rfl⟩⟩
      refine ⟨_, rfl, ?_⟩
      refine hK.out _ _ ⟨(blk_cell BK332.out 0).trans rfl, (blk_cell BK332.out 1).trans rfl, (blk_cell BK332.out 2).trans rfl, (blk_cell BK332.out 3).trans rfl, (blk_cell BK332.out 4).trans rfl⟩ (fun hHeld => ?_)
      clear hK K
      refine norm_ (a' := ?_) ?_ ?_
      rotate_left
      ·
       show Act.put _ (some 33) _ = _
       simp only [Act.put, List.setIfInBounds_toArray, List.set_cons_zero, List.set_cons_succ, i64_w, i32_w]
       rfl
      refine pureS 5 34 HT_.out ?_
      refine pureS 6 35 HT_.out ?_
      refine pureU 7 36 HT_.out ?_
      refine pureU 8 37 HT_.out ?_
      refine pureU 9 38 HT_.out ?_
      refine pureU 10 39 HT_.out ?_
      refine pureS 11 40 HT_.out ?_
      refine pureS 12 41 HT_.out ?_
      refine pureU 13 42 HT_.out ?_
      refine pureU 14 43 HT_.out ?_
      refine pureU 15 44 HT_.out ?_
      refine pureU 16 45 HT_.out ?_
      refine pureU 17 46 HT_.out ?_
      refine pureU 18 47 HT_.out ?_
      refine pureU 19 48 HT_.out ?_
      refine pureU 20 49 HT_.out ?_
      refine pureU 21 50 HT_.out ?_
      refine pureU 22 51 HT_.out ?_
      refine pureU 23 52 HT_.out ?_
      refine pureU 24 53 HT_.out ?_
      refine pureU 25 54 HT_.out ?_
      refine pureU 26 55 HT_.out ?_
      refine pureU 27 56 HT_.out ?_
      refine pureU 28 57 HT_.out ?_
      refine pureU 29 58 HT_.out ?_
      refine pureU 30 59 HT_.out ?_
      refine pureU 31 60 HT_.out ?_
      refine pureU 32 61 HT_.out ?_
      refine pureS 33 62 HT_.out ?_
      refine done_ (done_of HT_.out (by kernel_rfl)) ?_
      try go_wp2
      go_ret2
      exact ⟨_, er, by first | exact Kd.R_nil _ _ _ _ _ | exact Kd.N_nil _ _ _ _ _ | exact Kd.V_nil _ _ _ _ _ | exact Kd.Q_nil _ _ _ _ _ | exact Kd.S_nil _ _ _ _ _, bs2 HB GE326 GE332⟩
     subst c19
     rw [if_pos rfl] at H
     by_cases c20 : (!(((rd_T71 l1 x22_2).f2.f0) == 0) || (!(((rd_T71 l1 x22_2).f2.f1) == 0))) = true
     ·
      rw [if_pos c20] at H
      have c20b0 : (!(((rd_T71 l1 x22_2).f2.f0) == 0) || (!(((rd_T71 l1 x22_2).f2.f1) == 0))) = true := c20
      clear c20
      simp only [Option.some.injEq, Prod.mk.injEq] at H
      obtain ⟨rfl, rfl⟩ := H
      have p331 : 0 ≤ (x22_2 : Int) := od
      have q331 : x22_2 < (l1.length : Int) := od
      obtain ⟨ad331, e331, hx331_0, hx331_1, hx331_2, hx331_3, hx331_4⟩ := at_T71 HR1.out x22_2 p331 q331
      cases e331
      replace hx331_0 := (HB.out.cell (World.block_lt_of_cell? w _ hx331_0)).trans hx331_0
      replace hx331_1 := (HB.out.cell (World.block_lt_of_cell? w _ hx331_1)).trans hx331_1
      replace hx331_2 := (HB.out.cell (World.block_lt_of_cell? w _ hx331_2)).trans hx331_2
      replace hx331_3 := (HB.out.cell (World.block_lt_of_cell? w _ hx331_3)).trans hx331_3
      replace hx331_4 := (HB.out.cell (World.block_lt_of_cell? w _ hx331_4)).trans hx331_4
      replace p331 := eq_true p331
      replace q331 := eq_true q331
      try go_wp2_with (first | ((with_reducible refine gate_dst (N := 8) rfl ?_); (try (refine gate_guard (by rfl) ?_; dsimp only)); refine boxL 8 71 #[.int .i64 0, .int .i64 0, .int .i64 0, .int .i64 0, .int .i64 0] ?_; intro gb332 hg w21 BK332 hb; replace HO_6 := Ah (Kd.R_below (Kd.R_elderB (rr HO_6.out) gb332 (Nat.le_of_eq hg.symm)) hb); have GW332 := gw hg (bs1 HB GE326); have GE332 := gw hg (bs1 HB GE326); replace HB := Ah (below_step (bs1 HB GE326) hb); have NB326_332 := nn BK326 hg; have NB332_326 := nm BK326 hg; replace BK326 := nb BK326 hb; clear hb hg; have hnb22 := NB332_326.out; have hnc22 := NB326_332.out; obtain ⟨hcz23_0, hcz23_1, hcz23_2, hcz23_3, hcz23_4⟩ := cz5 BK332; obtain ⟨hfz23_0, hfz23_1, hfz23_2, hfz23_3, hfz23_4⟩ := fz5 BK332))
      have n0_ : Aside0 (Kd.R k71 71 (((((w21.setCell ⟨gb332, 0, none⟩ (.int .i64 ((rd_T71 l1 x22_2).f0))).setCell ⟨gb332, 1, none⟩ (.int .i64 ((rd_T71 l1 x22_2).f1))).setCell ⟨gb332, 2, none⟩ (.int .i64 ((rd_T71 l1 x22_2).f2.f0))).setCell ⟨gb332, 3, none⟩ (.int .i64 ((rd_T71 l1 x22_2).f2.f1))).setCell ⟨gb332, 4, none⟩ (.int .i64 ((rd_T71 l1 x22_2).f3))) w.heap.size (fun k_ => k_ ≠ gb332) u6 x6_2) := ⟨by (with_reducible repeat (first | apply Kd.R_alloc | apply Kd.R_drewN | apply Kd.R_drew)); exact Kd.R_mono (Kd.R_far (p := ⟨gb332, 4, none⟩) (Kd.R_far (p := ⟨gb332, 3, none⟩) (Kd.R_far (p := ⟨gb332, 2, none⟩) (Kd.R_far (p := ⟨gb332, 1, none⟩) (Kd.R_far (p := ⟨gb332, 0, none⟩) (Kd.R_mono HO_6.out (fun k_ hk => (⟨hk, hk.2⟩ : _ ∧ k_ ≠ gb332))) (fun _ hk => hk.2) (.int .i64 ((rd_T71 l1 x22_2).f0))) (fun _ hk => hk.2) (.int .i64 ((rd_T71 l1 x22_2).f1))) (fun _ hk => hk.2) (.int .i64 ((rd_T71 l1 x22_2).f2.f0))) (fun _ hk => hk.2) (.int .i64 ((rd_T71 l1 x22_2).f2.f1))) (fun _ hk => hk.2) (.int .i64 ((rd_T71 l1 x22_2).f3))) (fun _ hk => hk.1.2)⟩
      have n1_ : Aside0 ((((((w21.setCell ⟨gb332, 0, none⟩ (.int .i64 ((rd_T71 l1 x22_2).f0))).setCell ⟨gb332, 1, none⟩ (.int .i64 ((rd_T71 l1 x22_2).f1))).setCell ⟨gb332, 2, none⟩ (.int .i64 ((rd_T71 l1 x22_2).f2.f0))).setCell ⟨gb332, 3, none⟩ (.int .i64 ((rd_T71 l1 x22_2).f2.f1))).setCell ⟨gb332, 4, none⟩ (.int .i64 ((rd_T71 l1 x22_2).f3))).heap[gb326]? = some (.cells #[.int .i64 a0_0, .slice A0_1 l0_1.length c0_1, .slice A0_2 l0_2.length c0_2] 24 (0, 0))) := ⟨bf BK326 NB326_332⟩
      have n2_ : Aside0 ((((((w21.setCell ⟨gb332, 0, none⟩ (.int .i64 ((rd_T71 l1 x22_2).f0))).setCell ⟨gb332, 1, none⟩ (.int .i64 ((rd_T71 l1 x22_2).f1))).setCell ⟨gb332, 2, none⟩ (.int .i64 ((rd_T71 l1 x22_2).f2.f0))).setCell ⟨gb332, 3, none⟩ (.int .i64 ((rd_T71 l1 x22_2).f2.f1))).setCell ⟨gb332, 4, none⟩ (.int .i64 ((rd_T71 l1 x22_2).f3))).heap[gb332]? = some (.cells #[.int .i64 ((rd_T71 l1 x22_2).f0), .int .i64 ((rd_T71 l1 x22_2).f1), .int .i64 ((rd_T71 l1 x22_2).f2.f0), .int .i64 ((rd_T71 l1 x22_2).f2.f1), .int .i64 ((rd_T71 l1 x22_2).f3)] 71 (0, 0))) := ⟨by (with_reducible repeat (first | refine blk_drewN ?_ _ | refine blk_drew ?_ | refine blk_alloc ?_ _)); refine blk_put (cs := #[.int .i64 ((rd_T71 l1 x22_2).f0), .int .i64 ((rd_T71 l1 x22_2).f1), .int .i64 ((rd_T71 l1 x22_2).f2.f0), .int .i64 ((rd_T71 l1 x22_2).f2.f1), .int .i64 0]) ?_ 4 _ rfl; (with_reducible repeat (first | refine blk_drewN ?_ _ | refine blk_drew ?_ | refine blk_alloc ?_ _)); refine blk_put (cs := #[.int .i64 ((rd_T71 l1 x22_2).f0), .int .i64 ((rd_T71 l1 x22_2).f1), .int .i64 ((rd_T71 l1 x22_2).f2.f0), .int .i64 0, .int .i64 0]) ?_ 3 _ rfl; (with_reducible repeat (first | refine blk_drewN ?_ _ | refine blk_drew ?_ | refine blk_alloc ?_ _)); refine blk_put (cs := #[.int .i64 ((rd_T71 l1 x22_2).f0), .int .i64 ((rd_T71 l1 x22_2).f1), .int .i64 0, .int .i64 0, .int .i64 0]) ?_ 2 _ rfl; (with_reducible repeat (first | refine blk_drewN ?_ _ | refine blk_drew ?_ | refine blk_alloc ?_ _)); refine blk_put (cs := #[.int .i64 ((rd_T71 l1 x22_2).f0), .int .i64 0, .int .i64 0, .int .i64 0, .int .i64 0]) ?_ 1 _ rfl; (with_reducible repeat (first | refine blk_drewN ?_ _ | refine blk_drew ?_ | refine blk_alloc ?_ _)); refine blk_put (cs := #[.int .i64 0, .int .i64 0, .int .i64 0, .int .i64 0, .int .i64 0]) ?_ 0 _ rfl; (with_reducible repeat (first | refine blk_drewN ?_ _ | refine blk_drew ?_ | refine blk_alloc ?_ _)); exact BK332.out⟩
      have n3_ : Aside0 (Below w.heap.size w (((((w21.setCell ⟨gb332, 0, none⟩ (.int .i64 ((rd_T71 l1 x22_2).f0))).setCell ⟨gb332, 1, none⟩ (.int .i64 ((rd_T71 l1 x22_2).f1))).setCell ⟨gb332, 2, none⟩ (.int .i64 ((rd_T71 l1 x22_2).f2.f0))).setCell ⟨gb332, 3, none⟩ (.int .i64 ((rd_T71 l1 x22_2).f2.f1))).setCell ⟨gb332, 4, none⟩ (.int .i64 ((rd_T71 l1 x22_2).f3)))) := ⟨bs2 HB GE326 GE332⟩
      (try clear HO_6)
      (try clear BK326)
      (try clear BK332)
      (try clear HB)
      generalize (((((w21.setCell ⟨gb332, 0, none⟩ (.int .i64 ((rd_T71 l1 x22_2).f0))).setCell ⟨gb332, 1, none⟩ (.int .i64 ((rd_T71 l1 x22_2).f1))).setCell ⟨gb332, 2, none⟩ (.int .i64 ((rd_T71 l1 x22_2).f2.f0))).setCell ⟨gb332, 3, none⟩ (.int .i64 ((rd_T71 l1 x22_2).f2.f1))).setCell ⟨gb332, 4, none⟩ (.int .i64 ((rd_T71 l1 x22_2).f3))) = w24 at n0_ n1_ n2_ n3_ ⊢
      have HO_6 := n0_
      have BK326 := n1_
      have BK332 := n2_
      have HB := n3_
      clear n0_ n1_ n2_ n3_
      have n0_ := Ah (Kd.R_drew HO_6.out)
      have n1_ := Ah (blk_drew BK326.out)
      have n2_ := Ah (blk_drew BK332.out)
      have n3_ := Ah (below_drew1 HB.out)
      clear HO_6 BK326 BK332 HB
      have HO_6 := n0_
      have BK326 := n1_
      have BK332 := n2_
      have HB := n3_
      clear n0_ n1_ n2_ n3_
      obtain ⟨Ao26, co26, eo26⟩ := Kd.R_slice HO_6.out
      (first | subst eo26 | (injection eo26 with f1_ f2_ f3_; have f4_ := f1_.symm; have f5_ := f3_.symm; clear f1_ f2_ f3_; subst f4_; subst f5_))
      refine start_ (n := 34) (S := fun w' => w'.cell? ⟨gb332, 0, none⟩ = some (.int .i64 ((rd_T71 l1 x22_2).f0)) ∧ w'.cell? ⟨gb332, 1, none⟩ = some (.int .i64 ((rd_T71 l1 x22_2).f1)) ∧ w'.cell? ⟨gb332, 2, none⟩ = some (.int .i64 ((rd_T71 l1 x22_2).f2.f0)) ∧ w'.cell? ⟨gb332, 3, none⟩ = some (.int .i64 ((rd_T71 l1 x22_2).f2.f1)) ∧ w'.cell? ⟨gb332, 4, none⟩ = some (.int .i64 ((rd_T71 l1 x22_2).f3))) (ds := []) #[false, false, false, false, false, false, false, false, false, false, false, false, false, false, false, false, false, false, false, false, false, false, false, false, false, false, false, false, false, false, false, false, false, false] (by kernel_rfl) rfl rfl ⟨(blk_cell BK332.out 0).trans rfl, (blk_cell BK332.out 1).trans rfl, (blk_cell BK332.out 2).trans rfl, (blk_cell BK332.out 3).trans rfl, (blk_cell BK332.out 4).trans rfl⟩ (fun hHeld => ?_); refine with_tabW impl_intentsOf.tab8 impl_intentsOf.bits8 (fun HT_ HW_ => ?_)
      generalize w24.drew = w25 at HO_6 BK326 BK332 HB hHeld ⊢
      refine pureS 0 29 HT_.out ?_
      refine pureS 2 31 HT_.out ?_
      refine pureS 3 32 HT_.out ?_
      refine takeS 1 30 HT_.out HW_.out hHeld (hr := by rintro w' ⟨s0, s1, s2, s3, s4⟩; go_simp; with_reducible rfl) (h := ?_)
      refine one_ (i := 4) (N := some 33) #[true, true, true, true, true, false, false, false, false, false, false, false, false, false, false, false, false, false, false, false, false, false, false, false, false, false, false, false, false, false, false, false, false, false] rfl rfl (one_of HT_.out (by kernel_rfl)) (by decide) (fun K hK => ?_)
      refine goes_ Try.func32 (by kernel_rfl) rfl #[.int .i64 ((rd_T71 l1 x22_2).f1), .int .i64 1, .int .i64 (x6_2.length : Int)] (by rfl) rfl rfl (by (try simp only [List.map_toArray, List.map_cons, List.map_nil]); first | done | rfl | (simp only [List.length_drop, List.length_take]; rfl)) ?_
      with_reducible refine (impl_within.calls ((rd_T71 l1 x22_2).f1) 1 (x6_2.length : Int) true _ A18.out).mono ?_
      rintro e w' ⟨rfl, ⟨nd, rfl⟩⟩
      refine ⟨_, rfl, ?_⟩
      refine hK.out _ _ ⟨(blk_cell BK332.out 0).trans rfl, (blk_cell BK332.out 1).trans rfl, (blk_cell BK332.out 2).trans rfl, (blk_cell BK332.out 3).trans rfl, (blk_cell BK332.out 4).trans rfl⟩ (fun hHeld => ?_)
      clear hK K
      refine norm_ (a' := ?_) ?_ ?_
      rotate_left
      ·
       show Act.put _ (some 33) _ = _
       simp only [Act.put, List.setIfInBounds_toArray, List.set_cons_zero, List.set_cons_succ, i64_w, i32_w]
       rfl
      refine pureS 5 34 HT_.out ?_
      refine pureS 6 35 HT_.out ?_
      refine pureS 7 36 HT_.out ?_
      refine pureS 9 38 HT_.out ?_
      refine takeS 8 37 HT_.out HW_.out hHeld (hr := by rintro w' ⟨s0, s1, s2, s3, s4⟩; go_simp; with_reducible rfl) (h := ?_)
      refine pureS 10 39 HT_.out ?_
      refine pureS 11 40 HT_.out ?_
      refine pureS 12 41 HT_.out ?_
      refine pureU 13 42 HT_.out ?_
      refine pureU 14 43 HT_.out ?_
      refine pureU 15 44 HT_.out ?_
      refine pureU 16 45 HT_.out ?_
      refine pureU 17 46 HT_.out ?_
      refine pureU 18 47 HT_.out ?_
      refine pureU 19 48 HT_.out ?_
      refine pureU 20 49 HT_.out ?_
      refine pureU 21 50 HT_.out ?_
      refine pureU 22 51 HT_.out ?_
      refine pureU 23 52 HT_.out ?_
      refine pureU 24 53 HT_.out ?_
      refine pureU 25 54 HT_.out ?_
      refine pureU 26 55 HT_.out ?_
      refine pureU 27 56 HT_.out ?_
      refine pureU 28 57 HT_.out ?_
      refine pureU 29 58 HT_.out ?_
      refine pureU 30 59 HT_.out ?_
      refine pureU 31 60 HT_.out ?_
      refine pureU 32 61 HT_.out ?_
      refine pureS 33 62 HT_.out ?_
      refine done_ (done_of HT_.out (by kernel_rfl)) ?_
      try go_wp2
      go_ret2
      exact ⟨_, er, by first | exact Kd.R_nil _ _ _ _ _ | exact Kd.N_nil _ _ _ _ _ | exact Kd.V_nil _ _ _ _ _ | exact Kd.Q_nil _ _ _ _ _ | exact Kd.S_nil _ _ _ _ _, bs2 HB GE326 GE332⟩
     rw [if_neg c20] at H
     have c20b0 : (!(((rd_T71 l1 x22_2).f2.f0) == 0) || (!(((rd_T71 l1 x22_2).f2.f1) == 0))) = false := by simpa using c20
     clear c20
     obtain ⟨ji27, hji27⟩ : ∃ j_ : Int, (wrap64 (((rd_T71 l1 x22_2).f1) - 1)) = j_ := ⟨_, rfl⟩
     replace H : (if 0 ≤ (ji27) then (if (ji27) < (x6_2.length : Int) then ((impl_within.f ((rd_T71 l1 x22_2).f3) (wrap64 (((rd_T71 x6_2 (ji27)).f3) + 1)) ((rd_T71 x6_2 (ji27)).f2.f1)).bind fun t336 => (if t336 = true then (impl_intentsOf.l0 k2 (x6_2.set ((ji27) : Int).toNat (⟨(rd_T71 x6_2 (ji27)).f0, (rd_T71 x6_2 (ji27)).f1, (⟨(rd_T71 x6_2 (ji27)).f2.f0, (rd_T71 x6_2 (ji27)).f2.f1⟩ : S53), (rd_T71 l1 x22_2).f3⟩ : S71)) l1 (l1.length : Int) (wrap64 (x22_2 + 1)) a0_0 l0_1 l0_2) else (some (([] : List (S71)), false)))) else (none)) else (none)) = some (r1, r2) := by first | (rw [hji27] at H; exact H) | (simp only [hji27] at H ⊢; exact H)
     (try rw [hji27] at A18)
     have hji27w : (IntKind.i64.wrap (((rd_T71 l1 x22_2).f1) - 1)) = ji27 := (i64_w _).trans hji27
     by_cases c28 : 0 ≤ (ji27)
     rotate_left
     ·
      rw [if_neg c28] at H
      exact absurd H (by simp)
     rw [if_pos c28] at H
     have c28b0 : decide (0 ≤ (ji27)) = true := decide_eq_true c28
     clear c28
     by_cases c29 : (ji27) < (x6_2.length : Int)
     rotate_left
     ·
      rw [if_neg c29] at H
      exact absurd H (by simp)
     rw [if_pos c29] at H
     have c29b0 : decide ((ji27) < (x6_2.length : Int)) = true := decide_eq_true c29
     clear c29
     replace H := Option.bind_eq_some_iff.mp H
     obtain ⟨t336, A300, H⟩ := H
     try dsimp only at H
     have A30 := Ah A300
     clear A300
     have H_ := Ah H
     clear H
     have p331 : 0 ≤ (x22_2 : Int) := od
     have q331 : x22_2 < (l1.length : Int) := od
     obtain ⟨ad331, e331, hx331_0, hx331_1, hx331_2, hx331_3, hx331_4⟩ := at_T71 HR1.out x22_2 p331 q331
     cases e331
     replace hx331_0 := (HB.out.cell (World.block_lt_of_cell? w _ hx331_0)).trans hx331_0
     replace hx331_1 := (HB.out.cell (World.block_lt_of_cell? w _ hx331_1)).trans hx331_1
     replace hx331_2 := (HB.out.cell (World.block_lt_of_cell? w _ hx331_2)).trans hx331_2
     replace hx331_3 := (HB.out.cell (World.block_lt_of_cell? w _ hx331_3)).trans hx331_3
     replace hx331_4 := (HB.out.cell (World.block_lt_of_cell? w _ hx331_4)).trans hx331_4
     replace p331 := eq_true p331
     replace q331 := eq_true q331
     try go_wp2_with (first | ((with_reducible refine gate_dst (N := 8) rfl ?_); (try (refine gate_guard (by rfl) ?_; dsimp only)); refine boxL 8 71 #[.int .i64 0, .int .i64 0, .int .i64 0, .int .i64 0, .int .i64 0] ?_; intro gb332 hg w33 BK332 hb; replace HO_6 := Ah (Kd.R_below (Kd.R_elderB (rr HO_6.out) gb332 (Nat.le_of_eq hg.symm)) hb); have GW332 := gw hg (bs1 HB GE326); have GE332 := gw hg (bs1 HB GE326); replace HB := Ah (below_step (bs1 HB GE326) hb); have NB326_332 := nn BK326 hg; have NB332_326 := nm BK326 hg; replace BK326 := nb BK326 hb; clear hb hg; have hnb34 := NB332_326.out; have hnc34 := NB326_332.out; obtain ⟨hcz35_0, hcz35_1, hcz35_2, hcz35_3, hcz35_4⟩ := cz5 BK332; obtain ⟨hfz35_0, hfz35_1, hfz35_2, hfz35_3, hfz35_4⟩ := fz5 BK332))
     have n0_ : Aside0 (Kd.R k71 71 (((((w33.setCell ⟨gb332, 0, none⟩ (.int .i64 ((rd_T71 l1 x22_2).f0))).setCell ⟨gb332, 1, none⟩ (.int .i64 ((rd_T71 l1 x22_2).f1))).setCell ⟨gb332, 2, none⟩ (.int .i64 ((rd_T71 l1 x22_2).f2.f0))).setCell ⟨gb332, 3, none⟩ (.int .i64 ((rd_T71 l1 x22_2).f2.f1))).setCell ⟨gb332, 4, none⟩ (.int .i64 ((rd_T71 l1 x22_2).f3))) w.heap.size (fun k_ => k_ ≠ gb332) u6 x6_2) := ⟨by (with_reducible repeat (first | apply Kd.R_alloc | apply Kd.R_drewN | apply Kd.R_drew)); exact Kd.R_mono (Kd.R_far (p := ⟨gb332, 4, none⟩) (Kd.R_far (p := ⟨gb332, 3, none⟩) (Kd.R_far (p := ⟨gb332, 2, none⟩) (Kd.R_far (p := ⟨gb332, 1, none⟩) (Kd.R_far (p := ⟨gb332, 0, none⟩) (Kd.R_mono HO_6.out (fun k_ hk => (⟨hk, hk.2⟩ : _ ∧ k_ ≠ gb332))) (fun _ hk => hk.2) (.int .i64 ((rd_T71 l1 x22_2).f0))) (fun _ hk => hk.2) (.int .i64 ((rd_T71 l1 x22_2).f1))) (fun _ hk => hk.2) (.int .i64 ((rd_T71 l1 x22_2).f2.f0))) (fun _ hk => hk.2) (.int .i64 ((rd_T71 l1 x22_2).f2.f1))) (fun _ hk => hk.2) (.int .i64 ((rd_T71 l1 x22_2).f3))) (fun _ hk => hk.1.2)⟩
     have n1_ : Aside0 ((((((w33.setCell ⟨gb332, 0, none⟩ (.int .i64 ((rd_T71 l1 x22_2).f0))).setCell ⟨gb332, 1, none⟩ (.int .i64 ((rd_T71 l1 x22_2).f1))).setCell ⟨gb332, 2, none⟩ (.int .i64 ((rd_T71 l1 x22_2).f2.f0))).setCell ⟨gb332, 3, none⟩ (.int .i64 ((rd_T71 l1 x22_2).f2.f1))).setCell ⟨gb332, 4, none⟩ (.int .i64 ((rd_T71 l1 x22_2).f3))).heap[gb326]? = some (.cells #[.int .i64 a0_0, .slice A0_1 l0_1.length c0_1, .slice A0_2 l0_2.length c0_2] 24 (0, 0))) := ⟨bf BK326 NB326_332⟩
     have n2_ : Aside0 ((((((w33.setCell ⟨gb332, 0, none⟩ (.int .i64 ((rd_T71 l1 x22_2).f0))).setCell ⟨gb332, 1, none⟩ (.int .i64 ((rd_T71 l1 x22_2).f1))).setCell ⟨gb332, 2, none⟩ (.int .i64 ((rd_T71 l1 x22_2).f2.f0))).setCell ⟨gb332, 3, none⟩ (.int .i64 ((rd_T71 l1 x22_2).f2.f1))).setCell ⟨gb332, 4, none⟩ (.int .i64 ((rd_T71 l1 x22_2).f3))).heap[gb332]? = some (.cells #[.int .i64 ((rd_T71 l1 x22_2).f0), .int .i64 ((rd_T71 l1 x22_2).f1), .int .i64 ((rd_T71 l1 x22_2).f2.f0), .int .i64 ((rd_T71 l1 x22_2).f2.f1), .int .i64 ((rd_T71 l1 x22_2).f3)] 71 (0, 0))) := ⟨by (with_reducible repeat (first | refine blk_drewN ?_ _ | refine blk_drew ?_ | refine blk_alloc ?_ _)); refine blk_put (cs := #[.int .i64 ((rd_T71 l1 x22_2).f0), .int .i64 ((rd_T71 l1 x22_2).f1), .int .i64 ((rd_T71 l1 x22_2).f2.f0), .int .i64 ((rd_T71 l1 x22_2).f2.f1), .int .i64 0]) ?_ 4 _ rfl; (with_reducible repeat (first | refine blk_drewN ?_ _ | refine blk_drew ?_ | refine blk_alloc ?_ _)); refine blk_put (cs := #[.int .i64 ((rd_T71 l1 x22_2).f0), .int .i64 ((rd_T71 l1 x22_2).f1), .int .i64 ((rd_T71 l1 x22_2).f2.f0), .int .i64 0, .int .i64 0]) ?_ 3 _ rfl; (with_reducible repeat (first | refine blk_drewN ?_ _ | refine blk_drew ?_ | refine blk_alloc ?_ _)); refine blk_put (cs := #[.int .i64 ((rd_T71 l1 x22_2).f0), .int .i64 ((rd_T71 l1 x22_2).f1), .int .i64 0, .int .i64 0, .int .i64 0]) ?_ 2 _ rfl; (with_reducible repeat (first | refine blk_drewN ?_ _ | refine blk_drew ?_ | refine blk_alloc ?_ _)); refine blk_put (cs := #[.int .i64 ((rd_T71 l1 x22_2).f0), .int .i64 0, .int .i64 0, .int .i64 0, .int .i64 0]) ?_ 1 _ rfl; (with_reducible repeat (first | refine blk_drewN ?_ _ | refine blk_drew ?_ | refine blk_alloc ?_ _)); refine blk_put (cs := #[.int .i64 0, .int .i64 0, .int .i64 0, .int .i64 0, .int .i64 0]) ?_ 0 _ rfl; (with_reducible repeat (first | refine blk_drewN ?_ _ | refine blk_drew ?_ | refine blk_alloc ?_ _)); exact BK332.out⟩
     have n3_ : Aside0 (Below w.heap.size w (((((w33.setCell ⟨gb332, 0, none⟩ (.int .i64 ((rd_T71 l1 x22_2).f0))).setCell ⟨gb332, 1, none⟩ (.int .i64 ((rd_T71 l1 x22_2).f1))).setCell ⟨gb332, 2, none⟩ (.int .i64 ((rd_T71 l1 x22_2).f2.f0))).setCell ⟨gb332, 3, none⟩ (.int .i64 ((rd_T71 l1 x22_2).f2.f1))).setCell ⟨gb332, 4, none⟩ (.int .i64 ((rd_T71 l1 x22_2).f3)))) := ⟨bs2 HB GE326 GE332⟩
     (try clear HO_6)
     (try clear BK326)
     (try clear BK332)
     (try clear HB)
     generalize (((((w33.setCell ⟨gb332, 0, none⟩ (.int .i64 ((rd_T71 l1 x22_2).f0))).setCell ⟨gb332, 1, none⟩ (.int .i64 ((rd_T71 l1 x22_2).f1))).setCell ⟨gb332, 2, none⟩ (.int .i64 ((rd_T71 l1 x22_2).f2.f0))).setCell ⟨gb332, 3, none⟩ (.int .i64 ((rd_T71 l1 x22_2).f2.f1))).setCell ⟨gb332, 4, none⟩ (.int .i64 ((rd_T71 l1 x22_2).f3))) = w36 at n0_ n1_ n2_ n3_ ⊢
     have HO_6 := n0_
     have BK326 := n1_
     have BK332 := n2_
     have HB := n3_
     clear n0_ n1_ n2_ n3_
     have n0_ := Ah (Kd.R_drew HO_6.out)
     have n1_ := Ah (blk_drew BK326.out)
     have n2_ := Ah (blk_drew BK332.out)
     have n3_ := Ah (below_drew1 HB.out)
     clear HO_6 BK326 BK332 HB
     have HO_6 := n0_
     have BK326 := n1_
     have BK332 := n2_
     have HB := n3_
     clear n0_ n1_ n2_ n3_
     obtain ⟨Ao38, co38, eo38⟩ := Kd.R_slice HO_6.out
     (first | subst eo38 | (injection eo38 with f1_ f2_ f3_; have f4_ := f1_.symm; have f5_ := f3_.symm; clear f1_ f2_ f3_; subst f4_; subst f5_))
     have p334 : 0 ≤ ((ji27) : Int) := od
     have q334 : (ji27) < (x6_2.length : Int) := od
     obtain ⟨ad334, e334, hx334_0, hx334_1, hx334_2, hx334_3, hx334_4⟩ := at_T71 (Kd.R_reads' HO_6.out).2.2 (ji27) p334 q334
     cases e334
     replace p334 := eq_true p334
     replace q334 := eq_true q334
     have p335 : 0 ≤ ((ji27) : Int) := od
     have q335 : (ji27) < (x6_2.length : Int) := od
     obtain ⟨ad335, e335, hx335_0, hx335_1, hx335_2, hx335_3, hx335_4⟩ := at_T71 (Kd.R_reads' HO_6.out).2.2 (ji27) p335 q335
     obtain rfl : ad334 = ad335 := (by injection e335)
     replace p335 := eq_true p335
     replace q335 := eq_true q335
     refine start_ (n := 34) (S := fun w' => w'.cell? ⟨gb332, 0, none⟩ = some (.int .i64 ((rd_T71 l1 x22_2).f0)) ∧ w'.cell? ⟨gb332, 1, none⟩ = some (.int .i64 ((rd_T71 l1 x22_2).f1)) ∧ w'.cell? ⟨gb332, 2, none⟩ = some (.int .i64 ((rd_T71 l1 x22_2).f2.f0)) ∧ w'.cell? ⟨gb332, 3, none⟩ = some (.int .i64 ((rd_T71 l1 x22_2).f2.f1)) ∧ w'.cell? ⟨gb332, 4, none⟩ = some (.int .i64 ((rd_T71 l1 x22_2).f3)) ∧ w'.cell? (ad334.add (((ji27)).toNat * 5)) = some (.int .i64 ((rd_T71 x6_2 (ji27)).f0)) ∧ w'.cell? ⟨(ad334.add (((ji27)).toNat * 5)).block, (ad334.add (((ji27)).toNat * 5)).off + 1, none⟩ = some (.int .i64 ((rd_T71 x6_2 (ji27)).f1)) ∧ w'.cell? ⟨(ad334.add (((ji27)).toNat * 5)).block, (ad334.add (((ji27)).toNat * 5)).off + 2, none⟩ = some (.int .i64 ((rd_T71 x6_2 (ji27)).f2.f0)) ∧ w'.cell? ⟨(ad334.add (((ji27)).toNat * 5)).block, (ad334.add (((ji27)).toNat * 5)).off + 3, none⟩ = some (.int .i64 ((rd_T71 x6_2 (ji27)).f2.f1)) ∧ w'.cell? ⟨(ad334.add (((ji27)).toNat * 5)).block, (ad334.add (((ji27)).toNat * 5)).off + 4, none⟩ = some (.int .i64 ((rd_T71 x6_2 (ji27)).f3)) ∧ w'.cell? (ad334.add (((ji27)).toNat * 5)) = some (.int .i64 ((rd_T71 x6_2 (ji27)).f0)) ∧ w'.cell? ⟨(ad334.add (((ji27)).toNat * 5)).block, (ad334.add (((ji27)).toNat * 5)).off + 1, none⟩ = some (.int .i64 ((rd_T71 x6_2 (ji27)).f1)) ∧ w'.cell? ⟨(ad334.add (((ji27)).toNat * 5)).block, (ad334.add (((ji27)).toNat * 5)).off + 2, none⟩ = some (.int .i64 ((rd_T71 x6_2 (ji27)).f2.f0)) ∧ w'.cell? ⟨(ad334.add (((ji27)).toNat * 5)).block, (ad334.add (((ji27)).toNat * 5)).off + 3, none⟩ = some (.int .i64 ((rd_T71 x6_2 (ji27)).f2.f1)) ∧ w'.cell? ⟨(ad334.add (((ji27)).toNat * 5)).block, (ad334.add (((ji27)).toNat * 5)).off + 4, none⟩ = some (.int .i64 ((rd_T71 x6_2 (ji27)).f3))) (ds := []) #[false, false, false, false, false, false, false, false, false, false, false, false, false, false, false, false, false, false, false, false, false, false, false, false, false, false, false, false, false, false, false, false, false, false] (by kernel_rfl) rfl rfl ⟨(blk_cell BK332.out 0).trans rfl, (blk_cell BK332.out 1).trans rfl, (blk_cell BK332.out 2).trans rfl, (blk_cell BK332.out 3).trans rfl, (blk_cell BK332.out 4).trans rfl, hx334_0, hx334_1, hx334_2, hx334_3, hx334_4, hx335_0, hx335_1, hx335_2, hx335_3, hx335_4⟩ (fun hHeld => ?_); refine with_tabW impl_intentsOf.tab8 impl_intentsOf.bits8 (fun HT_ HW_ => ?_)
     generalize w36.drew = w37 at HO_6 BK326 BK332 HB hx334_0 hx334_1 hx334_2 hx334_3 hx334_4 hx335_0 hx335_1 hx335_2 hx335_3 hx335_4 hHeld ⊢
     refine pureS 0 29 HT_.out ?_
     refine pureS 2 31 HT_.out ?_
     refine pureS 3 32 HT_.out ?_
     refine takeS 1 30 HT_.out HW_.out hHeld (hr := by rintro w' ⟨s0, s1, s2, s3, s4, s5, s6, s7, s8, s9, s10, s11, s12, s13, s14⟩; go_simp; with_reducible rfl) (h := ?_)
     refine one_ (i := 4) (N := some 33) #[true, true, true, true, true, false, false, false, false, false, false, false, false, false, false, false, false, false, false, false, false, false, false, false, false, false, false, false, false, false, false, false, false, false] rfl rfl (one_of HT_.out (by kernel_rfl)) (by decide) (fun K hK => ?_)
     refine goes_ Try.func32 (by kernel_rfl) rfl #[.int .i64 ((rd_T71 l1 x22_2).f1), .int .i64 1, .int .i64 (x6_2.length : Int)] (by rfl) rfl rfl (by (try simp only [List.map_toArray, List.map_cons, List.map_nil]); first | done | rfl | (simp only [List.length_drop, List.length_take]; rfl)) ?_
     with_reducible refine (impl_within.calls ((rd_T71 l1 x22_2).f1) 1 (x6_2.length : Int) true _ A18.out).mono ?_
     rintro e w' ⟨rfl, ⟨nd, rfl⟩⟩
     refine ⟨_, rfl, ?_⟩
     refine hK.out _ _ ⟨(blk_cell BK332.out 0).trans rfl, (blk_cell BK332.out 1).trans rfl, (blk_cell BK332.out 2).trans rfl, (blk_cell BK332.out 3).trans rfl, (blk_cell BK332.out 4).trans rfl, hHeld.2.2.2.2.2.1, hHeld.2.2.2.2.2.2.1, hHeld.2.2.2.2.2.2.2.1, hHeld.2.2.2.2.2.2.2.2.1, hHeld.2.2.2.2.2.2.2.2.2.1, hHeld.2.2.2.2.2.2.2.2.2.2.1, hHeld.2.2.2.2.2.2.2.2.2.2.2.1, hHeld.2.2.2.2.2.2.2.2.2.2.2.2.1, hHeld.2.2.2.2.2.2.2.2.2.2.2.2.2.1, hHeld.2.2.2.2.2.2.2.2.2.2.2.2.2.2⟩ (fun hHeld => ?_)
     clear hK K
     refine norm_ (a' := ?_) ?_ ?_
     rotate_left
     ·
      show Act.put _ (some 33) _ = _
      simp only [Act.put, List.setIfInBounds_toArray, List.set_cons_zero, List.set_cons_succ, i64_w, i32_w]
      rfl
     refine pureS 5 34 HT_.out ?_
     refine pureS 6 35 HT_.out ?_
     refine pureS 7 36 HT_.out ?_
     refine pureS 9 38 HT_.out ?_
     refine takeS 8 37 HT_.out HW_.out hHeld (hr := by rintro w' ⟨s0, s1, s2, s3, s4, s5, s6, s7, s8, s9, s10, s11, s12, s13, s14⟩; go_simp; with_reducible rfl) (h := ?_)
     refine pureS 10 39 HT_.out ?_
     refine pureS 11 40 HT_.out ?_
     refine pureS 12 41 HT_.out ?_
     refine pureS 13 42 HT_.out ?_
     refine pureS 15 44 HT_.out ?_
     refine pureS 16 45 HT_.out ?_
     refine pureS 23 52 HT_.out ?_
     refine pureS 24 53 HT_.out ?_
     refine takeS 14 43 HT_.out HW_.out hHeld (hr := by rintro w' ⟨s0, s1, s2, s3, s4, s5, s6, s7, s8, s9, s10, s11, s12, s13, s14⟩; go_simp; with_reducible rfl) (h := ?_)
     refine takeS 17 46 HT_.out HW_.out hHeld (hr := by rintro w' ⟨s0, s1, s2, s3, s4, s5, s6, s7, s8, s9, s10, s11, s12, s13, s14⟩; go_simp; with_reducible rfl) (h := ?_)
     refine pureS 18 47 HT_.out ?_
     refine pureS 19 48 HT_.out ?_
     refine pureS 20 49 HT_.out ?_
     refine takeS 21 50 HT_.out HW_.out hHeld (hr := by rintro w' ⟨s0, s1, s2, s3, s4, s5, s6, s7, s8, s9, s10, s11, s12, s13, s14⟩; go_simp; with_reducible rfl) (h := ?_)
     refine pureS 22 51 HT_.out ?_
     refine takeS 25 54 HT_.out HW_.out hHeld (hr := by rintro w' ⟨s0, s1, s2, s3, s4, s5, s6, s7, s8, s9, s10, s11, s12, s13, s14⟩; go_simp; with_reducible rfl) (h := ?_)
     refine pureS 26 55 HT_.out ?_
     refine pureS 27 56 HT_.out ?_
     refine pureS 28 57 HT_.out ?_
     refine pureS 29 58 HT_.out ?_
     refine takeS 30 59 HT_.out HW_.out hHeld (hr := by rintro w' ⟨s0, s1, s2, s3, s4, s5, s6, s7, s8, s9, s10, s11, s12, s13, s14⟩; go_simp; with_reducible rfl) (h := ?_)
     refine one_ (i := 31) (N := some 60) #[true, true, true, true, true, true, true, true, true, true, true, true, true, true, true, true, true, true, true, true, true, true, true, true, true, true, true, true, true, true, true, true, false, false] rfl rfl (one_of HT_.out (by kernel_rfl)) (by decide) (fun K hK => ?_)
     refine goes_ Try.func32 (by kernel_rfl) rfl #[.int .i64 ((rd_T71 l1 x22_2).f3), .int .i64 (wrap64 (((rd_T71 x6_2 (ji27)).f3) + 1)), .int .i64 ((rd_T71 x6_2 (ji27)).f2.f1)] (by rfl) rfl rfl (by (try simp only [List.map_toArray, List.map_cons, List.map_nil]); first | done | (simp only [hji27]; rfl) | rfl | (simp only [List.length_drop, List.length_take]; rfl)) ?_
     have H := H_.out
     clear H_
     by_cases c31 : t336 = true
     rotate_left
     ·
      replace c31 := Bool.eq_false_iff.mpr c31
      subst c31
      rw [if_neg fne] at H
      simp only [Option.some.injEq, Prod.mk.injEq] at H
      obtain ⟨rfl, rfl⟩ := H
      with_reducible refine (impl_within.calls ((rd_T71 l1 x22_2).f3) (wrap64 (((rd_T71 x6_2 (ji27)).f3) + 1)) ((rd_T71 x6_2 (ji27)).f2.f1) false _ A30.out).mono ?_
      rintro e w' ⟨rfl, ⟨nd, rfl⟩⟩
      refine ⟨_, rfl, ?_⟩
      refine hK.out _ _ ⟨(blk_cell BK332.out 0).trans rfl, (blk_cell BK332.out 1).trans rfl, (blk_cell BK332.out 2).trans rfl, (blk_cell BK332.out 3).trans rfl, (blk_cell BK332.out 4).trans rfl, hHeld.2.2.2.2.2.1, hHeld.2.2.2.2.2.2.1, hHeld.2.2.2.2.2.2.2.1, hHeld.2.2.2.2.2.2.2.2.1, hHeld.2.2.2.2.2.2.2.2.2.1, hHeld.2.2.2.2.2.2.2.2.2.2.1, hHeld.2.2.2.2.2.2.2.2.2.2.2.1, hHeld.2.2.2.2.2.2.2.2.2.2.2.2.1, hHeld.2.2.2.2.2.2.2.2.2.2.2.2.2.1, hHeld.2.2.2.2.2.2.2.2.2.2.2.2.2.2⟩ (fun hHeld => ?_)
      clear hK K
      refine norm_ (a' := ?_) ?_ ?_
      rotate_left
      ·
       show Act.put _ (some 60) _ = _
       simp only [Act.put, List.setIfInBounds_toArray, List.set_cons_zero, List.set_cons_succ, i64_w, i32_w]
       rfl
      refine pureS 32 61 HT_.out ?_
      refine pureS 33 62 HT_.out ?_
      refine done_ (done_of HT_.out (by kernel_rfl)) ?_
      try go_wp2
      go_ret2
      exact ⟨_, by first | rfl | (simp [errW_none, errW_some] <;> rfl) | (simp only [← hji27]; first | rfl | (simp [errW_none, errW_some] <;> rfl)) | (simp [*, errW_none, errW_some] <;> rfl), by first | exact Kd.R_nil _ _ _ _ _ | exact Kd.N_nil _ _ _ _ _ | exact Kd.V_nil _ _ _ _ _ | exact Kd.Q_nil _ _ _ _ _ | exact Kd.S_nil _ _ _ _ _, bs2 HB GE326 GE332⟩
     subst c31
     rw [if_pos rfl] at H
     obtain ⟨y337, hy337⟩ : ∃ y_ : List (S71), y_ = (x6_2.set ((ji27) : Int).toNat (⟨(rd_T71 x6_2 (ji27)).f0, (rd_T71 x6_2 (ji27)).f1, (⟨(rd_T71 x6_2 (ji27)).f2.f0, (rd_T71 x6_2 (ji27)).f2.f1⟩ : S53), (rd_T71 l1 x22_2).f3⟩ : S71)) := ⟨_, rfl⟩
     replace H : (impl_intentsOf.l0 k2 y337 l1 (l1.length : Int) (wrap64 (x22_2 + 1)) a0_0 l0_1 l0_2) = some (r1, r2) := by first | (rw [hy337]; with_reducible exact H) | (have H2_ := (Option.bind_some _ _).symm.trans H; rw [hy337]; with_reducible exact H2_) | (have H2_ := (Option.bind_some _ _).symm.trans H; with_reducible exact H2_) | with_reducible exact H | (rw [hy337]; exact H) | exact H
     have Ny337 := Ah hy337
     clear hy337
     have H' := Ah H
     clear H
     with_reducible refine (impl_within.calls ((rd_T71 l1 x22_2).f3) (wrap64 (((rd_T71 x6_2 (ji27)).f3) + 1)) ((rd_T71 x6_2 (ji27)).f2.f1) true _ A30.out).mono ?_
     rintro e w' ⟨rfl, ⟨nd, rfl⟩⟩
     refine ⟨_, rfl, ?_⟩
     refine hK.out _ _ ⟨(blk_cell BK332.out 0).trans rfl, (blk_cell BK332.out 1).trans rfl, (blk_cell BK332.out 2).trans rfl, (blk_cell BK332.out 3).trans rfl, (blk_cell BK332.out 4).trans rfl, hHeld.2.2.2.2.2.1, hHeld.2.2.2.2.2.2.1, hHeld.2.2.2.2.2.2.2.1, hHeld.2.2.2.2.2.2.2.2.1, hHeld.2.2.2.2.2.2.2.2.2.1, hHeld.2.2.2.2.2.2.2.2.2.2.1, hHeld.2.2.2.2.2.2.2.2.2.2.2.1, hHeld.2.2.2.2.2.2.2.2.2.2.2.2.1, hHeld.2.2.2.2.2.2.2.2.2.2.2.2.2.1, hHeld.2.2.2.2.2.2.2.2.2.2.2.2.2.2⟩ (fun hHeld => ?_)
     clear hK K
     refine norm_ (a' := ?_) ?_ ?_
     rotate_left
     ·
      show Act.put _ (some 60) _ = _
      simp only [Act.put, List.setIfInBounds_toArray, List.set_cons_zero, List.set_cons_succ, i64_w, i32_w]
      rfl
     refine pureS 32 61 HT_.out ?_
     refine pureS 33 62 HT_.out ?_
     refine done_ (done_of HT_.out (by kernel_rfl)) ?_
     obtain ⟨hcz39_0, hcz39_1, hcz39_2, hcz39_3, hcz39_4⟩ := cz5 BK332
     obtain ⟨hfz39_0, hfz39_1, hfz39_2, hfz39_3, hfz39_4⟩ := fz5 BK332
     have p32 : 0 ≤ ((ji27) : Int) := od
     have q32 : ((ji27) : Int) < ((x6_2.length : Int) : Int) := od
     obtain ⟨go32, co32, eo32, gb32, gl32, cl32, HG32⟩ := Kd.R_form HO_6.out (by omega)
     (first | cases eo32 | (injection eo32 with ea_ en_ ec_; (first | subst ea_ | (injection ea_ with ea_; subst ea_)); subst ec_; clear en_))
     have GB32 := Ah gb32
     have GG32 := Ah HG32
     clear gb32 gl32 HG32
     (first | simp only [add_plain] at hx334_0 | skip)
     (first | simp only [add_plain] at hx334_1 | skip)
     (first | simp only [add_plain] at hx334_2 | skip)
     (first | simp only [add_plain] at hx334_3 | skip)
     (first | simp only [add_plain] at hx334_4 | skip)
     (first | simp only [add_plain] at hx335_0 | skip)
     (first | simp only [add_plain] at hx335_1 | skip)
     (first | simp only [add_plain] at hx335_2 | skip)
     (first | simp only [add_plain] at hx335_3 | skip)
     (first | simp only [add_plain] at hx335_4 | skip)
     obtain ⟨ce32, hcl32, hM32, hcc32, hfr32⟩ := Kd.R_elem HO_6.out z71 ((ji27) : Int) p32 q32
     obtain rfl := k71_openM hM32
     have hx32_0 : w37.cell? ⟨go32, ((ji27) : Int).toNat * 5, none⟩ = some (.int .i64 ((rd_T71 x6_2 (ji27)).f0)) := hcc32 0 _ rfl
     have hx32_1 : w37.cell? ⟨go32, ((ji27) : Int).toNat * 5 + 1, none⟩ = some (.int .i64 ((rd_T71 x6_2 (ji27)).f1)) := hcc32 1 _ rfl
     have hx32_2 : w37.cell? ⟨go32, ((ji27) : Int).toNat * 5 + 2, none⟩ = some (.int .i64 ((rd_T71 x6_2 (ji27)).f2.f0)) := hcc32 2 _ rfl
     have hx32_3 : w37.cell? ⟨go32, ((ji27) : Int).toNat * 5 + 3, none⟩ = some (.int .i64 ((rd_T71 x6_2 (ji27)).f2.f1)) := hcc32 3 _ rfl
     have hx32_4 : w37.cell? ⟨go32, ((ji27) : Int).toNat * 5 + 4, none⟩ = some (.int .i64 ((rd_T71 x6_2 (ji27)).f3)) := hcc32 4 _ rfl
     have hf32_0 : w37.frozen? ⟨go32, ((ji27) : Int).toNat * 5, none⟩ = false := hfr32 0
     have hf32_1 : w37.frozen? ⟨go32, ((ji27) : Int).toNat * 5 + 1, none⟩ = false := hfr32 1
     have hf32_2 : w37.frozen? ⟨go32, ((ji27) : Int).toNat * 5 + 2, none⟩ = false := hfr32 2
     have hf32_3 : w37.frozen? ⟨go32, ((ji27) : Int).toNat * 5 + 3, none⟩ = false := hfr32 3
     have hf32_4 : w37.frozen? ⟨go32, ((ji27) : Int).toNat * 5 + 4, none⟩ = false := hfr32 4
     clear hcl32 hcc32 hfr32 hM32
     replace p32 := eq_true p32
     replace q32 := eq_true q32
     have HX40 := Ah (show Kd.R k71 71 w37 w.heap.size (fun k_ => k_ ≠ gb332) (.slice (some ⟨go32, 0, none⟩) x6_2.length co38) x6_2 from (rr HO_6.out))
     obtain ⟨ce40, hcl40, hM40, hcc40, hfr40⟩ := Kd.R_elem HX40.out z71 ((ji27) : Int) (od) (by have h_ : ((ji27) : Int) < ((x6_2.length : Int) : Int) := od; first | exact h_ | (have e_ := (Kd.R_reads' HO_6.out).1; omega) | simpa using h_)
     obtain rfl := k71_openM hM40
     have HP40 := Kd.R_seg HX40.out ((ji27) : Int) (od) (by have h_ : ((ji27) : Int) < ((x6_2.length : Int) : Int) := od; first | exact h_ | (have e_ := (Kd.R_reads' HO_6.out).1; omega) | simpa using h_) (seg := [.int .i64 ((rd_T71 l1 x22_2).f3)]) (j := 4) hcl40 hcc40 (show 5 ≤ 5 from by decide) (x' := (⟨(rd_T71 x6_2 (ji27)).f0, (rd_T71 x6_2 (ji27)).f1, (⟨(rd_T71 x6_2 (ji27)).f2.f0, (rd_T71 x6_2 (ji27)).f2.f1⟩ : S53), (rd_T71 l1 x22_2).f3⟩ : S71)) (k71_mkM _ _ _ (⟨(rd_T71 x6_2 (ji27)).f0, (rd_T71 x6_2 (ji27)).f1, (⟨(rd_T71 x6_2 (ji27)).f2.f0, (rd_T71 x6_2 (ji27)).f2.f1⟩ : S53), (rd_T71 l1 x22_2).f3⟩ : S71) ) (fun _ hk => hk)
     have hx40_4 := hcc40 4 _ rfl
     (try simp only [show (k71).sz = 5 from rfl, Nat.mul_one, Nat.add_zero] at hx40_4)
     have hf40_4 := hfr40 4
     (try simp only [show (k71).sz = 5 from rfl, Nat.mul_one, Nat.add_zero] at hf40_4)
     clear hcl40 hcc40 hfr40 hM40
     try go_wp2_with (first | ((with_reducible refine gate_store (t := 3) (p := 70) rfl ?_); (try (rw [drewN_self w37]; generalize hq_ : World.drewN w37 _ = w37; replace HO_6 := Ah (Kd.R_at hq_ HO_6.out); replace BK326 := Ah (blk_at hq_ BK326.out); replace BK332 := Ah (blk_at hq_ BK332.out); replace HB := Ah (below_at hq_ HB.out); clear hq_; (try (have HX40 := Ah (show Kd.R k71 71 w37 w.heap.size (fun k_ => k_ ≠ gb332) (.slice (some ⟨go32, 0, none⟩) x6_2.length co38) x6_2 from (rr HO_6.out)))); (try (obtain ⟨ce40, hcl40, hM40, hcc40, hfr40⟩ := Kd.R_elem HX40.out z71 ((ji27) : Int) (od) (by have h_ : ((ji27) : Int) < ((x6_2.length : Int) : Int) := od; first | exact h_ | (have e_ := (Kd.R_reads' HO_6.out).1; omega) | simpa using h_))); (try (obtain rfl := k71_openM hM40)); (try (have HP40 := Kd.R_seg HX40.out ((ji27) : Int) (od) (by have h_ : ((ji27) : Int) < ((x6_2.length : Int) : Int) := od; first | exact h_ | (have e_ := (Kd.R_reads' HO_6.out).1; omega) | simpa using h_) (seg := [.int .i64 ((rd_T71 l1 x22_2).f3)]) (j := 4) hcl40 hcc40 (show 5 ≤ 5 from by decide) (x' := (⟨(rd_T71 x6_2 (ji27)).f0, (rd_T71 x6_2 (ji27)).f1, (⟨(rd_T71 x6_2 (ji27)).f2.f0, (rd_T71 x6_2 (ji27)).f2.f1⟩ : S53), (rd_T71 l1 x22_2).f3⟩ : S71)) (k71_mkM _ _ _ (⟨(rd_T71 x6_2 (ji27)).f0, (rd_T71 x6_2 (ji27)).f1, (⟨(rd_T71 x6_2 (ji27)).f2.f0, (rd_T71 x6_2 (ji27)).f2.f1⟩ : S53), (rd_T71 l1 x22_2).f3⟩ : S71) ) (fun _ hk => hk))); (try (have hx40_4 := hcc40 4 _ rfl)); (try (try simp only [show (k71).sz = 5 from rfl, Nat.mul_one, Nat.add_zero] at hx40_4)); (try (have hf40_4 := hfr40 4)); (try (try simp only [show (k71).sz = 5 from rfl, Nat.mul_one, Nat.add_zero] at hf40_4)); (try (clear hcl40 hcc40 hfr40 hM40)))); refine store_event (t := 3) (p := 70) (v := ?vo_w41) (w1 := (w37.setCell ⟨go32, ((ji27) : Int).toNat * 5 + 4, none⟩ (.int .i64 ((rd_T71 l1 x22_2).f3)))) ?hg ?ho ?hn ?hr ?_; (case ho => rfl); (case hg => rfl); (case hn => rfl); (case hr => first | (go_simp; done) | (go_simp; rfl)); intro w41 hw; have hg : w37.grownBy w41 (some go32) := (by rw [hw]; exact HP40.2); have hp_ : Kd.R k71 71 w41 w.heap.size (fun k_ => k_ ≠ gb332) (.slice (some ⟨go32, 0, none⟩) x6_2.length co38) y337 := (by rw [hw, Ny337.out]; exact HP40.1); clear HP40; replace BK326 := Ah (blk_grown (bk BK326) hg (Kd.R_ne HO_6.out BK326.out (by decide))); replace BK332 := Ah (blk_grown (bk BK332) hg (Kd.R_away HO_6.out (fun _ hk => hk))); replace HO_6 := Ah (hp_); replace HB := Ah ((by rw [hw]; exact below_set (HB.out) GB32.out : Below w.heap.size w w41)); clear hg hw hp_))
     go_roundg k2
     case measure => have := HJ2.out; have := HK2.out; omega
     case rel => exact ⟨(y337), (wrap64 (x22_2 + 1)), e3, H', ⟨by have := HJ2.out; have := HK2.out; omega⟩, rm HO_6 (fun _ hk => trivial), ⟨bk BK326⟩, ⟨bs2 HB GE326 GE332⟩⟩
def impl_goodIntents.f (k : Nat) (a0_0 : Int) (l0_1 : List (S53)) (l0_2 : List (S53)) (a0_3 : Int) (l0_4 : List (S71)) : Option ((List (S71)) × Bool) := (impl_intentsOf.f k a0_0 l0_1 l0_2 l0_4).bind fun bt345 => (if bt345.2 = true then (if a0_3 = (wrap64 ((bt345.1.length : Int) + 1)) then (some (bt345.1, true)) else (some (([] : List (S71)), false))) else (some (([] : List (S71)), false)))
theorem impl_goodIntents.mono : ∀ a0 a1 a2 a3 a4 k, LeO (impl_goodIntents.f k a0 a1 a2 a3 a4) (impl_goodIntents.f (k + 1) a0 a1 a2 a3 a4) := by
 intro a0 a1 a2 a3 a4 k
 unfold impl_goodIntents.f
 repeat' first
   | (with_reducible exact impl_intentsOf.mono _ _ _ _ _)
   | (with_reducible exact LeO.refl _)
   | (with_reducible exact LeO.none _)
   | (with_reducible refine LeO.ite ?_ ?_)
   | (with_reducible refine LeO.bind ?_ (fun _ => ?_))
   | exact impl_intentsOf.mono _ _ _ _ _
   | exact LeO.none _
   | refine LeO.ite ?_ ?_
   | refine LeO.bind ?_ (fun _ => ?_)
set_option maxHeartbeats 8000000 in
set_option maxRecDepth 100000 in
theorem impl_goodIntents.calls (k : Nat) (a0_0 : Int) (A0_1 : Option Addr) (c0_1 : Nat) (l0_1 : List (S53)) (A0_2 : Option Addr) (c0_2 : Nat) (l0_2 : List (S53)) (a0_3 : Int) (A0_4 : Option Addr) (c0_4 : Nat) (l0_4 : List (S71)) (r1 : List (S71)) (r2 : Bool) (w : World) (hr0_1 : Kd.C k53 w A0_1 l0_1.length l0_1) (hc0_1 : l0_1.length ≤ c0_1) (hr0_2 : Kd.C k53 w A0_2 l0_2.length l0_2) (hc0_2 : l0_2.length ≤ c0_2) (hr0_4 : Kd.C k71 w A0_4 l0_4.length l0_4) (hc0_4 : l0_4.length ≤ c0_4) (h : impl_goodIntents.f k a0_0 l0_1 l0_2 a0_3 l0_4 = some (r1, r2)) :
  Calls Try.prog 43 #[.agg #[.int .i64 a0_0, .slice A0_1 l0_1.length c0_1, .slice A0_2 l0_2.length c0_2, .int .i64 a0_3, .slice A0_4 l0_4.length c0_4]] w fun e w' => ∃ v0_ : Value, e = .returned (.tuple #[v0_, .bool r2]) ∧ Kd.R k71 71 w' w.heap.size (fun _ => True) v0_ r1 ∧ Below w.heap.size w w' := by
 have hu27 := Try.underlying27
 have hu24 := Try.underlying24
 have HR0_1 := Ah hr0_1
 have HC0_1 := Ah hc0_1
 clear hr0_1 hc0_1
 have HR0_2 := Ah hr0_2
 have HC0_2 := Ah hc0_2
 clear hr0_2 hc0_2
 have HR0_4 := Ah hr0_4
 have HC0_4 := Ah hc0_4
 clear hr0_4 hc0_4
 have HB := Ah (Below.refl w.heap.size w)
 have H : ((impl_intentsOf.f k a0_0 l0_1 l0_2 l0_4).bind fun bt345 => (if bt345.2 = true then (if a0_3 = (wrap64 ((bt345.1.length : Int) + 1)) then (some (bt345.1, true)) else (some (([] : List (S71)), false))) else (some (([] : List (S71)), false)))) = some (r1, r2) := h
 clear h
 replace H := Option.bind_eq_some_iff.mp H
 obtain ⟨⟨t345, t348⟩, A20, H⟩ := H
 try dsimp only at H
 have A2 := Ah A20
 clear A20
 by_cases c3 : t348 = true
 rotate_left
 ·
  replace c3 := Bool.eq_false_iff.mpr c3
  subst c3
  rw [if_neg fne] at H
  simp only [Option.some.injEq, Prod.mk.injEq] at H
  obtain ⟨rfl, rfl⟩ := H
  go_enter Try.func43, Try.ntmps43
  go_wp2_with (first | ((with_reducible refine gate_dst (N := 1) rfl ?_); (try (refine gate_guard (by rfl) ?_; dsimp only)); refine boxL 1 27 #[.int .i64 a0_0, .slice A0_1 l0_1.length c0_1, .slice A0_2 l0_2.length c0_2, .int .i64 a0_3, .slice A0_4 l0_4.length c0_4] ?_; intro gb344 hg w15 BK344 hb; have GW344 := gw hg (bs HB); have GE344 := gw hg (bs HB); replace HB := Ah (below_step (bs HB) hb); clear hb hg; obtain ⟨hcz16_0, hcz16_1, hcz16_2, hcz16_3, hcz16_4⟩ := cz5 BK344; obtain ⟨hfz16_0, hfz16_1, hfz16_2, hfz16_3, hfz16_4⟩ := fz5 BK344) | ((with_reducible refine gate_callee (f := 64) rfl ?_); refine gL (some 11) rfl rfl Try.func64 (by kernel_rfl) rfl #[.agg #[.int .i64 a0_0, .slice A0_1 l0_1.length c0_1, .slice A0_2 l0_2.length c0_2], .slice A0_4 l0_4.length c0_4] rfl ?_; (with_reducible refine (impl_intentsOf.calls k a0_0 _ _ l0_1 _ _ l0_2 _ _ l0_4 t345 false _ ?side1 ?side2 ?side3 ?side4 ?side5 ?side6 A2.out).mono ?_); (case side1 => exact cb HR0_1 HB); (case side2 => exact HC0_1.out); (case side3 => exact cb HR0_2 HB); (case side4 => exact HC0_2.out); (case side5 => exact cb HR0_4 HB); (case side6 => exact HC0_4.out); rintro e w17 ⟨v346, rfl, ho0, hb⟩; refine ⟨_, rfl, ?_⟩; have HO347 := Ah (Kd.R_lower ho0 (below_size (bs1 HB GE344))); replace BK344 := nb BK344 hb; replace HB := Ah (below_step (bs1 HB GE344) hb); (try clear hb ho0)))
  go_ret2
  exact ⟨_, er, by first | exact Kd.R_nil _ _ _ _ _ | exact Kd.N_nil _ _ _ _ _ | exact Kd.V_nil _ _ _ _ _ | exact Kd.Q_nil _ _ _ _ _ | exact Kd.S_nil _ _ _ _ _, bs1 HB GE344⟩
 subst c3
 rw [if_pos rfl] at H
 by_cases c4 : a0_3 = (wrap64 ((t345.length : Int) + 1))
 ·
  rw [if_pos c4] at H
  have c4b0 : (a0_3 == (wrap64 ((t345.length : Int) + 1))) = true := beq_iff_eq.mpr c4
  have c4b1 : (a0_3 != (wrap64 ((t345.length : Int) + 1))) = false := bne_eq_false_iff_eq.mpr c4
  clear c4
  simp only [Option.some.injEq, Prod.mk.injEq] at H
  obtain ⟨rfl, rfl⟩ := H
  go_enter Try.func43, Try.ntmps43
  go_wp2_with (first | ((with_reducible refine gate_dst (N := 1) rfl ?_); (try (refine gate_guard (by rfl) ?_; dsimp only)); refine boxL 1 27 #[.int .i64 a0_0, .slice A0_1 l0_1.length c0_1, .slice A0_2 l0_2.length c0_2, .int .i64 a0_3, .slice A0_4 l0_4.length c0_4] ?_; intro gb344 hg w5 BK344 hb; have GW344 := gw hg (bs HB); have GE344 := gw hg (bs HB); replace HB := Ah (below_step (bs HB) hb); clear hb hg; obtain ⟨hcz6_0, hcz6_1, hcz6_2, hcz6_3, hcz6_4⟩ := cz5 BK344; obtain ⟨hfz6_0, hfz6_1, hfz6_2, hfz6_3, hfz6_4⟩ := fz5 BK344) | ((with_reducible refine gate_callee (f := 64) rfl ?_); refine gL (some 11) rfl rfl Try.func64 (by kernel_rfl) rfl #[.agg #[.int .i64 a0_0, .slice A0_1 l0_1.length c0_1, .slice A0_2 l0_2.length c0_2], .slice A0_4 l0_4.length c0_4] rfl ?_; (with_reducible refine (impl_intentsOf.calls k a0_0 _ _ l0_1 _ _ l0_2 _ _ l0_4 t345 true _ ?side1 ?side2 ?side3 ?side4 ?side5 ?side6 A2.out).mono ?_); (case side1 => exact cb HR0_1 HB); (case side2 => exact HC0_1.out); (case side3 => exact cb HR0_2 HB); (case side4 => exact HC0_2.out); (case side5 => exact cb HR0_4 HB); (case side6 => exact HC0_4.out); rintro e w7 ⟨v346, rfl, ho0, hb⟩; refine ⟨_, rfl, ?_⟩; have HO347 := Ah (Kd.R_lower ho0 (below_size (bs1 HB GE344))); replace BK344 := nb BK344 hb; replace HB := Ah (below_step (bs1 HB GE344) hb); (try clear hb ho0); obtain ⟨hcz8_0, hcz8_1, hcz8_2, hcz8_3, hcz8_4⟩ := cz5 BK344; obtain ⟨hfz8_0, hfz8_1, hfz8_2, hfz8_3, hfz8_4⟩ := fz5 BK344; obtain ⟨Ao9, co9, eo9⟩ := Kd.R_slice HO347.out; subst eo9))
  go_ret2
  exact ⟨_, er, by (with_reducible repeat (first | apply Kd.R_alloc | apply Kd.R_drewN | apply Kd.R_drew)); exact HO347.out, bs1 HB GE344⟩
 rw [if_neg c4] at H
 have c4b0 : (a0_3 == (wrap64 ((t345.length : Int) + 1))) = false := beq_eq_false_iff_ne.mpr c4
 have c4b1 : (a0_3 != (wrap64 ((t345.length : Int) + 1))) = true := bne_iff_ne.mpr c4
 simp only [Option.some.injEq, Prod.mk.injEq] at H
 obtain ⟨rfl, rfl⟩ := H
 go_enter Try.func43, Try.ntmps43
 go_wp2_with (first | ((with_reducible refine gate_dst (N := 1) rfl ?_); (try (refine gate_guard (by rfl) ?_; dsimp only)); refine boxL 1 27 #[.int .i64 a0_0, .slice A0_1 l0_1.length c0_1, .slice A0_2 l0_2.length c0_2, .int .i64 a0_3, .slice A0_4 l0_4.length c0_4] ?_; intro gb344 hg w10 BK344 hb; have GW344 := gw hg (bs HB); have GE344 := gw hg (bs HB); replace HB := Ah (below_step (bs HB) hb); clear hb hg; obtain ⟨hcz11_0, hcz11_1, hcz11_2, hcz11_3, hcz11_4⟩ := cz5 BK344; obtain ⟨hfz11_0, hfz11_1, hfz11_2, hfz11_3, hfz11_4⟩ := fz5 BK344) | ((with_reducible refine gate_callee (f := 64) rfl ?_); refine gL (some 11) rfl rfl Try.func64 (by kernel_rfl) rfl #[.agg #[.int .i64 a0_0, .slice A0_1 l0_1.length c0_1, .slice A0_2 l0_2.length c0_2], .slice A0_4 l0_4.length c0_4] rfl ?_; (with_reducible refine (impl_intentsOf.calls k a0_0 _ _ l0_1 _ _ l0_2 _ _ l0_4 t345 true _ ?side1 ?side2 ?side3 ?side4 ?side5 ?side6 A2.out).mono ?_); (case side1 => exact cb HR0_1 HB); (case side2 => exact HC0_1.out); (case side3 => exact cb HR0_2 HB); (case side4 => exact HC0_2.out); (case side5 => exact cb HR0_4 HB); (case side6 => exact HC0_4.out); rintro e w12 ⟨v346, rfl, ho0, hb⟩; refine ⟨_, rfl, ?_⟩; have HO347 := Ah (Kd.R_lower ho0 (below_size (bs1 HB GE344))); replace BK344 := nb BK344 hb; replace HB := Ah (below_step (bs1 HB GE344) hb); (try clear hb ho0); obtain ⟨hcz13_0, hcz13_1, hcz13_2, hcz13_3, hcz13_4⟩ := cz5 BK344; obtain ⟨hfz13_0, hfz13_1, hfz13_2, hfz13_3, hfz13_4⟩ := fz5 BK344; obtain ⟨Ao14, co14, eo14⟩ := Kd.R_slice HO347.out; subst eo14))
 go_ret2
 exact ⟨_, er, by first | exact Kd.R_nil _ _ _ _ _ | exact Kd.N_nil _ _ _ _ _ | exact Kd.V_nil _ _ _ _ _ | exact Kd.Q_nil _ _ _ _ _ | exact Kd.S_nil _ _ _ _ _, bs1 HB GE344⟩
def impl_GoodWork.f (k : Nat) (a0_0 : Int) (l0_1 : List (S53)) (l0_2 : List (S53)) (a0_3 : Int) (l0_4 : List (S71)) : Option (Bool) := (impl_goodIntents.f k a0_0 l0_1 l0_2 a0_3 l0_4).bind fun bt350 => (some bt350.2)
theorem impl_GoodWork.mono : ∀ a0 a1 a2 a3 a4 k, LeO (impl_GoodWork.f k a0 a1 a2 a3 a4) (impl_GoodWork.f (k + 1) a0 a1 a2 a3 a4) := by
 intro a0 a1 a2 a3 a4 k
 unfold impl_GoodWork.f
 repeat' first
   | (with_reducible exact impl_goodIntents.mono _ _ _ _ _ _)
   | (with_reducible exact LeO.refl _)
   | (with_reducible exact LeO.none _)
   | (with_reducible refine LeO.ite ?_ ?_)
   | (with_reducible refine LeO.bind ?_ (fun _ => ?_))
   | exact impl_goodIntents.mono _ _ _ _ _ _
   | exact LeO.none _
   | refine LeO.ite ?_ ?_
   | refine LeO.bind ?_ (fun _ => ?_)
set_option maxHeartbeats 8000000 in
set_option maxRecDepth 100000 in
theorem impl_GoodWork.calls (k : Nat) (a0_0 : Int) (A0_1 : Option Addr) (c0_1 : Nat) (l0_1 : List (S53)) (A0_2 : Option Addr) (c0_2 : Nat) (l0_2 : List (S53)) (a0_3 : Int) (A0_4 : Option Addr) (c0_4 : Nat) (l0_4 : List (S71)) (r : Bool) (w : World) (hr0_1 : Kd.C k53 w A0_1 l0_1.length l0_1) (hc0_1 : l0_1.length ≤ c0_1) (hr0_2 : Kd.C k53 w A0_2 l0_2.length l0_2) (hc0_2 : l0_2.length ≤ c0_2) (hr0_4 : Kd.C k71 w A0_4 l0_4.length l0_4) (hc0_4 : l0_4.length ≤ c0_4) (h : impl_GoodWork.f k a0_0 l0_1 l0_2 a0_3 l0_4 = some r) :
  Calls Try.prog 17 #[.agg #[.int .i64 a0_0, .slice A0_1 l0_1.length c0_1, .slice A0_2 l0_2.length c0_2, .int .i64 a0_3, .slice A0_4 l0_4.length c0_4]] w fun e w' => e = .returned (.bool r) ∧ Below w.heap.size w w' := by
 have hu27 := Try.underlying27
 have HR0_1 := Ah hr0_1
 have HC0_1 := Ah hc0_1
 clear hr0_1 hc0_1
 have HR0_2 := Ah hr0_2
 have HC0_2 := Ah hc0_2
 clear hr0_2 hc0_2
 have HR0_4 := Ah hr0_4
 have HC0_4 := Ah hc0_4
 clear hr0_4 hc0_4
 have HB := Ah (Below.refl w.heap.size w)
 have H : ((impl_goodIntents.f k a0_0 l0_1 l0_2 a0_3 l0_4).bind fun bt350 => (some bt350.2)) = some r := h
 clear h
 replace H := Option.bind_eq_some_iff.mp H
 obtain ⟨⟨t350, t353⟩, A20, H⟩ := H
 try dsimp only at H
 have A2 := Ah A20
 clear A20
 obtain rfl := Option.some.inj H
 go_enter Try.func17, Try.ntmps17
 go_wp2_with (first | ((with_reducible refine gate_dst (N := 1) rfl ?_); refine boxL 1 27 #[.int .i64 a0_0, .slice A0_1 l0_1.length c0_1, .slice A0_2 l0_2.length c0_2, .int .i64 a0_3, .slice A0_4 l0_4.length c0_4] ?_; intro gb349 hg w3 BK349 hb; have GW349 := gw hg (bs HB); have GE349 := gw hg (bs HB); replace HB := Ah (below_step (bs HB) hb); clear hb hg; obtain ⟨hcz4_0, hcz4_1, hcz4_2, hcz4_3, hcz4_4⟩ := cz5 BK349; obtain ⟨hfz4_0, hfz4_1, hfz4_2, hfz4_3, hfz4_4⟩ := fz5 BK349) | ((with_reducible refine gate_callee (f := 43) rfl ?_); refine gL (some 7) rfl rfl Try.func43 (by kernel_rfl) rfl #[.agg #[.int .i64 a0_0, .slice A0_1 l0_1.length c0_1, .slice A0_2 l0_2.length c0_2, .int .i64 a0_3, .slice A0_4 l0_4.length c0_4]] rfl ?_; (with_reducible refine (impl_goodIntents.calls k a0_0 _ _ l0_1 _ _ l0_2 a0_3 _ _ l0_4 t350 t353 _ ?side1 ?side2 ?side3 ?side4 ?side5 ?side6 A2.out).mono ?_); (case side1 => exact cb HR0_1 HB); (case side2 => exact HC0_1.out); (case side3 => exact cb HR0_2 HB); (case side4 => exact HC0_2.out); (case side5 => exact cb HR0_4 HB); (case side6 => exact HC0_4.out); rintro e w5 ⟨v351, rfl, ho0, hb⟩; refine ⟨_, rfl, ?_⟩; have HO352 := Ah (Kd.R_lower ho0 (below_size (bs1 HB GE349))); replace BK349 := nb BK349 hb; replace HB := Ah (below_step (bs1 HB GE349) hb); (try clear hb ho0)))
 go_ret
 exact ⟨er, bs1 HB GE349⟩
def spec_l5Of.f (k : Nat) (a0 : Int) (l1 : List (S53)) : Option (Int × (List (S53)) × (List (S53))) := (some (([] : List (S53)) : List (S53))).bind fun y355 => (if y355.length + l1.length < 8796093022208 then ((spec_l5BySize.f k l1).bind fun t361 => (some (a0, (y355 ++ l1), t361))) else (none))
theorem spec_l5Of.mono : ∀ a0 a1 k, LeO (spec_l5Of.f k a0 a1) (spec_l5Of.f (k + 1) a0 a1) := by
 intro a0 a1 k
 unfold spec_l5Of.f
 repeat' first
   | (with_reducible exact spec_l5BySize.mono _ _)
   | (with_reducible exact LeO.refl _)
   | (with_reducible exact LeO.none _)
   | (with_reducible refine LeO.ite ?_ ?_)
   | (with_reducible refine LeO.bind ?_ (fun _ => ?_))
   | exact spec_l5BySize.mono _ _
   | exact LeO.none _
   | refine LeO.ite ?_ ?_
   | refine LeO.bind ?_ (fun _ => ?_)
set_option maxHeartbeats 8000000 in
set_option maxRecDepth 100000 in
theorem spec_l5Of.calls (k : Nat) (a0 : Int) (A1 : Option Addr) (c1 : Nat) (l1 : List (S53)) (r1 : Int) (r2 : List (S53)) (r3 : List (S53)) (w : World) (hr1 : Kd.C k53 w A1 l1.length l1) (hc1 : l1.length ≤ c1) (h : spec_l5Of.f k a0 l1 = some (r1, r2, r3)) :
  Calls Try.prog 31 #[.int .i64 a0, .slice A1 l1.length c1] w fun e w' => ∃ v1_ v2_ : Value, e = .returned (.agg #[.int .i64 r1, v1_, v2_]) ∧ Kd.R k53 53 w' w.heap.size (fun k_ => some k_ ≠ (v2_ : Value).ownBlock) v1_ r2 ∧ Kd.R k53 53 w' w.heap.size (fun k_ => some k_ ≠ (v1_ : Value).ownBlock) v2_ r3 ∧ Below w.heap.size w w' := by
 have hu24 := Try.underlying24
 have HR1 := Ah hr1
 have HC1 := Ah hc1
 clear hr1 hc1
 have HB := Ah (Below.refl w.heap.size w)
 have H : ((some (([] : List (S53)) : List (S53))).bind fun y355 => (if y355.length + l1.length < 8796093022208 then ((spec_l5BySize.f k l1).bind fun t361 => (some (a0, (y355 ++ l1), t361))) else (none))) = some (r1, r2, r3) := h
 clear h
 obtain ⟨y355, hy355⟩ : ∃ y_ : List (S53), y_ = (([] : List (S53))) := ⟨_, rfl⟩
 replace H : (if y355.length + l1.length < 8796093022208 then ((spec_l5BySize.f k l1).bind fun t361 => (some (a0, (y355 ++ l1), t361))) else (none)) = some (r1, r2, r3) := by first | (rw [hy355]; with_reducible exact H) | (have H2_ := (Option.bind_some _ _).symm.trans H; rw [hy355]; with_reducible exact H2_) | (have H2_ := (Option.bind_some _ _).symm.trans H; with_reducible exact H2_) | with_reducible exact H | (rw [hy355]; exact H) | exact H
 have Ny355 := Ah hy355
 clear hy355
 by_cases c3 : y355.length + l1.length < 8796093022208
 rotate_left
 ·
  rw [if_neg c3] at H
  exact absurd H (by simp)
 rw [if_pos c3] at H
 have LMc3 := Ah c3
 clear c3
 obtain ⟨y358, hy358⟩ : ∃ y_ : List (S53), y_ = (y355 ++ l1) := ⟨_, rfl⟩
 replace H : ((spec_l5BySize.f k l1).bind fun t361 => (some (a0, y358, t361))) = some (r1, r2, r3) := by first | (rw [hy358]; with_reducible exact H) | (have H2_ := (Option.bind_some _ _).symm.trans H; rw [hy358]; with_reducible exact H2_) | (have H2_ := (Option.bind_some _ _).symm.trans H; with_reducible exact H2_) | with_reducible exact H | (rw [hy358]; exact H) | exact H
 have Ny358 := Ah hy358
 clear hy358
 replace H := Option.bind_eq_some_iff.mp H
 obtain ⟨t361, A40, H⟩ := H
 try dsimp only at H
 have A4 := Ah A40
 clear A40
 simp only [Option.some.injEq, Prod.mk.injEq] at H
 obtain ⟨rfl, rfl, rfl⟩ := H
 go_enter Try.func31, Try.ntmps31
 go_wp2_with (first | ((with_reducible refine gate_dst (N := 4) rfl ?_); refine boxL 4 24 #[.int .i64 0, .slice none 0 0, .slice none 0 0] ?_; intro gb354 hg w5 BK354 hb; have GW354 := gw hg (bs HB); have GE354 := gw hg (bs HB); replace HB := Ah (below_step (bs HB) hb); clear hb hg) | ((with_reducible refine gate_dst (N := 6) rfl ?_); refine Kd.R_lit k53 _ 53 ?hg (N := 6) ?hd (xs := ([] : List (S53))) (inner := []) (ok := fun _ => True) (okp := fun _ => True) ?hr ?hp (fun _ hk => hk) trivial (Below.refl _ _) (Nat.le_refl _) (by simp) ?_; (case hd => rfl); (case hg => rfl); (case hr => first | (go_simp; done) | (go_simp; rfl)); (case hp => exact (Reps.none _ _)); intro v356 w6 ho7 hb hg_ hnew_; clear hg_ hnew_; (first | rw [← Ny355.out] at ho7 | (simp only [Int.reduceToNat] at ho7; rw [← Ny355.out] at ho7)); have HO357 := Ah (Kd.R_lower ho7 (below_size (bs1 HB GE354))); replace BK354 := nb BK354 hb; replace HB := Ah (below_step (bs1 HB GE354) hb); clear hb ho7) | ((with_reducible refine gate_builtin (b := .append) (xs := #[.tmp 6, .tmp 7]) rfl ?_); at_builtin; refine Kd.R_append_rows k53 (w0 := w) w.heap.size rfl (.tmp 6) (.tmp 7) 22 53 (.agg #[(.int .i64 0), (.int .i64 0)]) 16 rfl Try.underlying22 info53 rfl (by decide) (by omega) v356 y355 l1 _ _ _ (fun _ => True) (fun _ => False) rfl rfl ?aO ?aR (fun _ _ h => h) (fun _ h => h.elim) ?aF ?aB ?aS ?aL ?_; (case aR => exact cb HR1 HB); (case aB => exact (bs1 HB GE354)); (case aF => exact (fun _ _ => trivial)); (case aO => exact (rr HO357.out)); (case aS => exact (below_size (bs1 HB GE354))); (case aL => have := LMc3.out; omega); intro v359 w8 ho hb hg hat; rw [← Ny358.out] at ho; replace BK354 := Ah (blk_grown (bk BK354) hg (Kd.R_ne HO357.out BK354.out (by decide))); replace HB := Ah (hb); have HO360 := Ah (ho); clear HO357; clear ho hb hg hat) | ((with_reducible refine gate_callee (f := 50) rfl ?_); refine gL (some 10) rfl rfl Try.func50 (by kernel_rfl) rfl #[.slice A1 l1.length c1] rfl ?_; (with_reducible refine (spec_l5BySize.calls k _ _ l1 t361 _ ?side1 ?side2 A4.out).mono ?_); (case side1 => exact cb HR1 HB); (case side2 => exact HC1.out); rintro e w9 ⟨v362, rfl, ho0, hb⟩; refine ⟨_, rfl, ?_⟩; have HO363 := Ah (Kd.R_lower (Kd.R_new' ho0 (Kd.R_lt (rr HO360.out))) (below_size (bs1 HB GE354))); replace HO360 := Ah (Kd.R_elder' (rr HO360.out) (Kd.R_base ho0) hb); replace BK354 := nb BK354 hb; replace HB := Ah (below_step (bs1 HB GE354) hb); (try clear hb ho0); obtain ⟨Ao10, co10, eo10⟩ := Kd.R_slice HO363.out; subst eo10; obtain ⟨Ao11, co11, eo11⟩ := Kd.R_slice HO360.out; subst eo11; obtain ⟨hcz12_0, hcz12_1, hcz12_2⟩ := cz3 BK354; obtain ⟨hfz12_0, hfz12_1, hfz12_2⟩ := fz3 BK354))
 refine bodyPost_ret (results_cell_row rfl _ _ gb354 24 #[.int .i64 a0, .slice Ao11 y358.length co11, .slice Ao10 t361.length co10] (0, 0) _ rfl (by (with_reducible repeat (first | refine blk_drewN ?_ _ | refine blk_drew ?_ | refine blk_alloc ?_ _)); refine blk_put (cs := #[.int .i64 a0, .slice Ao11 y358.length co11, .slice none 0 0]) ?_ 2 _ rfl; (with_reducible repeat (first | refine blk_drewN ?_ _ | refine blk_drew ?_ | refine blk_alloc ?_ _)); refine blk_put (cs := #[.int .i64 a0, .slice none 0 0, .slice none 0 0]) ?_ 1 _ rfl; (with_reducible repeat (first | refine blk_drewN ?_ _ | refine blk_drew ?_ | refine blk_alloc ?_ _)); refine blk_put (cs := #[.int .i64 0, .slice none 0 0, .slice none 0 0]) ?_ 0 _ rfl; (with_reducible repeat (first | refine blk_drewN ?_ _ | refine blk_drew ?_ | refine blk_alloc ?_ _)); exact BK354.out) Try.underlying24 rfl (by kernel_rfl)) rfl ?_
 exact ⟨_, _, er, by (with_reducible repeat (first | apply Kd.R_alloc | apply Kd.R_drewN | apply Kd.R_drew)); exact Kd.R_mono (Kd.R_far (p := ⟨gb354, 2, none⟩) (Kd.R_far (p := ⟨gb354, 1, none⟩) (Kd.R_far (p := ⟨gb354, 0, none⟩) (Kd.R_types HO360.out BK354.out (by decide)) (fun _ hk => hk.2) (.int .i64 a0)) (fun _ hk => hk.2) (.slice Ao11 y358.length co11)) (fun _ hk => hk.2) (.slice Ao10 t361.length co10)) (fun _ hk => hk.1.2), by (with_reducible repeat (first | apply Kd.R_alloc | apply Kd.R_drewN | apply Kd.R_drew)); exact Kd.R_mono (Kd.R_far (p := ⟨gb354, 2, none⟩) (Kd.R_far (p := ⟨gb354, 1, none⟩) (Kd.R_far (p := ⟨gb354, 0, none⟩) (Kd.R_types HO363.out BK354.out (by decide)) (fun _ hk => hk.2) (.int .i64 a0)) (fun _ hk => hk.2) (.slice Ao11 y358.length co11)) (fun _ hk => hk.2) (.slice Ao10 t361.length co10)) (fun _ hk => hk.1.2), bs1 HB GE354⟩
mutual
def spec_l12Open.l0 : Nat → List (S71) → List (S71) → List (S71) → Int → Int → Option ((List (S71)))
 | 0, _, _, _, _, _ => none
 | k + 1, x0, x3, x8, x9, x10 => if x10 < x9 then (if 0 ≤ x10 then (if x10 < (x8.length : Int) then (if ((rd_T71 x8 x10).f0) = 1 then (spec_l12Open.l1 k x0 x3 x8 x9 x10 x0 (x0.length : Int) 0 ((rd_T71 x8 x10).f0) ((rd_T71 x8 x10).f1) ((rd_T71 x8 x10).f2.f0) ((rd_T71 x8 x10).f2.f1) ((rd_T71 x8 x10).f3)) else (spec_l12Open.l0 k x0 x3 x8 x9 (wrap64 (x10 + 1)))) else (none)) else (none)) else (some x3)
def spec_l12Open.l1 : Nat → List (S71) → List (S71) → List (S71) → Int → Int → List (S71) → Int → Int → Int → Int → Int → Int → Int → Option ((List (S71)))
 | 0, _, _, _, _, _, _, _, _, _, _, _, _, _ => none
 | k + 1, x0, x3, x8, x9, x10, x17, x18, x19, x366000, x366001, x366002, x366003, x366004 => if x19 < x18 then (if 0 ≤ x19 then (if x19 < (x17.length : Int) then (if ((rd_T71 x17 x19).f1) = x366001 then (spec_l12Open.l1 k x0 x3 x8 x9 x10 x17 x18 (wrap64 (x19 + 1)) x366000 x366001 x366002 x366003 ((rd_T71 x17 x19).f3)) else (spec_l12Open.l1 k x0 x3 x8 x9 x10 x17 x18 (wrap64 (x19 + 1)) x366000 x366001 x366002 x366003 x366004)) else (none)) else (none)) else (if x366004 < x366003 then (if x3.length < 3518437208883 then (spec_l12Open.l0 k x0 (x3 ++ [(⟨x366000, x366001, (⟨x366002, x366003⟩ : S53), x366004⟩ : S71)]) x8 x9 (wrap64 (x10 + 1))) else (none)) else (spec_l12Open.l0 k x0 x3 x8 x9 (wrap64 (x10 + 1))))
end
def spec_l12Open.f (k : Nat) (l0 : List (S71)) : Option ((List (S71))) := spec_l12Open.l0 k l0 ([] : List (S71)) l0 (l0.length : Int) 0
theorem spec_l12Open.mono_l : ∀ k, (∀ y0 y1 y2 y3 y4, LeO (spec_l12Open.l0 k y0 y1 y2 y3 y4) (spec_l12Open.l0 (k + 1) y0 y1 y2 y3 y4)) ∧ (∀ y0 y1 y2 y3 y4 y5 y6 y7 y8 y9 y10 y11 y12, LeO (spec_l12Open.l1 k y0 y1 y2 y3 y4 y5 y6 y7 y8 y9 y10 y11 y12) (spec_l12Open.l1 (k + 1) y0 y1 y2 y3 y4 y5 y6 y7 y8 y9 y10 y11 y12))
 | 0 => ⟨fun _ _ _ _ _ r h => by simp [spec_l12Open.l0] at h, fun _ _ _ _ _ _ _ _ _ _ _ _ _ r h => by simp [spec_l12Open.l1] at h⟩
 | k + 1 => by
  obtain ⟨ih0, ih1⟩ := spec_l12Open.mono_l k
  refine ⟨?_, ?_⟩ <;> intros <;> first | unfold spec_l12Open.l0 | unfold spec_l12Open.l1
  all_goals repeat' first
   | (with_reducible exact ih0 _ _ _ _ _)
   | (with_reducible exact ih1 _ _ _ _ _ _ _ _ _ _ _ _ _)
   | (with_reducible exact LeO.refl _)
   | (with_reducible exact LeO.none _)
   | (with_reducible refine LeO.ite ?_ ?_)
   | (with_reducible refine LeO.bind ?_ (fun _ => ?_))
   | exact ih0 _ _ _ _ _
   | exact ih1 _ _ _ _ _ _ _ _ _ _ _ _ _
   | exact LeO.none _
   | refine LeO.ite ?_ ?_
   | refine LeO.bind ?_ (fun _ => ?_)
theorem spec_l12Open.mono : ∀ a0 k, LeO (spec_l12Open.f k a0) (spec_l12Open.f (k + 1) a0) := by
 intro a0 k
 obtain ⟨ih0, ih1⟩ := spec_l12Open.mono_l k
 unfold spec_l12Open.f
 repeat' first
   | (with_reducible exact ih0 _ _ _ _ _)
   | (with_reducible exact ih1 _ _ _ _ _ _ _ _ _ _ _ _ _)
   | (with_reducible exact LeO.refl _)
   | (with_reducible exact LeO.none _)
   | (with_reducible refine LeO.ite ?_ ?_)
   | (with_reducible refine LeO.bind ?_ (fun _ => ?_))
   | exact ih0 _ _ _ _ _
   | exact ih1 _ _ _ _ _ _ _ _ _ _ _ _ _
   | exact LeO.none _
   | refine LeO.ite ?_ ?_
   | refine LeO.bind ?_ (fun _ => ?_)
set_option maxHeartbeats 8000000 in
set_option maxRecDepth 100000 in
theorem spec_l12Open.calls (k : Nat) (A0 : Option Addr) (c0 : Nat) (l0 : List (S71)) (r : List (S71)) (w : World) (hr0 : Kd.C k71 w A0 l0.length l0) (hc0 : l0.length ≤ c0) (h : spec_l12Open.f k l0 = some r) :
  Calls Try.prog 44 #[.slice A0 l0.length c0] w fun e w' => ∃ v0_ : Value, e = .returned (v0_) ∧ Kd.R k71 71 w' w.heap.size (fun _ => True) v0_ r ∧ Below w.heap.size w w' := by
 have hu71 := Try.underlying71
 have HR0 := Ah hr0
 have HC0 := Ah hc0
 clear hr0 hc0
 have HB := Ah (Below.refl w.heap.size w)
 have H : (spec_l12Open.l0 k l0 ([] : List (S71)) l0 (l0.length : Int) 0) = some r := h
 clear h
 have H' := Ah H
 clear H
 go_enter Try.func44, Try.ntmps44
 go_wp2
 go_loopg [3, 10] k (fun kq v3 v10 w' => ∃ (x3_1 : List (S71)) (x10_1 : Int), v10 = .int .i64 x10_1 ∧ Aside0 (spec_l12Open.l0 kq l0 x3_1 l0 (l0.length : Int) x10_1 = some r) ∧ Aside0 (kq ≤ k) ∧ Aside0 (Kd.R k71 71 w' w.heap.size (fun _ => True) v3 x3_1) ∧ Aside0 (Below w.heap.size w w'))
 case atStart => exact ⟨(([] : List (S71))), (0), e3, H', ⟨Nat.le_refl _⟩, ⟨by first | exact Kd.R_nil _ _ _ _ _ | exact Kd.N_nil _ _ _ _ _ | exact Kd.V_nil _ _ _ _ _ | exact Kd.Q_nil _ _ _ _ _ | exact Kd.S_nil _ _ _ _ _⟩, ⟨bs HB⟩⟩
 case round =>
  clear H'
  obtain ⟨x3_1, x10_1, rfl, HA, HK1, HO_3, HB⟩ := hrel
  cases gk with
  | zero => exact absurd HA.out (by simp [spec_l12Open.l0])
  | succ k1 =>
   have H := HA.out
   clear HA
   simp only [spec_l12Open.l0] at H
   by_cases c2 : x10_1 < (l0.length : Int)
   rotate_left
   ·
    rw [if_neg c2] at H
    have c2b0 : decide (x10_1 < (l0.length : Int)) = false := decide_eq_false c2
    clear c2
    obtain rfl := Option.some.inj H
    go_wp2
    go_ret
    exact ⟨_, er, by (with_reducible repeat (first | apply Kd.R_alloc | apply Kd.R_drewN | apply Kd.R_drew)); exact HO_3.out, bs HB⟩
   rw [if_pos c2] at H
   have c2b0 : decide (x10_1 < (l0.length : Int)) = true := decide_eq_true c2
   clear c2
   by_cases c3 : 0 ≤ x10_1
   rotate_left
   ·
    rw [if_neg c3] at H
    exact absurd H (by simp)
   rw [if_pos c3] at H
   have c3b0 : decide (0 ≤ x10_1) = true := decide_eq_true c3
   clear c3
   by_cases c4 : x10_1 < (l0.length : Int)
   rotate_left
   ·
    rw [if_neg c4] at H
    exact absurd H (by simp)
   rw [if_pos c4] at H
   have c4b0 : decide (x10_1 < (l0.length : Int)) = true := decide_eq_true c4
   clear c4
   by_cases c5 : ((rd_T71 l0 x10_1).f0) = 1
   rotate_left
   ·
    rw [if_neg c5] at H
    have c5b0 : (((rd_T71 l0 x10_1).f0) == 1) = false := beq_eq_false_iff_ne.mpr c5
    have c5b1 : (((rd_T71 l0 x10_1).f0) != 1) = true := bne_iff_ne.mpr c5
    have H' := Ah H
    clear H
    have p364 : 0 ≤ (x10_1 : Int) := od
    have q364 : x10_1 < (l0.length : Int) := od
    obtain ⟨ad364, e364, hx364_0, hx364_1, hx364_2, hx364_3, hx364_4⟩ := at_T71 HR0.out x10_1 p364 q364
    cases e364
    replace hx364_0 := (HB.out.cell (World.block_lt_of_cell? w _ hx364_0)).trans hx364_0
    replace hx364_1 := (HB.out.cell (World.block_lt_of_cell? w _ hx364_1)).trans hx364_1
    replace hx364_2 := (HB.out.cell (World.block_lt_of_cell? w _ hx364_2)).trans hx364_2
    replace hx364_3 := (HB.out.cell (World.block_lt_of_cell? w _ hx364_3)).trans hx364_3
    replace hx364_4 := (HB.out.cell (World.block_lt_of_cell? w _ hx364_4)).trans hx364_4
    replace p364 := eq_true p364
    replace q364 := eq_true q364
    go_wp2_with (first | ((with_reducible refine gate_dst (N := 5) rfl ?_); refine boxL 5 71 #[.int .i64 0, .int .i64 0, .int .i64 0, .int .i64 0, .int .i64 0] ?_; intro gb365 hg w25 BK365 hb; replace HO_3 := Ah (Kd.R_below (Kd.R_elderB (rr HO_3.out) gb365 (Nat.le_of_eq hg.symm)) hb); have GW365 := gw hg (bs HB); have GE365 := gw hg (bs HB); replace HB := Ah (below_step (bs HB) hb); clear hb hg; obtain ⟨hcz26_0, hcz26_1, hcz26_2, hcz26_3, hcz26_4⟩ := cz5 BK365; obtain ⟨hfz26_0, hfz26_1, hfz26_2, hfz26_3, hfz26_4⟩ := fz5 BK365))
    go_roundg k1
    case measure => have := HK1.out; omega
    case rel => exact ⟨(x3_1), (wrap64 (x10_1 + 1)), e3, H', ⟨by have := HK1.out; omega⟩, ⟨by (with_reducible repeat (first | apply Kd.R_alloc | apply Kd.R_drewN | apply Kd.R_drew)); exact Kd.R_mono (Kd.R_far (p := ⟨gb365, 4, none⟩) (Kd.R_far (p := ⟨gb365, 3, none⟩) (Kd.R_far (p := ⟨gb365, 2, none⟩) (Kd.R_far (p := ⟨gb365, 1, none⟩) (Kd.R_far (p := ⟨gb365, 0, none⟩) (Kd.R_mono HO_3.out (fun k_ hk => (⟨hk, hk.2⟩ : _ ∧ k_ ≠ gb365))) (fun _ hk => hk.2) (.int .i64 ((rd_T71 l0 x10_1).f0))) (fun _ hk => hk.2) (.int .i64 ((rd_T71 l0 x10_1).f1))) (fun _ hk => hk.2) (.int .i64 ((rd_T71 l0 x10_1).f2.f0))) (fun _ hk => hk.2) (.int .i64 ((rd_T71 l0 x10_1).f2.f1))) (fun _ hk => hk.2) (.int .i64 ((rd_T71 l0 x10_1).f3))) (fun _ hk => trivial)⟩, ⟨bs1 HB GE365⟩⟩
   rw [if_pos c5] at H
   have c5b0 : (((rd_T71 l0 x10_1).f0) == 1) = true := beq_iff_eq.mpr c5
   have c5b1 : (((rd_T71 l0 x10_1).f0) != 1) = false := bne_eq_false_iff_eq.mpr c5
   clear c5
   have H' := Ah H
   clear H
   have p364 : 0 ≤ (x10_1 : Int) := od
   have q364 : x10_1 < (l0.length : Int) := od
   obtain ⟨ad364, e364, hx364_0, hx364_1, hx364_2, hx364_3, hx364_4⟩ := at_T71 HR0.out x10_1 p364 q364
   cases e364
   replace hx364_0 := (HB.out.cell (World.block_lt_of_cell? w _ hx364_0)).trans hx364_0
   replace hx364_1 := (HB.out.cell (World.block_lt_of_cell? w _ hx364_1)).trans hx364_1
   replace hx364_2 := (HB.out.cell (World.block_lt_of_cell? w _ hx364_2)).trans hx364_2
   replace hx364_3 := (HB.out.cell (World.block_lt_of_cell? w _ hx364_3)).trans hx364_3
   replace hx364_4 := (HB.out.cell (World.block_lt_of_cell? w _ hx364_4)).trans hx364_4
   replace p364 := eq_true p364
   replace q364 := eq_true q364
   go_wp2_with (first | ((with_reducible refine gate_dst (N := 5) rfl ?_); refine boxL 5 71 #[.int .i64 0, .int .i64 0, .int .i64 0, .int .i64 0, .int .i64 0] ?_; intro gb365 hg w6 BK365 hb; replace HO_3 := Ah (Kd.R_below (Kd.R_elderB (rr HO_3.out) gb365 (Nat.le_of_eq hg.symm)) hb); have GW365 := gw hg (bs HB); have GE365 := gw hg (bs HB); replace HB := Ah (below_step (bs HB) hb); clear hb hg; obtain ⟨hcz7_0, hcz7_1, hcz7_2, hcz7_3, hcz7_4⟩ := cz5 BK365; obtain ⟨hfz7_0, hfz7_1, hfz7_2, hfz7_3, hfz7_4⟩ := fz5 BK365))
   go_loopg [19] k1 (fun kq v19 w' => ∃ (x19_2 : Int) (x366004_2 : Int), v19 = .int .i64 x19_2 ∧ Aside0 (spec_l12Open.l1 kq l0 x3_1 l0 (l0.length : Int) x10_1 l0 (l0.length : Int) x19_2 ((rd_T71 l0 x10_1).f0) ((rd_T71 l0 x10_1).f1) ((rd_T71 l0 x10_1).f2.f0) ((rd_T71 l0 x10_1).f2.f1) x366004_2 = some r) ∧ Aside0 (kq ≤ k1) ∧ Aside0 (Kd.R k71 71 w' w.heap.size (fun k_ => k_ ≠ gb365) u3 x3_1) ∧ Aside0 (w'.heap[gb365]? = some (.cells #[.int .i64 ((rd_T71 l0 x10_1).f0), .int .i64 ((rd_T71 l0 x10_1).f1), .int .i64 ((rd_T71 l0 x10_1).f2.f0), .int .i64 ((rd_T71 l0 x10_1).f2.f1), .int .i64 x366004_2] 71 (0, 0))) ∧ Aside0 (Below w.heap.size w w'))
   case atStart => exact ⟨(0), ((rd_T71 l0 x10_1).f3), e3, H', ⟨Nat.le_refl _⟩, ⟨by (with_reducible repeat (first | apply Kd.R_alloc | apply Kd.R_drewN | apply Kd.R_drew)); exact Kd.R_mono (Kd.R_far (p := ⟨gb365, 4, none⟩) (Kd.R_far (p := ⟨gb365, 3, none⟩) (Kd.R_far (p := ⟨gb365, 2, none⟩) (Kd.R_far (p := ⟨gb365, 1, none⟩) (Kd.R_far (p := ⟨gb365, 0, none⟩) (Kd.R_mono HO_3.out (fun k_ hk => (⟨hk, hk.2⟩ : _ ∧ k_ ≠ gb365))) (fun _ hk => hk.2) (.int .i64 ((rd_T71 l0 x10_1).f0))) (fun _ hk => hk.2) (.int .i64 ((rd_T71 l0 x10_1).f1))) (fun _ hk => hk.2) (.int .i64 ((rd_T71 l0 x10_1).f2.f0))) (fun _ hk => hk.2) (.int .i64 ((rd_T71 l0 x10_1).f2.f1))) (fun _ hk => hk.2) (.int .i64 ((rd_T71 l0 x10_1).f3))) (fun _ hk => hk.1.2)⟩, ⟨by (with_reducible repeat (first | refine blk_drewN ?_ _ | refine blk_drew ?_ | refine blk_alloc ?_ _)); refine blk_put (cs := #[.int .i64 ((rd_T71 l0 x10_1).f0), .int .i64 ((rd_T71 l0 x10_1).f1), .int .i64 ((rd_T71 l0 x10_1).f2.f0), .int .i64 ((rd_T71 l0 x10_1).f2.f1), .int .i64 0]) ?_ 4 _ rfl; (with_reducible repeat (first | refine blk_drewN ?_ _ | refine blk_drew ?_ | refine blk_alloc ?_ _)); refine blk_put (cs := #[.int .i64 ((rd_T71 l0 x10_1).f0), .int .i64 ((rd_T71 l0 x10_1).f1), .int .i64 ((rd_T71 l0 x10_1).f2.f0), .int .i64 0, .int .i64 0]) ?_ 3 _ rfl; (with_reducible repeat (first | refine blk_drewN ?_ _ | refine blk_drew ?_ | refine blk_alloc ?_ _)); refine blk_put (cs := #[.int .i64 ((rd_T71 l0 x10_1).f0), .int .i64 ((rd_T71 l0 x10_1).f1), .int .i64 0, .int .i64 0, .int .i64 0]) ?_ 2 _ rfl; (with_reducible repeat (first | refine blk_drewN ?_ _ | refine blk_drew ?_ | refine blk_alloc ?_ _)); refine blk_put (cs := #[.int .i64 ((rd_T71 l0 x10_1).f0), .int .i64 0, .int .i64 0, .int .i64 0, .int .i64 0]) ?_ 1 _ rfl; (with_reducible repeat (first | refine blk_drewN ?_ _ | refine blk_drew ?_ | refine blk_alloc ?_ _)); refine blk_put (cs := #[.int .i64 0, .int .i64 0, .int .i64 0, .int .i64 0, .int .i64 0]) ?_ 0 _ rfl; (with_reducible repeat (first | refine blk_drewN ?_ _ | refine blk_drew ?_ | refine blk_alloc ?_ _)); exact BK365.out⟩, ⟨bs1 HB GE365⟩⟩
   case round =>
    clear H'
    try clear c2
    try clear c2b0
    try clear p2
    try clear c3
    try clear c3b0
    try clear p3
    try clear q3
    try clear hx3
    try clear c4
    try clear c4b0
    try clear c5
    try clear c5b0
    try clear c5b1
    try clear hcz7_0 hcz7_1 hcz7_2 hcz7_3 hcz7_4
    try clear hfz7_0 hfz7_1 hfz7_2 hfz7_3 hfz7_4
    try clear hx364_0
    try clear hx364_1
    try clear hx364_2
    try clear hx364_3
    try clear hx364_4
    try clear p364
    try clear q364
    obtain ⟨x19_2, x366004_2, rfl, HA, HK2, HO_3, BK365, HB⟩ := hrel
    cases gk with
    | zero => exact absurd HA.out (by simp [spec_l12Open.l1])
    | succ k2 =>
     have H := HA.out
     clear HA
     simp only [spec_l12Open.l1] at H
     by_cases c8 : x19_2 < (l0.length : Int)
     rotate_left
     ·
      rw [if_neg c8] at H
      have c8b0 : decide (x19_2 < (l0.length : Int)) = false := decide_eq_false c8
      clear c8
      by_cases c20 : x366004_2 < ((rd_T71 l0 x10_1).f2.f1)
      rotate_left
      ·
       rw [if_neg c20] at H
       have c20b0 : decide (x366004_2 < ((rd_T71 l0 x10_1).f2.f1)) = false := decide_eq_false c20
       clear c20
       have H' := Ah H
       clear H
       obtain ⟨hcz24_0, hcz24_1, hcz24_2, hcz24_3, hcz24_4⟩ := cz5 BK365
       obtain ⟨hfz24_0, hfz24_1, hfz24_2, hfz24_3, hfz24_4⟩ := fz5 BK365
       go_wp2
       go_roundg k2
       case measure => have := HK1.out; have := HK2.out; omega
       case rel => exact ⟨(x3_1), (wrap64 (x10_1 + 1)), e3, H', ⟨by have := HK1.out; have := HK2.out; omega⟩, rm HO_3 (fun _ hk => trivial), ⟨bs1 HB GE365⟩⟩
      rw [if_pos c20] at H
      have c20b0 : decide (x366004_2 < ((rd_T71 l0 x10_1).f2.f1)) = true := decide_eq_true c20
      clear c20
      by_cases c21 : x3_1.length < 3518437208883
      rotate_left
      ·
       rw [if_neg c21] at H
       exact absurd H (by simp)
      rw [if_pos c21] at H
      have LMc21 := Ah c21
      clear c21
      obtain ⟨y368, hy368⟩ : ∃ y_ : List (S71), y_ = (x3_1 ++ [(⟨((rd_T71 l0 x10_1).f0), ((rd_T71 l0 x10_1).f1), (⟨((rd_T71 l0 x10_1).f2.f0), ((rd_T71 l0 x10_1).f2.f1)⟩ : S53), x366004_2⟩ : S71)]) := ⟨_, rfl⟩
      replace H : (spec_l12Open.l0 k2 l0 y368 l0 (l0.length : Int) (wrap64 (x10_1 + 1))) = some r := by first | (rw [hy368]; with_reducible exact H) | (have H2_ := (Option.bind_some _ _).symm.trans H; rw [hy368]; with_reducible exact H2_) | (have H2_ := (Option.bind_some _ _).symm.trans H; with_reducible exact H2_) | with_reducible exact H | (rw [hy368]; exact H) | exact H
      have Ny368 := Ah hy368
      clear hy368
      have H' := Ah H
      clear H
      obtain ⟨hcz22_0, hcz22_1, hcz22_2, hcz22_3, hcz22_4⟩ := cz5 BK365
      obtain ⟨hfz22_0, hfz22_1, hfz22_2, hfz22_3, hfz22_4⟩ := fz5 BK365
      go_wp2_with (first | ((with_reducible refine gate_builtin (b := .append) (xs := #[.tmp 38, .tmp 40]) rfl ?_); at_builtin; refine Kd.R_append k71 (w0 := w) w.heap.size rfl (.tmp 38) (.tmp 40) 25 71 (.agg #[(.int .i64 0), (.int .i64 0), (.int .i64 0), (.int .i64 0), (.int .i64 0)]) 40 rfl Try.underlying25 info71 rfl (by decide) (by omega) u3 x3_1 (⟨((rd_T71 l0 x10_1).f0), ((rd_T71 l0 x10_1).f1), (⟨((rd_T71 l0 x10_1).f2.f0), ((rd_T71 l0 x10_1).f2.f1)⟩ : S53), x366004_2⟩ : S71) [.int .i64 ((rd_T71 l0 x10_1).f0), .int .i64 ((rd_T71 l0 x10_1).f1), .int .i64 ((rd_T71 l0 x10_1).f2.f0), .int .i64 ((rd_T71 l0 x10_1).f2.f1), .int .i64 x366004_2] (fun k_ => k_ ≠ gb365) (fun _ => False) rfl rfl ?aP (fun _ hk => hk.elim) ?aF ?aO ?aB ?aS ?aL ?_; (case aP => exact k71_mkM _ _ _ (⟨((rd_T71 l0 x10_1).f0), ((rd_T71 l0 x10_1).f1), (⟨((rd_T71 l0 x10_1).f2.f0), ((rd_T71 l0 x10_1).f2.f1)⟩ : S53), x366004_2⟩ : S71)); (case aB => exact (bs1 HB GE365)); (case aF => exact (fun k_ hk => Kd.freshB (bk BK365) k_ hk)); (case aO => exact (rr HO_3.out)); (case aS => exact (below_size (bs1 HB GE365))); (case aL => have := LMc21.out; omega); intro v369 w23 ho hb hg hat; rw [← Ny368.out] at ho; replace BK365 := Ah (blk_grown (bk BK365) hg (Kd.R_away HO_3.out (fun _ hk => hk))); replace HB := Ah (hb); have HO370 := Ah (ho); clear HO_3; clear ho hb hg hat))
      go_roundg k2
      case measure => have := HK1.out; have := HK2.out; omega
      case rel => exact ⟨(y368), (wrap64 (x10_1 + 1)), e3, H', ⟨by have := HK1.out; have := HK2.out; omega⟩, rm HO370 (fun _ hk => trivial), ⟨bs1 HB GE365⟩⟩
     rw [if_pos c8] at H
     have c8b0 : decide (x19_2 < (l0.length : Int)) = true := decide_eq_true c8
     clear c8
     by_cases c9 : 0 ≤ x19_2
     rotate_left
     ·
      rw [if_neg c9] at H
      exact absurd H (by simp)
     rw [if_pos c9] at H
     have c9b0 : decide (0 ≤ x19_2) = true := decide_eq_true c9
     clear c9
     by_cases c10 : x19_2 < (l0.length : Int)
     rotate_left
     ·
      rw [if_neg c10] at H
      exact absurd H (by simp)
     rw [if_pos c10] at H
     have c10b0 : decide (x19_2 < (l0.length : Int)) = true := decide_eq_true c10
     clear c10
     by_cases c11 : ((rd_T71 l0 x19_2).f1) = ((rd_T71 l0 x10_1).f1)
     rotate_left
     ·
      rw [if_neg c11] at H
      have c11b0 : (((rd_T71 l0 x19_2).f1) == ((rd_T71 l0 x10_1).f1)) = false := beq_eq_false_iff_ne.mpr c11
      have c11b1 : (((rd_T71 l0 x19_2).f1) != ((rd_T71 l0 x10_1).f1)) = true := bne_iff_ne.mpr c11
      have H' := Ah H
      clear H
      have p366 : 0 ≤ (x19_2 : Int) := od
      have q366 : x19_2 < (l0.length : Int) := od
      obtain ⟨ad366, e366, hx366_0, hx366_1, hx366_2, hx366_3, hx366_4⟩ := at_T71 HR0.out x19_2 p366 q366
      obtain rfl : ad364 = ad366 := (by injection e366)
      replace hx366_0 := (HB.out.cell (World.block_lt_of_cell? w _ hx366_0)).trans hx366_0
      replace hx366_1 := (HB.out.cell (World.block_lt_of_cell? w _ hx366_1)).trans hx366_1
      replace hx366_2 := (HB.out.cell (World.block_lt_of_cell? w _ hx366_2)).trans hx366_2
      replace hx366_3 := (HB.out.cell (World.block_lt_of_cell? w _ hx366_3)).trans hx366_3
      replace hx366_4 := (HB.out.cell (World.block_lt_of_cell? w _ hx366_4)).trans hx366_4
      replace p366 := eq_true p366
      replace q366 := eq_true q366
      go_wp2_with (first | ((with_reducible refine gate_dst (N := 7) rfl ?_); refine boxL 7 71 #[.int .i64 0, .int .i64 0, .int .i64 0, .int .i64 0, .int .i64 0] ?_; intro gb367 hg w16 BK367 hb; replace HO_3 := Ah (Kd.R_below (Kd.R_elderB (rr HO_3.out) gb367 (Nat.le_of_eq hg.symm)) hb); have GW367 := gw hg (bs1 HB GE365); have GE367 := gw hg (bs1 HB GE365); replace HB := Ah (below_step (bs1 HB GE365) hb); have NB365_367 := nn BK365 hg; have NB367_365 := nm BK365 hg; replace BK365 := nb BK365 hb; clear hb hg; have hnb17 := NB367_365.out; have hnc17 := NB365_367.out; obtain ⟨hcz18_0, hcz18_1, hcz18_2, hcz18_3, hcz18_4⟩ := cz5 BK367; obtain ⟨hfz18_0, hfz18_1, hfz18_2, hfz18_3, hfz18_4⟩ := fz5 BK367; obtain ⟨hcz19_0, hcz19_1, hcz19_2, hcz19_3, hcz19_4⟩ := cz5 BK365; obtain ⟨hfz19_0, hfz19_1, hfz19_2, hfz19_3, hfz19_4⟩ := fz5 BK365))
      go_roundg k2
      case measure => have := HK1.out; have := HK2.out; omega
      case rel => exact ⟨(wrap64 (x19_2 + 1)), (x366004_2), e3, H', ⟨by have := HK1.out; have := HK2.out; omega⟩, ⟨by (with_reducible repeat (first | apply Kd.R_alloc | apply Kd.R_drewN | apply Kd.R_drew)); exact Kd.R_mono (Kd.R_far (p := ⟨gb367, 4, none⟩) (Kd.R_far (p := ⟨gb367, 3, none⟩) (Kd.R_far (p := ⟨gb367, 2, none⟩) (Kd.R_far (p := ⟨gb367, 1, none⟩) (Kd.R_far (p := ⟨gb367, 0, none⟩) (Kd.R_mono HO_3.out (fun k_ hk => (⟨hk, hk.2⟩ : _ ∧ k_ ≠ gb367))) (fun _ hk => hk.2) (.int .i64 ((rd_T71 l0 x19_2).f0))) (fun _ hk => hk.2) (.int .i64 ((rd_T71 l0 x19_2).f1))) (fun _ hk => hk.2) (.int .i64 ((rd_T71 l0 x19_2).f2.f0))) (fun _ hk => hk.2) (.int .i64 ((rd_T71 l0 x19_2).f2.f1))) (fun _ hk => hk.2) (.int .i64 ((rd_T71 l0 x19_2).f3))) (fun _ hk => hk.1.1)⟩, ⟨bf BK365 NB365_367⟩, ⟨bs2 HB GE365 GE367⟩⟩
     rw [if_pos c11] at H
     have c11b0 : (((rd_T71 l0 x19_2).f1) == ((rd_T71 l0 x10_1).f1)) = true := beq_iff_eq.mpr c11
     have c11b1 : (((rd_T71 l0 x19_2).f1) != ((rd_T71 l0 x10_1).f1)) = false := bne_eq_false_iff_eq.mpr c11
     clear c11
     have H' := Ah H
     clear H
     have p366 : 0 ≤ (x19_2 : Int) := od
     have q366 : x19_2 < (l0.length : Int) := od
     obtain ⟨ad366, e366, hx366_0, hx366_1, hx366_2, hx366_3, hx366_4⟩ := at_T71 HR0.out x19_2 p366 q366
     obtain rfl : ad364 = ad366 := (by injection e366)
     replace hx366_0 := (HB.out.cell (World.block_lt_of_cell? w _ hx366_0)).trans hx366_0
     replace hx366_1 := (HB.out.cell (World.block_lt_of_cell? w _ hx366_1)).trans hx366_1
     replace hx366_2 := (HB.out.cell (World.block_lt_of_cell? w _ hx366_2)).trans hx366_2
     replace hx366_3 := (HB.out.cell (World.block_lt_of_cell? w _ hx366_3)).trans hx366_3
     replace hx366_4 := (HB.out.cell (World.block_lt_of_cell? w _ hx366_4)).trans hx366_4
     replace p366 := eq_true p366
     replace q366 := eq_true q366
     go_wp2_with (first | ((with_reducible refine gate_dst (N := 7) rfl ?_); refine boxL 7 71 #[.int .i64 0, .int .i64 0, .int .i64 0, .int .i64 0, .int .i64 0] ?_; intro gb367 hg w12 BK367 hb; replace HO_3 := Ah (Kd.R_below (Kd.R_elderB (rr HO_3.out) gb367 (Nat.le_of_eq hg.symm)) hb); have GW367 := gw hg (bs1 HB GE365); have GE367 := gw hg (bs1 HB GE365); replace HB := Ah (below_step (bs1 HB GE365) hb); have NB365_367 := nn BK365 hg; have NB367_365 := nm BK365 hg; replace BK365 := nb BK365 hb; clear hb hg; have hnb13 := NB367_365.out; have hnc13 := NB365_367.out; obtain ⟨hcz14_0, hcz14_1, hcz14_2, hcz14_3, hcz14_4⟩ := cz5 BK367; obtain ⟨hfz14_0, hfz14_1, hfz14_2, hfz14_3, hfz14_4⟩ := fz5 BK367; obtain ⟨hcz15_0, hcz15_1, hcz15_2, hcz15_3, hcz15_4⟩ := cz5 BK365; obtain ⟨hfz15_0, hfz15_1, hfz15_2, hfz15_3, hfz15_4⟩ := fz5 BK365))
     go_roundg k2
     case measure => have := HK1.out; have := HK2.out; omega
     case rel => exact ⟨(wrap64 (x19_2 + 1)), ((rd_T71 l0 x19_2).f3), e3, H', ⟨by have := HK1.out; have := HK2.out; omega⟩, ⟨by (with_reducible repeat (first | apply Kd.R_alloc | apply Kd.R_drewN | apply Kd.R_drew)); exact Kd.R_mono (Kd.R_far (p := ⟨gb365, 4, none⟩) (Kd.R_far (p := ⟨gb367, 4, none⟩) (Kd.R_far (p := ⟨gb367, 3, none⟩) (Kd.R_far (p := ⟨gb367, 2, none⟩) (Kd.R_far (p := ⟨gb367, 1, none⟩) (Kd.R_far (p := ⟨gb367, 0, none⟩) (Kd.R_mono (Kd.R_mono HO_3.out (fun k_ hk => (⟨hk, hk.2⟩ : _ ∧ k_ ≠ gb367))) (fun k_ hk => (⟨hk, hk.1.1⟩ : _ ∧ k_ ≠ gb365))) (fun _ hk => hk.1.2) (.int .i64 ((rd_T71 l0 x19_2).f0))) (fun _ hk => hk.1.2) (.int .i64 ((rd_T71 l0 x19_2).f1))) (fun _ hk => hk.1.2) (.int .i64 ((rd_T71 l0 x19_2).f2.f0))) (fun _ hk => hk.1.2) (.int .i64 ((rd_T71 l0 x19_2).f2.f1))) (fun _ hk => hk.1.2) (.int .i64 ((rd_T71 l0 x19_2).f3))) (fun _ hk => hk.2) (.int .i64 ((rd_T71 l0 x19_2).f3))) (fun _ hk => hk.1.1.1)⟩, ⟨by (with_reducible repeat (first | refine blk_drewN ?_ _ | refine blk_drew ?_ | refine blk_alloc ?_ _)); refine blk_put (cs := #[.int .i64 ((rd_T71 l0 x10_1).f0), .int .i64 ((rd_T71 l0 x10_1).f1), .int .i64 ((rd_T71 l0 x10_1).f2.f0), .int .i64 ((rd_T71 l0 x10_1).f2.f1), .int .i64 x366004_2]) ?_ 4 _ rfl; (with_reducible repeat (first | refine blk_drewN ?_ _ | refine blk_drew ?_ | refine blk_alloc ?_ _)); refine blk_far ?_ NB365_367.out _; (with_reducible repeat (first | refine blk_drewN ?_ _ | refine blk_drew ?_ | refine blk_alloc ?_ _)); refine blk_far ?_ NB365_367.out _; (with_reducible repeat (first | refine blk_drewN ?_ _ | refine blk_drew ?_ | refine blk_alloc ?_ _)); refine blk_far ?_ NB365_367.out _; (with_reducible repeat (first | refine blk_drewN ?_ _ | refine blk_drew ?_ | refine blk_alloc ?_ _)); refine blk_far ?_ NB365_367.out _; (with_reducible repeat (first | refine blk_drewN ?_ _ | refine blk_drew ?_ | refine blk_alloc ?_ _)); refine blk_far ?_ NB365_367.out _; (with_reducible repeat (first | refine blk_drewN ?_ _ | refine blk_drew ?_ | refine blk_alloc ?_ _)); exact BK365.out⟩, ⟨bs2 HB GE365 GE367⟩⟩
def spec_l12Own.f (k : Nat) (a0_0 : Int) (l0_1 : List (S53)) (l0_2 : List (S53)) (a0_3 : Int) (l0_4 : List (S71)) : Option (Int × (List (S53)) × (List (S53)) × Int × (List (S71))) := (spec_l5Of.f k a0_0 l0_1).bind fun bt373 => ((some (([] : List (S71)) : List (S71))).bind fun y380 => (if y380.length + l0_4.length < 3518437208883 then (some (bt373.1, bt373.2.1, bt373.2.2, a0_3, (y380 ++ l0_4))) else (none)))
theorem spec_l12Own.mono : ∀ a0 a1 a2 a3 a4 k, LeO (spec_l12Own.f k a0 a1 a2 a3 a4) (spec_l12Own.f (k + 1) a0 a1 a2 a3 a4) := by
 intro a0 a1 a2 a3 a4 k
 unfold spec_l12Own.f
 repeat' first
   | (with_reducible exact spec_l5Of.mono _ _ _)
   | (with_reducible exact LeO.refl _)
   | (with_reducible exact LeO.none _)
   | (with_reducible refine LeO.ite ?_ ?_)
   | (with_reducible refine LeO.bind ?_ (fun _ => ?_))
   | exact spec_l5Of.mono _ _ _
   | exact LeO.none _
   | refine LeO.ite ?_ ?_
   | refine LeO.bind ?_ (fun _ => ?_)
set_option maxHeartbeats 8000000 in
set_option maxRecDepth 100000 in
theorem spec_l12Own.calls (k : Nat) (a0_0 : Int) (A0_1 : Option Addr) (c0_1 : Nat) (l0_1 : List (S53)) (A0_2 : Option Addr) (c0_2 : Nat) (l0_2 : List (S53)) (a0_3 : Int) (A0_4 : Option Addr) (c0_4 : Nat) (l0_4 : List (S71)) (r1 : Int) (r2 : List (S53)) (r3 : List (S53)) (r4 : Int) (r5 : List (S71)) (w : World) (hr0_1 : Kd.C k53 w A0_1 l0_1.length l0_1) (hc0_1 : l0_1.length ≤ c0_1) (hr0_2 : Kd.C k53 w A0_2 l0_2.length l0_2) (hc0_2 : l0_2.length ≤ c0_2) (hr0_4 : Kd.C k71 w A0_4 l0_4.length l0_4) (hc0_4 : l0_4.length ≤ c0_4) (h : spec_l12Own.f k a0_0 l0_1 l0_2 a0_3 l0_4 = some (r1, r2, r3, r4, r5)) :
  Calls Try.prog 48 #[.agg #[.int .i64 a0_0, .slice A0_1 l0_1.length c0_1, .slice A0_2 l0_2.length c0_2, .int .i64 a0_3, .slice A0_4 l0_4.length c0_4]] w fun e w' => ∃ v1_ v2_ v4_ : Value, e = .returned (.agg #[.int .i64 r1, v1_, v2_, .int .i64 r4, v4_]) ∧ Kd.R k53 53 w' w.heap.size (fun k_ => some k_ ≠ (v2_ : Value).ownBlock) v1_ r2 ∧ Kd.R k53 53 w' w.heap.size (fun k_ => some k_ ≠ (v1_ : Value).ownBlock) v2_ r3 ∧ Kd.R k71 71 w' w.heap.size (fun _ => True) v4_ r5 ∧ Below w.heap.size w w' := by
 have hu27 := Try.underlying27
 have hu24 := Try.underlying24
 have HR0_1 := Ah hr0_1
 have HC0_1 := Ah hc0_1
 clear hr0_1 hc0_1
 have HR0_2 := Ah hr0_2
 have HC0_2 := Ah hc0_2
 clear hr0_2 hc0_2
 have HR0_4 := Ah hr0_4
 have HC0_4 := Ah hc0_4
 clear hr0_4 hc0_4
 have HB := Ah (Below.refl w.heap.size w)
 have H : ((spec_l5Of.f k a0_0 l0_1).bind fun bt373 => ((some (([] : List (S71)) : List (S71))).bind fun y380 => (if y380.length + l0_4.length < 3518437208883 then (some (bt373.1, bt373.2.1, bt373.2.2, a0_3, (y380 ++ l0_4))) else (none)))) = some (r1, r2, r3, r4, r5) := h
 clear h
 replace H := Option.bind_eq_some_iff.mp H
 obtain ⟨⟨t373, t374, t377⟩, A20, H⟩ := H
 try dsimp only at H
 have A2 := Ah A20
 clear A20
 obtain ⟨y380, hy380⟩ : ∃ y_ : List (S71), y_ = (([] : List (S71))) := ⟨_, rfl⟩
 replace H : (if y380.length + l0_4.length < 3518437208883 then (some (t373, t374, t377, a0_3, (y380 ++ l0_4))) else (none)) = some (r1, r2, r3, r4, r5) := by first | (rw [hy380]; with_reducible exact H) | (have H2_ := (Option.bind_some _ _).symm.trans H; rw [hy380]; with_reducible exact H2_) | (have H2_ := (Option.bind_some _ _).symm.trans H; with_reducible exact H2_) | with_reducible exact H | (rw [hy380]; exact H) | exact H
 have Ny380 := Ah hy380
 clear hy380
 by_cases c3 : y380.length + l0_4.length < 3518437208883
 rotate_left
 ·
  rw [if_neg c3] at H
  exact absurd H (by simp)
 rw [if_pos c3] at H
 have LMc3 := Ah c3
 clear c3
 obtain ⟨y383, hy383⟩ : ∃ y_ : List (S71), y_ = (y380 ++ l0_4) := ⟨_, rfl⟩
 replace H : (some (t373, t374, t377, a0_3, y383)) = some (r1, r2, r3, r4, r5) := by first | (rw [hy383]; with_reducible exact H) | (have H2_ := (Option.bind_some _ _).symm.trans H; rw [hy383]; with_reducible exact H2_) | (have H2_ := (Option.bind_some _ _).symm.trans H; with_reducible exact H2_) | with_reducible exact H | (rw [hy383]; exact H) | exact H
 have Ny383 := Ah hy383
 clear hy383
 simp only [Option.some.injEq, Prod.mk.injEq] at H
 obtain ⟨rfl, rfl, rfl, rfl, rfl⟩ := H
 go_enter Try.func48, Try.ntmps48
 go_wp2_with (first | ((with_reducible refine gate_dst (N := 1) rfl ?_); refine boxL 1 27 #[.int .i64 a0_0, .slice A0_1 l0_1.length c0_1, .slice A0_2 l0_2.length c0_2, .int .i64 a0_3, .slice A0_4 l0_4.length c0_4] ?_; intro gb371 hg w4 BK371 hb; have GW371 := gw hg (bs HB); have GE371 := gw hg (bs HB); replace HB := Ah (below_step (bs HB) hb); clear hb hg) | ((with_reducible refine gate_dst (N := 2) rfl ?_); refine boxL 2 27 #[.int .i64 0, .slice none 0 0, .slice none 0 0, .int .i64 0, .slice none 0 0] ?_; intro gb372 hg w5 BK372 hb; have GW372 := gw hg (bs1 HB GE371); have GE372 := gw hg (bs1 HB GE371); replace HB := Ah (below_step (bs1 HB GE371) hb); have NB371_372 := nn BK371 hg; have NB372_371 := nm BK371 hg; replace BK371 := nb BK371 hb; clear hb hg; have hnb6 := NB371_372.out; have hnc6 := NB372_371.out; obtain ⟨hcz7_0, hcz7_1, hcz7_2, hcz7_3, hcz7_4⟩ := cz5 BK371; obtain ⟨hfz7_0, hfz7_1, hfz7_2, hfz7_3, hfz7_4⟩ := fz5 BK371) | ((with_reducible refine gate_callee (f := 31) rfl ?_); refine gL (some 9) rfl rfl Try.func31 (by kernel_rfl) rfl #[.int .i64 a0_0, .slice A0_1 l0_1.length c0_1] rfl ?_; (with_reducible refine (spec_l5Of.calls k a0_0 _ _ l0_1 t373 t374 t377 _ ?side1 ?side2 A2.out).mono ?_); (case side1 => exact cb HR0_1 HB); (case side2 => exact HC0_1.out); rintro e w8 ⟨v375, v378, rfl, ho0, ho1, hb⟩; refine ⟨_, rfl, ?_⟩; have HO376 := Ah (Kd.R_lower ho0 (below_size (bs2 HB GE371 GE372))); have HO379 := Ah (Kd.R_lower ho1 (below_size (bs2 HB GE371 GE372))); replace BK371 := nb BK371 hb; replace BK372 := nb BK372 hb; replace HB := Ah (below_step (bs2 HB GE371 GE372) hb); (try clear hb ho0 ho1); obtain ⟨hcz9_0, hcz9_1, hcz9_2, hcz9_3, hcz9_4⟩ := cz5 BK371; obtain ⟨hfz9_0, hfz9_1, hfz9_2, hfz9_3, hfz9_4⟩ := fz5 BK371; obtain ⟨Ao10, co10, eo10⟩ := Kd.R_slice HO376.out; subst eo10; obtain ⟨Ao11, co11, eo11⟩ := Kd.R_slice HO379.out; subst eo11) | ((with_reducible refine gate_dst (N := 11) rfl ?_); refine Kd.R_lit k71 _ 71 ?hg (N := 11) ?hd (xs := ([] : List (S71))) (inner := []) (ok := fun _ => True) (okp := fun _ => True) ?hr ?hp (fun _ hk => hk) trivial (Below.refl _ _) (Nat.le_refl _) (by simp) ?_; (case hd => rfl); (case hg => rfl); (case hr => first | (go_simp; done) | (go_simp; rfl)); (case hp => exact (Reps.none _ _)); intro v381 w12 ho13 hb hg_ hnew_; clear hg_ hnew_; (first | rw [← Ny380.out] at ho13 | (simp only [Int.reduceToNat] at ho13; rw [← Ny380.out] at ho13)); replace HO376 := nf HO376 BK371 hb; replace HO379 := nf HO379 BK371 hb; have HO382 := Ah (Kd.R_lower ho13 (below_size (bs2 HB GE371 GE372))); replace BK371 := Ah (blk_below (g := gb371) (o := .cells #[.int .i64 t373, .slice Ao10 t374.length co10, .slice Ao11 t377.length co11, .int .i64 a0_3, .slice A0_4 l0_4.length c0_4] 27 (0, 0)) (by (with_reducible repeat (first | refine blk_drewN ?_ _ | refine blk_drew ?_ | refine blk_alloc ?_ _)); refine blk_put (cs := #[.int .i64 t373, .slice Ao10 t374.length co10, .slice A0_2 l0_2.length c0_2, .int .i64 a0_3, .slice A0_4 l0_4.length c0_4]) ?_ 2 _ rfl; (with_reducible repeat (first | refine blk_drewN ?_ _ | refine blk_drew ?_ | refine blk_alloc ?_ _)); refine blk_put (cs := #[.int .i64 t373, .slice A0_1 l0_1.length c0_1, .slice A0_2 l0_2.length c0_2, .int .i64 a0_3, .slice A0_4 l0_4.length c0_4]) ?_ 1 _ rfl; (with_reducible repeat (first | refine blk_drewN ?_ _ | refine blk_drew ?_ | refine blk_alloc ?_ _)); refine blk_put (cs := #[.int .i64 a0_0, .slice A0_1 l0_1.length c0_1, .slice A0_2 l0_2.length c0_2, .int .i64 a0_3, .slice A0_4 l0_4.length c0_4]) ?_ 0 _ rfl; (with_reducible repeat (first | refine blk_drewN ?_ _ | refine blk_drew ?_ | refine blk_alloc ?_ _)); exact BK371.out) hb); replace BK372 := Ah (blk_below (bf BK372 NB372_371) hb); replace HB := Ah (below_step (bs2 HB GE371 GE372) hb); clear hb ho13; obtain ⟨hcz14_0, hcz14_1, hcz14_2, hcz14_3, hcz14_4⟩ := cz5 BK371; obtain ⟨hfz14_0, hfz14_1, hfz14_2, hfz14_3, hfz14_4⟩ := fz5 BK371) | ((with_reducible refine gate_builtin (b := .append) (xs := #[.tmp 11, .tmp 13]) rfl ?_); at_builtin; refine Kd.R_append_rows k71 (w0 := w) w.heap.size rfl (.tmp 11) (.tmp 13) 25 71 (.agg #[(.int .i64 0), (.int .i64 0), (.int .i64 0), (.int .i64 0), (.int .i64 0)]) 40 rfl Try.underlying25 info71 rfl (by decide) (by omega) v381 y380 l0_4 _ _ _ (fun _ => True) (fun _ => False) rfl rfl ?aO ?aR (fun _ _ h => h) (fun _ h => h.elim) ?aF ?aB ?aS ?aL ?_; (case aR => exact cb HR0_4 HB); (case aB => exact (bs2 HB GE371 GE372)); (case aF => exact (fun _ _ => trivial)); (case aO => exact (rr HO382.out)); (case aS => exact (below_size (bs2 HB GE371 GE372))); (case aL => have := LMc3.out; omega); intro v384 w15 ho hb hg hat; rw [← Ny383.out] at ho; replace BK371 := Ah (blk_grown (bk BK371) hg (Kd.R_ne HO382.out BK371.out (by decide))); replace BK372 := Ah (blk_grown (bk BK372) hg (Kd.R_ne HO382.out BK372.out (by decide))); replace HO376 := Ah (Kd.R_over' (rr HO376.out) (Kd.R_typed (rr HO382.out)) (by decide) hg); replace HO379 := Ah (Kd.R_over' (rr HO379.out) (Kd.R_typed (rr HO382.out)) (by decide) hg); replace HB := Ah (hb); have HO385 := Ah (ho); clear HO382; clear ho hb hg hat; obtain ⟨Ao16, co16, eo16⟩ := Kd.R_slice HO385.out; subst eo16; obtain ⟨hcz17_0, hcz17_1, hcz17_2, hcz17_3, hcz17_4⟩ := cz5 BK371; obtain ⟨hfz17_0, hfz17_1, hfz17_2, hfz17_3, hfz17_4⟩ := fz5 BK371; obtain ⟨hcz18_0, hcz18_1, hcz18_2, hcz18_3, hcz18_4⟩ := cz5 BK372; obtain ⟨hfz18_0, hfz18_1, hfz18_2, hfz18_3, hfz18_4⟩ := fz5 BK372))
 refine bodyPost_ret (results_cell_row rfl _ _ gb372 27 #[.int .i64 t373, .slice Ao10 t374.length co10, .slice Ao11 t377.length co11, .int .i64 a0_3, .slice Ao16 y383.length co16] (0, 0) _ rfl (by (with_reducible repeat (first | refine blk_drewN ?_ _ | refine blk_drew ?_ | refine blk_alloc ?_ _)); refine blk_put (cs := #[.int .i64 t373, .slice Ao10 t374.length co10, .slice Ao11 t377.length co11, .int .i64 a0_3, .slice none 0 0]) ?_ 4 _ rfl; (with_reducible repeat (first | refine blk_drewN ?_ _ | refine blk_drew ?_ | refine blk_alloc ?_ _)); refine blk_put (cs := #[.int .i64 t373, .slice Ao10 t374.length co10, .slice Ao11 t377.length co11, .int .i64 0, .slice none 0 0]) ?_ 3 _ rfl; (with_reducible repeat (first | refine blk_drewN ?_ _ | refine blk_drew ?_ | refine blk_alloc ?_ _)); refine blk_put (cs := #[.int .i64 t373, .slice Ao10 t374.length co10, .slice none 0 0, .int .i64 0, .slice none 0 0]) ?_ 2 _ rfl; (with_reducible repeat (first | refine blk_drewN ?_ _ | refine blk_drew ?_ | refine blk_alloc ?_ _)); refine blk_put (cs := #[.int .i64 t373, .slice none 0 0, .slice none 0 0, .int .i64 0, .slice none 0 0]) ?_ 1 _ rfl; (with_reducible repeat (first | refine blk_drewN ?_ _ | refine blk_drew ?_ | refine blk_alloc ?_ _)); refine blk_put (cs := #[.int .i64 0, .slice none 0 0, .slice none 0 0, .int .i64 0, .slice none 0 0]) ?_ 0 _ rfl; (with_reducible repeat (first | refine blk_drewN ?_ _ | refine blk_drew ?_ | refine blk_alloc ?_ _)); refine blk_far ?_ NB372_371.out _; (with_reducible repeat (first | refine blk_drewN ?_ _ | refine blk_drew ?_ | refine blk_alloc ?_ _)); exact BK372.out) Try.underlying27 rfl (by kernel_rfl)) rfl ?_
 exact ⟨_, _, _, er, by (with_reducible repeat (first | apply Kd.R_alloc | apply Kd.R_drewN | apply Kd.R_drew)); exact Kd.R_mono (Kd.R_far (p := ⟨gb372, 4, none⟩) (Kd.R_far (p := ⟨gb372, 3, none⟩) (Kd.R_far (p := ⟨gb372, 2, none⟩) (Kd.R_far (p := ⟨gb372, 1, none⟩) (Kd.R_far (p := ⟨gb372, 0, none⟩) (Kd.R_far (p := ⟨gb371, 4, none⟩) (Kd.R_types (Kd.R_types HO376.out BK371.out (by decide)) BK372.out (by decide)) (fun _ hk => hk.1.2) (.slice Ao16 y383.length co16)) (fun _ hk => hk.2) (.int .i64 t373)) (fun _ hk => hk.2) (.slice Ao10 t374.length co10)) (fun _ hk => hk.2) (.slice Ao11 t377.length co11)) (fun _ hk => hk.2) (.int .i64 a0_3)) (fun _ hk => hk.2) (.slice Ao16 y383.length co16)) (fun _ hk => hk.1.1), by (with_reducible repeat (first | apply Kd.R_alloc | apply Kd.R_drewN | apply Kd.R_drew)); exact Kd.R_mono (Kd.R_far (p := ⟨gb372, 4, none⟩) (Kd.R_far (p := ⟨gb372, 3, none⟩) (Kd.R_far (p := ⟨gb372, 2, none⟩) (Kd.R_far (p := ⟨gb372, 1, none⟩) (Kd.R_far (p := ⟨gb372, 0, none⟩) (Kd.R_far (p := ⟨gb371, 4, none⟩) (Kd.R_types (Kd.R_types HO379.out BK371.out (by decide)) BK372.out (by decide)) (fun _ hk => hk.1.2) (.slice Ao16 y383.length co16)) (fun _ hk => hk.2) (.int .i64 t373)) (fun _ hk => hk.2) (.slice Ao10 t374.length co10)) (fun _ hk => hk.2) (.slice Ao11 t377.length co11)) (fun _ hk => hk.2) (.int .i64 a0_3)) (fun _ hk => hk.2) (.slice Ao16 y383.length co16)) (fun _ hk => hk.1.1), by (with_reducible repeat (first | apply Kd.R_alloc | apply Kd.R_drewN | apply Kd.R_drew)); exact Kd.R_mono (Kd.R_far (p := ⟨gb372, 4, none⟩) (Kd.R_far (p := ⟨gb372, 3, none⟩) (Kd.R_far (p := ⟨gb372, 2, none⟩) (Kd.R_far (p := ⟨gb372, 1, none⟩) (Kd.R_far (p := ⟨gb372, 0, none⟩) (Kd.R_far (p := ⟨gb371, 4, none⟩) (Kd.R_types (Kd.R_types HO385.out BK371.out (by decide)) BK372.out (by decide)) (fun _ hk => hk.1.2) (.slice Ao16 y383.length co16)) (fun _ hk => hk.2) (.int .i64 t373)) (fun _ hk => hk.2) (.slice Ao10 t374.length co10)) (fun _ hk => hk.2) (.slice Ao11 t377.length co11)) (fun _ hk => hk.2) (.int .i64 a0_3)) (fun _ hk => hk.2) (.slice Ao16 y383.length co16)) (fun _ hk => trivial), bs2 HB GE371 GE372⟩
mutual
def spec_WorkOn.j0 : Nat → Int → Int → Bool → Int → List (S53) → List (S53) → Int → List (S71) → Option (Int × (List (S53)) × (List (S53)) × Int × (List (S71)) × Bool)
 | 0, _, _, _, _, _, _, _, _ => none
 | k + 1, x1, x2, x17, x387000, x387001, x387002, x387003, x387004 => if x17 = true then (some (0, ([] : List (S53)), ([] : List (S53)), 0, ([] : List (S71)), false)) else (spec_WorkOn.j1 k x1 x2 x387000 x387001 x387002 x387003 x387004)
def spec_WorkOn.j1 : Nat → Int → Int → Int → List (S53) → List (S53) → Int → List (S71) → Option (Int × (List (S53)) × (List (S53)) × Int × (List (S71)) × Bool)
 | 0, _, _, _, _, _, _, _ => none
 | k + 1, x1, x2, x387000, x387001, x387002, x387003, x387004 => (spec_l12Own.f k x387000 x387001 x387002 x387003 x387004).bind fun bt389 => ((spec_l12Open.f k bt389.2.2.2.2).bind fun t400 => (spec_WorkOn.l0 k x1 x2 t400 (t400.length : Int) 0 bt389.1 bt389.2.1 bt389.2.2.1 bt389.2.2.2.1 bt389.2.2.2.2))
def spec_WorkOn.l0 : Nat → Int → Int → List (S71) → Int → Int → Int → List (S53) → List (S53) → Int → List (S71) → Option (Int × (List (S53)) × (List (S53)) × Int × (List (S71)) × Bool)
 | 0, _, _, _, _, _, _, _, _, _, _ => none
 | k + 1, x1, x2, x23, x24, x25, x387000, x387001, x387002, x387003, x387004 => if x25 < x24 then (spec_WorkOn.j3 k x1 x2 x23 x24 x25 x387000 x387001 x387002 x387003 x387004) else (some (0, ([] : List (S53)), ([] : List (S53)), 0, ([] : List (S71)), false))
def spec_WorkOn.j3 : Nat → Int → Int → List (S71) → Int → Int → Int → List (S53) → List (S53) → Int → List (S71) → Option (Int × (List (S53)) × (List (S53)) × Int × (List (S71)) × Bool)
 | 0, _, _, _, _, _, _, _, _, _, _ => none
 | k + 1, x1, x2, x23, x24, x25, x387000, x387001, x387002, x387003, x387004 => if 0 ≤ x25 then (if x25 < (x23.length : Int) then (if ((rd_T71 x23 x25).f1) = x1 then (spec_WorkOn.j4 k x1 x2 x387000 x387001 x387002 x387003 x387004 ((rd_T71 x23 x25).f0) ((rd_T71 x23 x25).f1) ((rd_T71 x23 x25).f2.f0) ((rd_T71 x23 x25).f2.f1) ((rd_T71 x23 x25).f3)) else (spec_WorkOn.l0 k x1 x2 x23 x24 (wrap64 (x25 + 1)) x387000 x387001 x387002 x387003 x387004)) else (none)) else (none)
def spec_WorkOn.j4 : Nat → Int → Int → Int → List (S53) → List (S53) → Int → List (S71) → Int → Int → Int → Int → Int → Option (Int × (List (S53)) × (List (S53)) × Int × (List (S71)) × Bool)
 | 0, _, _, _, _, _, _, _, _, _, _, _, _ => none
 | k + 1, x1, x2, x387000, x387001, x387002, x387003, x387004, x405000, x405001, x405002, x405003, x405004 => if x2 < (wrap64 (x405003 - x405004)) then (if x387004.length < 3518437208883 then ((some (x387004 ++ [(⟨2, x1, (⟨0, 0⟩ : S53), wrap64 (x405004 + x2)⟩ : S71)] : List (S71))).bind fun y405 => ((spec_GoodWork.f k x387000 x387001 x387002 x387003 y405).bind fun t408 => (if t408 = true then (some (x387000, x387001, x387002, x387003, y405, true)) else (some (0, ([] : List (S53)), ([] : List (S53)), 0, ([] : List (S71)), false))))) else (none)) else (if x387004.length < 3518437208883 then ((some (x387004 ++ [(⟨2, x1, (⟨0, 0⟩ : S53), x405003⟩ : S71)] : List (S71))).bind fun y409 => ((spec_GoodWork.f k x387000 x387001 x387002 x387003 y409).bind fun t412 => (if t412 = true then (some (x387000, x387001, x387002, x387003, y409, true)) else (some (0, ([] : List (S53)), ([] : List (S53)), 0, ([] : List (S71)), false))))) else (none))
end
def spec_WorkOn.f (k : Nat) (a0_0 : Int) (l0_1 : List (S53)) (l0_2 : List (S53)) (a0_3 : Int) (l0_4 : List (S71)) (a1 : Int) (a2 : Int) : Option (Int × (List (S53)) × (List (S53)) × Int × (List (S71)) × Bool) := (spec_GoodWork.f k a0_0 l0_1 l0_2 a0_3 l0_4).bind fun t388 => (if t388 = true then (spec_WorkOn.j0 k a1 a2 (decide (a2 < 1)) a0_0 l0_1 l0_2 a0_3 l0_4) else (spec_WorkOn.j0 k a1 a2 true a0_0 l0_1 l0_2 a0_3 l0_4))
theorem spec_WorkOn.mono_l : ∀ k, (∀ y0 y1 y2 y3 y4 y5 y6 y7, LeO (spec_WorkOn.j0 k y0 y1 y2 y3 y4 y5 y6 y7) (spec_WorkOn.j0 (k + 1) y0 y1 y2 y3 y4 y5 y6 y7)) ∧ (∀ y0 y1 y2 y3 y4 y5 y6, LeO (spec_WorkOn.j1 k y0 y1 y2 y3 y4 y5 y6) (spec_WorkOn.j1 (k + 1) y0 y1 y2 y3 y4 y5 y6)) ∧ (∀ y0 y1 y2 y3 y4 y5 y6 y7 y8 y9, LeO (spec_WorkOn.l0 k y0 y1 y2 y3 y4 y5 y6 y7 y8 y9) (spec_WorkOn.l0 (k + 1) y0 y1 y2 y3 y4 y5 y6 y7 y8 y9)) ∧ (∀ y0 y1 y2 y3 y4 y5 y6 y7 y8 y9, LeO (spec_WorkOn.j3 k y0 y1 y2 y3 y4 y5 y6 y7 y8 y9) (spec_WorkOn.j3 (k + 1) y0 y1 y2 y3 y4 y5 y6 y7 y8 y9)) ∧ (∀ y0 y1 y2 y3 y4 y5 y6 y7 y8 y9 y10 y11, LeO (spec_WorkOn.j4 k y0 y1 y2 y3 y4 y5 y6 y7 y8 y9 y10 y11) (spec_WorkOn.j4 (k + 1) y0 y1 y2 y3 y4 y5 y6 y7 y8 y9 y10 y11))
 | 0 => ⟨fun _ _ _ _ _ _ _ _ r h => by simp [spec_WorkOn.j0] at h, fun _ _ _ _ _ _ _ r h => by simp [spec_WorkOn.j1] at h, fun _ _ _ _ _ _ _ _ _ _ r h => by simp [spec_WorkOn.l0] at h, fun _ _ _ _ _ _ _ _ _ _ r h => by simp [spec_WorkOn.j3] at h, fun _ _ _ _ _ _ _ _ _ _ _ _ r h => by simp [spec_WorkOn.j4] at h⟩
 | k + 1 => by
  obtain ⟨ih0, ih1, ih2, ih3, ih4⟩ := spec_WorkOn.mono_l k
  refine ⟨?_, ?_, ?_, ?_, ?_⟩ <;> intros <;> first | unfold spec_WorkOn.j0 | unfold spec_WorkOn.j1 | unfold spec_WorkOn.l0 | unfold spec_WorkOn.j3 | unfold spec_WorkOn.j4
  all_goals repeat' first
   | (with_reducible exact ih0 _ _ _ _ _ _ _ _)
   | (with_reducible exact ih1 _ _ _ _ _ _ _)
   | (with_reducible exact ih2 _ _ _ _ _ _ _ _ _ _)
   | (with_reducible exact ih3 _ _ _ _ _ _ _ _ _ _)
   | (with_reducible exact ih4 _ _ _ _ _ _ _ _ _ _ _ _)
   | (with_reducible exact spec_GoodWork.mono _ _ _ _ _ _)
   | (with_reducible exact spec_l12Open.mono _ _)
   | (with_reducible exact spec_l12Own.mono _ _ _ _ _ _)
   | (with_reducible exact LeO.refl _)
   | (with_reducible exact LeO.none _)
   | (with_reducible refine LeO.ite ?_ ?_)
   | (with_reducible refine LeO.bind ?_ (fun _ => ?_))
   | exact ih0 _ _ _ _ _ _ _ _
   | exact ih1 _ _ _ _ _ _ _
   | exact ih2 _ _ _ _ _ _ _ _ _ _
   | exact ih3 _ _ _ _ _ _ _ _ _ _
   | exact ih4 _ _ _ _ _ _ _ _ _ _ _ _
   | exact spec_GoodWork.mono _ _ _ _ _ _
   | exact spec_l12Open.mono _ _
   | exact spec_l12Own.mono _ _ _ _ _ _
   | exact LeO.none _
   | refine LeO.ite ?_ ?_
   | refine LeO.bind ?_ (fun _ => ?_)
theorem spec_WorkOn.mono : ∀ a0 a1 a2 a3 a4 a5 a6 k, LeO (spec_WorkOn.f k a0 a1 a2 a3 a4 a5 a6) (spec_WorkOn.f (k + 1) a0 a1 a2 a3 a4 a5 a6) := by
 intro a0 a1 a2 a3 a4 a5 a6 k
 obtain ⟨ih0, ih1, ih2, ih3, ih4⟩ := spec_WorkOn.mono_l k
 unfold spec_WorkOn.f
 repeat' first
   | (with_reducible exact ih0 _ _ _ _ _ _ _ _)
   | (with_reducible exact ih1 _ _ _ _ _ _ _)
   | (with_reducible exact ih2 _ _ _ _ _ _ _ _ _ _)
   | (with_reducible exact ih3 _ _ _ _ _ _ _ _ _ _)
   | (with_reducible exact ih4 _ _ _ _ _ _ _ _ _ _ _ _)
   | (with_reducible exact spec_GoodWork.mono _ _ _ _ _ _)
   | (with_reducible exact spec_l12Open.mono _ _)
   | (with_reducible exact spec_l12Own.mono _ _ _ _ _ _)
   | (with_reducible exact LeO.refl _)
   | (with_reducible exact LeO.none _)
   | (with_reducible refine LeO.ite ?_ ?_)
   | (with_reducible refine LeO.bind ?_ (fun _ => ?_))
   | exact ih0 _ _ _ _ _ _ _ _
   | exact ih1 _ _ _ _ _ _ _
   | exact ih2 _ _ _ _ _ _ _ _ _ _
   | exact ih3 _ _ _ _ _ _ _ _ _ _
   | exact ih4 _ _ _ _ _ _ _ _ _ _ _ _
   | exact spec_GoodWork.mono _ _ _ _ _ _
   | exact spec_l12Open.mono _ _
   | exact spec_l12Own.mono _ _ _ _ _ _
   | exact LeO.none _
   | refine LeO.ite ?_ ?_
   | refine LeO.bind ?_ (fun _ => ?_)
set_option maxHeartbeats 8000000 in
set_option maxRecDepth 100000 in
theorem spec_WorkOn.calls (k : Nat) (a0_0 : Int) (A0_1 : Option Addr) (c0_1 : Nat) (l0_1 : List (S53)) (A0_2 : Option Addr) (c0_2 : Nat) (l0_2 : List (S53)) (a0_3 : Int) (A0_4 : Option Addr) (c0_4 : Nat) (l0_4 : List (S71)) (a1 : Int) (a2 : Int) (r1 : Int) (r2 : List (S53)) (r3 : List (S53)) (r4 : Int) (r5 : List (S71)) (r6 : Bool) (w : World) (hr0_1 : Kd.C k53 w A0_1 l0_1.length l0_1) (hc0_1 : l0_1.length ≤ c0_1) (hr0_2 : Kd.C k53 w A0_2 l0_2.length l0_2) (hc0_2 : l0_2.length ≤ c0_2) (hr0_4 : Kd.C k71 w A0_4 l0_4.length l0_4) (hc0_4 : l0_4.length ≤ c0_4) (h : spec_WorkOn.f k a0_0 l0_1 l0_2 a0_3 l0_4 a1 a2 = some (r1, r2, r3, r4, r5, r6)) :
  Calls Try.prog 28 #[.agg #[.int .i64 a0_0, .slice A0_1 l0_1.length c0_1, .slice A0_2 l0_2.length c0_2, .int .i64 a0_3, .slice A0_4 l0_4.length c0_4], .int .i64 a1, .int .i64 a2] w fun e w' => ∃ v1_ v2_ v4_ : Value, e = .returned (.tuple #[.agg #[.int .i64 r1, v1_, v2_, .int .i64 r4, v4_], .bool r6]) ∧ Kd.R k53 53 w' w.heap.size (fun k_ => some k_ ≠ (v2_ : Value).ownBlock) v1_ r2 ∧ Kd.R k53 53 w' w.heap.size (fun k_ => some k_ ≠ (v1_ : Value).ownBlock) v2_ r3 ∧ Kd.R k71 71 w' w.heap.size (fun _ => True) v4_ r5 ∧ Below w.heap.size w w' := by
 have hu27 := Try.underlying27
 have hu71 := Try.underlying71
 have HR0_1 := Ah hr0_1
 have HC0_1 := Ah hc0_1
 clear hr0_1 hc0_1
 have HR0_2 := Ah hr0_2
 have HC0_2 := Ah hc0_2
 clear hr0_2 hc0_2
 have HR0_4 := Ah hr0_4
 have HC0_4 := Ah hc0_4
 clear hr0_4 hc0_4
 have HB := Ah (Below.refl w.heap.size w)
 have H : ((spec_GoodWork.f k a0_0 l0_1 l0_2 a0_3 l0_4).bind fun t388 => (if t388 = true then (spec_WorkOn.j0 k a1 a2 (decide (a2 < 1)) a0_0 l0_1 l0_2 a0_3 l0_4) else (spec_WorkOn.j0 k a1 a2 true a0_0 l0_1 l0_2 a0_3 l0_4))) = some (r1, r2, r3, r4, r5, r6) := h
 clear h
 have HC4 := Ah H
 clear H
 go_enter Try.func28, Try.ntmps28
 go_upto_region 1 with (first | ((with_reducible refine gate_dst (N := 3) rfl ?_); refine boxL 3 27 #[.int .i64 a0_0, .slice A0_1 l0_1.length c0_1, .slice A0_2 l0_2.length c0_2, .int .i64 a0_3, .slice A0_4 l0_4.length c0_4] ?_; intro gb386 hg w5 BK386 hb; have GW386 := gw hg (bs HB); have GE386 := gw hg (bs HB); replace HB := Ah (below_step (bs HB) hb); clear hb hg) | ((with_reducible refine gate_dst (N := 6) rfl ?_); refine boxL 6 27 #[.int .i64 0, .slice none 0 0, .slice none 0 0, .int .i64 0, .slice none 0 0] ?_; intro gb387 hg w6 BK387 hb; have GW387 := gw hg (bs1 HB GE386); have GE387 := gw hg (bs1 HB GE386); replace HB := Ah (below_step (bs1 HB GE386) hb); have NB386_387 := nn BK386 hg; have NB387_386 := nm BK386 hg; replace BK386 := nb BK386 hb; clear hb hg))
 (try simp only [Act.put, List.setIfInBounds_toArray, List.set_cons_zero, List.set_cons_succ])
 go_cut [17] (fun v17 wc => ∃ (kq : Nat) (x17_3 : Bool), v17 = .bool x17_3 ∧ Aside0 (spec_WorkOn.j0 kq a1 a2 x17_3 a0_0 l0_1 l0_2 a0_3 l0_4 = some (r1, r2, r3, r4, r5, r6)) ∧ Aside0 (kq ≤ k) ∧ Aside0 (wc.heap[gb386]? = some (.cells #[.int .i64 a0_0, (.slice A0_1 l0_1.length c0_1), (.slice A0_2 l0_2.length c0_2), .int .i64 a0_3, (.slice A0_4 l0_4.length c0_4)] 27 (0, 0))) ∧ Aside0 (wc.heap[gb387]? = some (.cells #[.int .i64 0, (.slice none 0 0), (.slice none 0 0), .int .i64 0, (.slice none 0 0)] 27 (0, 0))) ∧ Aside0 (Below w.heap.size w wc))
 case first =>
  have H := HC4.out
  clear HC4
  replace H := Option.bind_eq_some_iff.mp H
  obtain ⟨t388, A70, H⟩ := H
  try dsimp only at H
  have A7 := Ah A70
  clear A70
  by_cases c8 : t388 = true
  ·
   subst c8
   rw [if_pos rfl] at H
   have H' := Ah H
   clear H
   have hnb9 := NB386_387.out
   have hnc9 := NB387_386.out
   obtain ⟨hcz10_0, hcz10_1, hcz10_2, hcz10_3, hcz10_4⟩ := cz5 BK386
   obtain ⟨hfz10_0, hfz10_1, hfz10_2, hfz10_3, hfz10_4⟩ := fz5 BK386
   go_wp2_with (first | ((with_reducible refine gate_callee (f := 15) rfl ?_); refine gL (some 12) rfl rfl Try.func15 (by kernel_rfl) rfl #[.agg #[.int .i64 a0_0, .slice A0_1 l0_1.length c0_1, .slice A0_2 l0_2.length c0_2, .int .i64 a0_3, .slice A0_4 l0_4.length c0_4]] rfl ?_; (with_reducible refine (spec_GoodWork.calls k a0_0 _ _ l0_1 _ _ l0_2 a0_3 _ _ l0_4 true _ ?side1 ?side2 ?side3 ?side4 ?side5 ?side6 A7.out).mono ?_); (case side1 => exact cb HR0_1 HB); (case side2 => exact HC0_1.out); (case side3 => exact cb HR0_2 HB); (case side4 => exact HC0_2.out); (case side5 => exact cb HR0_4 HB); (case side6 => exact HC0_4.out); rintro e w11 ⟨rfl, hb⟩; refine ⟨_, rfl, ?_⟩; replace BK386 := nb BK386 hb; replace BK387 := nb BK387 hb; replace HB := Ah (below_step (bs2 HB GE386 GE387) hb); (try clear hb)))
   go_meet
   case rel => exact ⟨_, (decide (a2 < 1)), e3, H', ⟨by first | omega | exact Nat.le_refl _⟩, ⟨bk BK386⟩, ⟨bk BK387⟩, ⟨bs2 HB GE386 GE387⟩⟩
  replace c8 := Bool.eq_false_iff.mpr c8
  subst c8
  rw [if_neg fne] at H
  have H' := Ah H
  clear H
  have hnb12 := NB386_387.out
  have hnc12 := NB387_386.out
  obtain ⟨hcz13_0, hcz13_1, hcz13_2, hcz13_3, hcz13_4⟩ := cz5 BK386
  obtain ⟨hfz13_0, hfz13_1, hfz13_2, hfz13_3, hfz13_4⟩ := fz5 BK386
  go_wp2_with (first | ((with_reducible refine gate_callee (f := 15) rfl ?_); refine gL (some 12) rfl rfl Try.func15 (by kernel_rfl) rfl #[.agg #[.int .i64 a0_0, .slice A0_1 l0_1.length c0_1, .slice A0_2 l0_2.length c0_2, .int .i64 a0_3, .slice A0_4 l0_4.length c0_4]] rfl ?_; (with_reducible refine (spec_GoodWork.calls k a0_0 _ _ l0_1 _ _ l0_2 a0_3 _ _ l0_4 false _ ?side1 ?side2 ?side3 ?side4 ?side5 ?side6 A7.out).mono ?_); (case side1 => exact cb HR0_1 HB); (case side2 => exact HC0_1.out); (case side3 => exact cb HR0_2 HB); (case side4 => exact HC0_2.out); (case side5 => exact cb HR0_4 HB); (case side6 => exact HC0_4.out); rintro e w14 ⟨rfl, hb⟩; refine ⟨_, rfl, ?_⟩; replace BK386 := nb BK386 hb; replace BK387 := nb BK387 hb; replace HB := Ah (below_step (bs2 HB GE386 GE387) hb); (try clear hb)))
  go_meet
  case rel => exact ⟨_, (true), e3, H', ⟨by first | omega | exact Nat.le_refl _⟩, ⟨bk BK386⟩, ⟨bk BK387⟩, ⟨bs2 HB GE386 GE387⟩⟩
 case rest =>
  clear HC4
  try clear c1
  try clear c2
  try clear p2
  try clear c8
  try clear c9
  try clear c12
  try clear hcz10_0 hcz10_1 hcz10_2 hcz10_3 hcz10_4
  try clear hcz13_0 hcz13_1 hcz13_2 hcz13_3 hcz13_4
  try clear hfz10_0 hfz10_1 hfz10_2 hfz10_3 hfz10_4
  try clear hfz13_0 hfz13_1 hfz13_2 hfz13_3 hfz13_4
  obtain ⟨kq, x17_3, rfl, HA, HJ3, BK386, BK387, HB⟩ := hcut
  cases kq with
  | zero => exact absurd HA.out (by simp [spec_WorkOn.j0])
  | succ kj3 =>
   have H := HA.out
   clear HA
   simp only [spec_WorkOn.j0] at H
   have HC15 := Ah H
   clear H
   go_upto_if 17 with (fail)
   go_cut [] (fun wc => ∃ (kq : Nat) (x388000_14 : Int) (x388003_14 : Int), Aside0 (spec_WorkOn.j1 kq a1 a2 a0_0 l0_1 l0_2 a0_3 l0_4 = some (r1, r2, r3, r4, r5, r6)) ∧ Aside0 (kq ≤ kj3) ∧ Aside0 (wc.heap[gb386]? = some (.cells #[.int .i64 a0_0, (.slice A0_1 l0_1.length c0_1), (.slice A0_2 l0_2.length c0_2), .int .i64 a0_3, (.slice A0_4 l0_4.length c0_4)] 27 (0, 0))) ∧ Aside0 (wc.heap[gb387]? = some (.cells #[.int .i64 x388000_14, (.slice none 0 0), (.slice none 0 0), .int .i64 x388003_14, (.slice none 0 0)] 27 (0, 0))) ∧ Aside0 (Below w.heap.size w wc))
   case first =>
    have H := HC15.out
    clear HC15
    by_cases c16 : x17_3 = true
    rotate_left
    ·
     replace c16 := Bool.eq_false_iff.mpr c16
     subst c16
     rw [if_neg fne] at H
     have H' := Ah H
     clear H
     go_wp2
     go_meet
     case rel => exact ⟨_, (0), (0), H', ⟨by have := HJ3.out; first | omega | exact Nat.le_refl _⟩, ⟨bk BK386⟩, ⟨bk BK387⟩, ⟨bs2 HB GE386 GE387⟩⟩
    subst c16
    rw [if_pos rfl] at H
    simp only [Option.some.injEq, Prod.mk.injEq] at H
    obtain ⟨rfl, rfl, rfl, rfl, rfl, rfl⟩ := H
    have hnb17 := NB387_386.out
    have hnc17 := NB386_387.out
    obtain ⟨hcz18_0, hcz18_1, hcz18_2, hcz18_3, hcz18_4⟩ := cz5 BK387
    obtain ⟨hfz18_0, hfz18_1, hfz18_2, hfz18_3, hfz18_4⟩ := fz5 BK387
    go_wp2
    refine bodyPost_ret (results_ct rfl _ _ gb387 27 #[.int .i64 0, .slice none 0 0, .slice none 0 0, .int .i64 0, .slice none 0 0] (0, 0) _ rfl (by (with_reducible repeat (first | refine blk_drewN ?_ _ | refine blk_drew ?_ | refine blk_alloc ?_ _)); refine blk_put (cs := #[.int .i64 0, .slice none 0 0, .slice none 0 0, .int .i64 0, .slice none 0 0]) ?_ 4 _ rfl; (with_reducible repeat (first | refine blk_drewN ?_ _ | refine blk_drew ?_ | refine blk_alloc ?_ _)); refine blk_put (cs := #[.int .i64 0, .slice none 0 0, .slice none 0 0, .int .i64 0, .slice none 0 0]) ?_ 3 _ rfl; (with_reducible repeat (first | refine blk_drewN ?_ _ | refine blk_drew ?_ | refine blk_alloc ?_ _)); refine blk_put (cs := #[.int .i64 0, .slice none 0 0, .slice none 0 0, .int .i64 0, .slice none 0 0]) ?_ 2 _ rfl; (with_reducible repeat (first | refine blk_drewN ?_ _ | refine blk_drew ?_ | refine blk_alloc ?_ _)); refine blk_put (cs := #[.int .i64 0, .slice none 0 0, .slice none 0 0, .int .i64 0, .slice none 0 0]) ?_ 1 _ rfl; (with_reducible repeat (first | refine blk_drewN ?_ _ | refine blk_drew ?_ | refine blk_alloc ?_ _)); refine blk_put (cs := #[.int .i64 0, .slice none 0 0, .slice none 0 0, .int .i64 0, .slice none 0 0]) ?_ 0 _ rfl; (with_reducible repeat (first | refine blk_drewN ?_ _ | refine blk_drew ?_ | refine blk_alloc ?_ _)); exact BK387.out) Try.underlying27 rfl (by kernel_rfl)) rfl ?_
    exact ⟨_, _, _, er, by first | exact Kd.R_nil _ _ _ _ _ | exact Kd.N_nil _ _ _ _ _ | exact Kd.V_nil _ _ _ _ _ | exact Kd.Q_nil _ _ _ _ _ | exact Kd.S_nil _ _ _ _ _, by first | exact Kd.R_nil _ _ _ _ _ | exact Kd.N_nil _ _ _ _ _ | exact Kd.V_nil _ _ _ _ _ | exact Kd.Q_nil _ _ _ _ _ | exact Kd.S_nil _ _ _ _ _, by first | exact Kd.R_nil _ _ _ _ _ | exact Kd.N_nil _ _ _ _ _ | exact Kd.V_nil _ _ _ _ _ | exact Kd.Q_nil _ _ _ _ _ | exact Kd.S_nil _ _ _ _ _, bs2 HB GE386 GE387⟩
   case rest =>
    clear HC15
    try clear c1
    try clear c2
    try clear p2
    try clear c8
    try clear c9
    try clear c12
    try clear c15
    try clear c16
    try clear c17
    try clear hcz10_0 hcz10_1 hcz10_2 hcz10_3 hcz10_4
    try clear hcz13_0 hcz13_1 hcz13_2 hcz13_3 hcz13_4
    try clear hcz18_0 hcz18_1 hcz18_2 hcz18_3 hcz18_4
    try clear hfz10_0 hfz10_1 hfz10_2 hfz10_3 hfz10_4
    try clear hfz13_0 hfz13_1 hfz13_2 hfz13_3 hfz13_4
    try clear hfz18_0 hfz18_1 hfz18_2 hfz18_3 hfz18_4
    try clear p2
    obtain ⟨kq, x388000_14, x388003_14, HA, HJ14, BK386, BK387, HB⟩ := hcut
    cases kq with
    | zero => exact absurd HA.out (by simp [spec_WorkOn.j1])
    | succ kj14 =>
     have H := HA.out
     clear HA
     simp only [spec_WorkOn.j1] at H
     replace H := Option.bind_eq_some_iff.mp H
     obtain ⟨⟨t389, t390, t393, t396, t397⟩, A190, H⟩ := H
     try dsimp only at H
     have A19 := Ah A190
     clear A190
     replace H := Option.bind_eq_some_iff.mp H
     obtain ⟨t400, A200, H⟩ := H
     try dsimp only at H
     have A20 := Ah A200
     clear A200
     have H' := Ah H
     clear H
     have hnb21 := NB386_387.out
     have hnc21 := NB387_386.out
     obtain ⟨hcz22_0, hcz22_1, hcz22_2, hcz22_3, hcz22_4⟩ := cz5 BK386
     obtain ⟨hfz22_0, hfz22_1, hfz22_2, hfz22_3, hfz22_4⟩ := fz5 BK386
     go_wp2_with (first | ((with_reducible refine gate_callee (f := 48) rfl ?_); refine gL (some 20) rfl rfl Try.func48 (by kernel_rfl) rfl #[.agg #[.int .i64 a0_0, .slice A0_1 l0_1.length c0_1, .slice A0_2 l0_2.length c0_2, .int .i64 a0_3, .slice A0_4 l0_4.length c0_4]] rfl ?_; (with_reducible refine (spec_l12Own.calls kj14 a0_0 _ _ l0_1 _ _ l0_2 a0_3 _ _ l0_4 t389 t390 t393 t396 t397 _ ?side1 ?side2 ?side3 ?side4 ?side5 ?side6 A19.out).mono ?_); (case side1 => exact cb HR0_1 HB); (case side2 => exact HC0_1.out); (case side3 => exact cb HR0_2 HB); (case side4 => exact HC0_2.out); (case side5 => exact cb HR0_4 HB); (case side6 => exact HC0_4.out); rintro e w23 ⟨v391, v394, v398, rfl, ho0, ho1, ho2, hb⟩; refine ⟨_, rfl, ?_⟩; have HO392 := Ah (Kd.R_lower ho0 (below_size (bs2 HB GE386 GE387))); have HO395 := Ah (Kd.R_lower ho1 (below_size (bs2 HB GE386 GE387))); have HO399 := Ah (Kd.R_lower ho2 (below_size (bs2 HB GE386 GE387))); replace BK386 := nb BK386 hb; replace BK387 := nb BK387 hb; replace HB := Ah (below_step (bs2 HB GE386 GE387) hb); (try clear hb ho0 ho1 ho2); obtain ⟨hcz24_0, hcz24_1, hcz24_2, hcz24_3, hcz24_4⟩ := cz5 BK386; obtain ⟨hfz24_0, hfz24_1, hfz24_2, hfz24_3, hfz24_4⟩ := fz5 BK386; obtain ⟨Ao25, co25, eo25⟩ := Kd.R_slice HO392.out; subst eo25; obtain ⟨Ao26, co26, eo26⟩ := Kd.R_slice HO395.out; subst eo26; obtain ⟨Ao27, co27, eo27⟩ := Kd.R_slice HO399.out; subst eo27) | ((with_reducible refine gate_callee (f := 44) rfl ?_); refine gL (some 23) rfl rfl Try.func44 (by kernel_rfl) rfl #[.slice Ao27 t397.length co27] rfl ?_; (with_reducible refine (spec_l12Open.calls kj14 _ _ t397 t400 _ ?side1 ?side2 A20.out).mono ?_); (case side1 => exact rc HO399 BK386); (case side2 => exact (Kd.R_reads' HO399.out).2.1); rintro e w28 ⟨v401, rfl, ho0, hb⟩; refine ⟨_, rfl, ?_⟩; replace HO392 := nf HO392 BK386 hb; replace HO395 := nf HO395 BK386 hb; have HO402 := Ah (Kd.R_lower (Kd.R_new' ho0 (Kd.R_lt (rf HO399 BK386))) (below_size (bs2 HB GE386 GE387))); replace HO399 := Ah (Kd.R_elder' (rf HO399 BK386) (Kd.R_base ho0) hb); replace BK386 := Ah (blk_below (g := gb386) (o := .cells #[.int .i64 t389, .slice Ao25 t390.length co25, .slice Ao26 t393.length co26, .int .i64 t396, .slice Ao27 t397.length co27] 27 (0, 0)) (by (with_reducible repeat (first | refine blk_drewN ?_ _ | refine blk_drew ?_ | refine blk_alloc ?_ _)); refine blk_put (cs := #[.int .i64 t389, .slice Ao25 t390.length co25, .slice Ao26 t393.length co26, .int .i64 t396, .slice A0_4 l0_4.length c0_4]) ?_ 4 _ rfl; (with_reducible repeat (first | refine blk_drewN ?_ _ | refine blk_drew ?_ | refine blk_alloc ?_ _)); refine blk_put (cs := #[.int .i64 t389, .slice Ao25 t390.length co25, .slice Ao26 t393.length co26, .int .i64 a0_3, .slice A0_4 l0_4.length c0_4]) ?_ 3 _ rfl; (with_reducible repeat (first | refine blk_drewN ?_ _ | refine blk_drew ?_ | refine blk_alloc ?_ _)); refine blk_put (cs := #[.int .i64 t389, .slice Ao25 t390.length co25, .slice A0_2 l0_2.length c0_2, .int .i64 a0_3, .slice A0_4 l0_4.length c0_4]) ?_ 2 _ rfl; (with_reducible repeat (first | refine blk_drewN ?_ _ | refine blk_drew ?_ | refine blk_alloc ?_ _)); refine blk_put (cs := #[.int .i64 t389, .slice A0_1 l0_1.length c0_1, .slice A0_2 l0_2.length c0_2, .int .i64 a0_3, .slice A0_4 l0_4.length c0_4]) ?_ 1 _ rfl; (with_reducible repeat (first | refine blk_drewN ?_ _ | refine blk_drew ?_ | refine blk_alloc ?_ _)); refine blk_put (cs := #[.int .i64 a0_0, .slice A0_1 l0_1.length c0_1, .slice A0_2 l0_2.length c0_2, .int .i64 a0_3, .slice A0_4 l0_4.length c0_4]) ?_ 0 _ rfl; (with_reducible repeat (first | refine blk_drewN ?_ _ | refine blk_drew ?_ | refine blk_alloc ?_ _)); exact BK386.out) hb); replace BK387 := Ah (blk_below (bf BK387 NB387_386) hb); replace HB := Ah (below_step (bs2 HB GE386 GE387) hb); (try clear hb ho0); obtain ⟨Ao29, co29, eo29⟩ := Kd.R_slice HO402.out; subst eo29))
     go_loopg [25] kj14 (fun kq v25 w' => ∃ (x25_3 : Int) (x387004_3 : List (S71)) (x388000_3 : Int) (x388003_3 : Int) (u387004 : Value), v25 = .int .i64 x25_3 ∧ Aside0 (spec_WorkOn.l0 kq a1 a2 t400 (t400.length : Int) x25_3 t389 t390 t393 t396 x387004_3 = some (r1, r2, r3, r4, r5, r6)) ∧ Aside0 (kq ≤ kj14) ∧ Aside0 (Kd.R k71 71 w' w.heap.size (fun k_ => some k_ ≠ (u387004 : Value).ownBlock) (.slice Ao29 t400.length co29) t400) ∧ Aside0 (Kd.R k53 53 w' w.heap.size (fun k_ => some k_ ≠ ((.slice Ao26 t393.length co26) : Value).ownBlock) (.slice Ao25 t390.length co25) t390) ∧ Aside0 (Kd.R k53 53 w' w.heap.size (fun k_ => some k_ ≠ ((.slice Ao25 t390.length co25) : Value).ownBlock) (.slice Ao26 t393.length co26) t393) ∧ Aside0 (Kd.R k71 71 w' w.heap.size (fun k_ => some k_ ≠ ((.slice Ao29 t400.length co29) : Value).ownBlock) u387004 x387004_3) ∧ Aside0 (w'.heap[gb386]? = some (.cells #[.int .i64 t389, (.slice Ao25 t390.length co25), (.slice Ao26 t393.length co26), .int .i64 t396, u387004] 27 (0, 0))) ∧ Aside0 (w'.heap[gb387]? = some (.cells #[.int .i64 x388000_3, (.slice none 0 0), (.slice none 0 0), .int .i64 x388003_3, (.slice none 0 0)] 27 (0, 0))) ∧ Aside0 (Below w.heap.size w w'))
     case atStart => exact ⟨(0), (t397), (x388000_14), (x388003_14), (.slice Ao27 t397.length co27), e3, H', ⟨Nat.le_refl _⟩, rm HO402 (fun _ hk => hk.2), ⟨rr HO392.out⟩, ⟨rr HO395.out⟩, rm HO399 (fun _ hk => hk.2), ⟨bk BK386⟩, ⟨bk BK387⟩, ⟨bs2 HB GE386 GE387⟩⟩
     case round =>
      clear H'
      try clear c1
      try clear c2
      try clear p2
      try clear c4
      try clear c8
      try clear c9
      try clear c12
      try clear c15
      try clear c16
      try clear c17
      try clear c21
      try clear c28
      try clear hcz10_0 hcz10_1 hcz10_2 hcz10_3 hcz10_4
      try clear hcz13_0 hcz13_1 hcz13_2 hcz13_3 hcz13_4
      try clear hcz18_0 hcz18_1 hcz18_2 hcz18_3 hcz18_4
      try clear hcz22_0 hcz22_1 hcz22_2 hcz22_3 hcz22_4
      try clear hcz24_0 hcz24_1 hcz24_2 hcz24_3 hcz24_4
      try clear hfz10_0 hfz10_1 hfz10_2 hfz10_3 hfz10_4
      try clear hfz13_0 hfz13_1 hfz13_2 hfz13_3 hfz13_4
      try clear hfz18_0 hfz18_1 hfz18_2 hfz18_3 hfz18_4
      try clear hfz22_0 hfz22_1 hfz22_2 hfz22_3 hfz22_4
      try clear hfz24_0 hfz24_1 hfz24_2 hfz24_3 hfz24_4
      try clear p2
      obtain ⟨x25_3, x387004_3, x388000_3, x388003_3, u387004, rfl, HA, HK3, HO_23, HO_387001, HO_387002, HO_387004, BK386, BK387, HB⟩ := hrel
      cases gk with
      | zero => exact absurd HA.out (by simp [spec_WorkOn.l0])
      | succ k3 =>
       have H := HA.out
       clear HA
       simp only [spec_WorkOn.l0] at H
       have HC30 := Ah H
       clear H
       go_upto_if 26 with (fail)
       go_cut [] (fun wc => ∃ (kq : Nat), Aside0 (spec_WorkOn.j3 kq a1 a2 t400 (t400.length : Int) x25_3 t389 t390 t393 t396 x387004_3 = some (r1, r2, r3, r4, r5, r6)) ∧ Aside0 (kq ≤ k3) ∧ Aside0 (Kd.R k71 71 wc w.heap.size (fun k_ => some k_ ≠ (u387004 : Value).ownBlock) (.slice Ao29 t400.length co29) t400) ∧ Aside0 (Kd.R k53 53 wc w.heap.size (fun k_ => some k_ ≠ ((.slice Ao26 t393.length co26) : Value).ownBlock) (.slice Ao25 t390.length co25) t390) ∧ Aside0 (Kd.R k53 53 wc w.heap.size (fun k_ => some k_ ≠ ((.slice Ao25 t390.length co25) : Value).ownBlock) (.slice Ao26 t393.length co26) t393) ∧ Aside0 (Kd.R k71 71 wc w.heap.size (fun k_ => some k_ ≠ ((.slice Ao29 t400.length co29) : Value).ownBlock) u387004 x387004_3) ∧ Aside0 (wc.heap[gb386]? = some (.cells #[.int .i64 t389, (.slice Ao25 t390.length co25), (.slice Ao26 t393.length co26), .int .i64 t396, u387004] 27 (0, 0))) ∧ Aside0 (wc.heap[gb387]? = some (.cells #[.int .i64 x388000_3, (.slice none 0 0), (.slice none 0 0), .int .i64 x388003_3, (.slice none 0 0)] 27 (0, 0))) ∧ Aside0 (Below w.heap.size w wc))
       case first =>
        have H := HC30.out
        clear HC30
        by_cases c31 : x25_3 < (t400.length : Int)
        ·
         rw [if_pos c31] at H
         have c31b0 : decide (x25_3 < (t400.length : Int)) = true := decide_eq_true c31
         clear c31
         (first | rw [c31b0] | (simp only [i64_w, i32_w]; rw [c31b0]) | (simp only [c31b2, Bool.not_false, Bool.not_true]) | skip)
         have H' := Ah H
         clear H
         go_wp2
         go_meet
         case rel => exact ⟨_, H', ⟨by have := HJ3.out; have := HJ14.out; have := HK3.out; first | omega | exact Nat.le_refl _⟩, ⟨rr HO_23.out⟩, ⟨rr HO_387001.out⟩, ⟨rr HO_387002.out⟩, ⟨rr HO_387004.out⟩, ⟨bk BK386⟩, ⟨bk BK387⟩, ⟨bs2 HB GE386 GE387⟩⟩
        rw [if_neg c31] at H
        have c31b0 : decide (x25_3 < (t400.length : Int)) = false := decide_eq_false c31
        clear c31
        (first | rw [c31b0] | (simp only [i64_w, i32_w]; rw [c31b0]) | (simp only [c31b2, Bool.not_false, Bool.not_true]) | skip)
        simp only [Option.some.injEq, Prod.mk.injEq] at H
        obtain ⟨rfl, rfl, rfl, rfl, rfl, rfl⟩ := H
        have hnb32 := NB387_386.out
        have hnc32 := NB386_387.out
        obtain ⟨hcz33_0, hcz33_1, hcz33_2, hcz33_3, hcz33_4⟩ := cz5 BK387
        obtain ⟨hfz33_0, hfz33_1, hfz33_2, hfz33_3, hfz33_4⟩ := fz5 BK387
        go_wp2
        refine bodyPost_ret (results_ct rfl _ _ gb387 27 #[.int .i64 0, .slice none 0 0, .slice none 0 0, .int .i64 0, .slice none 0 0] (0, 0) _ rfl (by (with_reducible repeat (first | refine blk_drewN ?_ _ | refine blk_drew ?_ | refine blk_alloc ?_ _)); refine blk_put (cs := #[.int .i64 0, .slice none 0 0, .slice none 0 0, .int .i64 0, .slice none 0 0]) ?_ 4 _ rfl; (with_reducible repeat (first | refine blk_drewN ?_ _ | refine blk_drew ?_ | refine blk_alloc ?_ _)); refine blk_put (cs := #[.int .i64 0, .slice none 0 0, .slice none 0 0, .int .i64 x388003_3, .slice none 0 0]) ?_ 3 _ rfl; (with_reducible repeat (first | refine blk_drewN ?_ _ | refine blk_drew ?_ | refine blk_alloc ?_ _)); refine blk_put (cs := #[.int .i64 0, .slice none 0 0, .slice none 0 0, .int .i64 x388003_3, .slice none 0 0]) ?_ 2 _ rfl; (with_reducible repeat (first | refine blk_drewN ?_ _ | refine blk_drew ?_ | refine blk_alloc ?_ _)); refine blk_put (cs := #[.int .i64 0, .slice none 0 0, .slice none 0 0, .int .i64 x388003_3, .slice none 0 0]) ?_ 1 _ rfl; (with_reducible repeat (first | refine blk_drewN ?_ _ | refine blk_drew ?_ | refine blk_alloc ?_ _)); refine blk_put (cs := #[.int .i64 x388000_3, .slice none 0 0, .slice none 0 0, .int .i64 x388003_3, .slice none 0 0]) ?_ 0 _ rfl; (with_reducible repeat (first | refine blk_drewN ?_ _ | refine blk_drew ?_ | refine blk_alloc ?_ _)); exact BK387.out) Try.underlying27 rfl (by kernel_rfl)) rfl ?_
        exact ⟨_, _, _, er, by first | exact Kd.R_nil _ _ _ _ _ | exact Kd.N_nil _ _ _ _ _ | exact Kd.V_nil _ _ _ _ _ | exact Kd.Q_nil _ _ _ _ _ | exact Kd.S_nil _ _ _ _ _, by first | exact Kd.R_nil _ _ _ _ _ | exact Kd.N_nil _ _ _ _ _ | exact Kd.V_nil _ _ _ _ _ | exact Kd.Q_nil _ _ _ _ _ | exact Kd.S_nil _ _ _ _ _, by first | exact Kd.R_nil _ _ _ _ _ | exact Kd.N_nil _ _ _ _ _ | exact Kd.V_nil _ _ _ _ _ | exact Kd.Q_nil _ _ _ _ _ | exact Kd.S_nil _ _ _ _ _, bs2 HB GE386 GE387⟩
       case rest =>
        clear HC30
        try clear c1
        try clear c2
        try clear p2
        try clear c3
        try clear c4
        try clear c8
        try clear c9
        try clear c12
        try clear c15
        try clear c16
        try clear c17
        try clear c21
        try clear c28
        try clear c31
        try clear c31b0
        try clear c32
        try clear hcz10_0 hcz10_1 hcz10_2 hcz10_3 hcz10_4
        try clear hcz13_0 hcz13_1 hcz13_2 hcz13_3 hcz13_4
        try clear hcz18_0 hcz18_1 hcz18_2 hcz18_3 hcz18_4
        try clear hcz22_0 hcz22_1 hcz22_2 hcz22_3 hcz22_4
        try clear hcz24_0 hcz24_1 hcz24_2 hcz24_3 hcz24_4
        try clear hcz33_0 hcz33_1 hcz33_2 hcz33_3 hcz33_4
        try clear hfz10_0 hfz10_1 hfz10_2 hfz10_3 hfz10_4
        try clear hfz13_0 hfz13_1 hfz13_2 hfz13_3 hfz13_4
        try clear hfz18_0 hfz18_1 hfz18_2 hfz18_3 hfz18_4
        try clear hfz22_0 hfz22_1 hfz22_2 hfz22_3 hfz22_4
        try clear hfz24_0 hfz24_1 hfz24_2 hfz24_3 hfz24_4
        try clear hfz33_0 hfz33_1 hfz33_2 hfz33_3 hfz33_4
        try clear p2
        obtain ⟨kq, HA, HJ29, HO_23, HO_387001, HO_387002, HO_387004, BK386, BK387, HB⟩ := hcut
        cases kq with
        | zero => exact absurd HA.out (by simp [spec_WorkOn.j3])
        | succ kj29 =>
         have H := HA.out
         clear HA
         simp only [spec_WorkOn.j3] at H
         by_cases c34 : 0 ≤ x25_3
         rotate_left
         ·
          rw [if_neg c34] at H
          exact absurd H (by simp)
         rw [if_pos c34] at H
         have c34b0 : decide (0 ≤ x25_3) = true := decide_eq_true c34
         clear c34
         by_cases c35 : x25_3 < (t400.length : Int)
         rotate_left
         ·
          rw [if_neg c35] at H
          exact absurd H (by simp)
         rw [if_pos c35] at H
         have c35b0 : decide (x25_3 < (t400.length : Int)) = true := decide_eq_true c35
         clear c35
         have HC36 := Ah H
         clear H
         have p403 : 0 ≤ (x25_3 : Int) := od
         have q403 : x25_3 < (t400.length : Int) := od
         obtain ⟨ad403, e403, hx403_0, hx403_1, hx403_2, hx403_3, hx403_4⟩ := at_T71 (Kd.R_reads' HO_23.out).2.2 x25_3 p403 q403
         cases e403
         replace p403 := eq_true p403
         replace q403 := eq_true q403
         go_upto_if 32 with (first | ((with_reducible refine gate_dst (N := 9) rfl ?_); refine boxL 9 71 #[.int .i64 0, .int .i64 0, .int .i64 0, .int .i64 0, .int .i64 0] ?_; intro gb404 hg w37 BK404 hb; replace HO_23 := Ah (Kd.R_below (Kd.R_elderB (rr HO_23.out) gb404 (Nat.le_of_eq hg.symm)) hb); replace HO_387001 := nr HO_387001 hb; replace HO_387002 := nr HO_387002 hb; replace HO_387004 := Ah (Kd.R_below (Kd.R_elderB (rr HO_387004.out) gb404 (Nat.le_of_eq hg.symm)) hb); have GW404 := gw hg (bs2 HB GE386 GE387); have GE404 := gw hg (bs2 HB GE386 GE387); replace HB := Ah (below_step (bs2 HB GE386 GE387) hb); have NB386_404 := nn BK386 hg; have NB404_386 := nm BK386 hg; replace BK386 := nb BK386 hb; have NB387_404 := nn BK387 hg; have NB404_387 := nm BK387 hg; replace BK387 := nb BK387 hb; clear hb hg; have hnb38 := NB404_386.out; have hnc38 := NB386_404.out; have hnb39 := NB404_387.out; have hnc39 := NB387_404.out; obtain ⟨hcz40_0, hcz40_1, hcz40_2, hcz40_3, hcz40_4⟩ := cz5 BK404; obtain ⟨hfz40_0, hfz40_1, hfz40_2, hfz40_3, hfz40_4⟩ := fz5 BK404))
         (try simp only [Act.put, List.setIfInBounds_toArray, List.set_cons_zero, List.set_cons_succ])
         go_cut [] (fun wc => ∃ (kq : Nat), Aside0 (spec_WorkOn.j4 kq a1 a2 t389 t390 t393 t396 x387004_3 ((rd_T71 t400 x25_3).f0) ((rd_T71 t400 x25_3).f1) ((rd_T71 t400 x25_3).f2.f0) ((rd_T71 t400 x25_3).f2.f1) ((rd_T71 t400 x25_3).f3) = some (r1, r2, r3, r4, r5, r6)) ∧ Aside0 (kq ≤ kj29) ∧ Aside0 (Kd.R k53 53 wc w.heap.size (fun k_ => some k_ ≠ ((.slice Ao26 t393.length co26) : Value).ownBlock) (.slice Ao25 t390.length co25) t390) ∧ Aside0 (Kd.R k53 53 wc w.heap.size (fun k_ => some k_ ≠ ((.slice Ao25 t390.length co25) : Value).ownBlock) (.slice Ao26 t393.length co26) t393) ∧ Aside0 (Kd.R k71 71 wc w.heap.size (fun k_ => k_ ≠ gb404) u387004 x387004_3) ∧ Aside0 (wc.heap[gb386]? = some (.cells #[.int .i64 t389, (.slice Ao25 t390.length co25), (.slice Ao26 t393.length co26), .int .i64 t396, u387004] 27 (0, 0))) ∧ Aside0 (wc.heap[gb387]? = some (.cells #[.int .i64 x388000_3, (.slice none 0 0), (.slice none 0 0), .int .i64 x388003_3, (.slice none 0 0)] 27 (0, 0))) ∧ Aside0 (wc.heap[gb404]? = some (.cells #[.int .i64 ((rd_T71 t400 x25_3).f0), .int .i64 ((rd_T71 t400 x25_3).f1), .int .i64 ((rd_T71 t400 x25_3).f2.f0), .int .i64 ((rd_T71 t400 x25_3).f2.f1), .int .i64 ((rd_T71 t400 x25_3).f3)] 71 (0, 0))) ∧ Aside0 (Below w.heap.size w wc))
         case first =>
          have H := HC36.out
          clear HC36
          by_cases c41 : ((rd_T71 t400 x25_3).f1) = a1
          rotate_left
          ·
           rw [if_neg c41] at H
           have c41b0 : (((rd_T71 t400 x25_3).f1) == a1) = false := beq_eq_false_iff_ne.mpr c41
           have c41b1 : (((rd_T71 t400 x25_3).f1) != a1) = true := bne_iff_ne.mpr c41
           (first | rw [c41b0] | (simp only [i64_w, i32_w]; rw [c41b0]) | (simp only [c41b2, Bool.not_false, Bool.not_true]) | skip)
           have H' := Ah H
           clear H
           go_wp2
           go_roundg kj29
           case measure => have := HJ3.out; have := HJ14.out; have := HK3.out; have := HJ29.out; omega
           case rel => exact ⟨(wrap64 (x25_3 + 1)), (x387004_3), (x388000_3), (x388003_3), (u387004), e3, H', ⟨by have := HJ3.out; have := HJ14.out; have := HK3.out; have := HJ29.out; omega⟩, ⟨by (with_reducible repeat (first | apply Kd.R_alloc | apply Kd.R_drewN | apply Kd.R_drew)); exact Kd.R_mono (Kd.R_far (p := ⟨gb404, 4, none⟩) (Kd.R_far (p := ⟨gb404, 3, none⟩) (Kd.R_far (p := ⟨gb404, 2, none⟩) (Kd.R_far (p := ⟨gb404, 1, none⟩) (Kd.R_far (p := ⟨gb404, 0, none⟩) (Kd.R_mono HO_23.out (fun k_ hk => (⟨hk, hk.2⟩ : _ ∧ k_ ≠ gb404))) (fun _ hk => hk.2) (.int .i64 ((rd_T71 t400 x25_3).f0))) (fun _ hk => hk.2) (.int .i64 ((rd_T71 t400 x25_3).f1))) (fun _ hk => hk.2) (.int .i64 ((rd_T71 t400 x25_3).f2.f0))) (fun _ hk => hk.2) (.int .i64 ((rd_T71 t400 x25_3).f2.f1))) (fun _ hk => hk.2) (.int .i64 ((rd_T71 t400 x25_3).f3))) (fun _ hk => hk.1.1)⟩, ⟨by (with_reducible repeat (first | apply Kd.R_alloc | apply Kd.R_drewN | apply Kd.R_drew)); exact Kd.R_mono (Kd.R_far (p := ⟨gb404, 4, none⟩) (Kd.R_far (p := ⟨gb404, 3, none⟩) (Kd.R_far (p := ⟨gb404, 2, none⟩) (Kd.R_far (p := ⟨gb404, 1, none⟩) (Kd.R_far (p := ⟨gb404, 0, none⟩) (Kd.R_types HO_387001.out BK404.out (by decide)) (fun _ hk => hk.2) (.int .i64 ((rd_T71 t400 x25_3).f0))) (fun _ hk => hk.2) (.int .i64 ((rd_T71 t400 x25_3).f1))) (fun _ hk => hk.2) (.int .i64 ((rd_T71 t400 x25_3).f2.f0))) (fun _ hk => hk.2) (.int .i64 ((rd_T71 t400 x25_3).f2.f1))) (fun _ hk => hk.2) (.int .i64 ((rd_T71 t400 x25_3).f3))) (fun _ hk => hk.1)⟩, ⟨by (with_reducible repeat (first | apply Kd.R_alloc | apply Kd.R_drewN | apply Kd.R_drew)); exact Kd.R_mono (Kd.R_far (p := ⟨gb404, 4, none⟩) (Kd.R_far (p := ⟨gb404, 3, none⟩) (Kd.R_far (p := ⟨gb404, 2, none⟩) (Kd.R_far (p := ⟨gb404, 1, none⟩) (Kd.R_far (p := ⟨gb404, 0, none⟩) (Kd.R_types HO_387002.out BK404.out (by decide)) (fun _ hk => hk.2) (.int .i64 ((rd_T71 t400 x25_3).f0))) (fun _ hk => hk.2) (.int .i64 ((rd_T71 t400 x25_3).f1))) (fun _ hk => hk.2) (.int .i64 ((rd_T71 t400 x25_3).f2.f0))) (fun _ hk => hk.2) (.int .i64 ((rd_T71 t400 x25_3).f2.f1))) (fun _ hk => hk.2) (.int .i64 ((rd_T71 t400 x25_3).f3))) (fun _ hk => hk.1)⟩, ⟨by (with_reducible repeat (first | apply Kd.R_alloc | apply Kd.R_drewN | apply Kd.R_drew)); exact Kd.R_mono (Kd.R_far (p := ⟨gb404, 4, none⟩) (Kd.R_far (p := ⟨gb404, 3, none⟩) (Kd.R_far (p := ⟨gb404, 2, none⟩) (Kd.R_far (p := ⟨gb404, 1, none⟩) (Kd.R_far (p := ⟨gb404, 0, none⟩) (Kd.R_mono HO_387004.out (fun k_ hk => (⟨hk, hk.2⟩ : _ ∧ k_ ≠ gb404))) (fun _ hk => hk.2) (.int .i64 ((rd_T71 t400 x25_3).f0))) (fun _ hk => hk.2) (.int .i64 ((rd_T71 t400 x25_3).f1))) (fun _ hk => hk.2) (.int .i64 ((rd_T71 t400 x25_3).f2.f0))) (fun _ hk => hk.2) (.int .i64 ((rd_T71 t400 x25_3).f2.f1))) (fun _ hk => hk.2) (.int .i64 ((rd_T71 t400 x25_3).f3))) (fun _ hk => hk.1.1)⟩, ⟨bf BK386 NB386_404⟩, ⟨bf BK387 NB387_404⟩, ⟨bs3 HB GE386 GE387 GE404⟩⟩
          rw [if_pos c41] at H
          have c41b0 : (((rd_T71 t400 x25_3).f1) == a1) = true := beq_iff_eq.mpr c41
          have c41b1 : (((rd_T71 t400 x25_3).f1) != a1) = false := bne_eq_false_iff_eq.mpr c41
          clear c41
          (first | rw [c41b0] | (simp only [i64_w, i32_w]; rw [c41b0]) | (simp only [c41b2, Bool.not_false, Bool.not_true]) | skip)
          have H' := Ah H
          clear H
          go_wp2
          go_meet
          case rel => exact ⟨_, H', ⟨by have := HJ3.out; have := HJ14.out; have := HK3.out; have := HJ29.out; first | omega | exact Nat.le_refl _⟩, ⟨by (with_reducible repeat (first | apply Kd.R_alloc | apply Kd.R_drewN | apply Kd.R_drew)); exact Kd.R_mono (Kd.R_far (p := ⟨gb404, 4, none⟩) (Kd.R_far (p := ⟨gb404, 3, none⟩) (Kd.R_far (p := ⟨gb404, 2, none⟩) (Kd.R_far (p := ⟨gb404, 1, none⟩) (Kd.R_far (p := ⟨gb404, 0, none⟩) (Kd.R_types HO_387001.out BK404.out (by decide)) (fun _ hk => hk.2) (.int .i64 ((rd_T71 t400 x25_3).f0))) (fun _ hk => hk.2) (.int .i64 ((rd_T71 t400 x25_3).f1))) (fun _ hk => hk.2) (.int .i64 ((rd_T71 t400 x25_3).f2.f0))) (fun _ hk => hk.2) (.int .i64 ((rd_T71 t400 x25_3).f2.f1))) (fun _ hk => hk.2) (.int .i64 ((rd_T71 t400 x25_3).f3))) (fun _ hk => hk.1)⟩, ⟨by (with_reducible repeat (first | apply Kd.R_alloc | apply Kd.R_drewN | apply Kd.R_drew)); exact Kd.R_mono (Kd.R_far (p := ⟨gb404, 4, none⟩) (Kd.R_far (p := ⟨gb404, 3, none⟩) (Kd.R_far (p := ⟨gb404, 2, none⟩) (Kd.R_far (p := ⟨gb404, 1, none⟩) (Kd.R_far (p := ⟨gb404, 0, none⟩) (Kd.R_types HO_387002.out BK404.out (by decide)) (fun _ hk => hk.2) (.int .i64 ((rd_T71 t400 x25_3).f0))) (fun _ hk => hk.2) (.int .i64 ((rd_T71 t400 x25_3).f1))) (fun _ hk => hk.2) (.int .i64 ((rd_T71 t400 x25_3).f2.f0))) (fun _ hk => hk.2) (.int .i64 ((rd_T71 t400 x25_3).f2.f1))) (fun _ hk => hk.2) (.int .i64 ((rd_T71 t400 x25_3).f3))) (fun _ hk => hk.1)⟩, ⟨by (with_reducible repeat (first | apply Kd.R_alloc | apply Kd.R_drewN | apply Kd.R_drew)); exact Kd.R_mono (Kd.R_far (p := ⟨gb404, 4, none⟩) (Kd.R_far (p := ⟨gb404, 3, none⟩) (Kd.R_far (p := ⟨gb404, 2, none⟩) (Kd.R_far (p := ⟨gb404, 1, none⟩) (Kd.R_far (p := ⟨gb404, 0, none⟩) (Kd.R_mono HO_387004.out (fun k_ hk => (⟨hk, hk.2⟩ : _ ∧ k_ ≠ gb404))) (fun _ hk => hk.2) (.int .i64 ((rd_T71 t400 x25_3).f0))) (fun _ hk => hk.2) (.int .i64 ((rd_T71 t400 x25_3).f1))) (fun _ hk => hk.2) (.int .i64 ((rd_T71 t400 x25_3).f2.f0))) (fun _ hk => hk.2) (.int .i64 ((rd_T71 t400 x25_3).f2.f1))) (fun _ hk => hk.2) (.int .i64 ((rd_T71 t400 x25_3).f3))) (fun _ hk => hk.1.2)⟩, ⟨bf BK386 NB386_404⟩, ⟨bf BK387 NB387_404⟩, ⟨by (with_reducible repeat (first | refine blk_drewN ?_ _ | refine blk_drew ?_ | refine blk_alloc ?_ _)); refine blk_put (cs := #[.int .i64 ((rd_T71 t400 x25_3).f0), .int .i64 ((rd_T71 t400 x25_3).f1), .int .i64 ((rd_T71 t400 x25_3).f2.f0), .int .i64 ((rd_T71 t400 x25_3).f2.f1), .int .i64 0]) ?_ 4 _ rfl; (with_reducible repeat (first | refine blk_drewN ?_ _ | refine blk_drew ?_ | refine blk_alloc ?_ _)); refine blk_put (cs := #[.int .i64 ((rd_T71 t400 x25_3).f0), .int .i64 ((rd_T71 t400 x25_3).f1), .int .i64 ((rd_T71 t400 x25_3).f2.f0), .int .i64 0, .int .i64 0]) ?_ 3 _ rfl; (with_reducible repeat (first | refine blk_drewN ?_ _ | refine blk_drew ?_ | refine blk_alloc ?_ _)); refine blk_put (cs := #[.int .i64 ((rd_T71 t400 x25_3).f0), .int .i64 ((rd_T71 t400 x25_3).f1), .int .i64 0, .int .i64 0, .int .i64 0]) ?_ 2 _ rfl; (with_reducible repeat (first | refine blk_drewN ?_ _ | refine blk_drew ?_ | refine blk_alloc ?_ _)); refine blk_put (cs := #[.int .i64 ((rd_T71 t400 x25_3).f0), .int .i64 0, .int .i64 0, .int .i64 0, .int .i64 0]) ?_ 1 _ rfl; (with_reducible repeat (first | refine blk_drewN ?_ _ | refine blk_drew ?_ | refine blk_alloc ?_ _)); refine blk_put (cs := #[.int .i64 0, .int .i64 0, .int .i64 0, .int .i64 0, .int .i64 0]) ?_ 0 _ rfl; (with_reducible repeat (first | refine blk_drewN ?_ _ | refine blk_drew ?_ | refine blk_alloc ?_ _)); exact BK404.out⟩, ⟨bs3 HB GE386 GE387 GE404⟩⟩
         case rest =>
          clear HC36
          try clear c1
          try clear c2
          try clear p2
          try clear c3
          try clear c4
          try clear p4
          try clear q4
          try clear hx4
          try clear p6
          try clear c8
          try clear c9
          try clear c12
          try clear c15
          try clear c16
          try clear c17
          try clear c21
          try clear c28
          try clear c31
          try clear c31b0
          try clear c32
          try clear c34
          try clear c34b0
          try clear c35
          try clear c35b0
          try clear c38
          try clear c39
          try clear p40
          try clear q40
          try clear hx40
          try clear c41
          try clear c41b0
          try clear c41b1
          try clear hcz10_0 hcz10_1 hcz10_2 hcz10_3 hcz10_4
          try clear hcz13_0 hcz13_1 hcz13_2 hcz13_3 hcz13_4
          try clear hcz18_0 hcz18_1 hcz18_2 hcz18_3 hcz18_4
          try clear hcz22_0 hcz22_1 hcz22_2 hcz22_3 hcz22_4
          try clear hcz24_0 hcz24_1 hcz24_2 hcz24_3 hcz24_4
          try clear hcz33_0 hcz33_1 hcz33_2 hcz33_3 hcz33_4
          try clear hcz40_0 hcz40_1 hcz40_2 hcz40_3 hcz40_4
          try clear hfz10_0 hfz10_1 hfz10_2 hfz10_3 hfz10_4
          try clear hfz13_0 hfz13_1 hfz13_2 hfz13_3 hfz13_4
          try clear hfz18_0 hfz18_1 hfz18_2 hfz18_3 hfz18_4
          try clear hfz22_0 hfz22_1 hfz22_2 hfz22_3 hfz22_4
          try clear hfz24_0 hfz24_1 hfz24_2 hfz24_3 hfz24_4
          try clear hfz33_0 hfz33_1 hfz33_2 hfz33_3 hfz33_4
          try clear hfz40_0 hfz40_1 hfz40_2 hfz40_3 hfz40_4
          try clear hx403_0
          try clear hx403_1
          try clear hx403_2
          try clear hx403_3
          try clear hx403_4
          try clear p2
          try clear p403
          try clear q403
          obtain ⟨kq, HA, HJ35, HO_387001, HO_387002, HO_387004, BK386, BK387, BK404, HB⟩ := hcut
          cases kq with
          | zero => exact absurd HA.out (by simp [spec_WorkOn.j4])
          | succ kj35 =>
           have H := HA.out
           clear HA
           simp only [spec_WorkOn.j4] at H
           have H_ := Ah H
           clear H
           have hnb46 := NB404_386.out
           have hnc46 := NB386_404.out
           have hnb47 := NB404_387.out
           have hnc47 := NB387_404.out
           obtain ⟨hcz48_0, hcz48_1, hcz48_2, hcz48_3, hcz48_4⟩ := cz5 BK404
           obtain ⟨hfz48_0, hfz48_1, hfz48_2, hfz48_3, hfz48_4⟩ := fz5 BK404
           have hnb49 := NB386_387.out
           have hnc49 := NB387_386.out
           obtain ⟨hcz50_0, hcz50_1, hcz50_2, hcz50_3, hcz50_4⟩ := cz5 BK386
           obtain ⟨hfz50_0, hfz50_1, hfz50_2, hfz50_3, hfz50_4⟩ := fz5 BK386
           have H := H_.out
           clear H_
           by_cases c42 : a2 < (wrap64 (((rd_T71 t400 x25_3).f2.f1) - ((rd_T71 t400 x25_3).f3)))
           rotate_left
           ·
            rw [if_neg c42] at H
            have c42b0 : decide (a2 < (wrap64 (((rd_T71 t400 x25_3).f2.f1) - ((rd_T71 t400 x25_3).f3)))) = false := decide_eq_false c42
            clear c42
            by_cases c67 : x387004_3.length < 3518437208883
            rotate_left
            ·
             rw [if_neg c67] at H
             exact absurd H (by simp)
            rw [if_pos c67] at H
            have LMc67 := Ah c67
            clear c67
            obtain ⟨y409, hy409⟩ : ∃ y_ : List (S71), y_ = (x387004_3 ++ [(⟨2, a1, (⟨0, 0⟩ : S53), ((rd_T71 t400 x25_3).f2.f1)⟩ : S71)]) := ⟨_, rfl⟩
            replace H : ((spec_GoodWork.f kj35 t389 t390 t393 t396 y409).bind fun t412 => (if t412 = true then (some (t389, t390, t393, t396, y409, true)) else (some (0, ([] : List (S53)), ([] : List (S53)), 0, ([] : List (S71)), false)))) = some (r1, r2, r3, r4, r5, r6) := by first | (rw [hy409]; with_reducible exact H) | (have H2_ := (Option.bind_some _ _).symm.trans H; rw [hy409]; with_reducible exact H2_) | (have H2_ := (Option.bind_some _ _).symm.trans H; with_reducible exact H2_) | with_reducible exact H | (rw [hy409]; exact H) | exact H
            have Ny409 := Ah hy409
            clear hy409
            replace H := Option.bind_eq_some_iff.mp H
            obtain ⟨t412, A680, H⟩ := H
            try dsimp only at H
            have A68 := Ah A680
            clear A680
            by_cases c69 : t412 = true
            rotate_left
            ·
             replace c69 := Bool.eq_false_iff.mpr c69
             subst c69
             rw [if_neg fne] at H
             simp only [Option.some.injEq, Prod.mk.injEq] at H
             obtain ⟨rfl, rfl, rfl, rfl, rfl, rfl⟩ := H
             go_wp2_with (first | ((with_reducible refine gate_builtin (b := .append) (xs := #[.tmp 49, .tmp 53]) rfl ?_); at_builtin; refine Kd.R_append k71 (w0 := w) w.heap.size rfl (.tmp 49) (.tmp 53) 25 71 (.agg #[(.int .i64 0), (.int .i64 0), (.int .i64 0), (.int .i64 0), (.int .i64 0)]) 40 rfl Try.underlying25 info71 rfl (by decide) (by omega) u387004 x387004_3 (⟨2, a1, (⟨0, 0⟩ : S53), ((rd_T71 t400 x25_3).f2.f1)⟩ : S71) [.int .i64 2, .int .i64 a1, .int .i64 0, .int .i64 0, .int .i64 ((rd_T71 t400 x25_3).f2.f1)] (fun k_ => k_ ≠ gb404) (fun _ => False) rfl rfl ?aP (fun _ hk => hk.elim) ?aF ?aO ?aB ?aS ?aL ?_; (case aP => exact k71_mkM _ _ _ (⟨2, a1, (⟨0, 0⟩ : S53), ((rd_T71 t400 x25_3).f2.f1)⟩ : S71)); (case aB => exact (bs3 HB GE386 GE387 GE404)); (case aF => exact (fun k_ hk => Kd.freshB (bk BK404) k_ hk)); (case aO => exact (rr HO_387004.out)); (case aS => exact (below_size (bs3 HB GE386 GE387 GE404))); (case aL => have := LMc67.out; omega); intro v410 w86 ho hb hg hat; rw [← Ny409.out] at ho; replace HO_387001 := Ah (Kd.R_over' (rr HO_387001.out) (Kd.R_typed (rr HO_387004.out)) (by decide) hg); replace HO_387002 := Ah (Kd.R_over' (rr HO_387002.out) (Kd.R_typed (rr HO_387004.out)) (by decide) hg); replace BK386 := Ah (blk_grown (bk BK386) hg (Kd.R_ne HO_387004.out BK386.out (by decide))); replace BK387 := Ah (blk_grown (bk BK387) hg (Kd.R_ne HO_387004.out BK387.out (by decide))); replace BK404 := Ah (blk_grown (bk BK404) hg (Kd.R_away HO_387004.out (fun _ hk => hk))); replace HB := Ah (hb); have HO411 := Ah (ho); clear HO_387004; clear ho hb hg hat; obtain ⟨Ao87, co87, eo87⟩ := Kd.R_slice HO411.out; subst eo87; obtain ⟨hcz88_0, hcz88_1, hcz88_2, hcz88_3, hcz88_4⟩ := cz5 BK386; obtain ⟨hfz88_0, hfz88_1, hfz88_2, hfz88_3, hfz88_4⟩ := fz5 BK386) | ((with_reducible refine gate_callee (f := 15) rfl ?_); refine gL (some 57) rfl rfl Try.func15 (by kernel_rfl) rfl #[.agg #[.int .i64 t389, .slice Ao25 t390.length co25, .slice Ao26 t393.length co26, .int .i64 t396, .slice Ao87 y409.length co87]] rfl ?_; (with_reducible refine (spec_GoodWork.calls kj35 t389 _ _ t390 _ _ t393 t396 _ _ y409 false _ ?side1 ?side2 ?side3 ?side4 ?side5 ?side6 A68.out).mono ?_); (case side1 => exact rc HO_387001 BK386); (case side2 => exact (Kd.R_reads' HO_387001.out).2.1); (case side3 => exact rc HO_387002 BK386); (case side4 => exact (Kd.R_reads' HO_387002.out).2.1); (case side5 => exact rc HO411 BK386); (case side6 => exact (Kd.R_reads' HO411.out).2.1); rintro e w89 ⟨rfl, hb⟩; refine ⟨_, rfl, ?_⟩; replace HO_387001 := nf HO_387001 BK386 hb; replace HO_387002 := nf HO_387002 BK386 hb; replace HO411 := nf HO411 BK386 hb; replace BK386 := Ah (blk_below (g := gb386) (o := .cells #[.int .i64 t389, .slice Ao25 t390.length co25, .slice Ao26 t393.length co26, .int .i64 t396, .slice Ao87 y409.length co87] 27 (0, 0)) (by (with_reducible repeat (first | refine blk_drewN ?_ _ | refine blk_drew ?_ | refine blk_alloc ?_ _)); refine blk_put (cs := #[.int .i64 t389, .slice Ao25 t390.length co25, .slice Ao26 t393.length co26, .int .i64 t396, u387004]) ?_ 4 _ rfl; (with_reducible repeat (first | refine blk_drewN ?_ _ | refine blk_drew ?_ | refine blk_alloc ?_ _)); exact BK386.out) hb); replace BK387 := Ah (blk_below (bf BK387 NB387_386) hb); replace BK404 := Ah (blk_below (bf BK404 NB404_386) hb); replace HB := Ah (below_step (bs3 HB GE386 GE387 GE404) hb); (try clear hb); obtain ⟨hcz90_0, hcz90_1, hcz90_2, hcz90_3, hcz90_4⟩ := cz5 BK387; obtain ⟨hfz90_0, hfz90_1, hfz90_2, hfz90_3, hfz90_4⟩ := fz5 BK387))
             refine bodyPost_ret (results_ct rfl _ _ gb387 27 #[.int .i64 0, .slice none 0 0, .slice none 0 0, .int .i64 0, .slice none 0 0] (0, 0) _ rfl (by (with_reducible repeat (first | refine blk_drewN ?_ _ | refine blk_drew ?_ | refine blk_alloc ?_ _)); refine blk_put (cs := #[.int .i64 0, .slice none 0 0, .slice none 0 0, .int .i64 0, .slice none 0 0]) ?_ 4 _ rfl; (with_reducible repeat (first | refine blk_drewN ?_ _ | refine blk_drew ?_ | refine blk_alloc ?_ _)); refine blk_put (cs := #[.int .i64 0, .slice none 0 0, .slice none 0 0, .int .i64 x388003_3, .slice none 0 0]) ?_ 3 _ rfl; (with_reducible repeat (first | refine blk_drewN ?_ _ | refine blk_drew ?_ | refine blk_alloc ?_ _)); refine blk_put (cs := #[.int .i64 0, .slice none 0 0, .slice none 0 0, .int .i64 x388003_3, .slice none 0 0]) ?_ 2 _ rfl; (with_reducible repeat (first | refine blk_drewN ?_ _ | refine blk_drew ?_ | refine blk_alloc ?_ _)); refine blk_put (cs := #[.int .i64 0, .slice none 0 0, .slice none 0 0, .int .i64 x388003_3, .slice none 0 0]) ?_ 1 _ rfl; (with_reducible repeat (first | refine blk_drewN ?_ _ | refine blk_drew ?_ | refine blk_alloc ?_ _)); refine blk_put (cs := #[.int .i64 x388000_3, .slice none 0 0, .slice none 0 0, .int .i64 x388003_3, .slice none 0 0]) ?_ 0 _ rfl; (with_reducible repeat (first | refine blk_drewN ?_ _ | refine blk_drew ?_ | refine blk_alloc ?_ _)); exact BK387.out) Try.underlying27 rfl (by kernel_rfl)) rfl ?_
             exact ⟨_, _, _, er, by first | exact Kd.R_nil _ _ _ _ _ | exact Kd.N_nil _ _ _ _ _ | exact Kd.V_nil _ _ _ _ _ | exact Kd.Q_nil _ _ _ _ _ | exact Kd.S_nil _ _ _ _ _, by first | exact Kd.R_nil _ _ _ _ _ | exact Kd.N_nil _ _ _ _ _ | exact Kd.V_nil _ _ _ _ _ | exact Kd.Q_nil _ _ _ _ _ | exact Kd.S_nil _ _ _ _ _, by first | exact Kd.R_nil _ _ _ _ _ | exact Kd.N_nil _ _ _ _ _ | exact Kd.V_nil _ _ _ _ _ | exact Kd.Q_nil _ _ _ _ _ | exact Kd.S_nil _ _ _ _ _, bs3 HB GE386 GE387 GE404⟩
            subst c69
            rw [if_pos rfl] at H
            simp only [Option.some.injEq, Prod.mk.injEq] at H
            obtain ⟨rfl, rfl, rfl, rfl, rfl, rfl⟩ := H
            go_wp2_with (first | ((with_reducible refine gate_builtin (b := .append) (xs := #[.tmp 49, .tmp 53]) rfl ?_); at_builtin; refine Kd.R_append k71 (w0 := w) w.heap.size rfl (.tmp 49) (.tmp 53) 25 71 (.agg #[(.int .i64 0), (.int .i64 0), (.int .i64 0), (.int .i64 0), (.int .i64 0)]) 40 rfl Try.underlying25 info71 rfl (by decide) (by omega) u387004 x387004_3 (⟨2, a1, (⟨0, 0⟩ : S53), ((rd_T71 t400 x25_3).f2.f1)⟩ : S71) [.int .i64 2, .int .i64 a1, .int .i64 0, .int .i64 0, .int .i64 ((rd_T71 t400 x25_3).f2.f1)] (fun k_ => k_ ≠ gb404) (fun _ => False) rfl rfl ?aP (fun _ hk => hk.elim) ?aF ?aO ?aB ?aS ?aL ?_; (case aP => exact k71_mkM _ _ _ (⟨2, a1, (⟨0, 0⟩ : S53), ((rd_T71 t400 x25_3).f2.f1)⟩ : S71)); (case aB => exact (bs3 HB GE386 GE387 GE404)); (case aF => exact (fun k_ hk => Kd.freshB (bk BK404) k_ hk)); (case aO => exact (rr HO_387004.out)); (case aS => exact (below_size (bs3 HB GE386 GE387 GE404))); (case aL => have := LMc67.out; omega); intro v410 w75 ho hb hg hat; rw [← Ny409.out] at ho; replace HO_387001 := Ah (Kd.R_over' (rr HO_387001.out) (Kd.R_typed (rr HO_387004.out)) (by decide) hg); replace HO_387002 := Ah (Kd.R_over' (rr HO_387002.out) (Kd.R_typed (rr HO_387004.out)) (by decide) hg); replace BK386 := Ah (blk_grown (bk BK386) hg (Kd.R_ne HO_387004.out BK386.out (by decide))); replace BK387 := Ah (blk_grown (bk BK387) hg (Kd.R_ne HO_387004.out BK387.out (by decide))); replace BK404 := Ah (blk_grown (bk BK404) hg (Kd.R_away HO_387004.out (fun _ hk => hk))); replace HB := Ah (hb); have HO411 := Ah (ho); clear HO_387004; clear ho hb hg hat; obtain ⟨Ao76, co76, eo76⟩ := Kd.R_slice HO411.out; subst eo76; obtain ⟨hcz77_0, hcz77_1, hcz77_2, hcz77_3, hcz77_4⟩ := cz5 BK386; obtain ⟨hfz77_0, hfz77_1, hfz77_2, hfz77_3, hfz77_4⟩ := fz5 BK386) | ((with_reducible refine gate_callee (f := 15) rfl ?_); refine gL (some 57) rfl rfl Try.func15 (by kernel_rfl) rfl #[.agg #[.int .i64 t389, .slice Ao25 t390.length co25, .slice Ao26 t393.length co26, .int .i64 t396, .slice Ao76 y409.length co76]] rfl ?_; (with_reducible refine (spec_GoodWork.calls kj35 t389 _ _ t390 _ _ t393 t396 _ _ y409 true _ ?side1 ?side2 ?side3 ?side4 ?side5 ?side6 A68.out).mono ?_); (case side1 => exact rc HO_387001 BK386); (case side2 => exact (Kd.R_reads' HO_387001.out).2.1); (case side3 => exact rc HO_387002 BK386); (case side4 => exact (Kd.R_reads' HO_387002.out).2.1); (case side5 => exact rc HO411 BK386); (case side6 => exact (Kd.R_reads' HO411.out).2.1); rintro e w78 ⟨rfl, hb⟩; refine ⟨_, rfl, ?_⟩; replace HO_387001 := nf HO_387001 BK386 hb; replace HO_387002 := nf HO_387002 BK386 hb; replace HO411 := nf HO411 BK386 hb; replace BK386 := Ah (blk_below (g := gb386) (o := .cells #[.int .i64 t389, .slice Ao25 t390.length co25, .slice Ao26 t393.length co26, .int .i64 t396, .slice Ao76 y409.length co76] 27 (0, 0)) (by (with_reducible repeat (first | refine blk_drewN ?_ _ | refine blk_drew ?_ | refine blk_alloc ?_ _)); refine blk_put (cs := #[.int .i64 t389, .slice Ao25 t390.length co25, .slice Ao26 t393.length co26, .int .i64 t396, u387004]) ?_ 4 _ rfl; (with_reducible repeat (first | refine blk_drewN ?_ _ | refine blk_drew ?_ | refine blk_alloc ?_ _)); exact BK386.out) hb); replace BK387 := Ah (blk_below (bf BK387 NB387_386) hb); replace BK404 := Ah (blk_below (bf BK404 NB404_386) hb); replace HB := Ah (below_step (bs3 HB GE386 GE387 GE404) hb); (try clear hb); obtain ⟨hcz79_0, hcz79_1, hcz79_2, hcz79_3, hcz79_4⟩ := cz5 BK386; obtain ⟨hfz79_0, hfz79_1, hfz79_2, hfz79_3, hfz79_4⟩ := fz5 BK386; obtain ⟨hcz80_0, hcz80_1, hcz80_2, hcz80_3, hcz80_4⟩ := cz5 BK387; obtain ⟨hfz80_0, hfz80_1, hfz80_2, hfz80_3, hfz80_4⟩ := fz5 BK387))
            refine bodyPost_ret (results_ct rfl _ _ gb387 27 #[.int .i64 t389, .slice Ao25 t390.length co25, .slice Ao26 t393.length co26, .int .i64 t396, .slice Ao76 y409.length co76] (0, 0) _ rfl (by (with_reducible repeat (first | refine blk_drewN ?_ _ | refine blk_drew ?_ | refine blk_alloc ?_ _)); refine blk_put (cs := #[.int .i64 t389, .slice Ao25 t390.length co25, .slice Ao26 t393.length co26, .int .i64 t396, .slice none 0 0]) ?_ 4 _ rfl; (with_reducible repeat (first | refine blk_drewN ?_ _ | refine blk_drew ?_ | refine blk_alloc ?_ _)); refine blk_put (cs := #[.int .i64 t389, .slice Ao25 t390.length co25, .slice Ao26 t393.length co26, .int .i64 x388003_3, .slice none 0 0]) ?_ 3 _ rfl; (with_reducible repeat (first | refine blk_drewN ?_ _ | refine blk_drew ?_ | refine blk_alloc ?_ _)); refine blk_put (cs := #[.int .i64 t389, .slice Ao25 t390.length co25, .slice none 0 0, .int .i64 x388003_3, .slice none 0 0]) ?_ 2 _ rfl; (with_reducible repeat (first | refine blk_drewN ?_ _ | refine blk_drew ?_ | refine blk_alloc ?_ _)); refine blk_put (cs := #[.int .i64 t389, .slice none 0 0, .slice none 0 0, .int .i64 x388003_3, .slice none 0 0]) ?_ 1 _ rfl; (with_reducible repeat (first | refine blk_drewN ?_ _ | refine blk_drew ?_ | refine blk_alloc ?_ _)); refine blk_put (cs := #[.int .i64 x388000_3, .slice none 0 0, .slice none 0 0, .int .i64 x388003_3, .slice none 0 0]) ?_ 0 _ rfl; (with_reducible repeat (first | refine blk_drewN ?_ _ | refine blk_drew ?_ | refine blk_alloc ?_ _)); exact BK387.out) Try.underlying27 rfl (by kernel_rfl)) rfl ?_
            exact ⟨_, _, _, er, by (with_reducible repeat (first | apply Kd.R_alloc | apply Kd.R_drewN | apply Kd.R_drew)); exact Kd.R_mono (Kd.R_far (p := ⟨gb387, 4, none⟩) (Kd.R_far (p := ⟨gb387, 3, none⟩) (Kd.R_far (p := ⟨gb387, 2, none⟩) (Kd.R_far (p := ⟨gb387, 1, none⟩) (Kd.R_far (p := ⟨gb387, 0, none⟩) (Kd.R_types HO_387001.out BK387.out (by decide)) (fun _ hk => hk.2) (.int .i64 t389)) (fun _ hk => hk.2) (.slice Ao25 t390.length co25)) (fun _ hk => hk.2) (.slice Ao26 t393.length co26)) (fun _ hk => hk.2) (.int .i64 t396)) (fun _ hk => hk.2) (.slice Ao76 y409.length co76)) (fun _ hk => hk.1), by (with_reducible repeat (first | apply Kd.R_alloc | apply Kd.R_drewN | apply Kd.R_drew)); exact Kd.R_mono (Kd.R_far (p := ⟨gb387, 4, none⟩) (Kd.R_far (p := ⟨gb387, 3, none⟩) (Kd.R_far (p := ⟨gb387, 2, none⟩) (Kd.R_far (p := ⟨gb387, 1, none⟩) (Kd.R_far (p := ⟨gb387, 0, none⟩) (Kd.R_types HO_387002.out BK387.out (by decide)) (fun _ hk => hk.2) (.int .i64 t389)) (fun _ hk => hk.2) (.slice Ao25 t390.length co25)) (fun _ hk => hk.2) (.slice Ao26 t393.length co26)) (fun _ hk => hk.2) (.int .i64 t396)) (fun _ hk => hk.2) (.slice Ao76 y409.length co76)) (fun _ hk => hk.1), by (with_reducible repeat (first | apply Kd.R_alloc | apply Kd.R_drewN | apply Kd.R_drew)); exact Kd.R_mono (Kd.R_far (p := ⟨gb387, 4, none⟩) (Kd.R_far (p := ⟨gb387, 3, none⟩) (Kd.R_far (p := ⟨gb387, 2, none⟩) (Kd.R_far (p := ⟨gb387, 1, none⟩) (Kd.R_far (p := ⟨gb387, 0, none⟩) (Kd.R_types HO411.out BK387.out (by decide)) (fun _ hk => hk.2) (.int .i64 t389)) (fun _ hk => hk.2) (.slice Ao25 t390.length co25)) (fun _ hk => hk.2) (.slice Ao26 t393.length co26)) (fun _ hk => hk.2) (.int .i64 t396)) (fun _ hk => hk.2) (.slice Ao76 y409.length co76)) (fun _ hk => trivial), bs3 HB GE386 GE387 GE404⟩
           rw [if_pos c42] at H
           have c42b0 : decide (a2 < (wrap64 (((rd_T71 t400 x25_3).f2.f1) - ((rd_T71 t400 x25_3).f3)))) = true := decide_eq_true c42
           clear c42
           by_cases c43 : x387004_3.length < 3518437208883
           rotate_left
           ·
            rw [if_neg c43] at H
            exact absurd H (by simp)
           rw [if_pos c43] at H
           have LMc43 := Ah c43
           clear c43
           obtain ⟨y405, hy405⟩ : ∃ y_ : List (S71), y_ = (x387004_3 ++ [(⟨2, a1, (⟨0, 0⟩ : S53), wrap64 (((rd_T71 t400 x25_3).f3) + a2)⟩ : S71)]) := ⟨_, rfl⟩
           replace H : ((spec_GoodWork.f kj35 t389 t390 t393 t396 y405).bind fun t408 => (if t408 = true then (some (t389, t390, t393, t396, y405, true)) else (some (0, ([] : List (S53)), ([] : List (S53)), 0, ([] : List (S71)), false)))) = some (r1, r2, r3, r4, r5, r6) := by first | (rw [hy405]; with_reducible exact H) | (have H2_ := (Option.bind_some _ _).symm.trans H; rw [hy405]; with_reducible exact H2_) | (have H2_ := (Option.bind_some _ _).symm.trans H; with_reducible exact H2_) | with_reducible exact H | (rw [hy405]; exact H) | exact H
           have Ny405 := Ah hy405
           clear hy405
           replace H := Option.bind_eq_some_iff.mp H
           obtain ⟨t408, A440, H⟩ := H
           try dsimp only at H
           have A44 := Ah A440
           clear A440
           by_cases c45 : t408 = true
           rotate_left
           ·
            replace c45 := Bool.eq_false_iff.mpr c45
            subst c45
            rw [if_neg fne] at H
            simp only [Option.some.injEq, Prod.mk.injEq] at H
            obtain ⟨rfl, rfl, rfl, rfl, rfl, rfl⟩ := H
            go_wp2_with (first | ((with_reducible refine gate_builtin (b := .append) (xs := #[.tmp 49, .tmp 53]) rfl ?_); at_builtin; refine Kd.R_append k71 (w0 := w) w.heap.size rfl (.tmp 49) (.tmp 53) 25 71 (.agg #[(.int .i64 0), (.int .i64 0), (.int .i64 0), (.int .i64 0), (.int .i64 0)]) 40 rfl Try.underlying25 info71 rfl (by decide) (by omega) u387004 x387004_3 (⟨2, a1, (⟨0, 0⟩ : S53), wrap64 (((rd_T71 t400 x25_3).f3) + a2)⟩ : S71) [.int .i64 2, .int .i64 a1, .int .i64 0, .int .i64 0, .int .i64 (wrap64 (((rd_T71 t400 x25_3).f3) + a2))] (fun k_ => k_ ≠ gb404) (fun _ => False) rfl rfl ?aP (fun _ hk => hk.elim) ?aF ?aO ?aB ?aS ?aL ?_; (case aP => exact k71_mkM _ _ _ (⟨2, a1, (⟨0, 0⟩ : S53), wrap64 (((rd_T71 t400 x25_3).f3) + a2)⟩ : S71)); (case aB => exact (bs3 HB GE386 GE387 GE404)); (case aF => exact (fun k_ hk => Kd.freshB (bk BK404) k_ hk)); (case aO => exact (rr HO_387004.out)); (case aS => exact (below_size (bs3 HB GE386 GE387 GE404))); (case aL => have := LMc43.out; omega); intro v406 w62 ho hb hg hat; rw [← Ny405.out] at ho; replace HO_387001 := Ah (Kd.R_over' (rr HO_387001.out) (Kd.R_typed (rr HO_387004.out)) (by decide) hg); replace HO_387002 := Ah (Kd.R_over' (rr HO_387002.out) (Kd.R_typed (rr HO_387004.out)) (by decide) hg); replace BK386 := Ah (blk_grown (bk BK386) hg (Kd.R_ne HO_387004.out BK386.out (by decide))); replace BK387 := Ah (blk_grown (bk BK387) hg (Kd.R_ne HO_387004.out BK387.out (by decide))); replace BK404 := Ah (blk_grown (bk BK404) hg (Kd.R_away HO_387004.out (fun _ hk => hk))); replace HB := Ah (hb); have HO407 := Ah (ho); clear HO_387004; clear ho hb hg hat; obtain ⟨Ao63, co63, eo63⟩ := Kd.R_slice HO407.out; subst eo63; obtain ⟨hcz64_0, hcz64_1, hcz64_2, hcz64_3, hcz64_4⟩ := cz5 BK386; obtain ⟨hfz64_0, hfz64_1, hfz64_2, hfz64_3, hfz64_4⟩ := fz5 BK386) | ((with_reducible refine gate_callee (f := 15) rfl ?_); refine gL (some 57) rfl rfl Try.func15 (by kernel_rfl) rfl #[.agg #[.int .i64 t389, .slice Ao25 t390.length co25, .slice Ao26 t393.length co26, .int .i64 t396, .slice Ao63 y405.length co63]] rfl ?_; (with_reducible refine (spec_GoodWork.calls kj35 t389 _ _ t390 _ _ t393 t396 _ _ y405 false _ ?side1 ?side2 ?side3 ?side4 ?side5 ?side6 A44.out).mono ?_); (case side1 => exact rc HO_387001 BK386); (case side2 => exact (Kd.R_reads' HO_387001.out).2.1); (case side3 => exact rc HO_387002 BK386); (case side4 => exact (Kd.R_reads' HO_387002.out).2.1); (case side5 => exact rc HO407 BK386); (case side6 => exact (Kd.R_reads' HO407.out).2.1); rintro e w65 ⟨rfl, hb⟩; refine ⟨_, rfl, ?_⟩; replace HO_387001 := nf HO_387001 BK386 hb; replace HO_387002 := nf HO_387002 BK386 hb; replace HO407 := nf HO407 BK386 hb; replace BK386 := Ah (blk_below (g := gb386) (o := .cells #[.int .i64 t389, .slice Ao25 t390.length co25, .slice Ao26 t393.length co26, .int .i64 t396, .slice Ao63 y405.length co63] 27 (0, 0)) (by (with_reducible repeat (first | refine blk_drewN ?_ _ | refine blk_drew ?_ | refine blk_alloc ?_ _)); refine blk_put (cs := #[.int .i64 t389, .slice Ao25 t390.length co25, .slice Ao26 t393.length co26, .int .i64 t396, u387004]) ?_ 4 _ rfl; (with_reducible repeat (first | refine blk_drewN ?_ _ | refine blk_drew ?_ | refine blk_alloc ?_ _)); exact BK386.out) hb); replace BK387 := Ah (blk_below (bf BK387 NB387_386) hb); replace BK404 := Ah (blk_below (bf BK404 NB404_386) hb); replace HB := Ah (below_step (bs3 HB GE386 GE387 GE404) hb); (try clear hb); obtain ⟨hcz66_0, hcz66_1, hcz66_2, hcz66_3, hcz66_4⟩ := cz5 BK387; obtain ⟨hfz66_0, hfz66_1, hfz66_2, hfz66_3, hfz66_4⟩ := fz5 BK387))
            refine bodyPost_ret (results_ct rfl _ _ gb387 27 #[.int .i64 0, .slice none 0 0, .slice none 0 0, .int .i64 0, .slice none 0 0] (0, 0) _ rfl (by (with_reducible repeat (first | refine blk_drewN ?_ _ | refine blk_drew ?_ | refine blk_alloc ?_ _)); refine blk_put (cs := #[.int .i64 0, .slice none 0 0, .slice none 0 0, .int .i64 0, .slice none 0 0]) ?_ 4 _ rfl; (with_reducible repeat (first | refine blk_drewN ?_ _ | refine blk_drew ?_ | refine blk_alloc ?_ _)); refine blk_put (cs := #[.int .i64 0, .slice none 0 0, .slice none 0 0, .int .i64 x388003_3, .slice none 0 0]) ?_ 3 _ rfl; (with_reducible repeat (first | refine blk_drewN ?_ _ | refine blk_drew ?_ | refine blk_alloc ?_ _)); refine blk_put (cs := #[.int .i64 0, .slice none 0 0, .slice none 0 0, .int .i64 x388003_3, .slice none 0 0]) ?_ 2 _ rfl; (with_reducible repeat (first | refine blk_drewN ?_ _ | refine blk_drew ?_ | refine blk_alloc ?_ _)); refine blk_put (cs := #[.int .i64 0, .slice none 0 0, .slice none 0 0, .int .i64 x388003_3, .slice none 0 0]) ?_ 1 _ rfl; (with_reducible repeat (first | refine blk_drewN ?_ _ | refine blk_drew ?_ | refine blk_alloc ?_ _)); refine blk_put (cs := #[.int .i64 x388000_3, .slice none 0 0, .slice none 0 0, .int .i64 x388003_3, .slice none 0 0]) ?_ 0 _ rfl; (with_reducible repeat (first | refine blk_drewN ?_ _ | refine blk_drew ?_ | refine blk_alloc ?_ _)); exact BK387.out) Try.underlying27 rfl (by kernel_rfl)) rfl ?_
            exact ⟨_, _, _, er, by first | exact Kd.R_nil _ _ _ _ _ | exact Kd.N_nil _ _ _ _ _ | exact Kd.V_nil _ _ _ _ _ | exact Kd.Q_nil _ _ _ _ _ | exact Kd.S_nil _ _ _ _ _, by first | exact Kd.R_nil _ _ _ _ _ | exact Kd.N_nil _ _ _ _ _ | exact Kd.V_nil _ _ _ _ _ | exact Kd.Q_nil _ _ _ _ _ | exact Kd.S_nil _ _ _ _ _, by first | exact Kd.R_nil _ _ _ _ _ | exact Kd.N_nil _ _ _ _ _ | exact Kd.V_nil _ _ _ _ _ | exact Kd.Q_nil _ _ _ _ _ | exact Kd.S_nil _ _ _ _ _, bs3 HB GE386 GE387 GE404⟩
           subst c45
           rw [if_pos rfl] at H
           simp only [Option.some.injEq, Prod.mk.injEq] at H
           obtain ⟨rfl, rfl, rfl, rfl, rfl, rfl⟩ := H
           go_wp2_with (first | ((with_reducible refine gate_builtin (b := .append) (xs := #[.tmp 49, .tmp 53]) rfl ?_); at_builtin; refine Kd.R_append k71 (w0 := w) w.heap.size rfl (.tmp 49) (.tmp 53) 25 71 (.agg #[(.int .i64 0), (.int .i64 0), (.int .i64 0), (.int .i64 0), (.int .i64 0)]) 40 rfl Try.underlying25 info71 rfl (by decide) (by omega) u387004 x387004_3 (⟨2, a1, (⟨0, 0⟩ : S53), wrap64 (((rd_T71 t400 x25_3).f3) + a2)⟩ : S71) [.int .i64 2, .int .i64 a1, .int .i64 0, .int .i64 0, .int .i64 (wrap64 (((rd_T71 t400 x25_3).f3) + a2))] (fun k_ => k_ ≠ gb404) (fun _ => False) rfl rfl ?aP (fun _ hk => hk.elim) ?aF ?aO ?aB ?aS ?aL ?_; (case aP => exact k71_mkM _ _ _ (⟨2, a1, (⟨0, 0⟩ : S53), wrap64 (((rd_T71 t400 x25_3).f3) + a2)⟩ : S71)); (case aB => exact (bs3 HB GE386 GE387 GE404)); (case aF => exact (fun k_ hk => Kd.freshB (bk BK404) k_ hk)); (case aO => exact (rr HO_387004.out)); (case aS => exact (below_size (bs3 HB GE386 GE387 GE404))); (case aL => have := LMc43.out; omega); intro v406 w51 ho hb hg hat; rw [← Ny405.out] at ho; replace HO_387001 := Ah (Kd.R_over' (rr HO_387001.out) (Kd.R_typed (rr HO_387004.out)) (by decide) hg); replace HO_387002 := Ah (Kd.R_over' (rr HO_387002.out) (Kd.R_typed (rr HO_387004.out)) (by decide) hg); replace BK386 := Ah (blk_grown (bk BK386) hg (Kd.R_ne HO_387004.out BK386.out (by decide))); replace BK387 := Ah (blk_grown (bk BK387) hg (Kd.R_ne HO_387004.out BK387.out (by decide))); replace BK404 := Ah (blk_grown (bk BK404) hg (Kd.R_away HO_387004.out (fun _ hk => hk))); replace HB := Ah (hb); have HO407 := Ah (ho); clear HO_387004; clear ho hb hg hat; obtain ⟨Ao52, co52, eo52⟩ := Kd.R_slice HO407.out; subst eo52; obtain ⟨hcz53_0, hcz53_1, hcz53_2, hcz53_3, hcz53_4⟩ := cz5 BK386; obtain ⟨hfz53_0, hfz53_1, hfz53_2, hfz53_3, hfz53_4⟩ := fz5 BK386) | ((with_reducible refine gate_callee (f := 15) rfl ?_); refine gL (some 57) rfl rfl Try.func15 (by kernel_rfl) rfl #[.agg #[.int .i64 t389, .slice Ao25 t390.length co25, .slice Ao26 t393.length co26, .int .i64 t396, .slice Ao52 y405.length co52]] rfl ?_; (with_reducible refine (spec_GoodWork.calls kj35 t389 _ _ t390 _ _ t393 t396 _ _ y405 true _ ?side1 ?side2 ?side3 ?side4 ?side5 ?side6 A44.out).mono ?_); (case side1 => exact rc HO_387001 BK386); (case side2 => exact (Kd.R_reads' HO_387001.out).2.1); (case side3 => exact rc HO_387002 BK386); (case side4 => exact (Kd.R_reads' HO_387002.out).2.1); (case side5 => exact rc HO407 BK386); (case side6 => exact (Kd.R_reads' HO407.out).2.1); rintro e w54 ⟨rfl, hb⟩; refine ⟨_, rfl, ?_⟩; replace HO_387001 := nf HO_387001 BK386 hb; replace HO_387002 := nf HO_387002 BK386 hb; replace HO407 := nf HO407 BK386 hb; replace BK386 := Ah (blk_below (g := gb386) (o := .cells #[.int .i64 t389, .slice Ao25 t390.length co25, .slice Ao26 t393.length co26, .int .i64 t396, .slice Ao52 y405.length co52] 27 (0, 0)) (by (with_reducible repeat (first | refine blk_drewN ?_ _ | refine blk_drew ?_ | refine blk_alloc ?_ _)); refine blk_put (cs := #[.int .i64 t389, .slice Ao25 t390.length co25, .slice Ao26 t393.length co26, .int .i64 t396, u387004]) ?_ 4 _ rfl; (with_reducible repeat (first | refine blk_drewN ?_ _ | refine blk_drew ?_ | refine blk_alloc ?_ _)); exact BK386.out) hb); replace BK387 := Ah (blk_below (bf BK387 NB387_386) hb); replace BK404 := Ah (blk_below (bf BK404 NB404_386) hb); replace HB := Ah (below_step (bs3 HB GE386 GE387 GE404) hb); (try clear hb); obtain ⟨hcz55_0, hcz55_1, hcz55_2, hcz55_3, hcz55_4⟩ := cz5 BK386; obtain ⟨hfz55_0, hfz55_1, hfz55_2, hfz55_3, hfz55_4⟩ := fz5 BK386; obtain ⟨hcz56_0, hcz56_1, hcz56_2, hcz56_3, hcz56_4⟩ := cz5 BK387; obtain ⟨hfz56_0, hfz56_1, hfz56_2, hfz56_3, hfz56_4⟩ := fz5 BK387))
           refine bodyPost_ret (results_ct rfl _ _ gb387 27 #[.int .i64 t389, .slice Ao25 t390.length co25, .slice Ao26 t393.length co26, .int .i64 t396, .slice Ao52 y405.length co52] (0, 0) _ rfl (by (with_reducible repeat (first | refine blk_drewN ?_ _ | refine blk_drew ?_ | refine blk_alloc ?_ _)); refine blk_put (cs := #[.int .i64 t389, .slice Ao25 t390.length co25, .slice Ao26 t393.length co26, .int .i64 t396, .slice none 0 0]) ?_ 4 _ rfl; (with_reducible repeat (first | refine blk_drewN ?_ _ | refine blk_drew ?_ | refine blk_alloc ?_ _)); refine blk_put (cs := #[.int .i64 t389, .slice Ao25 t390.length co25, .slice Ao26 t393.length co26, .int .i64 x388003_3, .slice none 0 0]) ?_ 3 _ rfl; (with_reducible repeat (first | refine blk_drewN ?_ _ | refine blk_drew ?_ | refine blk_alloc ?_ _)); refine blk_put (cs := #[.int .i64 t389, .slice Ao25 t390.length co25, .slice none 0 0, .int .i64 x388003_3, .slice none 0 0]) ?_ 2 _ rfl; (with_reducible repeat (first | refine blk_drewN ?_ _ | refine blk_drew ?_ | refine blk_alloc ?_ _)); refine blk_put (cs := #[.int .i64 t389, .slice none 0 0, .slice none 0 0, .int .i64 x388003_3, .slice none 0 0]) ?_ 1 _ rfl; (with_reducible repeat (first | refine blk_drewN ?_ _ | refine blk_drew ?_ | refine blk_alloc ?_ _)); refine blk_put (cs := #[.int .i64 x388000_3, .slice none 0 0, .slice none 0 0, .int .i64 x388003_3, .slice none 0 0]) ?_ 0 _ rfl; (with_reducible repeat (first | refine blk_drewN ?_ _ | refine blk_drew ?_ | refine blk_alloc ?_ _)); exact BK387.out) Try.underlying27 rfl (by kernel_rfl)) rfl ?_
           exact ⟨_, _, _, er, by (with_reducible repeat (first | apply Kd.R_alloc | apply Kd.R_drewN | apply Kd.R_drew)); exact Kd.R_mono (Kd.R_far (p := ⟨gb387, 4, none⟩) (Kd.R_far (p := ⟨gb387, 3, none⟩) (Kd.R_far (p := ⟨gb387, 2, none⟩) (Kd.R_far (p := ⟨gb387, 1, none⟩) (Kd.R_far (p := ⟨gb387, 0, none⟩) (Kd.R_types HO_387001.out BK387.out (by decide)) (fun _ hk => hk.2) (.int .i64 t389)) (fun _ hk => hk.2) (.slice Ao25 t390.length co25)) (fun _ hk => hk.2) (.slice Ao26 t393.length co26)) (fun _ hk => hk.2) (.int .i64 t396)) (fun _ hk => hk.2) (.slice Ao52 y405.length co52)) (fun _ hk => hk.1), by (with_reducible repeat (first | apply Kd.R_alloc | apply Kd.R_drewN | apply Kd.R_drew)); exact Kd.R_mono (Kd.R_far (p := ⟨gb387, 4, none⟩) (Kd.R_far (p := ⟨gb387, 3, none⟩) (Kd.R_far (p := ⟨gb387, 2, none⟩) (Kd.R_far (p := ⟨gb387, 1, none⟩) (Kd.R_far (p := ⟨gb387, 0, none⟩) (Kd.R_types HO_387002.out BK387.out (by decide)) (fun _ hk => hk.2) (.int .i64 t389)) (fun _ hk => hk.2) (.slice Ao25 t390.length co25)) (fun _ hk => hk.2) (.slice Ao26 t393.length co26)) (fun _ hk => hk.2) (.int .i64 t396)) (fun _ hk => hk.2) (.slice Ao52 y405.length co52)) (fun _ hk => hk.1), by (with_reducible repeat (first | apply Kd.R_alloc | apply Kd.R_drewN | apply Kd.R_drew)); exact Kd.R_mono (Kd.R_far (p := ⟨gb387, 4, none⟩) (Kd.R_far (p := ⟨gb387, 3, none⟩) (Kd.R_far (p := ⟨gb387, 2, none⟩) (Kd.R_far (p := ⟨gb387, 1, none⟩) (Kd.R_far (p := ⟨gb387, 0, none⟩) (Kd.R_types HO407.out BK387.out (by decide)) (fun _ hk => hk.2) (.int .i64 t389)) (fun _ hk => hk.2) (.slice Ao25 t390.length co25)) (fun _ hk => hk.2) (.slice Ao26 t393.length co26)) (fun _ hk => hk.2) (.int .i64 t396)) (fun _ hk => hk.2) (.slice Ao52 y405.length co52)) (fun _ hk => trivial), bs3 HB GE386 GE387 GE404⟩
def impl_ownFree.f (a0_0 : Int) (l0_1 : List (S53)) (l0_2 : List (S53)) : Option (Int × (List (S53)) × (List (S53))) := (impl_Extent_51.f l0_1).bind fun t415 => ((impl_Extent_51.f l0_2).bind fun t418 => (some (a0_0, t415, t418)))
def impl_ownFree.T1 : Bool × List (List Nat × List Nat) := (true, [([], []), ([0], [0]), ([], []), ([2], [2]), ([3], [3]), ([], []), ([5], [5]), ([6, 4], [6]), ([1, 4, 7], [1, 4, 7]), ([8, 7, 0, 1, 2, 3, 4, 5, 6, 7, 8], [8])])
def impl_ownFree.B1 : List Nat := [0, 1, 0, 4, 12, 0, 32, 124, 255, 511]
theorem impl_ownFree.tab1 : rtab .any (opsOf Try.f67 1) = impl_ownFree.T1 := by kernel_rfl
theorem impl_ownFree.bits1 : waitsOk impl_ownFree.T1.2 impl_ownFree.B1 = true := by kernel_rfl
set_option maxHeartbeats 8000000 in
set_option maxRecDepth 100000 in
theorem impl_ownFree.calls (a0_0 : Int) (A0_1 : Option Addr) (c0_1 : Nat) (l0_1 : List (S53)) (A0_2 : Option Addr) (c0_2 : Nat) (l0_2 : List (S53)) (r1 : Int) (r2 : List (S53)) (r3 : List (S53)) (w : World) (hr0_1 : Kd.C k53 w A0_1 l0_1.length l0_1) (hc0_1 : l0_1.length ≤ c0_1) (hr0_2 : Kd.C k53 w A0_2 l0_2.length l0_2) (hc0_2 : l0_2.length ≤ c0_2) (h : impl_ownFree.f a0_0 l0_1 l0_2 = some (r1, r2, r3)) :
  Calls Try.prog 67 #[.agg #[.int .i64 a0_0, .slice A0_1 l0_1.length c0_1, .slice A0_2 l0_2.length c0_2]] w fun e w' => ∃ v1_ v2_ : Value, e = .returned (.agg #[.int .i64 r1, v1_, v2_]) ∧ Kd.R k53 53 w' w.heap.size (fun k_ => some k_ ≠ (v2_ : Value).ownBlock) v1_ r2 ∧ Kd.R k53 53 w' w.heap.size (fun k_ => some k_ ≠ (v1_ : Value).ownBlock) v2_ r3 ∧ Below w.heap.size w w' := by
 have hu24 := Try.underlying24
 have HR0_1 := Ah hr0_1
 have HC0_1 := Ah hc0_1
 clear hr0_1 hc0_1
 have HR0_2 := Ah hr0_2
 have HC0_2 := Ah hc0_2
 clear hr0_2 hc0_2
 have HB := Ah (Below.refl w.heap.size w)
 have H : ((impl_Extent_51.f l0_1).bind fun t415 => ((impl_Extent_51.f l0_2).bind fun t418 => (some (a0_0, t415, t418)))) = some (r1, r2, r3) := h
 clear h
 replace H := Option.bind_eq_some_iff.mp H
 obtain ⟨t415, A20, H⟩ := H
 try dsimp only at H
 have A2 := Ah A20
 clear A20
 replace H := Option.bind_eq_some_iff.mp H
 obtain ⟨t418, A30, H⟩ := H
 try dsimp only at H
 have A3 := Ah A30
 clear A30
 simp only [Option.some.injEq, Prod.mk.injEq] at H
 obtain ⟨rfl, rfl, rfl⟩ := H
 go_enter Try.func67, Try.ntmps67
 try go_wp2_with (first | ((with_reducible refine gate_dst (N := 1) rfl ?_); refine boxL 1 24 #[.int .i64 a0_0, .slice A0_1 l0_1.length c0_1, .slice A0_2 l0_2.length c0_2] ?_; intro gb413 hg w4 BK413 hb; have GW413 := gw hg (bs HB); have GE413 := gw hg (bs HB); replace HB := Ah (below_step (bs HB) hb); clear hb hg) | ((with_reducible refine gate_dst (N := 2) rfl ?_); refine boxL 2 24 #[.int .i64 0, .slice none 0 0, .slice none 0 0] ?_; intro gb414 hg w5 BK414 hb; have GW414 := gw hg (bs1 HB GE413); have GE414 := gw hg (bs1 HB GE413); replace HB := Ah (below_step (bs1 HB GE413) hb); have NB413_414 := nn BK413 hg; have NB414_413 := nm BK413 hg; replace BK413 := nb BK413 hb; clear hb hg))
 have n0_ := Ah (blk_drew BK413.out)
 have n1_ := Ah (blk_drew BK414.out)
 have n2_ := Ah (below_drew1 HB.out)
 clear BK413 BK414 HB
 have BK413 := n0_
 have BK414 := n1_
 have HB := n2_
 clear n0_ n1_ n2_
 refine start_ (n := 10) (S := fun w' => w'.cell? ⟨gb413, 0, none⟩ = some (.int .i64 a0_0) ∧ w'.cell? ⟨gb413, 1, none⟩ = some (.slice A0_1 l0_1.length c0_1) ∧ w'.cell? ⟨gb413, 2, none⟩ = some (.slice A0_2 l0_2.length c0_2)) (ds := []) #[false, false, false, false, false, false, false, false, false, false] (by kernel_rfl) rfl rfl ⟨(blk_cell BK413.out 0).trans rfl, (blk_cell BK413.out 1).trans rfl, (blk_cell BK413.out 2).trans rfl⟩ (fun hHeld => ?_); refine with_tabW impl_ownFree.tab1 impl_ownFree.bits1 (fun HT_ HW_ => ?_)
 generalize w5.drew = w6 at BK413 BK414 HB hHeld ⊢
 refine pureS 0 3 HT_.out ?_
 refine pureS 2 5 HT_.out ?_
 refine pureS 5 8 HT_.out ?_
 refine takeS 1 4 HT_.out HW_.out hHeld (hr := by rintro w' ⟨s0, s1, s2⟩; go_simp; with_reducible rfl) (h := ?_)
 refine takeS 3 6 HT_.out HW_.out hHeld (hr := by rintro w' ⟨s0, s1, s2⟩; go_simp; with_reducible rfl) (h := ?_)
 refine takeS 6 9 HT_.out HW_.out hHeld (hr := by rintro w' ⟨s0, s1, s2⟩; go_simp; with_reducible rfl) (h := ?_)
 refine one_ (i := 4) (N := some 7) #[true, true, true, true, true, true, true, false, false, false] rfl rfl (one_of HT_.out (by kernel_rfl)) (by decide) (fun K hK => ?_)
 refine goes_ Try.func51 (by kernel_rfl) rfl #[.slice A0_1 l0_1.length c0_1] (by rfl) rfl rfl (by (try simp only [List.map_toArray, List.map_cons, List.map_nil]); first | done | rfl | (simp only [List.length_drop, List.length_take]; rfl)) ?_
 with_reducible refine (impl_Extent_51.calls _ _ l0_1 t415 _ ?side1 ?side2 A2.out).mono ?_
 (case side1 => exact cb HR0_1 HB)
 (case side2 => exact HC0_1.out)
 rintro e w7 ⟨v416, rfl, ho0, hb⟩
 refine ⟨_, rfl, ?_⟩
 have n0_ := Ah (Kd.R_lower ho0 (below_size (bs2 HB GE413 GE414)))
 have n1_ := Ah (bb BK413 hb)
 have n2_ := Ah (bb BK414 hb)
 have n3_ := Ah (below_step (bs2 HB GE413 GE414) hb)
 clear BK413 BK414 HB
 have HO417 := n0_
 have BK413 := n1_
 have BK414 := n2_
 have HB := n3_
 clear n0_ n1_ n2_ n3_
 (try clear hb)
 (try clear hb2)
 (try clear hk)
 (try clear hi)
 (try clear ho0)
 refine hK.out _ _ ⟨(blk_cell BK413.out 0).trans rfl, (blk_cell BK413.out 1).trans rfl, (blk_cell BK413.out 2).trans rfl⟩ (fun hHeld => ?_)
 clear hK K
 refine norm_ (a' := ?_) ?_ ?_
 rotate_left
 ·
  show Act.put _ (some 7) _ = _
  simp only [Act.put, List.setIfInBounds_toArray, List.set_cons_zero, List.set_cons_succ, i64_w, i32_w]
  rfl
 refine one_ (i := 7) (N := some 10) #[true, true, true, true, true, true, true, true, false, false] rfl rfl (one_of HT_.out (by kernel_rfl)) (by decide) (fun K hK => ?_)
 refine goes_ Try.func51 (by kernel_rfl) rfl #[.slice A0_2 l0_2.length c0_2] (by rfl) rfl rfl (by (try simp only [List.map_toArray, List.map_cons, List.map_nil]); first | done | rfl | (simp only [List.length_drop, List.length_take]; rfl)) ?_
 with_reducible refine (impl_Extent_51.calls _ _ l0_2 t418 _ ?side1 ?side2 A3.out).mono ?_
 (case side1 => exact cb HR0_2 HB)
 (case side2 => exact HC0_2.out)
 rintro e w8 ⟨v419, rfl, ho0, hb⟩
 refine ⟨_, rfl, ?_⟩
 have n0_ := Ah (Kd.R_elder' (rr HO417.out) (Kd.R_base ho0) hb)
 have n1_ := Ah (Kd.R_lower (Kd.R_new' ho0 (Kd.R_lt (rr HO417.out))) (below_size (bs2 HB GE413 GE414)))
 have n2_ := Ah (bb BK413 hb)
 have n3_ := Ah (bb BK414 hb)
 have n4_ := Ah (below_step (bs2 HB GE413 GE414) hb)
 clear HO417 BK413 BK414 HB
 have HO417 := n0_
 have HO420 := n1_
 have BK413 := n2_
 have BK414 := n3_
 have HB := n4_
 clear n0_ n1_ n2_ n3_ n4_
 (try clear hb)
 (try clear hb2)
 (try clear hk)
 (try clear hi)
 (try clear ho0)
 obtain ⟨Ao9, co9, eo9⟩ := Kd.R_slice HO420.out
 (first | subst eo9 | (injection eo9 with f1_ f2_ f3_; have f4_ := f1_.symm; have f5_ := f3_.symm; clear f1_ f2_ f3_; subst f4_; subst f5_))
 obtain ⟨Ao10, co10, eo10⟩ := Kd.R_slice HO417.out
 (first | subst eo10 | (injection eo10 with f1_ f2_ f3_; have f4_ := f1_.symm; have f5_ := f3_.symm; clear f1_ f2_ f3_; subst f4_; subst f5_))
 refine hK.out _ _ ⟨(blk_cell BK413.out 0).trans rfl, (blk_cell BK413.out 1).trans rfl, (blk_cell BK413.out 2).trans rfl⟩ (fun hHeld => ?_)
 clear hK K
 refine norm_ (a' := ?_) ?_ ?_
 rotate_left
 ·
  show Act.put _ (some 10) _ = _
  simp only [Act.put, List.setIfInBounds_toArray, List.set_cons_zero, List.set_cons_succ, i64_w, i32_w]
  rfl
 refine pureS 8 11 HT_.out ?_
 refine one_ (i := 9) (N := none) #[true, true, true, true, true, true, true, true, true, true] rfl rfl (one_of HT_.out (by kernel_rfl)) (by decide) (fun K hK => ?_)
 have hs11 : w8.cell? ⟨gb414, 0, none⟩ = some (.int .i64 0) := (blk_cell BK414.out 0).trans rfl
 have hfs11 := blk_frozen BK414.out 0
 have hns11_0 := NB413_414.out
 have hms11_0 := NB414_413.out
 have hs12 : w8.cell? ⟨gb414, 1, none⟩ = some (.slice none 0 0) := (blk_cell BK414.out 1).trans rfl
 have hfs12 := blk_frozen BK414.out 1
 have hns12_0 := NB413_414.out
 have hms12_0 := NB414_413.out
 have hs13 : w8.cell? ⟨gb414, 2, none⟩ = some (.slice none 0 0) := (blk_cell BK414.out 2).trans rfl
 have hfs13 := blk_frozen BK414.out 2
 have hns13_0 := NB413_414.out
 have hms13_0 := NB414_413.out
 refine skip_ (w1 := ?_) (by rfl) rfl ?_ ?_
 rotate_left
 ·
  go_simp
  rfl
 refine hK.out _ _ ⟨((cell_far (p := ⟨gb414, _, none⟩) NB413_414.out _).trans (((cell_far (p := ⟨gb414, _, none⟩) NB413_414.out _).trans (((cell_far (p := ⟨gb414, _, none⟩) NB413_414.out _).trans (hHeld.1)))))), ((cell_far (p := ⟨gb414, _, none⟩) NB413_414.out _).trans (((cell_far (p := ⟨gb414, _, none⟩) NB413_414.out _).trans (((cell_far (p := ⟨gb414, _, none⟩) NB413_414.out _).trans (hHeld.2.1)))))), ((cell_far (p := ⟨gb414, _, none⟩) NB413_414.out _).trans (((cell_far (p := ⟨gb414, _, none⟩) NB413_414.out _).trans (((cell_far (p := ⟨gb414, _, none⟩) NB413_414.out _).trans (hHeld.2.2))))))⟩ (fun hHeld => ?_)
 clear hK K
 refine done_ (done_of HT_.out (by kernel_rfl)) ?_
 try go_wp2
 refine bodyPost_ret (results_cell_row rfl _ _ gb414 24 #[.int .i64 a0_0, .slice Ao10 t415.length co10, .slice Ao9 t418.length co9] (0, 0) _ rfl (by (with_reducible repeat (first | refine blk_drewN ?_ _ | refine blk_drew ?_ | refine blk_alloc ?_ _)); refine blk_put (cs := #[.int .i64 a0_0, .slice Ao10 t415.length co10, .slice none 0 0]) ?_ 2 _ rfl; (with_reducible repeat (first | refine blk_drewN ?_ _ | refine blk_drew ?_ | refine blk_alloc ?_ _)); refine blk_put (cs := #[.int .i64 a0_0, .slice none 0 0, .slice none 0 0]) ?_ 1 _ rfl; (with_reducible repeat (first | refine blk_drewN ?_ _ | refine blk_drew ?_ | refine blk_alloc ?_ _)); refine blk_put (cs := #[.int .i64 0, .slice none 0 0, .slice none 0 0]) ?_ 0 _ rfl; (with_reducible repeat (first | refine blk_drewN ?_ _ | refine blk_drew ?_ | refine blk_alloc ?_ _)); exact BK414.out) Try.underlying24 rfl (by kernel_rfl)) rfl ?_
 exact ⟨_, _, er, by (with_reducible repeat (first | apply Kd.R_alloc | apply Kd.R_drewN | apply Kd.R_drew)); exact Kd.R_mono (Kd.R_far (p := ⟨gb414, 2, none⟩) (Kd.R_far (p := ⟨gb414, 1, none⟩) (Kd.R_far (p := ⟨gb414, 0, none⟩) (Kd.R_types HO417.out BK414.out (by decide)) (fun _ hk => hk.2) (.int .i64 a0_0)) (fun _ hk => hk.2) (.slice Ao10 t415.length co10)) (fun _ hk => hk.2) (.slice Ao9 t418.length co9)) (fun _ hk => hk.1.2), by (with_reducible repeat (first | apply Kd.R_alloc | apply Kd.R_drewN | apply Kd.R_drew)); exact Kd.R_mono (Kd.R_far (p := ⟨gb414, 2, none⟩) (Kd.R_far (p := ⟨gb414, 1, none⟩) (Kd.R_far (p := ⟨gb414, 0, none⟩) (Kd.R_types HO420.out BK414.out (by decide)) (fun _ hk => hk.2) (.int .i64 a0_0)) (fun _ hk => hk.2) (.slice Ao10 t415.length co10)) (fun _ hk => hk.2) (.slice Ao9 t418.length co9)) (fun _ hk => hk.1.2), bs2 HB GE413 GE414⟩
def impl_Item_68.f (l0 : List (S71)) : Option (List (S71)) := if l0.length * 40 ≤ 140737488355328 then some l0 else none
set_option maxRecDepth 100000 in
theorem impl_Item_68.calls (A0 : Option Addr) (c0 : Nat) (l0 : List (S71)) (r : List (S71)) (w : World) (hr0 : Kd.C k71 w A0 l0.length l0) (hc0 : l0.length ≤ c0) (h : impl_Item_68.f l0 = some r) :
    Calls Try.prog 68 #[.slice A0 l0.length c0] w fun e w' => ∃ v0_ : Value, e = .returned (v0_) ∧ Kd.R k71 71 w' w.heap.size (fun _ => True) v0_ r ∧ Below w.heap.size w w' := by
  have hus := Try.underlying25
  have huu : ∀ w, Sem.run Try.prog (underlying 25) w = .ok (TypeDesc.slice 71) w := run_underlying hus
  have hee : ∀ (w : World) (a : Option Addr) (n c n' c' : Nat), (binOp .eql 25 (.slice a n c) (.slice none n' c')).run Try.prog w = .ok (.bool a.isNone) w := fun w a n c n' c' => Lib.run_eql_slice_nil w _ _ a n c n' c' hus
  unfold impl_Item_68.f at h
  by_cases hl : l0.length * 40 ≤ 140737488355328
  · rw [if_pos hl] at h
    obtain rfl := Option.some.inj h
    have hR := Aside0.mk hr0
    have hL := Aside0.mk hl
    clear hr0 h hl
    rcases A0 with _ | ad
    · have h0 : l0 = [] := by
        rcases Nat.eq_zero_or_pos l0.length with h0 | h0
        · exact List.eq_nil_of_length_eq_zero h0
        · obtain ⟨ad, h, _⟩ := hR.out.2.2 h0
          cases h
      subst h0
      go_enter Try.func68, Try.ntmps68
      go_wp2
      go_ret
      exact ⟨_, rfl, Kd.R_nil _ _ _ _ _, Below.refl _ _⟩
    · go_enter Try.func68, Try.ntmps68
      go_wp2_with (first
        | ((with_reducible refine gate_dst (N := 5) rfl ?_); refine Kd.R_lit k71 _ 71 ?hg (N := 5) ?hd (xs := ([] : List (S71))) (inner := []) (ok := fun _ => True) (okp := fun _ => True) ?hr ?hp (fun _ hk => hk) trivial (Below.refl _ _) (Nat.le_refl _) (by simp) ?_; (case hd => rfl); (case hg => rfl); (case hr => first | (go_simp; done) | (go_simp; rfl)); (case hp => exact (Reps.none _ _)); intro v391 w4 ho5 hb hg_ hnew_; clear hg_ hnew_; have n0_ := Aside0.mk (Kd.R_lower ho5 (Nat.le_refl _)); have n1_ := Aside0.mk hb; clear ho5 hb)
        | ((with_reducible refine gate_builtin (b := .append) (xs := #[.tmp 5, .tmp 6]) rfl ?_); at_builtin; refine Kd.R_append_rows k71 (w0 := w) w.heap.size rfl (.tmp 5) (.tmp 6) 25 71 (.agg #[(.int .i64 0), (.int .i64 0), (.int .i64 0), (.int .i64 0), (.int .i64 0)]) 40 rfl hus info71 rfl (by decide) (by omega) v391 ([] : List (S71)) l0 _ _ _ (fun _ => True) (fun _ => False) rfl rfl ?aO ?aR (fun _ _ h => h) (fun _ h => h.elim) ?aF ?aB ?aS ?aL ?_; (case aR => exact Kd.C_below hR.out n1_.out); (case aB => exact n1_.out); (case aF => exact (fun _ _ => trivial)); (case aO => exact n0_.out); (case aS => exact n1_.out.size); (case aL => have := hL.out; simp only [List.length_nil, Nat.zero_add]; omega); intro v394 w6 ho hb hg hat; rw [List.nil_append] at ho; have m0_ := Aside0.mk ho; have m1_ := Aside0.mk hb; clear n0_ n1_ ho hb hg hat))
      go_ret
      exact ⟨_, rfl, m0_.out, m1_.out⟩
  · rw [if_neg hl] at h
    cases h
end Go.Proofs.Ytakgjdckolllaaa.G
