-- Printed by a program of this session (drive.py, by way of the kit's print). Not trusted: Lean checks it.
import Derived.Test.YthlifcbkpafofaaDoorG0
import Derived.Test.YthlifcbkpafofaaDoorG4
import Derived.Test.YthlifcbkpafofaaDoorG6
import Derived.Test.YthlifcbkpafofaaDoorG10
namespace Go.Proofs.YthlifcbkpafofaaDoor.G
open Go.RowKit Go.Proofs.YthlifcbkpafofaaDoorW.PrintWords Go.Proofs.YthlifcbkpafofaaDoorW.PrintLast Go.Proofs.YthlifcbkpafofaaDoorW.PrintMore
attribute [local go_sem] max2_int min2_int max_two min_two max_three min_three max_four min_four   -- for this text's walks alone
set_option linter.unusedVariables false
set_option linter.unusedSimpArgs false

/-! ### spec_RoomFor: function 26 -/
def spec_RoomFor.f (k : Nat) (l0_0 : List (S26)) (a0_1 : Int) (a0_2 : Int) (a0_3 : Int) : Option (Int × Bool) := (spec_GoodRing.f k l0_0 a0_1 a0_2 a0_3).bind fun t304 => (if t304 = true then (some (wrap64 ((l0_0.length : Int) - (wrap64 (a0_1 - a0_3))), true)) else (some (0, false)))
theorem spec_RoomFor.mono : ∀ a0 a1 a2 a3 k, LeO (spec_RoomFor.f k a0 a1 a2 a3) (spec_RoomFor.f (k + 1) a0 a1 a2 a3) := by
 intro a0 a1 a2 a3 k
 unfold spec_RoomFor.f
 repeat' first
   | (with_reducible exact spec_GoodRing.mono _ _ _ _ _)
   | (with_reducible exact LeO.refl _)
   | (with_reducible exact LeO.none _)
   | (with_reducible refine LeO.ite ?_ ?_)
   | (with_reducible refine LeO.bind ?_ (fun _ => ?_))
   | exact spec_GoodRing.mono _ _ _ _ _
   | exact LeO.none _
   | refine LeO.ite ?_ ?_
   | refine LeO.bind ?_ (fun _ => ?_)
set_option maxHeartbeats 8000000 in
set_option maxRecDepth 100000 in
theorem spec_RoomFor.calls (k : Nat) (A0_0 : Option Addr) (c0_0 : Nat) (l0_0 : List (S26)) (a0_1 : Int) (a0_2 : Int) (a0_3 : Int) (r1 : Int) (r2 : Bool) (w : World) (hr0_0 : Kd.C k26 w A0_0 l0_0.length l0_0) (hc0_0 : l0_0.length ≤ c0_0) (h : spec_RoomFor.f k l0_0 a0_1 a0_2 a0_3 = some (r1, r2)) :
  Calls Tryd.prog 26 #[.agg #[.slice A0_0 l0_0.length c0_0, .int .i64 a0_1, .int .i64 a0_2, .int .i64 a0_3]] w fun e w' => e = .returned (.tuple #[.int .i64 r1, .bool r2]) ∧ Below w.heap.size w w' := by
 have hu36 := Tryd.underlying36
 have HR0_0 := Aside0.mk hr0_0
 have HC0_0 := Aside0.mk hc0_0
 clear hr0_0 hc0_0
 have HB := Aside0.mk (Below.refl w.heap.size w)
 have H : ((spec_GoodRing.f k l0_0 a0_1 a0_2 a0_3).bind fun t304 => (if t304 = true then (some (wrap64 ((l0_0.length : Int) - (wrap64 (a0_1 - a0_3))), true)) else (some (0, false)))) = some (r1, r2) := h
 clear h
 replace H := Option.bind_eq_some_iff.mp H
 obtain ⟨t304, A20, H⟩ := H
 replace H : (if t304 = true then (some (wrap64 ((l0_0.length : Int) - (wrap64 (a0_1 - a0_3))), true)) else (some (0, false))) = some (r1, r2) := H
 have A2 := Aside0.mk A20
 clear A20
 by_cases c3 : t304 = true
 ·
  subst c3
  rw [if_pos rfl] at H
  simp only [Option.some.injEq, Prod.mk.injEq] at H
  obtain ⟨rfl, rfl⟩ := H
  go_enter Tryd.func26, Tryd.ntmps26
  go_wp2_with (first | ((with_reducible refine gate_dst (N := 1) rfl ?_); refine box_event ?hg (N := 1) ?hd (cs := #[.slice A0_0 l0_0.length c0_0, .int .i64 a0_1, .int .i64 a0_2, .int .i64 a0_3]) (t := 36) ?hr ?_; (case hd => rfl); (case hg => rfl); (case hr => first | (go_simp; done) | (go_simp; rfl)); intro gb303 hg w4 hbox hb; have BK303 := Aside0.mk (hbox); have GW303 := Aside0.mk ((by rw [hg]; exact (below_size (bs HB)) : w.heap.size ≤ gb303)); have GE303 := Aside0.mk ((by rw [hg]; exact (below_size (bs HB)) : w.heap.size ≤ gb303)); replace HB := Aside0.mk (below_step (bs HB) hb); clear hb hbox hg; obtain ⟨hcz5_0, hcz5_1, hcz5_2, hcz5_3⟩ := cz4 BK303; obtain ⟨hfz5_0, hfz5_1, hfz5_2, hfz5_3⟩ := fz4 BK303) | ((with_reducible refine gate_callee (f := 18) rfl ?_); refine gL (some 5) rfl rfl Tryd.func18 (by kernel_rfl) rfl #[.agg #[.slice A0_0 l0_0.length c0_0, .int .i64 a0_1, .int .i64 a0_2, .int .i64 a0_3]] rfl ?_; (with_reducible refine (spec_GoodRing.calls k _ _ l0_0 a0_1 a0_2 a0_3 true _ ?side1 ?side2 A2.out).mono ?_); (case side1 => exact cb HR0_0 HB); (case side2 => exact HC0_0.out); rintro e w6 ⟨rfl, hb⟩; refine ⟨_, rfl, ?_⟩; replace BK303 := nb BK303 hb; replace HB := Aside0.mk (below_step (bs1 HB GE303) hb); (try clear hb); (try clear hb2); (try clear hk); (try clear hi); obtain ⟨hcz7_0, hcz7_1, hcz7_2, hcz7_3⟩ := cz4 BK303; obtain ⟨hfz7_0, hfz7_1, hfz7_2, hfz7_3⟩ := fz4 BK303))
  go_ret2
  exact ⟨by first | rfl | (simp [errW_none, errW_some] <;> rfl) | (simp [*, errW_none, errW_some] <;> rfl), bs1 HB GE303⟩
 ·
  replace c3 := Bool.eq_false_iff.mpr c3
  subst c3
  rw [if_neg (show ¬ (false = true) by decide)] at H
  simp only [Option.some.injEq, Prod.mk.injEq] at H
  obtain ⟨rfl, rfl⟩ := H
  go_enter Tryd.func26, Tryd.ntmps26
  go_wp2_with (first | ((with_reducible refine gate_dst (N := 1) rfl ?_); refine box_event ?hg (N := 1) ?hd (cs := #[.slice A0_0 l0_0.length c0_0, .int .i64 a0_1, .int .i64 a0_2, .int .i64 a0_3]) (t := 36) ?hr ?_; (case hd => rfl); (case hg => rfl); (case hr => first | (go_simp; done) | (go_simp; rfl)); intro gb303 hg w8 hbox hb; have BK303 := Aside0.mk (hbox); have GW303 := Aside0.mk ((by rw [hg]; exact (below_size (bs HB)) : w.heap.size ≤ gb303)); have GE303 := Aside0.mk ((by rw [hg]; exact (below_size (bs HB)) : w.heap.size ≤ gb303)); replace HB := Aside0.mk (below_step (bs HB) hb); clear hb hbox hg; obtain ⟨hcz9_0, hcz9_1, hcz9_2, hcz9_3⟩ := cz4 BK303; obtain ⟨hfz9_0, hfz9_1, hfz9_2, hfz9_3⟩ := fz4 BK303) | ((with_reducible refine gate_callee (f := 18) rfl ?_); refine gL (some 5) rfl rfl Tryd.func18 (by kernel_rfl) rfl #[.agg #[.slice A0_0 l0_0.length c0_0, .int .i64 a0_1, .int .i64 a0_2, .int .i64 a0_3]] rfl ?_; (with_reducible refine (spec_GoodRing.calls k _ _ l0_0 a0_1 a0_2 a0_3 false _ ?side1 ?side2 A2.out).mono ?_); (case side1 => exact cb HR0_0 HB); (case side2 => exact HC0_0.out); rintro e w10 ⟨rfl, hb⟩; refine ⟨_, rfl, ?_⟩; replace BK303 := nb BK303 hb; replace HB := Aside0.mk (below_step (bs1 HB GE303) hb); (try clear hb); (try clear hb2); (try clear hk); (try clear hi)))
  go_ret2
  exact ⟨by first | rfl | (simp [errW_none, errW_some] <;> rfl) | (simp [*, errW_none, errW_some] <;> rfl), bs1 HB GE303⟩

/-! ### laws_FnExactRoomFor: function 6 -/
def laws_FnExactRoomFor.j0 : Nat → Bool → List (S23) → Int → Int → Int → List (S26) → Int → Int → Int → Option (Bool)
 | 0, _, _, _, _, _, _, _, _, _ => none
 | k + 1, x34, x308000, x308001, x308002, x308003, x324000, x324001, x324002, x324003 => if x34 = true then (some false) else ((laws_toRing.f k x308000 x308001 x308002 x308003).bind fun bt326 => ((laws_eqRing.f k x324000 x324001 x324002 x324003 bt326.1 bt326.2.1 bt326.2.2.1 bt326.2.2.2).bind fun t332 => (if t332 = true then (some true) else (some false))))
def laws_FnExactRoomFor.f (k : Nat) (l0_0 : List (S23)) (a0_1 : Int) (a0_2 : Int) (a0_3 : Int) : Option (Bool) := (laws_szRing.f k l0_0 a0_1 a0_2 a0_3 1048576).bind fun t308 => (if t308 < 0 then (some true) else ((laws_toRing.f k l0_0 a0_1 a0_2 a0_3).bind fun bt309 => ((spec_RoomFor.f k bt309.1 bt309.2.1 bt309.2.2.1 bt309.2.2.2).bind fun bt315 => ((laws_toRing.f k l0_0 a0_1 a0_2 a0_3).bind fun bt317 => ((impl_RoomFor.f k bt317.1 bt317.2.1 bt317.2.2.1 bt317.2.2.2).bind fun bt324 => (if bt324.1 = bt315.1 then (laws_FnExactRoomFor.j0 k (bt324.2 != bt315.2) l0_0 a0_1 a0_2 a0_3 bt317.1 bt317.2.1 bt317.2.2.1 bt317.2.2.2) else (laws_FnExactRoomFor.j0 k true l0_0 a0_1 a0_2 a0_3 bt317.1 bt317.2.1 bt317.2.2.1 bt317.2.2.2)))))))
theorem laws_FnExactRoomFor.mono_l : ∀ k, (∀ y0 y1 y2 y3 y4 y5 y6 y7 y8, LeO (laws_FnExactRoomFor.j0 k y0 y1 y2 y3 y4 y5 y6 y7 y8) (laws_FnExactRoomFor.j0 (k + 1) y0 y1 y2 y3 y4 y5 y6 y7 y8))
 | 0 => fun _ _ _ _ _ _ _ _ _ r h => by simp [laws_FnExactRoomFor.j0] at h
 | k + 1 => by
  have ih0 := laws_FnExactRoomFor.mono_l k
  ·
   intro y0 y1 y2 y3 y4 y5 y6 y7 y8
   unfold laws_FnExactRoomFor.j0
   repeat' first
   | (with_reducible exact ih0 _ _ _ _ _ _ _ _ _)
   | (with_reducible exact impl_RoomFor.mono _ _ _ _ _)
   | (with_reducible exact laws_eqRing.mono _ _ _ _ _ _ _ _ _)
   | (with_reducible exact laws_szRing.mono _ _ _ _ _ _)
   | (with_reducible exact laws_toRing.mono _ _ _ _ _)
   | (with_reducible exact spec_RoomFor.mono _ _ _ _ _)
   | (with_reducible exact LeO.refl _)
   | (with_reducible exact LeO.none _)
   | (with_reducible refine LeO.ite ?_ ?_)
   | (with_reducible refine LeO.bind ?_ (fun _ => ?_))
   | exact ih0 _ _ _ _ _ _ _ _ _
   | exact impl_RoomFor.mono _ _ _ _ _
   | exact laws_eqRing.mono _ _ _ _ _ _ _ _ _
   | exact laws_szRing.mono _ _ _ _ _ _
   | exact laws_toRing.mono _ _ _ _ _
   | exact spec_RoomFor.mono _ _ _ _ _
   | exact LeO.none _
   | refine LeO.ite ?_ ?_
   | refine LeO.bind ?_ (fun _ => ?_)
theorem laws_FnExactRoomFor.mono : ∀ a0 a1 a2 a3 k, LeO (laws_FnExactRoomFor.f k a0 a1 a2 a3) (laws_FnExactRoomFor.f (k + 1) a0 a1 a2 a3) := by
 intro a0 a1 a2 a3 k
 have ih0 := laws_FnExactRoomFor.mono_l k
 unfold laws_FnExactRoomFor.f
 repeat' first
   | (with_reducible exact ih0 _ _ _ _ _ _ _ _ _)
   | (with_reducible exact impl_RoomFor.mono _ _ _ _ _)
   | (with_reducible exact laws_eqRing.mono _ _ _ _ _ _ _ _ _)
   | (with_reducible exact laws_szRing.mono _ _ _ _ _ _)
   | (with_reducible exact laws_toRing.mono _ _ _ _ _)
   | (with_reducible exact spec_RoomFor.mono _ _ _ _ _)
   | (with_reducible exact LeO.refl _)
   | (with_reducible exact LeO.none _)
   | (with_reducible refine LeO.ite ?_ ?_)
   | (with_reducible refine LeO.bind ?_ (fun _ => ?_))
   | exact ih0 _ _ _ _ _ _ _ _ _
   | exact impl_RoomFor.mono _ _ _ _ _
   | exact laws_eqRing.mono _ _ _ _ _ _ _ _ _
   | exact laws_szRing.mono _ _ _ _ _ _
   | exact laws_toRing.mono _ _ _ _ _
   | exact spec_RoomFor.mono _ _ _ _ _
   | exact LeO.none _
   | refine LeO.ite ?_ ?_
   | refine LeO.bind ?_ (fun _ => ?_)
set_option maxHeartbeats 8000000 in
set_option maxRecDepth 100000 in
theorem laws_FnExactRoomFor.calls (k : Nat) (A0_0 : Option Addr) (c0_0 : Nat) (l0_0 : List (S23)) (a0_1 : Int) (a0_2 : Int) (a0_3 : Int) (r : Bool) (w : World) (hTab_ : Aside0 (Ito.TabW w)) (hr0_0 : Kd.C k23 w A0_0 l0_0.length l0_0) (hc0_0 : l0_0.length ≤ c0_0) (h : laws_FnExactRoomFor.f k l0_0 a0_1 a0_2 a0_3 = some r) :
  Calls Tryd.prog 6 #[.agg #[.slice A0_0 l0_0.length c0_0, .int .i64 a0_1, .int .i64 a0_2, .int .i64 a0_3]] w fun e w' => e = .returned (.bool r) ∧ Below w.heap.size w w' := by
 have hu31 := Tryd.underlying31
 have hu36 := Tryd.underlying36
 have HR0_0 := Aside0.mk hr0_0
 have HC0_0 := Aside0.mk hc0_0
 clear hr0_0 hc0_0
 have HB := Aside0.mk (Below.refl w.heap.size w)
 have H : ((laws_szRing.f k l0_0 a0_1 a0_2 a0_3 1048576).bind fun t308 => (if t308 < 0 then (some true) else ((laws_toRing.f k l0_0 a0_1 a0_2 a0_3).bind fun bt309 => ((spec_RoomFor.f k bt309.1 bt309.2.1 bt309.2.2.1 bt309.2.2.2).bind fun bt315 => ((laws_toRing.f k l0_0 a0_1 a0_2 a0_3).bind fun bt317 => ((impl_RoomFor.f k bt317.1 bt317.2.1 bt317.2.2.1 bt317.2.2.2).bind fun bt324 => (if bt324.1 = bt315.1 then (laws_FnExactRoomFor.j0 k (bt324.2 != bt315.2) l0_0 a0_1 a0_2 a0_3 bt317.1 bt317.2.1 bt317.2.2.1 bt317.2.2.2) else (laws_FnExactRoomFor.j0 k true l0_0 a0_1 a0_2 a0_3 bt317.1 bt317.2.1 bt317.2.2.1 bt317.2.2.2)))))))) = some r := h
 clear h
 replace H := Option.bind_eq_some_iff.mp H
 obtain ⟨t308, A20, H⟩ := H
 replace H : (if t308 < 0 then (some true) else ((laws_toRing.f k l0_0 a0_1 a0_2 a0_3).bind fun bt309 => ((spec_RoomFor.f k bt309.1 bt309.2.1 bt309.2.2.1 bt309.2.2.2).bind fun bt315 => ((laws_toRing.f k l0_0 a0_1 a0_2 a0_3).bind fun bt317 => ((impl_RoomFor.f k bt317.1 bt317.2.1 bt317.2.2.1 bt317.2.2.2).bind fun bt324 => (if bt324.1 = bt315.1 then (laws_FnExactRoomFor.j0 k (bt324.2 != bt315.2) l0_0 a0_1 a0_2 a0_3 bt317.1 bt317.2.1 bt317.2.2.1 bt317.2.2.2) else (laws_FnExactRoomFor.j0 k true l0_0 a0_1 a0_2 a0_3 bt317.1 bt317.2.1 bt317.2.2.1 bt317.2.2.2))))))) = some r := H
 have A2 := Aside0.mk A20
 clear A20
 by_cases c3 : t308 < 0
 ·
  rw [if_pos c3] at H
  have c3b0 : decide (t308 < 0) = true := decide_eq_true c3
  clear c3
  obtain rfl := Option.some.inj H
  go_enter Tryd.func6, Tryd.ntmps6
  go_wp2_with (first | ((with_reducible refine gate_dst (N := 1) rfl ?_); refine box_event ?hg (N := 1) ?hd (cs := #[.slice A0_0 l0_0.length c0_0, .int .i64 a0_1, .int .i64 a0_2, .int .i64 a0_3]) (t := 31) ?hr ?_; (case hd => rfl); (case hg => rfl); (case hr => first | (go_simp; done) | (go_simp; rfl)); intro gb307 hg w4 hbox hb; have BK307 := Aside0.mk (hbox); have GW307 := Aside0.mk ((by rw [hg]; exact (below_size (bs HB)) : w.heap.size ≤ gb307)); have GE307 := Aside0.mk ((by rw [hg]; exact (below_size (bs HB)) : w.heap.size ≤ gb307)); replace HB := Aside0.mk (below_step (bs HB) hb); clear hb hbox hg; obtain ⟨hcz5_0, hcz5_1, hcz5_2, hcz5_3⟩ := cz4 BK307; obtain ⟨hfz5_0, hfz5_1, hfz5_2, hfz5_3⟩ := fz4 BK307) | ((with_reducible refine gate_callee (f := 17) rfl ?_); refine gL (some 11) rfl rfl Tryd.func17 (by kernel_rfl) rfl #[.agg #[.slice A0_0 l0_0.length c0_0, .int .i64 a0_1, .int .i64 a0_2, .int .i64 a0_3], .int .i64 1048576] rfl ?_; (with_reducible refine (laws_szRing.calls k _ _ l0_0 a0_1 a0_2 a0_3 1048576 t308 _ ?side1 ?side2 A2.out).mono ?_); (case side1 => exact cb HR0_0 HB); (case side2 => exact HC0_0.out); rintro e w6 ⟨rfl, hb⟩; refine ⟨_, rfl, ?_⟩; replace BK307 := nb BK307 hb; replace HB := Aside0.mk (below_step (bs1 HB GE307) hb); (try clear hb); (try clear hb2); (try clear hk); (try clear hi)))
  go_ret
  exact ⟨by first | rfl | (simp [errW_none, errW_some] <;> rfl) | (simp [*, errW_none, errW_some] <;> rfl), bs1 HB GE307⟩
 ·
  rw [if_neg c3] at H
  have c3b0 : decide (t308 < 0) = false := decide_eq_false c3
  clear c3
  replace H := Option.bind_eq_some_iff.mp H
  obtain ⟨⟨t309, t312, t313, t314⟩, A70, H⟩ := H
  replace H : ((spec_RoomFor.f k t309 t312 t313 t314).bind fun bt315 => ((laws_toRing.f k l0_0 a0_1 a0_2 a0_3).bind fun bt317 => ((impl_RoomFor.f k bt317.1 bt317.2.1 bt317.2.2.1 bt317.2.2.2).bind fun bt324 => (if bt324.1 = bt315.1 then (laws_FnExactRoomFor.j0 k (bt324.2 != bt315.2) l0_0 a0_1 a0_2 a0_3 bt317.1 bt317.2.1 bt317.2.2.1 bt317.2.2.2) else (laws_FnExactRoomFor.j0 k true l0_0 a0_1 a0_2 a0_3 bt317.1 bt317.2.1 bt317.2.2.1 bt317.2.2.2))))) = some r := H
  have A7 := Aside0.mk A70
  clear A70
  replace H := Option.bind_eq_some_iff.mp H
  obtain ⟨⟨t315, t316⟩, A80, H⟩ := H
  replace H : ((laws_toRing.f k l0_0 a0_1 a0_2 a0_3).bind fun bt317 => ((impl_RoomFor.f k bt317.1 bt317.2.1 bt317.2.2.1 bt317.2.2.2).bind fun bt324 => (if bt324.1 = t315 then (laws_FnExactRoomFor.j0 k (bt324.2 != t316) l0_0 a0_1 a0_2 a0_3 bt317.1 bt317.2.1 bt317.2.2.1 bt317.2.2.2) else (laws_FnExactRoomFor.j0 k true l0_0 a0_1 a0_2 a0_3 bt317.1 bt317.2.1 bt317.2.2.1 bt317.2.2.2)))) = some r := H
  have A8 := Aside0.mk A80
  clear A80
  replace H := Option.bind_eq_some_iff.mp H
  obtain ⟨⟨t317, t320, t321, t322⟩, A90, H⟩ := H
  replace H : ((impl_RoomFor.f k t317 t320 t321 t322).bind fun bt324 => (if bt324.1 = t315 then (laws_FnExactRoomFor.j0 k (bt324.2 != t316) l0_0 a0_1 a0_2 a0_3 t317 t320 t321 t322) else (laws_FnExactRoomFor.j0 k true l0_0 a0_1 a0_2 a0_3 t317 t320 t321 t322))) = some r := H
  have A9 := Aside0.mk A90
  clear A90
  replace H := Option.bind_eq_some_iff.mp H
  obtain ⟨⟨t324, t325⟩, A100, H⟩ := H
  replace H : (if t324 = t315 then (laws_FnExactRoomFor.j0 k (t325 != t316) l0_0 a0_1 a0_2 a0_3 t317 t320 t321 t322) else (laws_FnExactRoomFor.j0 k true l0_0 a0_1 a0_2 a0_3 t317 t320 t321 t322)) = some r := H
  have A10 := Aside0.mk A100
  clear A100
  have HC11 := Aside0.mk H
  clear H
  go_enter Tryd.func6, Tryd.ntmps6
  go_upto_region 8 with (first | ((with_reducible refine gate_dst (N := 1) rfl ?_); refine box_event ?hg (N := 1) ?hd (cs := #[.slice A0_0 l0_0.length c0_0, .int .i64 a0_1, .int .i64 a0_2, .int .i64 a0_3]) (t := 31) ?hr ?_; (case hd => rfl); (case hg => rfl); (case hr => first | (go_simp; done) | (go_simp; rfl)); intro gb307 hg w12 hbox hb; have BK307 := Aside0.mk (hbox); have GW307 := Aside0.mk ((by rw [hg]; exact (below_size (bs HB)) : w.heap.size ≤ gb307)); have GE307 := Aside0.mk ((by rw [hg]; exact (below_size (bs HB)) : w.heap.size ≤ gb307)); replace HB := Aside0.mk (below_step (bs HB) hb); clear hb hbox hg; obtain ⟨hcz13_0, hcz13_1, hcz13_2, hcz13_3⟩ := cz4 BK307; obtain ⟨hfz13_0, hfz13_1, hfz13_2, hfz13_3⟩ := fz4 BK307) | ((with_reducible refine gate_callee (f := 17) rfl ?_); refine gL (some 11) rfl rfl Tryd.func17 (by kernel_rfl) rfl #[.agg #[.slice A0_0 l0_0.length c0_0, .int .i64 a0_1, .int .i64 a0_2, .int .i64 a0_3], .int .i64 1048576] rfl ?_; (with_reducible refine (laws_szRing.calls k _ _ l0_0 a0_1 a0_2 a0_3 1048576 t308 _ ?side1 ?side2 A2.out).mono ?_); (case side1 => exact cb HR0_0 HB); (case side2 => exact HC0_0.out); rintro e w14 ⟨rfl, hb⟩; refine ⟨_, rfl, ?_⟩; replace BK307 := nb BK307 hb; replace HB := Aside0.mk (below_step (bs1 HB GE307) hb); (try clear hb); (try clear hb2); (try clear hk); (try clear hi); obtain ⟨hcz15_0, hcz15_1, hcz15_2, hcz15_3⟩ := cz4 BK307; obtain ⟨hfz15_0, hfz15_1, hfz15_2, hfz15_3⟩ := fz4 BK307) | ((with_reducible refine gate_callee (f := 19) rfl ?_); refine gL (some 16) rfl rfl Tryd.func19 (by kernel_rfl) rfl #[.agg #[.slice A0_0 l0_0.length c0_0, .int .i64 a0_1, .int .i64 a0_2, .int .i64 a0_3]] rfl ?_; (with_reducible refine (laws_toRing.calls k _ _ l0_0 a0_1 a0_2 a0_3 t309 t312 t313 t314 _ ?side1 ?side2 A7.out).mono ?_); (case side1 => exact cb HR0_0 HB); (case side2 => exact HC0_0.out); rintro e w16 ⟨v310, rfl, ho0, hb⟩; refine ⟨_, rfl, ?_⟩; have HO311 := Aside0.mk (Kd.R_lower ho0 (below_size (bs1 HB GE307))); replace BK307 := nb BK307 hb; replace HB := Aside0.mk (below_step (bs1 HB GE307) hb); (try clear hb); (try clear hb2); (try clear hk); (try clear hi); (try clear ho0); obtain ⟨Ao17, co17, eo17⟩ := Kd.R_slice HO311.out; subst eo17) | ((with_reducible refine gate_callee (f := 26) rfl ?_); refine gL (some 17) rfl rfl Tryd.func26 (by kernel_rfl) rfl #[.agg #[.slice Ao17 t309.length co17, .int .i64 t312, .int .i64 t313, .int .i64 t314]] rfl ?_; (with_reducible refine (spec_RoomFor.calls k _ _ t309 t312 t313 t314 t315 t316 _ ?side1 ?side2 A8.out).mono ?_); (case side1 => exact rc0 HO311); (case side2 => exact (Kd.R_reads' HO311.out).2.1); rintro e w18 ⟨rfl, hb⟩; refine ⟨_, rfl, ?_⟩; replace HO311 := nr HO311 hb; replace BK307 := nb BK307 hb; replace HB := Aside0.mk (below_step (bs1 HB GE307) hb); (try clear hb); (try clear hb2); (try clear hk); (try clear hi); obtain ⟨hcz19_0, hcz19_1, hcz19_2, hcz19_3⟩ := cz4 BK307; obtain ⟨hfz19_0, hfz19_1, hfz19_2, hfz19_3⟩ := fz4 BK307) | ((with_reducible refine gate_callee (f := 19) rfl ?_); refine gL (some 21) rfl rfl Tryd.func19 (by kernel_rfl) rfl #[.agg #[.slice A0_0 l0_0.length c0_0, .int .i64 a0_1, .int .i64 a0_2, .int .i64 a0_3]] rfl ?_; (with_reducible refine (laws_toRing.calls k _ _ l0_0 a0_1 a0_2 a0_3 t317 t320 t321 t322 _ ?side1 ?side2 A9.out).mono ?_); (case side1 => exact cb HR0_0 HB); (case side2 => exact HC0_0.out); rintro e w20 ⟨v318, rfl, ho0, hb⟩; refine ⟨_, rfl, ?_⟩; have HO319 := Aside0.mk (Kd.R_lower (Kd.R_new' ho0 (Kd.R_lt (rr HO311.out))) (below_size (bs1 HB GE307))); replace HO311 := Aside0.mk (Kd.R_elder' (rr HO311.out) (Kd.R_base ho0) hb); replace BK307 := nb BK307 hb; replace HB := Aside0.mk (below_step (bs1 HB GE307) hb); (try clear hb); (try clear hb2); (try clear hk); (try clear hi); (try clear ho0)) | ((with_reducible refine gate_dst (N := 6) rfl ?_); refine box_event ?hg (N := 6) ?hd (cs := #[.slice none 0 0, .int .i64 0, .int .i64 0, .int .i64 0]) (t := 36) ?hr ?_; (case hd => rfl); (case hg => rfl); (case hr => first | (go_simp; done) | (go_simp; rfl)); intro gb323 hg w21 hbox hb; replace HO311 := nr HO311 hb; replace HO319 := nr HO319 hb; have BK323 := Aside0.mk (hbox); have GW323 := Aside0.mk ((by rw [hg]; exact (below_size (bs1 HB GE307)) : w.heap.size ≤ gb323)); have GE323 := Aside0.mk ((by rw [hg]; exact (below_size (bs1 HB GE307)) : w.heap.size ≤ gb323)); replace HB := Aside0.mk (below_step (bs1 HB GE307) hb); have NB307_323 := Aside0.mk ((bn BK307 hg : gb307 ≠ gb323)); have NB323_307 := Aside0.mk ((bm BK307 hg : gb323 ≠ gb307)); replace BK307 := nb BK307 hb; clear hb hbox hg; obtain ⟨Ao22, co22, eo22⟩ := Kd.R_slice HO319.out; subst eo22; have hnb23 := NB323_307.out; have hnc23 := NB307_323.out; obtain ⟨hcz24_0, hcz24_1, hcz24_2, hcz24_3⟩ := cz4 BK323; obtain ⟨hfz24_0, hfz24_1, hfz24_2, hfz24_3⟩ := fz4 BK323) | ((with_reducible refine gate_callee (f := 27) rfl ?_); refine gL (some 24) rfl rfl Tryd.func27 (by kernel_rfl) rfl #[.agg #[.slice Ao22 t317.length co22, .int .i64 t320, .int .i64 t321, .int .i64 t322]] rfl ?_; (with_reducible refine (impl_RoomFor.calls k _ _ t317 t320 t321 t322 t324 t325 _ ?sideT ?side1 ?side2 A10.out).mono ?_); (case sideT => refine ⟨Ito.tabB hTab_.out ?_⟩; first | exact bs HB | exact st_below | (repeat (first | (with_reducible first | exact HB.out | apply below_alloc | apply pw_below_drewN | apply below_drew1 | refine below_set ?_ (Aside0.out (by assumption))) | exact HB.out))); (case side1 => exact rc HO319 BK323); (case side2 => exact (Kd.R_reads' HO319.out).2.1); rintro e w25 ⟨rfl, hb⟩; refine ⟨_, rfl, ?_⟩; replace HO311 := nf HO311 BK323 hb; replace HO319 := nf HO319 BK323 hb; replace BK307 := Aside0.mk (blk_below (bf BK307 NB307_323) hb); replace BK323 := Aside0.mk (blk_below (g := gb323) (o := .cells #[.slice Ao22 t317.length co22, .int .i64 t320, .int .i64 t321, .int .i64 t322] 36 (0, 0)) (by (with_reducible repeat (first | refine blk_drewN ?_ _ | refine blk_drew ?_ | refine blk_alloc ?_ _)); refine blk_put (cs := #[.slice Ao22 t317.length co22, .int .i64 t320, .int .i64 t321, .int .i64 0]) ?_ 3 _ rfl; (with_reducible repeat (first | refine blk_drewN ?_ _ | refine blk_drew ?_ | refine blk_alloc ?_ _)); refine blk_put (cs := #[.slice Ao22 t317.length co22, .int .i64 t320, .int .i64 0, .int .i64 0]) ?_ 2 _ rfl; (with_reducible repeat (first | refine blk_drewN ?_ _ | refine blk_drew ?_ | refine blk_alloc ?_ _)); refine blk_put (cs := #[.slice Ao22 t317.length co22, .int .i64 0, .int .i64 0, .int .i64 0]) ?_ 1 _ rfl; (with_reducible repeat (first | refine blk_drewN ?_ _ | refine blk_drew ?_ | refine blk_alloc ?_ _)); refine blk_put (cs := #[.slice none 0 0, .int .i64 0, .int .i64 0, .int .i64 0]) ?_ 0 _ rfl; (with_reducible repeat (first | refine blk_drewN ?_ _ | refine blk_drew ?_ | refine blk_alloc ?_ _)); exact BK323.out) hb); replace HB := Aside0.mk (below_step (bs2 HB GE307 GE323) hb); (try clear hb); (try clear hb2); (try clear hk); (try clear hi)))
  (try simp only [Act.put, List.setIfInBounds_toArray, List.set_cons_zero, List.set_cons_succ])
  go_cut [34] (fun v34 wc => ∃ (kq : Nat) (x34_10 : Bool), v34 = .bool x34_10 ∧ Aside0 (laws_FnExactRoomFor.j0 kq x34_10 l0_0 a0_1 a0_2 a0_3 t317 t320 t321 t322 = some r) ∧ Aside0 (kq ≤ k) ∧ Aside0 (Kd.R k26 26 wc w.heap.size (fun _ => True) (.slice Ao22 t317.length co22) t317) ∧ Aside0 (wc.heap[gb307]? = some (.cells #[(.slice A0_0 l0_0.length c0_0), .int .i64 a0_1, .int .i64 a0_2, .int .i64 a0_3] 31 (0, 0))) ∧ Aside0 (wc.heap[gb323]? = some (.cells #[(.slice Ao22 t317.length co22), .int .i64 t320, .int .i64 t321, .int .i64 t322] 36 (0, 0))) ∧ Aside0 (Below w.heap.size w wc))
  case first =>
   have H := HC11.out
   clear HC11
   by_cases c26 : t324 = t315
   ·
    rw [if_pos c26] at H
    have c26b0 : (t324 == t315) = true := beq_iff_eq.mpr c26
    have c26b1 : (t324 != t315) = false := bne_eq_false_iff_eq.mpr c26
    clear c26
    (first | rw [c26b0] | (simp only [i64_w, i32_w]; rw [c26b0]) | (simp only [c26b2, Bool.not_false, Bool.not_true]) | skip)
    have H' := Aside0.mk H
    clear H
    go_wp2
    go_meet
    case rel => exact ⟨_, ((t325 != t316)), (by first | rfl | (simp; done) | (simp [*]; done)), H', ⟨by first | omega | exact Nat.le_refl _⟩, rm HO319 (fun _ hk => trivial), ⟨bk BK307⟩, ⟨bk BK323⟩, ⟨bs2 HB GE307 GE323⟩⟩
   ·
    rw [if_neg c26] at H
    have c26b0 : (t324 == t315) = false := beq_eq_false_iff_ne.mpr c26
    have c26b1 : (t324 != t315) = true := bne_iff_ne.mpr c26
    (first | rw [c26b0] | (simp only [i64_w, i32_w]; rw [c26b0]) | (simp only [c26b2, Bool.not_false, Bool.not_true]) | skip)
    have H' := Aside0.mk H
    clear H
    go_wp2
    go_meet
    case rel => exact ⟨_, (true), (by first | rfl | (simp; done) | (simp [*]; done)), H', ⟨by first | omega | exact Nat.le_refl _⟩, rm HO319 (fun _ hk => trivial), ⟨bk BK307⟩, ⟨bk BK323⟩, ⟨bs2 HB GE307 GE323⟩⟩
  case rest =>
   clear HC11
   try clear c1
   try clear c2
   try clear p2
   try clear c3
   try clear c3b0
   try clear c6
   try clear c17
   try clear c19
   try clear c23
   try clear c26
   try clear c26b0
   try clear c26b1
   try clear hcz13_0 hcz13_1 hcz13_2 hcz13_3
   try clear hcz15_0 hcz15_1 hcz15_2 hcz15_3
   try clear hcz19_0 hcz19_1 hcz19_2 hcz19_3
   try clear hcz24_0 hcz24_1 hcz24_2 hcz24_3
   try clear hcz5_0 hcz5_1 hcz5_2 hcz5_3
   try clear hfz13_0 hfz13_1 hfz13_2 hfz13_3
   try clear hfz15_0 hfz15_1 hfz15_2 hfz15_3
   try clear hfz19_0 hfz19_1 hfz19_2 hfz19_3
   try clear hfz24_0 hfz24_1 hfz24_2 hfz24_3
   try clear hfz5_0 hfz5_1 hfz5_2 hfz5_3
   obtain ⟨kq, x34_10, rfl, HA, HJ10, HO_324000, BK307, BK323, HB⟩ := hcut
   cases kq with
   | zero => exact absurd HA.out (by simp [laws_FnExactRoomFor.j0])
   | succ kj10 =>
    have H := HA.out
    clear HA
    simp only [laws_FnExactRoomFor.j0] at H
    by_cases c27 : x34_10 = true
    ·
     subst c27
     rw [if_pos rfl] at H
     obtain rfl := Option.some.inj H
     go_wp2
     go_ret
     exact ⟨by first | rfl | (simp [errW_none, errW_some] <;> rfl) | (simp [*, errW_none, errW_some] <;> rfl), bs2 HB GE307 GE323⟩
    ·
     replace c27 := Bool.eq_false_iff.mpr c27
     subst c27
     rw [if_neg (show ¬ (false = true) by decide)] at H
     replace H := Option.bind_eq_some_iff.mp H
     obtain ⟨⟨t326, t329, t330, t331⟩, A280, H⟩ := H
     replace H : ((laws_eqRing.f kj10 t317 t320 t321 t322 t326 t329 t330 t331).bind fun t332 => (if t332 = true then (some true) else (some false))) = some r := H
     have A28 := Aside0.mk A280
     clear A280
     replace H := Option.bind_eq_some_iff.mp H
     obtain ⟨t332, A290, H⟩ := H
     replace H : (if t332 = true then (some true) else (some false)) = some r := H
     have A29 := Aside0.mk A290
     clear A290
     by_cases c30 : t332 = true
     ·
      subst c30
      rw [if_pos rfl] at H
      obtain rfl := Option.some.inj H
      try go_wp2
      have n0_ := Aside0.mk (Kd.R_drew HO_324000.out)
      have n1_ := Aside0.mk (blk_drew BK307.out)
      have n2_ := Aside0.mk (blk_drew BK323.out)
      have n3_ := Aside0.mk (below_drew1 HB.out)
      clear HO_324000
      clear BK307
      clear BK323
      clear HB
      have HO_324000 := n0_
      have BK307 := n1_
      have BK323 := n2_
      have HB := n3_
      clear n0_ n1_ n2_ n3_
      refine start_ (n := 5) (S := fun w' => w'.cell? ⟨gb323, 0, none⟩ = some (.slice Ao22 t317.length co22) ∧ w'.cell? ⟨gb323, 1, none⟩ = some (.int .i64 t320) ∧ w'.cell? ⟨gb323, 2, none⟩ = some (.int .i64 t321) ∧ w'.cell? ⟨gb323, 3, none⟩ = some (.int .i64 t322) ∧ w'.cell? ⟨gb307, 0, none⟩ = some (.slice A0_0 l0_0.length c0_0) ∧ w'.cell? ⟨gb307, 1, none⟩ = some (.int .i64 a0_1) ∧ w'.cell? ⟨gb307, 2, none⟩ = some (.int .i64 a0_2) ∧ w'.cell? ⟨gb307, 3, none⟩ = some (.int .i64 a0_3)) (ds := []) #[false, false, false, false, false] (by kernel_rfl) rfl rfl ⟨(blk_cell BK323.out 0).trans rfl, (blk_cell BK323.out 1).trans rfl, (blk_cell BK323.out 2).trans rfl, (blk_cell BK323.out 3).trans rfl, (blk_cell BK307.out 0).trans rfl, (blk_cell BK307.out 1).trans rfl, (blk_cell BK307.out 2).trans rfl, (blk_cell BK307.out 3).trans rfl⟩ (fun hHeld => ?_)
      generalize wc.drew = w31 at HO_324000 BK307 BK323 HB hHeld ⊢
      refine take_ (i := 0) (N := some 35) (v := ?_) (a' := ?_) #[true, false, false, false, false] rfl rfl (by kernel_rfl) (fun _ _ _ h => h) (Or.inl ⟨by rfl, ?_⟩) hHeld ?_ ?_
      rotate_left
      ·
       rintro w' ⟨s0, s1, s2, s3, s4, s5, s6, s7⟩
       go_simp
       with_reducible rfl
      rotate_left
      ·
       simp only [Act.put, List.setIfInBounds_toArray, List.set_cons_zero, List.set_cons_succ, i64_w, i32_w]
       rfl
      refine take_ (i := 1) (N := some 36) (v := ?_) (a' := ?_) #[true, true, false, false, false] rfl rfl (by kernel_rfl) (fun _ _ _ h => h) (Or.inl ⟨by rfl, ?_⟩) hHeld ?_ ?_
      rotate_left
      ·
       rintro w' ⟨s0, s1, s2, s3, s4, s5, s6, s7⟩
       go_simp
       with_reducible rfl
      rotate_left
      ·
       simp only [Act.put, List.setIfInBounds_toArray, List.set_cons_zero, List.set_cons_succ, i64_w, i32_w]
       rfl
      refine one_ (i := 2) (N := some 37) #[true, true, true, false, false] rfl rfl (by kernel_rfl) (by decide) (fun K hK => ?_)
      refine goes_ Tryd.func19 (by kernel_rfl) rfl #[.agg #[.slice A0_0 l0_0.length c0_0, .int .i64 a0_1, .int .i64 a0_2, .int .i64 a0_3]] (by rfl) rfl rfl (by (try simp only [List.map_toArray, List.map_cons, List.map_nil]); first | done | rfl | (simp only [List.length_drop, List.length_take]; rfl)) ?_
      with_reducible refine (laws_toRing.calls kj10 _ _ l0_0 a0_1 a0_2 a0_3 t326 t329 t330 t331 _ ?side1 ?side2 A28.out).mono ?_
      (case side1 => exact cb HR0_0 HB)
      (case side2 => exact HC0_0.out)
      rintro e w32 ⟨v327, rfl, ho0, hb⟩
      refine ⟨_, rfl, ?_⟩
      have n0_ := Aside0.mk (Kd.R_elder' (rr HO_324000.out) (Kd.R_base ho0) hb)
      have n1_ := Aside0.mk (Kd.R_lower (Kd.R_new' ho0 (Kd.R_lt (rr HO_324000.out))) (below_size (bs2 HB GE307 GE323)))
      have n2_ := Aside0.mk (bb BK307 hb)
      have n3_ := Aside0.mk (bb BK323 hb)
      have n4_ := Aside0.mk (below_step (bs2 HB GE307 GE323) hb)
      clear HO_324000
      clear BK307
      clear BK323
      clear HB
      have HO_324000 := n0_
      have HO328 := n1_
      have BK307 := n2_
      have BK323 := n3_
      have HB := n4_
      clear n0_ n1_ n2_ n3_ n4_
      (try clear hb)
      (try clear hb2)
      (try clear hk)
      (try clear hi)
      (try clear ho0)
      obtain ⟨Ao33, co33, eo33⟩ := Kd.R_slice HO328.out
      (first | subst eo33 | (injection eo33 with f1_ f2_ f3_; have f4_ := f1_.symm; have f5_ := f3_.symm; clear f1_ f2_ f3_; subst f4_; subst f5_))
      refine hK.out _ _ ⟨(blk_cell BK323.out 0).trans rfl, (blk_cell BK323.out 1).trans rfl, (blk_cell BK323.out 2).trans rfl, (blk_cell BK323.out 3).trans rfl, (blk_cell BK307.out 0).trans rfl, (blk_cell BK307.out 1).trans rfl, (blk_cell BK307.out 2).trans rfl, (blk_cell BK307.out 3).trans rfl⟩ (fun hHeld => ?_)
      clear hK K
      refine norm_ (a' := ?_) ?_ ?_
      rotate_left
      ·
       show Act.put _ (some 37) _ = _
       simp only [Act.put, List.setIfInBounds_toArray, List.set_cons_zero, List.set_cons_succ, i64_w, i32_w]
       rfl
      refine one_ (i := 3) (N := some 38) #[true, true, true, true, false] rfl rfl (by kernel_rfl) (by decide) (fun K hK => ?_)
      refine goes_ Tryd.func21 (by kernel_rfl) rfl #[.agg #[.slice Ao22 t317.length co22, .int .i64 t320, .int .i64 t321, .int .i64 t322], .agg #[.slice Ao33 t326.length co33, .int .i64 t329, .int .i64 t330, .int .i64 t331]] (by rfl) rfl rfl (by (try simp only [List.map_toArray, List.map_cons, List.map_nil]); first | done | rfl | (simp only [List.length_drop, List.length_take]; rfl)) ?_
      with_reducible refine (laws_eqRing.calls kj10 _ _ t317 t320 t321 t322 _ _ t326 t329 t330 t331 true _ ?side1 ?side2 ?side3 ?side4 A29.out).mono ?_
      (case side1 => exact rc0 HO_324000)
      (case side2 => exact (Kd.R_reads' HO_324000.out).2.1)
      (case side3 => exact rc0 HO328)
      (case side4 => exact (Kd.R_reads' HO328.out).2.1)
      rintro e w34 ⟨rfl, hb⟩
      refine ⟨_, rfl, ?_⟩
      have n0_ := Aside0.mk (Kd.R_below (rr HO_324000.out) hb)
      have n1_ := Aside0.mk (Kd.R_below (rr HO328.out) hb)
      have n2_ := Aside0.mk (bb BK307 hb)
      have n3_ := Aside0.mk (bb BK323 hb)
      have n4_ := Aside0.mk (below_step (bs2 HB GE307 GE323) hb)
      clear HO_324000
      clear HO328
      clear BK307
      clear BK323
      clear HB
      have HO_324000 := n0_
      have HO328 := n1_
      have BK307 := n2_
      have BK323 := n3_
      have HB := n4_
      clear n0_ n1_ n2_ n3_ n4_
      (try clear hb)
      (try clear hb2)
      (try clear hk)
      (try clear hi)
      refine hK.out _ _ ⟨(blk_cell BK323.out 0).trans rfl, (blk_cell BK323.out 1).trans rfl, (blk_cell BK323.out 2).trans rfl, (blk_cell BK323.out 3).trans rfl, (blk_cell BK307.out 0).trans rfl, (blk_cell BK307.out 1).trans rfl, (blk_cell BK307.out 2).trans rfl, (blk_cell BK307.out 3).trans rfl⟩ (fun hHeld => ?_)
      clear hK K
      refine norm_ (a' := ?_) ?_ ?_
      rotate_left
      ·
       show Act.put _ (some 38) _ = _
       simp only [Act.put, List.setIfInBounds_toArray, List.set_cons_zero, List.set_cons_succ, i64_w, i32_w]
       rfl
      refine pure_ (i := 4) (N := some 39) (v := ?_) (a' := ?_) #[true, true, true, true, true] rfl rfl (by kernel_rfl) (fun _ _ _ h => h) (Or.inl ⟨by rfl, ?_⟩) ?_ ?_
      rotate_left
      ·
       intro w'
       go_simp
       with_reducible rfl
      rotate_left
      ·
       simp only [Act.put, List.setIfInBounds_toArray, List.set_cons_zero, List.set_cons_succ, i64_w, i32_w]
       rfl
      refine done_ (by kernel_rfl) ?_
      try go_wp2
      go_ret
      exact ⟨by first | rfl | (simp [errW_none, errW_some] <;> rfl) | (simp [*, errW_none, errW_some] <;> rfl), bs2 HB GE307 GE323⟩
     ·
      replace c30 := Bool.eq_false_iff.mpr c30
      subst c30
      rw [if_neg (show ¬ (false = true) by decide)] at H
      obtain rfl := Option.some.inj H
      try go_wp2
      have n0_ := Aside0.mk (Kd.R_drew HO_324000.out)
      have n1_ := Aside0.mk (blk_drew BK307.out)
      have n2_ := Aside0.mk (blk_drew BK323.out)
      have n3_ := Aside0.mk (below_drew1 HB.out)
      clear HO_324000
      clear BK307
      clear BK323
      clear HB
      have HO_324000 := n0_
      have BK307 := n1_
      have BK323 := n2_
      have HB := n3_
      clear n0_ n1_ n2_ n3_
      refine start_ (n := 5) (S := fun w' => w'.cell? ⟨gb323, 0, none⟩ = some (.slice Ao22 t317.length co22) ∧ w'.cell? ⟨gb323, 1, none⟩ = some (.int .i64 t320) ∧ w'.cell? ⟨gb323, 2, none⟩ = some (.int .i64 t321) ∧ w'.cell? ⟨gb323, 3, none⟩ = some (.int .i64 t322) ∧ w'.cell? ⟨gb307, 0, none⟩ = some (.slice A0_0 l0_0.length c0_0) ∧ w'.cell? ⟨gb307, 1, none⟩ = some (.int .i64 a0_1) ∧ w'.cell? ⟨gb307, 2, none⟩ = some (.int .i64 a0_2) ∧ w'.cell? ⟨gb307, 3, none⟩ = some (.int .i64 a0_3)) (ds := []) #[false, false, false, false, false] (by kernel_rfl) rfl rfl ⟨(blk_cell BK323.out 0).trans rfl, (blk_cell BK323.out 1).trans rfl, (blk_cell BK323.out 2).trans rfl, (blk_cell BK323.out 3).trans rfl, (blk_cell BK307.out 0).trans rfl, (blk_cell BK307.out 1).trans rfl, (blk_cell BK307.out 2).trans rfl, (blk_cell BK307.out 3).trans rfl⟩ (fun hHeld => ?_)
      generalize wc.drew = w35 at HO_324000 BK307 BK323 HB hHeld ⊢
      refine take_ (i := 0) (N := some 35) (v := ?_) (a' := ?_) #[true, false, false, false, false] rfl rfl (by kernel_rfl) (fun _ _ _ h => h) (Or.inl ⟨by rfl, ?_⟩) hHeld ?_ ?_
      rotate_left
      ·
       rintro w' ⟨s0, s1, s2, s3, s4, s5, s6, s7⟩
       go_simp
       with_reducible rfl
      rotate_left
      ·
       simp only [Act.put, List.setIfInBounds_toArray, List.set_cons_zero, List.set_cons_succ, i64_w, i32_w]
       rfl
      refine take_ (i := 1) (N := some 36) (v := ?_) (a' := ?_) #[true, true, false, false, false] rfl rfl (by kernel_rfl) (fun _ _ _ h => h) (Or.inl ⟨by rfl, ?_⟩) hHeld ?_ ?_
      rotate_left
      ·
       rintro w' ⟨s0, s1, s2, s3, s4, s5, s6, s7⟩
       go_simp
       with_reducible rfl
      rotate_left
      ·
       simp only [Act.put, List.setIfInBounds_toArray, List.set_cons_zero, List.set_cons_succ, i64_w, i32_w]
       rfl
      refine one_ (i := 2) (N := some 37) #[true, true, true, false, false] rfl rfl (by kernel_rfl) (by decide) (fun K hK => ?_)
      refine goes_ Tryd.func19 (by kernel_rfl) rfl #[.agg #[.slice A0_0 l0_0.length c0_0, .int .i64 a0_1, .int .i64 a0_2, .int .i64 a0_3]] (by rfl) rfl rfl (by (try simp only [List.map_toArray, List.map_cons, List.map_nil]); first | done | rfl | (simp only [List.length_drop, List.length_take]; rfl)) ?_
      with_reducible refine (laws_toRing.calls kj10 _ _ l0_0 a0_1 a0_2 a0_3 t326 t329 t330 t331 _ ?side1 ?side2 A28.out).mono ?_
      (case side1 => exact cb HR0_0 HB)
      (case side2 => exact HC0_0.out)
      rintro e w36 ⟨v327, rfl, ho0, hb⟩
      refine ⟨_, rfl, ?_⟩
      have n0_ := Aside0.mk (Kd.R_elder' (rr HO_324000.out) (Kd.R_base ho0) hb)
      have n1_ := Aside0.mk (Kd.R_lower (Kd.R_new' ho0 (Kd.R_lt (rr HO_324000.out))) (below_size (bs2 HB GE307 GE323)))
      have n2_ := Aside0.mk (bb BK307 hb)
      have n3_ := Aside0.mk (bb BK323 hb)
      have n4_ := Aside0.mk (below_step (bs2 HB GE307 GE323) hb)
      clear HO_324000
      clear BK307
      clear BK323
      clear HB
      have HO_324000 := n0_
      have HO328 := n1_
      have BK307 := n2_
      have BK323 := n3_
      have HB := n4_
      clear n0_ n1_ n2_ n3_ n4_
      (try clear hb)
      (try clear hb2)
      (try clear hk)
      (try clear hi)
      (try clear ho0)
      obtain ⟨Ao37, co37, eo37⟩ := Kd.R_slice HO328.out
      (first | subst eo37 | (injection eo37 with f1_ f2_ f3_; have f4_ := f1_.symm; have f5_ := f3_.symm; clear f1_ f2_ f3_; subst f4_; subst f5_))
      refine hK.out _ _ ⟨(blk_cell BK323.out 0).trans rfl, (blk_cell BK323.out 1).trans rfl, (blk_cell BK323.out 2).trans rfl, (blk_cell BK323.out 3).trans rfl, (blk_cell BK307.out 0).trans rfl, (blk_cell BK307.out 1).trans rfl, (blk_cell BK307.out 2).trans rfl, (blk_cell BK307.out 3).trans rfl⟩ (fun hHeld => ?_)
      clear hK K
      refine norm_ (a' := ?_) ?_ ?_
      rotate_left
      ·
       show Act.put _ (some 37) _ = _
       simp only [Act.put, List.setIfInBounds_toArray, List.set_cons_zero, List.set_cons_succ, i64_w, i32_w]
       rfl
      refine one_ (i := 3) (N := some 38) #[true, true, true, true, false] rfl rfl (by kernel_rfl) (by decide) (fun K hK => ?_)
      refine goes_ Tryd.func21 (by kernel_rfl) rfl #[.agg #[.slice Ao22 t317.length co22, .int .i64 t320, .int .i64 t321, .int .i64 t322], .agg #[.slice Ao37 t326.length co37, .int .i64 t329, .int .i64 t330, .int .i64 t331]] (by rfl) rfl rfl (by (try simp only [List.map_toArray, List.map_cons, List.map_nil]); first | done | rfl | (simp only [List.length_drop, List.length_take]; rfl)) ?_
      with_reducible refine (laws_eqRing.calls kj10 _ _ t317 t320 t321 t322 _ _ t326 t329 t330 t331 false _ ?side1 ?side2 ?side3 ?side4 A29.out).mono ?_
      (case side1 => exact rc0 HO_324000)
      (case side2 => exact (Kd.R_reads' HO_324000.out).2.1)
      (case side3 => exact rc0 HO328)
      (case side4 => exact (Kd.R_reads' HO328.out).2.1)
      rintro e w38 ⟨rfl, hb⟩
      refine ⟨_, rfl, ?_⟩
      have n0_ := Aside0.mk (Kd.R_below (rr HO_324000.out) hb)
      have n1_ := Aside0.mk (Kd.R_below (rr HO328.out) hb)
      have n2_ := Aside0.mk (bb BK307 hb)
      have n3_ := Aside0.mk (bb BK323 hb)
      have n4_ := Aside0.mk (below_step (bs2 HB GE307 GE323) hb)
      clear HO_324000
      clear HO328
      clear BK307
      clear BK323
      clear HB
      have HO_324000 := n0_
      have HO328 := n1_
      have BK307 := n2_
      have BK323 := n3_
      have HB := n4_
      clear n0_ n1_ n2_ n3_ n4_
      (try clear hb)
      (try clear hb2)
      (try clear hk)
      (try clear hi)
      refine hK.out _ _ ⟨(blk_cell BK323.out 0).trans rfl, (blk_cell BK323.out 1).trans rfl, (blk_cell BK323.out 2).trans rfl, (blk_cell BK323.out 3).trans rfl, (blk_cell BK307.out 0).trans rfl, (blk_cell BK307.out 1).trans rfl, (blk_cell BK307.out 2).trans rfl, (blk_cell BK307.out 3).trans rfl⟩ (fun hHeld => ?_)
      clear hK K
      refine norm_ (a' := ?_) ?_ ?_
      rotate_left
      ·
       show Act.put _ (some 38) _ = _
       simp only [Act.put, List.setIfInBounds_toArray, List.set_cons_zero, List.set_cons_succ, i64_w, i32_w]
       rfl
      refine pure_ (i := 4) (N := some 39) (v := ?_) (a' := ?_) #[true, true, true, true, true] rfl rfl (by kernel_rfl) (fun _ _ _ h => h) (Or.inl ⟨by rfl, ?_⟩) ?_ ?_
      rotate_left
      ·
       intro w'
       go_simp
       with_reducible rfl
      rotate_left
      ·
       simp only [Act.put, List.setIfInBounds_toArray, List.set_cons_zero, List.set_cons_succ, i64_w, i32_w]
       rfl
      refine done_ (by kernel_rfl) ?_
      try go_wp2
      go_ret
      exact ⟨by first | rfl | (simp [errW_none, errW_some] <;> rfl) | (simp [*, errW_none, errW_some] <;> rfl), bs2 HB GE307 GE323⟩

/-- THE ONE PURE STATEMENT of laws_FnExactRoomFor. -/
def laws_FnExactRoomFor.Pure : Prop := ∀ (l0_0 : List (S23)) (a0_1 : Int) (a0_2 : Int) (a0_3 : Int), ok31 (⟨l0_0, a0_1, a0_2, a0_3⟩ : S31) → ∃ k, laws_FnExactRoomFor.f k l0_0 a0_1 a0_2 a0_3 = some true

end Go.Proofs.YthlifcbkpafofaaDoor.G
