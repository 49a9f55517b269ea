-- Printed by a program of this session (drive.py, by way of the kit's print). Not trusted: Lean checks it.
import Derived.Test.YtojdlcbmbpgplaaG0
import Derived.Test.YtojdlcbmbpgplaaG3
import Derived.Test.YtojdlcbmbpgplaaG5
import Derived.Test.YtojdlcbmbpgplaaG7
import Derived.Test.YtojdlcbmbpgplaaG9
import Derived.Test.YtojdlcbmbpgplaaG10
import Derived.Test.YtojdlcbmbpgplaaG21
namespace Go.Proofs.Ytojdlcbmbpgplaa.G
open Go.RowKit Go.Proofs.YtojdlcbmbpgplaaW.PrintWords Go.Proofs.YtojdlcbmbpgplaaW.PrintLast Go.Proofs.YtojdlcbmbpgplaaW.PrintMore
attribute [local go_sem] max2_int min2_int max_two min_two max_three min_three max_four min_four   -- for this text's walks alone
set_option linter.unusedVariables false
set_option linter.unusedSimpArgs false

/-! ### laws_FnExactHolesOf: function 6 -/
mutual
def laws_FnExactHolesOf.j0 : Nat → Int → List (S61) → Bool → List (S61) → Bool → Bool → List (S45) → List (S48) → Option (Bool)
 | 0, _, _, _, _, _, _, _, _ => none
 | k + 1, x1, x6, x7, x9, x10, x44, x310000, x322000 => if x44 = true then (some false) else ((laws_toFileMap.f k x310000).bind fun t327 => ((laws_eqFileMap.f k x322000 t327).bind fun t330 => (if t330 = true then ((laws_markFileMap.f k x322000 1).bind fun bt331 => (if bt331.1 < 0 then (laws_FnExactHolesOf.j1 k x1 x6 x7 x9 true x310000) else ((laws_eqExtentS.f k x9 x6).bind fun t333 => (if t333 = true then (laws_FnExactHolesOf.j1 k x1 x6 x7 x9 (x10 != x7) x310000) else (laws_FnExactHolesOf.j1 k x1 x6 x7 x9 true x310000))))) else (some false))))
def laws_FnExactHolesOf.j1 : Nat → Int → List (S61) → Bool → List (S61) → Bool → List (S45) → Option (Bool)
 | 0, _, _, _, _, _, _ => none
 | k + 1, x1, x6, x7, x9, x65, x310000 => if x65 = true then (some false) else ((laws_markExtentS.f k x9 1).bind fun bt334 => ((laws_heldExtentS.f k bt334.2 1).bind fun t336 => (if t336 < 0 then (some false) else (if t336 = bt334.1 then ((laws_toFileMap.f k x310000).bind fun t337 => ((impl_HolesOf.f k t337 x1).bind fun bt340 => ((laws_eqExtentS.f k bt340.1 x6).bind fun t344 => (if t344 = true then (laws_FnExactHolesOf.j2 k bt334.2 bt334.1 (bt340.2 != x7)) else (laws_FnExactHolesOf.j2 k bt334.2 bt334.1 true))))) else (some false)))))
def laws_FnExactHolesOf.j2 : Nat → List (S61) → Int → Bool → Option (Bool)
 | 0, _, _, _ => none
 | k + 1, x9, x12, x92 => if x92 = true then (some false) else ((laws_heldExtentS.f k x9 1).bind fun t345 => (if t345 < 0 then (some false) else (if t345 = x12 then (some true) else (some false))))
end
def laws_FnExactHolesOf.f (k : Nat) (l0_0 : List (S45)) (a1 : Int) : Option (Bool) := (laws_szFileMap.f l0_0 1048576).bind fun t310 => (if t310 < 0 then (some true) else ((laws_toFileMap.f k l0_0).bind fun t311 => ((spec_HolesOf.f k t311 a1).bind fun bt314 => ((laws_toFileMap.f k l0_0).bind fun t318 => ((impl_HolesOf.f k t318 a1).bind fun bt322 => ((laws_eqExtentS.f k bt322.1 bt314.1).bind fun t326 => (if t326 = true then (laws_FnExactHolesOf.j0 k a1 bt314.1 bt314.2 bt322.1 bt322.2 (bt322.2 != bt314.2) l0_0 t318) else (laws_FnExactHolesOf.j0 k a1 bt314.1 bt314.2 bt322.1 bt322.2 true l0_0 t318))))))))
theorem laws_FnExactHolesOf.mono_l : ∀ k, (∀ y0 y1 y2 y3 y4 y5 y6 y7, LeO (laws_FnExactHolesOf.j0 k y0 y1 y2 y3 y4 y5 y6 y7) (laws_FnExactHolesOf.j0 (k + 1) y0 y1 y2 y3 y4 y5 y6 y7)) ∧ (∀ y0 y1 y2 y3 y4 y5, LeO (laws_FnExactHolesOf.j1 k y0 y1 y2 y3 y4 y5) (laws_FnExactHolesOf.j1 (k + 1) y0 y1 y2 y3 y4 y5)) ∧ (∀ y0 y1 y2, LeO (laws_FnExactHolesOf.j2 k y0 y1 y2) (laws_FnExactHolesOf.j2 (k + 1) y0 y1 y2))
 | 0 => ⟨fun _ _ _ _ _ _ _ _ r h => by simp [laws_FnExactHolesOf.j0] at h, fun _ _ _ _ _ _ r h => by simp [laws_FnExactHolesOf.j1] at h, fun _ _ _ r h => by simp [laws_FnExactHolesOf.j2] at h⟩
 | k + 1 => by
  obtain ⟨ih0, ih1, ih2⟩ := laws_FnExactHolesOf.mono_l k
  refine ⟨?_, ?_, ?_⟩
  ·
   intro y0 y1 y2 y3 y4 y5 y6 y7
   unfold laws_FnExactHolesOf.j0
   repeat' first
   | (with_reducible exact ih0 _ _ _ _ _ _ _ _)
   | (with_reducible exact ih1 _ _ _ _ _ _)
   | (with_reducible exact ih2 _ _ _)
   | (with_reducible exact impl_HolesOf.mono _ _ _)
   | (with_reducible exact laws_eqExtentS.mono _ _ _)
   | (with_reducible exact laws_eqFileMap.mono _ _ _)
   | (with_reducible exact laws_heldExtentS.mono _ _ _)
   | (with_reducible exact laws_markExtentS.mono _ _ _)
   | (with_reducible exact laws_markFileMap.mono _ _ _)
   | (with_reducible exact laws_toFileMap.mono _ _)
   | (with_reducible exact spec_HolesOf.mono _ _ _)
   | (with_reducible exact LeO.refl _)
   | (with_reducible exact LeO.none _)
   | (with_reducible refine LeO.ite ?_ ?_)
   | (with_reducible refine LeO.bind ?_ (fun _ => ?_))
   | exact ih0 _ _ _ _ _ _ _ _
   | exact ih1 _ _ _ _ _ _
   | exact ih2 _ _ _
   | exact impl_HolesOf.mono _ _ _
   | exact laws_eqExtentS.mono _ _ _
   | exact laws_eqFileMap.mono _ _ _
   | exact laws_heldExtentS.mono _ _ _
   | exact laws_markExtentS.mono _ _ _
   | exact laws_markFileMap.mono _ _ _
   | exact laws_toFileMap.mono _ _
   | exact spec_HolesOf.mono _ _ _
   | exact LeO.none _
   | refine LeO.ite ?_ ?_
   | refine LeO.bind ?_ (fun _ => ?_)
  ·
   intro y0 y1 y2 y3 y4 y5
   unfold laws_FnExactHolesOf.j1
   repeat' first
   | (with_reducible exact ih0 _ _ _ _ _ _ _ _)
   | (with_reducible exact ih1 _ _ _ _ _ _)
   | (with_reducible exact ih2 _ _ _)
   | (with_reducible exact impl_HolesOf.mono _ _ _)
   | (with_reducible exact laws_eqExtentS.mono _ _ _)
   | (with_reducible exact laws_eqFileMap.mono _ _ _)
   | (with_reducible exact laws_heldExtentS.mono _ _ _)
   | (with_reducible exact laws_markExtentS.mono _ _ _)
   | (with_reducible exact laws_markFileMap.mono _ _ _)
   | (with_reducible exact laws_toFileMap.mono _ _)
   | (with_reducible exact spec_HolesOf.mono _ _ _)
   | (with_reducible exact LeO.refl _)
   | (with_reducible exact LeO.none _)
   | (with_reducible refine LeO.ite ?_ ?_)
   | (with_reducible refine LeO.bind ?_ (fun _ => ?_))
   | exact ih0 _ _ _ _ _ _ _ _
   | exact ih1 _ _ _ _ _ _
   | exact ih2 _ _ _
   | exact impl_HolesOf.mono _ _ _
   | exact laws_eqExtentS.mono _ _ _
   | exact laws_eqFileMap.mono _ _ _
   | exact laws_heldExtentS.mono _ _ _
   | exact laws_markExtentS.mono _ _ _
   | exact laws_markFileMap.mono _ _ _
   | exact laws_toFileMap.mono _ _
   | exact spec_HolesOf.mono _ _ _
   | exact LeO.none _
   | refine LeO.ite ?_ ?_
   | refine LeO.bind ?_ (fun _ => ?_)
  ·
   intro y0 y1 y2
   unfold laws_FnExactHolesOf.j2
   repeat' first
   | (with_reducible exact ih0 _ _ _ _ _ _ _ _)
   | (with_reducible exact ih1 _ _ _ _ _ _)
   | (with_reducible exact ih2 _ _ _)
   | (with_reducible exact impl_HolesOf.mono _ _ _)
   | (with_reducible exact laws_eqExtentS.mono _ _ _)
   | (with_reducible exact laws_eqFileMap.mono _ _ _)
   | (with_reducible exact laws_heldExtentS.mono _ _ _)
   | (with_reducible exact laws_markExtentS.mono _ _ _)
   | (with_reducible exact laws_markFileMap.mono _ _ _)
   | (with_reducible exact laws_toFileMap.mono _ _)
   | (with_reducible exact spec_HolesOf.mono _ _ _)
   | (with_reducible exact LeO.refl _)
   | (with_reducible exact LeO.none _)
   | (with_reducible refine LeO.ite ?_ ?_)
   | (with_reducible refine LeO.bind ?_ (fun _ => ?_))
   | exact ih0 _ _ _ _ _ _ _ _
   | exact ih1 _ _ _ _ _ _
   | exact ih2 _ _ _
   | exact impl_HolesOf.mono _ _ _
   | exact laws_eqExtentS.mono _ _ _
   | exact laws_eqFileMap.mono _ _ _
   | exact laws_heldExtentS.mono _ _ _
   | exact laws_markExtentS.mono _ _ _
   | exact laws_markFileMap.mono _ _ _
   | exact laws_toFileMap.mono _ _
   | exact spec_HolesOf.mono _ _ _
   | exact LeO.none _
   | refine LeO.ite ?_ ?_
   | refine LeO.bind ?_ (fun _ => ?_)
theorem laws_FnExactHolesOf.mono : ∀ a0 a1 k, LeO (laws_FnExactHolesOf.f k a0 a1) (laws_FnExactHolesOf.f (k + 1) a0 a1) := by
 intro a0 a1 k
 obtain ⟨ih0, ih1, ih2⟩ := laws_FnExactHolesOf.mono_l k
 unfold laws_FnExactHolesOf.f
 repeat' first
   | (with_reducible exact ih0 _ _ _ _ _ _ _ _)
   | (with_reducible exact ih1 _ _ _ _ _ _)
   | (with_reducible exact ih2 _ _ _)
   | (with_reducible exact impl_HolesOf.mono _ _ _)
   | (with_reducible exact laws_eqExtentS.mono _ _ _)
   | (with_reducible exact laws_eqFileMap.mono _ _ _)
   | (with_reducible exact laws_heldExtentS.mono _ _ _)
   | (with_reducible exact laws_markExtentS.mono _ _ _)
   | (with_reducible exact laws_markFileMap.mono _ _ _)
   | (with_reducible exact laws_toFileMap.mono _ _)
   | (with_reducible exact spec_HolesOf.mono _ _ _)
   | (with_reducible exact LeO.refl _)
   | (with_reducible exact LeO.none _)
   | (with_reducible refine LeO.ite ?_ ?_)
   | (with_reducible refine LeO.bind ?_ (fun _ => ?_))
   | exact ih0 _ _ _ _ _ _ _ _
   | exact ih1 _ _ _ _ _ _
   | exact ih2 _ _ _
   | exact impl_HolesOf.mono _ _ _
   | exact laws_eqExtentS.mono _ _ _
   | exact laws_eqFileMap.mono _ _ _
   | exact laws_heldExtentS.mono _ _ _
   | exact laws_markExtentS.mono _ _ _
   | exact laws_markFileMap.mono _ _ _
   | exact laws_toFileMap.mono _ _
   | exact spec_HolesOf.mono _ _ _
   | exact LeO.none _
   | refine LeO.ite ?_ ?_
   | refine LeO.bind ?_ (fun _ => ?_)
set_option maxHeartbeats 8000000 in
set_option maxRecDepth 100000 in
theorem laws_FnExactHolesOf.calls (k : Nat) (A0_0 : Option Addr) (c0_0 : Nat) (l0_0 : List (S45)) (a1 : Int) (r : Bool) (w : World) (hr0_0 : Kd.C k45 w A0_0 l0_0.length l0_0) (hc0_0 : l0_0.length ≤ c0_0) (h : laws_FnExactHolesOf.f k l0_0 a1 = some r) :
  Calls Try.prog 6 #[.agg #[.slice A0_0 l0_0.length c0_0], .int .i64 a1] w fun e w' => e = .returned (.bool r) ∧ Below w.heap.size w w' := by
 have hu24 := Try.underlying24
 have hu29 := Try.underlying29
 have HR0_0 := Aside0.mk hr0_0
 have HC0_0 := Aside0.mk hc0_0
 clear hr0_0 hc0_0
 have HB := Aside0.mk (Below.refl w.heap.size w)
 have H : ((laws_szFileMap.f l0_0 1048576).bind fun t310 => (if t310 < 0 then (some true) else ((laws_toFileMap.f k l0_0).bind fun t311 => ((spec_HolesOf.f k t311 a1).bind fun bt314 => ((laws_toFileMap.f k l0_0).bind fun t318 => ((impl_HolesOf.f k t318 a1).bind fun bt322 => ((laws_eqExtentS.f k bt322.1 bt314.1).bind fun t326 => (if t326 = true then (laws_FnExactHolesOf.j0 k a1 bt314.1 bt314.2 bt322.1 bt322.2 (bt322.2 != bt314.2) l0_0 t318) else (laws_FnExactHolesOf.j0 k a1 bt314.1 bt314.2 bt322.1 bt322.2 true l0_0 t318))))))))) = some r := h
 clear h
 replace H := Option.bind_eq_some_iff.mp H
 obtain ⟨t310, A30, H⟩ := H
 replace H : (if t310 < 0 then (some true) else ((laws_toFileMap.f k l0_0).bind fun t311 => ((spec_HolesOf.f k t311 a1).bind fun bt314 => ((laws_toFileMap.f k l0_0).bind fun t318 => ((impl_HolesOf.f k t318 a1).bind fun bt322 => ((laws_eqExtentS.f k bt322.1 bt314.1).bind fun t326 => (if t326 = true then (laws_FnExactHolesOf.j0 k a1 bt314.1 bt314.2 bt322.1 bt322.2 (bt322.2 != bt314.2) l0_0 t318) else (laws_FnExactHolesOf.j0 k a1 bt314.1 bt314.2 bt322.1 bt322.2 true l0_0 t318)))))))) = some r := H
 have A3 := Aside0.mk A30
 clear A30
 by_cases c4 : t310 < 0
 ·
  rw [if_pos c4] at H
  have c4b0 : decide (t310 < 0) = true := decide_eq_true c4
  clear c4
  obtain rfl := Option.some.inj H
  go_enter Try.func6, Try.ntmps6
  go_wp2_with (first | ((with_reducible refine gate_dst (N := 2) rfl ?_); refine box_event ?hg (N := 2) ?hd (cs := #[.slice A0_0 l0_0.length c0_0]) (t := 24) ?hr ?_; (case hd => rfl); (case hg => rfl); (case hr => first | (go_simp; done) | (go_simp; rfl)); intro gb309 hg w5 hbox hb; have n0_ := Aside0.mk (below_step (bs HB) hb); have n1_ := Aside0.mk (hbox); have n2_ := Aside0.mk ((by rw [hg]; exact (below_size (bs HB)) : w.heap.size ≤ gb309)); have n3_ := Aside0.mk ((by rw [hg]; exact (below_size (bs HB)) : w.heap.size ≤ gb309)); clear HB; have HB := n0_; have BK309 := n1_; have GW309 := n2_; have GE309 := n3_; clear n0_ n1_ n2_ n3_; clear hb hbox hg; have hcz6_0 : w5.cell? ⟨gb309, 0, none⟩ = some (.slice A0_0 l0_0.length c0_0) := (blk_cell BK309.out 0).trans rfl; have hfz6_0 := blk_frozen BK309.out 0) | ((with_reducible refine gate_callee (f := 14) rfl ?_); refine goesL_ (some 18) rfl rfl Try.func14 (by kernel_rfl) rfl #[.agg #[.slice A0_0 l0_0.length c0_0], .int .i64 1048576] rfl (by (try simp only [List.map_toArray, List.map_cons, List.map_nil]); first | done | rfl | (simp only [List.length_drop, List.length_take]; rfl)) ?_; (with_reducible refine (laws_szFileMap.calls _ _ l0_0 1048576 t310 _ ?side1 ?side2 A3.out).mono ?_); (case side1 => exact cb HR0_0 HB); (case side2 => exact HC0_0.out); rintro e w7 ⟨rfl, hb⟩; refine ⟨_, rfl, ?_⟩; have n0_ := Aside0.mk (bb BK309 hb); have n1_ := Aside0.mk (below_step (bs1 HB GE309) hb); clear BK309; clear HB; have BK309 := n0_; have HB := n1_; clear n0_ n1_; (try clear hb); (try clear hb2); (try clear hk); (try clear hi)))
  go_ret
  exact ⟨by first | rfl | (simp [errW_none, errW_some] <;> rfl) | (simp [*, errW_none, errW_some] <;> rfl), bs1 HB GE309⟩
 ·
  rw [if_neg c4] at H
  have c4b0 : decide (t310 < 0) = false := decide_eq_false c4
  clear c4
  replace H := Option.bind_eq_some_iff.mp H
  obtain ⟨t311, A80, H⟩ := H
  replace H : ((spec_HolesOf.f k t311 a1).bind fun bt314 => ((laws_toFileMap.f k l0_0).bind fun t318 => ((impl_HolesOf.f k t318 a1).bind fun bt322 => ((laws_eqExtentS.f k bt322.1 bt314.1).bind fun t326 => (if t326 = true then (laws_FnExactHolesOf.j0 k a1 bt314.1 bt314.2 bt322.1 bt322.2 (bt322.2 != bt314.2) l0_0 t318) else (laws_FnExactHolesOf.j0 k a1 bt314.1 bt314.2 bt322.1 bt322.2 true l0_0 t318)))))) = some r := H
  have A8 := Aside0.mk A80
  clear A80
  replace H := Option.bind_eq_some_iff.mp H
  obtain ⟨⟨t314, t317⟩, A90, H⟩ := H
  replace H : ((laws_toFileMap.f k l0_0).bind fun t318 => ((impl_HolesOf.f k t318 a1).bind fun bt322 => ((laws_eqExtentS.f k bt322.1 t314).bind fun t326 => (if t326 = true then (laws_FnExactHolesOf.j0 k a1 t314 t317 bt322.1 bt322.2 (bt322.2 != t317) l0_0 t318) else (laws_FnExactHolesOf.j0 k a1 t314 t317 bt322.1 bt322.2 true l0_0 t318))))) = some r := H
  have A9 := Aside0.mk A90
  clear A90
  replace H := Option.bind_eq_some_iff.mp H
  obtain ⟨t318, A100, H⟩ := H
  replace H : ((impl_HolesOf.f k t318 a1).bind fun bt322 => ((laws_eqExtentS.f k bt322.1 t314).bind fun t326 => (if t326 = true then (laws_FnExactHolesOf.j0 k a1 t314 t317 bt322.1 bt322.2 (bt322.2 != t317) l0_0 t318) else (laws_FnExactHolesOf.j0 k a1 t314 t317 bt322.1 bt322.2 true l0_0 t318)))) = some r := H
  have A10 := Aside0.mk A100
  clear A100
  replace H := Option.bind_eq_some_iff.mp H
  obtain ⟨⟨t322, t325⟩, A110, H⟩ := H
  replace H : ((laws_eqExtentS.f k t322 t314).bind fun t326 => (if t326 = true then (laws_FnExactHolesOf.j0 k a1 t314 t317 t322 t325 (t325 != t317) l0_0 t318) else (laws_FnExactHolesOf.j0 k a1 t314 t317 t322 t325 true l0_0 t318))) = some r := H
  have A11 := Aside0.mk A110
  clear A110
  have HC12 := Aside0.mk H
  clear H
  go_enter Try.func6, Try.ntmps6
  go_upto_region 8 with (first | ((with_reducible refine gate_dst (N := 2) rfl ?_); refine box_event ?hg (N := 2) ?hd (cs := #[.slice A0_0 l0_0.length c0_0]) (t := 24) ?hr ?_; (case hd => rfl); (case hg => rfl); (case hr => first | (go_simp; done) | (go_simp; rfl)); intro gb309 hg w13 hbox hb; have n0_ := Aside0.mk (below_step (bs HB) hb); have n1_ := Aside0.mk (hbox); have n2_ := Aside0.mk ((by rw [hg]; exact (below_size (bs HB)) : w.heap.size ≤ gb309)); have n3_ := Aside0.mk ((by rw [hg]; exact (below_size (bs HB)) : w.heap.size ≤ gb309)); clear HB; have HB := n0_; have BK309 := n1_; have GW309 := n2_; have GE309 := n3_; clear n0_ n1_ n2_ n3_; clear hb hbox hg; have hcz14_0 : w13.cell? ⟨gb309, 0, none⟩ = some (.slice A0_0 l0_0.length c0_0) := (blk_cell BK309.out 0).trans rfl; have hfz14_0 := blk_frozen BK309.out 0) | ((with_reducible refine gate_callee (f := 14) rfl ?_); refine goesL_ (some 18) rfl rfl Try.func14 (by kernel_rfl) rfl #[.agg #[.slice A0_0 l0_0.length c0_0], .int .i64 1048576] rfl (by (try simp only [List.map_toArray, List.map_cons, List.map_nil]); first | done | rfl | (simp only [List.length_drop, List.length_take]; rfl)) ?_; (with_reducible refine (laws_szFileMap.calls _ _ l0_0 1048576 t310 _ ?side1 ?side2 A3.out).mono ?_); (case side1 => exact cb HR0_0 HB); (case side2 => exact HC0_0.out); rintro e w15 ⟨rfl, hb⟩; refine ⟨_, rfl, ?_⟩; have n0_ := Aside0.mk (bb BK309 hb); have n1_ := Aside0.mk (below_step (bs1 HB GE309) hb); clear BK309; clear HB; have BK309 := n0_; have HB := n1_; clear n0_ n1_; (try clear hb); (try clear hb2); (try clear hk); (try clear hi); have hcz16_0 : w15.cell? ⟨gb309, 0, none⟩ = some (.slice A0_0 l0_0.length c0_0) := (blk_cell BK309.out 0).trans rfl; have hfz16_0 := blk_frozen BK309.out 0) | ((with_reducible refine gate_callee (f := 16) rfl ?_); refine goesL_ (some 23) rfl rfl Try.func16 (by kernel_rfl) rfl #[.agg #[.slice A0_0 l0_0.length c0_0]] rfl (by (try simp only [List.map_toArray, List.map_cons, List.map_nil]); first | done | rfl | (simp only [List.length_drop, List.length_take]; rfl)) ?_; (with_reducible refine (laws_toFileMap.calls k _ _ l0_0 t311 _ ?side1 ?side2 A8.out).mono ?_); (case side1 => exact cb HR0_0 HB); (case side2 => exact HC0_0.out); rintro e w17 ⟨v312, rfl, ho0, hb⟩; refine ⟨_, rfl, ?_⟩; have n0_ := Aside0.mk (Kd.R_lower ho0 (below_size (bs1 HB GE309))); have n1_ := Aside0.mk (bb BK309 hb); have n2_ := Aside0.mk (below_step (bs1 HB GE309) hb); clear BK309; clear HB; have HO313 := n0_; have BK309 := n1_; have HB := n2_; clear n0_ n1_ n2_; (try clear hb); (try clear hb2); (try clear hk); (try clear hi); (try clear ho0); obtain ⟨Ao18, co18, eo18⟩ := Kd.R_slice HO313.out; subst eo18) | ((with_reducible refine gate_callee (f := 23) rfl ?_); refine goesL_ (some 25) rfl rfl Try.func23 (by kernel_rfl) rfl #[.agg #[.slice Ao18 t311.length co18], .int .i64 a1] rfl (by (try simp only [List.map_toArray, List.map_cons, List.map_nil]); first | done | rfl | (simp only [List.length_drop, List.length_take]; rfl)) ?_; (with_reducible refine (spec_HolesOf.calls k _ _ t311 a1 t314 t317 _ ?side1 ?side2 A9.out).mono ?_); (case side1 => exact rc0 HO313); (case side2 => exact (Kd.R_reads' HO313.out).2.1); rintro e w19 ⟨v315, rfl, ho0, hb⟩; refine ⟨_, rfl, ?_⟩; have n0_ := Aside0.mk (Kd.R_below (rr HO313.out) hb); have n1_ := Aside0.mk (Kd.R_lower ho0 (below_size (bs1 HB GE309))); have n2_ := Aside0.mk (bb BK309 hb); have n3_ := Aside0.mk (below_step (bs1 HB GE309) hb); clear HO313; clear BK309; clear HB; have HO313 := n0_; have HO316 := n1_; have BK309 := n2_; have HB := n3_; clear n0_ n1_ n2_ n3_; (try clear hb); (try clear hb2); (try clear hk); (try clear hi); (try clear ho0); have hcz20_0 : w19.cell? ⟨gb309, 0, none⟩ = some (.slice A0_0 l0_0.length c0_0) := (blk_cell BK309.out 0).trans rfl; have hfz20_0 := blk_frozen BK309.out 0) | ((with_reducible refine gate_callee (f := 16) rfl ?_); refine goesL_ (some 29) rfl rfl Try.func16 (by kernel_rfl) rfl #[.agg #[.slice A0_0 l0_0.length c0_0]] rfl (by (try simp only [List.map_toArray, List.map_cons, List.map_nil]); first | done | rfl | (simp only [List.length_drop, List.length_take]; rfl)) ?_; (with_reducible refine (laws_toFileMap.calls k _ _ l0_0 t318 _ ?side1 ?side2 A10.out).mono ?_); (case side1 => exact cb HR0_0 HB); (case side2 => exact HC0_0.out); rintro e w21 ⟨v319, rfl, ho0, hb⟩; refine ⟨_, rfl, ?_⟩; have n0_ := Aside0.mk (Kd.R_elder' (rr HO313.out) (Kd.R_base ho0) hb); have n1_ := Aside0.mk (Kd.R_below (rr HO316.out) hb); have n2_ := Aside0.mk (Kd.R_lower (Kd.R_new' ho0 (Kd.R_lt (rr HO313.out))) (below_size (bs1 HB GE309))); have n3_ := Aside0.mk (bb BK309 hb); have n4_ := Aside0.mk (below_step (bs1 HB GE309) hb); clear HO313; clear HO316; clear BK309; clear HB; have HO313 := n0_; have HO316 := n1_; have HO320 := n2_; have BK309 := n3_; have HB := n4_; clear n0_ n1_ n2_ n3_ n4_; (try clear hb); (try clear hb2); (try clear hk); (try clear hi); (try clear ho0)) | ((with_reducible refine gate_dst (N := 8) rfl ?_); refine box_event ?hg (N := 8) ?hd (cs := #[.slice none 0 0]) (t := 29) ?hr ?_; (case hd => rfl); (case hg => rfl); (case hr => first | (go_simp; done) | (go_simp; rfl)); intro gb321 hg w22 hbox hb; have n0_ := Aside0.mk (Kd.R_below (rr HO313.out) hb); have n1_ := Aside0.mk (Kd.R_below (rr HO316.out) hb); have n2_ := Aside0.mk (Kd.R_below (rr HO320.out) hb); have n3_ := Aside0.mk (bb BK309 hb); have n4_ := Aside0.mk (below_step (bs1 HB GE309) hb); have n5_ := Aside0.mk (hbox); have n6_ := Aside0.mk ((by rw [hg]; exact (below_size (bs1 HB GE309)) : w.heap.size ≤ gb321)); have n7_ := Aside0.mk ((by rw [hg]; exact (below_size (bs1 HB GE309)) : w.heap.size ≤ gb321)); have n8_ := Aside0.mk ((bn BK309 hg : gb309 ≠ gb321)); have n9_ := Aside0.mk ((bm BK309 hg : gb321 ≠ gb309)); clear HO313; clear HO316; clear HO320; clear BK309; clear HB; have HO313 := n0_; have HO316 := n1_; have HO320 := n2_; have BK309 := n3_; have HB := n4_; have BK321 := n5_; have GW321 := n6_; have GE321 := n7_; have NB309_321 := n8_; have NB321_309 := n9_; clear n0_ n1_ n2_ n3_ n4_ n5_ n6_ n7_ n8_ n9_; clear hb hbox hg; obtain ⟨Ao23, co23, eo23⟩ := Kd.R_slice HO320.out; subst eo23; have hnb24 := NB321_309.out; have hnc24 := NB309_321.out; have hcz25_0 : w22.cell? ⟨gb321, 0, none⟩ = some (.slice none 0 0) := (blk_cell BK321.out 0).trans rfl; have hfz25_0 := blk_frozen BK321.out 0) | ((with_reducible refine gate_callee (f := 24) rfl ?_); refine goesL_ (some 33) rfl rfl Try.func24 (by kernel_rfl) rfl #[.agg #[.slice Ao23 t318.length co23], .int .i64 a1] rfl (by (try simp only [List.map_toArray, List.map_cons, List.map_nil]); first | done | rfl | (simp only [List.length_drop, List.length_take]; rfl)) ?_; (with_reducible refine (impl_HolesOf.calls k _ _ t318 a1 t322 t325 _ ?side1 ?side2 A11.out).mono ?_); (case side1 => exact rc HO320 BK321); (case side2 => exact (Kd.R_reads' HO320.out).2.1); rintro e w26 ⟨v323, rfl, ho0, hb⟩; refine ⟨_, rfl, ?_⟩; have n0_ := Aside0.mk (Kd.R_below (rf HO313 BK321) hb); have n1_ := Aside0.mk (Kd.R_elder' (rf HO316 BK321) (Kd.R_base ho0) hb); have n2_ := Aside0.mk (Kd.R_below (rf HO320 BK321) hb); have n3_ := Aside0.mk (Kd.R_lower (Kd.R_new' ho0 (Kd.R_lt (rf HO316 BK321))) (below_size (bs2 HB GE309 GE321))); have n4_ := Aside0.mk (blk_below (bf BK309 NB309_321) hb); have n5_ := Aside0.mk (blk_below (g := gb321) (o := .cells #[.slice Ao23 t318.length co23] 29 (0, 0)) (by (with_reducible repeat (first | refine blk_drewN ?_ _ | refine blk_drew ?_ | refine blk_alloc ?_ _)); refine blk_put (cs := #[.slice none 0 0]) ?_ 0 _ rfl; (with_reducible repeat (first | refine blk_drewN ?_ _ | refine blk_drew ?_ | refine blk_alloc ?_ _)); exact BK321.out) hb); have n6_ := Aside0.mk (below_step (bs2 HB GE309 GE321) hb); clear HO313; clear HO316; clear HO320; clear BK309; clear BK321; clear HB; have HO313 := n0_; have HO316 := n1_; have HO320 := n2_; have HO324 := n3_; have BK309 := n4_; have BK321 := n5_; have HB := n6_; clear n0_ n1_ n2_ n3_ n4_ n5_ n6_; (try clear hb); (try clear hb2); (try clear hk); (try clear hi); (try clear ho0)))
  (try simp only [Act.put, List.setIfInBounds_toArray, List.set_cons_zero, List.set_cons_succ])
  go_cut [44] (fun v44 wc => ∃ (kq : Nat) (x44_11 : Bool), v44 = .bool x44_11 ∧ Aside0 (laws_FnExactHolesOf.j0 kq a1 t314 t317 t322 t325 x44_11 l0_0 t318 = some r) ∧ Aside0 (kq ≤ k) ∧ Aside0 (Kd.R k61 61 wc w.heap.size (fun k_ => some k_ ≠ (v323 : Value).ownBlock) v315 t314) ∧ Aside0 (Kd.R k61 61 wc w.heap.size (fun k_ => some k_ ≠ (v315 : Value).ownBlock) v323 t322) ∧ Aside0 (Kd.R k48 48 wc w.heap.size (fun _ => True) (.slice Ao23 t318.length co23) t318) ∧ Aside0 (wc.heap[gb309]? = some (.cells #[(.slice A0_0 l0_0.length c0_0)] 24 (0, 0))) ∧ Aside0 (wc.heap[gb321]? = some (.cells #[(.slice Ao23 t318.length co23)] 29 (0, 0))) ∧ Aside0 (Below w.heap.size w wc))
  case first =>
   have H := HC12.out
   clear HC12
   replace H := Option.bind_eq_some_iff.mp H
   obtain ⟨t326, A270, H⟩ := H
   replace H : (if t326 = true then (laws_FnExactHolesOf.j0 k a1 t314 t317 t322 t325 (t325 != t317) l0_0 t318) else (laws_FnExactHolesOf.j0 k a1 t314 t317 t322 t325 true l0_0 t318)) = some r := H
   have A27 := Aside0.mk A270
   clear A270
   by_cases c28 : t326 = true
   ·
    subst c28
    rw [if_pos rfl] at H
    have H' := Aside0.mk H
    clear H
    obtain ⟨Ao29, co29, eo29⟩ := Kd.R_slice HO324.out
    subst eo29
    obtain ⟨Ao30, co30, eo30⟩ := Kd.R_slice HO316.out
    subst eo30
    go_wp2_with (first | ((with_reducible refine gate_callee (f := 25) rfl ?_); refine goesL_ (some 38) rfl rfl Try.func25 (by kernel_rfl) rfl #[.slice Ao29 t322.length co29, .slice Ao30 t314.length co30] rfl (by (try simp only [List.map_toArray, List.map_cons, List.map_nil]); first | done | rfl | (simp only [List.length_drop, List.length_take]; rfl)) ?_; (with_reducible refine (laws_eqExtentS.calls k _ _ t322 _ _ t314 true _ ?side1 ?side2 ?side3 ?side4 A27.out).mono ?_); (case side1 => exact rc0 HO324); (case side2 => exact (Kd.R_reads' HO324.out).2.1); (case side3 => exact rc0 HO316); (case side4 => exact (Kd.R_reads' HO316.out).2.1); rintro e w31 ⟨rfl, hb⟩; refine ⟨_, rfl, ?_⟩; have n0_ := Aside0.mk (Kd.R_below (rr HO313.out) hb); have n1_ := Aside0.mk (Kd.R_below (rr HO316.out) hb); have n2_ := Aside0.mk (Kd.R_below (rr HO320.out) hb); have n3_ := Aside0.mk (Kd.R_below (rr HO324.out) hb); have n4_ := Aside0.mk (bb BK309 hb); have n5_ := Aside0.mk (bb BK321 hb); have n6_ := Aside0.mk (below_step (bs2 HB GE309 GE321) hb); clear HO313; clear HO316; clear HO320; clear HO324; clear BK309; clear BK321; clear HB; have HO313 := n0_; have HO316 := n1_; have HO320 := n2_; have HO324 := n3_; have BK309 := n4_; have BK321 := n5_; have HB := n6_; clear n0_ n1_ n2_ n3_ n4_ n5_ n6_; (try clear hb); (try clear hb2); (try clear hk); (try clear hi)))
    go_meet
    case rel => exact ⟨_, ((t325 != t317)), (by first | rfl | (simp; done) | (simp [*]; done)), H', ⟨by first | omega | exact Nat.le_refl _⟩, ⟨by (with_reducible repeat (first | apply Kd.R_alloc | apply Kd.R_drewN | apply Kd.R_drew)); exact Kd.R_mono HO316.out (fun _ hk => hk.2)⟩, ⟨by (with_reducible repeat (first | apply Kd.R_alloc | apply Kd.R_drewN | apply Kd.R_drew)); exact Kd.R_mono HO324.out (fun _ hk => hk.2)⟩, ⟨by (with_reducible repeat (first | apply Kd.R_alloc | apply Kd.R_drewN | apply Kd.R_drew)); exact Kd.R_mono HO320.out (fun _ hk => trivial)⟩, ⟨bk BK309⟩, ⟨bk BK321⟩, ⟨bs2 HB GE309 GE321⟩⟩
   ·
    replace c28 := Bool.eq_false_iff.mpr c28
    subst c28
    rw [if_neg (show ¬ (false = true) by decide)] at H
    have H' := Aside0.mk H
    clear H
    obtain ⟨Ao32, co32, eo32⟩ := Kd.R_slice HO324.out
    subst eo32
    obtain ⟨Ao33, co33, eo33⟩ := Kd.R_slice HO316.out
    subst eo33
    go_wp2_with (first | ((with_reducible refine gate_callee (f := 25) rfl ?_); refine goesL_ (some 38) rfl rfl Try.func25 (by kernel_rfl) rfl #[.slice Ao32 t322.length co32, .slice Ao33 t314.length co33] rfl (by (try simp only [List.map_toArray, List.map_cons, List.map_nil]); first | done | rfl | (simp only [List.length_drop, List.length_take]; rfl)) ?_; (with_reducible refine (laws_eqExtentS.calls k _ _ t322 _ _ t314 false _ ?side1 ?side2 ?side3 ?side4 A27.out).mono ?_); (case side1 => exact rc0 HO324); (case side2 => exact (Kd.R_reads' HO324.out).2.1); (case side3 => exact rc0 HO316); (case side4 => exact (Kd.R_reads' HO316.out).2.1); rintro e w34 ⟨rfl, hb⟩; refine ⟨_, rfl, ?_⟩; have n0_ := Aside0.mk (Kd.R_below (rr HO313.out) hb); have n1_ := Aside0.mk (Kd.R_below (rr HO316.out) hb); have n2_ := Aside0.mk (Kd.R_below (rr HO320.out) hb); have n3_ := Aside0.mk (Kd.R_below (rr HO324.out) hb); have n4_ := Aside0.mk (bb BK309 hb); have n5_ := Aside0.mk (bb BK321 hb); have n6_ := Aside0.mk (below_step (bs2 HB GE309 GE321) hb); clear HO313; clear HO316; clear HO320; clear HO324; clear BK309; clear BK321; clear HB; have HO313 := n0_; have HO316 := n1_; have HO320 := n2_; have HO324 := n3_; have BK309 := n4_; have BK321 := n5_; have HB := n6_; clear n0_ n1_ n2_ n3_ n4_ n5_ n6_; (try clear hb); (try clear hb2); (try clear hk); (try clear hi)))
    go_meet
    case rel => exact ⟨_, (true), (by first | rfl | (simp; done) | (simp [*]; done)), H', ⟨by first | omega | exact Nat.le_refl _⟩, ⟨by (with_reducible repeat (first | apply Kd.R_alloc | apply Kd.R_drewN | apply Kd.R_drew)); exact Kd.R_mono HO316.out (fun _ hk => hk.2)⟩, ⟨by (with_reducible repeat (first | apply Kd.R_alloc | apply Kd.R_drewN | apply Kd.R_drew)); exact Kd.R_mono HO324.out (fun _ hk => hk.2)⟩, ⟨by (with_reducible repeat (first | apply Kd.R_alloc | apply Kd.R_drewN | apply Kd.R_drew)); exact Kd.R_mono HO320.out (fun _ hk => trivial)⟩, ⟨bk BK309⟩, ⟨bk BK321⟩, ⟨bs2 HB GE309 GE321⟩⟩
  case rest =>
   clear HC12
   try clear c1
   try clear c2
   try clear p2
   try clear c4
   try clear c4b0
   try clear c6
   try clear c14
   try clear c16
   try clear c23
   try clear c24
   try clear c25
   try clear c28
   try clear hcz14_0
   try clear hcz16_0
   try clear hcz20_0
   try clear hcz25_0
   try clear hcz6_0
   try clear hfz14_0
   try clear hfz16_0
   try clear hfz20_0
   try clear hfz25_0
   try clear hfz6_0
   obtain ⟨kq, x44_11, rfl, HA, HJ11, HO_6, HO_9, HO_322000, BK309, BK321, HB⟩ := hcut
   cases kq with
   | zero => exact absurd HA.out (by simp [laws_FnExactHolesOf.j0])
   | succ kj11 =>
    have H := HA.out
    clear HA
    simp only [laws_FnExactHolesOf.j0] at H
    by_cases c35 : x44_11 = true
    ·
     subst c35
     rw [if_pos rfl] at H
     obtain rfl := Option.some.inj H
     go_wp2
     go_ret
     exact ⟨by first | rfl | (simp [errW_none, errW_some] <;> rfl) | (simp [*, errW_none, errW_some] <;> rfl), bs2 HB GE309 GE321⟩
    ·
     replace c35 := Bool.eq_false_iff.mpr c35
     subst c35
     rw [if_neg (show ¬ (false = true) by decide)] at H
     replace H := Option.bind_eq_some_iff.mp H
     obtain ⟨t327, A360, H⟩ := H
     replace H : ((laws_eqFileMap.f kj11 t318 t327).bind fun t330 => (if t330 = true then ((laws_markFileMap.f kj11 t318 1).bind fun bt331 => (if bt331.1 < 0 then (laws_FnExactHolesOf.j1 kj11 a1 t314 t317 t322 true l0_0) else ((laws_eqExtentS.f kj11 t322 t314).bind fun t333 => (if t333 = true then (laws_FnExactHolesOf.j1 kj11 a1 t314 t317 t322 (t325 != t317) l0_0) else (laws_FnExactHolesOf.j1 kj11 a1 t314 t317 t322 true l0_0))))) else (some false))) = some r := H
     have A36 := Aside0.mk A360
     clear A360
     replace H := Option.bind_eq_some_iff.mp H
     obtain ⟨t330, A370, H⟩ := H
     replace H : (if t330 = true then ((laws_markFileMap.f kj11 t318 1).bind fun bt331 => (if bt331.1 < 0 then (laws_FnExactHolesOf.j1 kj11 a1 t314 t317 t322 true l0_0) else ((laws_eqExtentS.f kj11 t322 t314).bind fun t333 => (if t333 = true then (laws_FnExactHolesOf.j1 kj11 a1 t314 t317 t322 (t325 != t317) l0_0) else (laws_FnExactHolesOf.j1 kj11 a1 t314 t317 t322 true l0_0))))) else (some false)) = some r := H
     have A37 := Aside0.mk A370
     clear A370
     by_cases c38 : t330 = true
     ·
      subst c38
      rw [if_pos rfl] at H
      replace H := Option.bind_eq_some_iff.mp H
      obtain ⟨⟨t331, t332⟩, A390, H⟩ := H
      replace H : (if t331 < 0 then (laws_FnExactHolesOf.j1 kj11 a1 t314 t317 t322 true l0_0) else ((laws_eqExtentS.f kj11 t322 t314).bind fun t333 => (if t333 = true then (laws_FnExactHolesOf.j1 kj11 a1 t314 t317 t322 (t325 != t317) l0_0) else (laws_FnExactHolesOf.j1 kj11 a1 t314 t317 t322 true l0_0)))) = some r := H
      have A39 := Aside0.mk A390
      clear A390
      have HC40 := Aside0.mk H
      clear H
      try go_wp2
      have n0_ := Aside0.mk (Kd.R_drew HO_6.out)
      have n1_ := Aside0.mk (Kd.R_drew HO_9.out)
      have n2_ := Aside0.mk (Kd.R_drew HO_322000.out)
      have n3_ := Aside0.mk (blk_drew BK309.out)
      have n4_ := Aside0.mk (blk_drew BK321.out)
      have n5_ := Aside0.mk (below_drew1 HB.out)
      clear HO_6
      clear HO_9
      clear HO_322000
      clear BK309
      clear BK321
      clear HB
      have HO_6 := n0_
      have HO_9 := n1_
      have HO_322000 := n2_
      have BK309 := n3_
      have BK321 := n4_
      have HB := n5_
      clear n0_ n1_ n2_ n3_ n4_ n5_
      refine start_ (n := 5) (S := fun w' => w'.cell? ⟨gb321, 0, none⟩ = some (.slice Ao23 t318.length co23) ∧ w'.cell? ⟨gb309, 0, none⟩ = some (.slice A0_0 l0_0.length c0_0)) (ds := []) #[false, false, false, false, false] (by kernel_rfl) rfl rfl ⟨(blk_cell BK321.out 0).trans rfl, (blk_cell BK309.out 0).trans rfl⟩ (fun hHeld => ?_)
      generalize wc.drew = w41 at HO_6 HO_9 HO_322000 BK309 BK321 HB hHeld ⊢
      refine take_ (i := 0) (N := some 45) (v := ?_) (a' := ?_) #[true, false, false, false, false] rfl rfl (by kernel_rfl) (fun _ _ _ h => h) (Or.inl ⟨by rfl, ?_⟩) hHeld ?_ ?_
      rotate_left
      ·
       rintro w' ⟨s0, s1⟩
       go_simp
       with_reducible rfl
      rotate_left
      ·
       simp only [Act.put, List.setIfInBounds_toArray, List.set_cons_zero, List.set_cons_succ, i64_w, i32_w]
       rfl
      refine take_ (i := 1) (N := some 46) (v := ?_) (a' := ?_) #[true, true, false, false, false] rfl rfl (by kernel_rfl) (fun _ _ _ h => h) (Or.inl ⟨by rfl, ?_⟩) hHeld ?_ ?_
      rotate_left
      ·
       rintro w' ⟨s0, s1⟩
       go_simp
       with_reducible rfl
      rotate_left
      ·
       simp only [Act.put, List.setIfInBounds_toArray, List.set_cons_zero, List.set_cons_succ, i64_w, i32_w]
       rfl
      refine one_ (i := 2) (N := some 47) #[true, true, true, false, false] rfl rfl (by kernel_rfl) (by decide) (fun K hK => ?_)
      refine goes_ Try.func16 (by kernel_rfl) rfl #[.agg #[.slice A0_0 l0_0.length c0_0]] (by rfl) rfl rfl (by (try simp only [List.map_toArray, List.map_cons, List.map_nil]); first | done | rfl | (simp only [List.length_drop, List.length_take]; rfl)) ?_
      with_reducible refine (laws_toFileMap.calls kj11 _ _ l0_0 t327 _ ?side1 ?side2 A36.out).mono ?_
      (case side1 => exact cb HR0_0 HB)
      (case side2 => exact HC0_0.out)
      rintro e w42 ⟨v328, rfl, ho0, hb⟩
      refine ⟨_, rfl, ?_⟩
      have n0_ := Aside0.mk (Kd.R_below (rr HO_6.out) hb)
      have n1_ := Aside0.mk (Kd.R_below (rr HO_9.out) hb)
      have n2_ := Aside0.mk (Kd.R_elder' (rr HO_322000.out) (Kd.R_base ho0) hb)
      have n3_ := Aside0.mk (Kd.R_lower (Kd.R_new' ho0 (Kd.R_lt (rr HO_322000.out))) (below_size (bs2 HB GE309 GE321)))
      have n4_ := Aside0.mk (bb BK309 hb)
      have n5_ := Aside0.mk (bb BK321 hb)
      have n6_ := Aside0.mk (below_step (bs2 HB GE309 GE321) hb)
      clear HO_6
      clear HO_9
      clear HO_322000
      clear BK309
      clear BK321
      clear HB
      have HO_6 := n0_
      have HO_9 := n1_
      have HO_322000 := n2_
      have HO329 := n3_
      have BK309 := n4_
      have BK321 := n5_
      have HB := n6_
      clear n0_ n1_ n2_ n3_ n4_ n5_ n6_
      (try clear hb)
      (try clear hb2)
      (try clear hk)
      (try clear hi)
      (try clear ho0)
      obtain ⟨Ao43, co43, eo43⟩ := Kd.R_slice HO329.out
      (first | subst eo43 | (injection eo43 with f1_ f2_ f3_; have f4_ := f1_.symm; have f5_ := f3_.symm; clear f1_ f2_ f3_; subst f4_; subst f5_))
      refine hK.out _ _ ⟨(blk_cell BK321.out 0).trans rfl, (blk_cell BK309.out 0).trans rfl⟩ (fun hHeld => ?_)
      clear hK K
      refine norm_ (a' := ?_) ?_ ?_
      rotate_left
      ·
       show Act.put _ (some 47) _ = _
       simp only [Act.put, List.setIfInBounds_toArray, List.set_cons_zero, List.set_cons_succ, i64_w, i32_w]
       rfl
      refine one_ (i := 3) (N := some 48) #[true, true, true, true, false] rfl rfl (by kernel_rfl) (by decide) (fun K hK => ?_)
      refine goes_ Try.func18 (by kernel_rfl) rfl #[.agg #[.slice Ao23 t318.length co23], .agg #[.slice Ao43 t327.length co43]] (by rfl) rfl rfl (by (try simp only [List.map_toArray, List.map_cons, List.map_nil]); first | done | rfl | (simp only [List.length_drop, List.length_take]; rfl)) ?_
      with_reducible refine (laws_eqFileMap.calls kj11 _ _ t318 _ _ t327 true _ ?side1 ?side2 ?side3 ?side4 A37.out).mono ?_
      (case side1 => exact rc0 HO_322000)
      (case side2 => exact (Kd.R_reads' HO_322000.out).2.1)
      (case side3 => exact rc0 HO329)
      (case side4 => exact (Kd.R_reads' HO329.out).2.1)
      rintro e w44 ⟨rfl, hb⟩
      refine ⟨_, rfl, ?_⟩
      have n0_ := Aside0.mk (Kd.R_below (rr HO_6.out) hb)
      have n1_ := Aside0.mk (Kd.R_below (rr HO_9.out) hb)
      have n2_ := Aside0.mk (Kd.R_below (rr HO_322000.out) hb)
      have n3_ := Aside0.mk (Kd.R_below (rr HO329.out) hb)
      have n4_ := Aside0.mk (bb BK309 hb)
      have n5_ := Aside0.mk (bb BK321 hb)
      have n6_ := Aside0.mk (below_step (bs2 HB GE309 GE321) hb)
      clear HO_6
      clear HO_9
      clear HO_322000
      clear HO329
      clear BK309
      clear BK321
      clear HB
      have HO_6 := n0_
      have HO_9 := n1_
      have HO_322000 := n2_
      have HO329 := n3_
      have BK309 := n4_
      have BK321 := n5_
      have HB := n6_
      clear n0_ n1_ n2_ n3_ n4_ n5_ n6_
      (try clear hb)
      (try clear hb2)
      (try clear hk)
      (try clear hi)
      refine hK.out _ _ ⟨(blk_cell BK321.out 0).trans rfl, (blk_cell BK309.out 0).trans rfl⟩ (fun hHeld => ?_)
      clear hK K
      refine norm_ (a' := ?_) ?_ ?_
      rotate_left
      ·
       show Act.put _ (some 48) _ = _
       simp only [Act.put, List.setIfInBounds_toArray, List.set_cons_zero, List.set_cons_succ, i64_w, i32_w]
       rfl
      refine pure_ (i := 4) (N := some 49) (v := ?_) (a' := ?_) #[true, true, true, true, true] rfl rfl (by kernel_rfl) (fun _ _ _ h => h) (Or.inl ⟨by rfl, ?_⟩) ?_ ?_
      rotate_left
      ·
       intro w'
       go_simp
       with_reducible rfl
      rotate_left
      ·
       simp only [Act.put, List.setIfInBounds_toArray, List.set_cons_zero, List.set_cons_succ, i64_w, i32_w]
       rfl
      refine done_ (by kernel_rfl) ?_
      have hnb45 := NB321_309.out
      have hnc45 := NB309_321.out
      have hcz46_0 : w44.cell? ⟨gb321, 0, none⟩ = some (.slice Ao23 t318.length co23) := (blk_cell BK321.out 0).trans rfl
      have hfz46_0 := blk_frozen BK321.out 0
      go_upto_region 14 with (first | ((with_reducible refine gate_callee (f := 26) rfl ?_); refine goesL_ (some 52) rfl rfl Try.func26 (by kernel_rfl) rfl #[.agg #[.slice Ao23 t318.length co23], .int .i64 1] rfl (by (try simp only [List.map_toArray, List.map_cons, List.map_nil]); first | done | rfl | (simp only [List.length_drop, List.length_take]; rfl)) ?_; (with_reducible refine (laws_markFileMap.calls kj11 (fun k_ => some k_ = (.slice Ao23 t318.length co23 : Value).ownBlock) (.slice Ao23 t318.length co23) t318 1 t331 t332 w _ ?side1 ?side2 A39.out).mono ?_); (case side1 => repeat (first | (with_reducible first | exact HB.out | apply below_alloc | apply pw_below_drewN | apply below_drew1 | refine below_set ?_ GE309.out | refine below_set ?_ GE321.out) | exact HB.out)); (case side2 => exact Kd.R_tight rfl HO_322000.out); rintro e w47 ⟨rfl, hy0, hb, hkp⟩; refine ⟨_, rfl, ?_⟩; have n0_ := Aside0.mk (Kd.R_mono (ok' := fun k_ => some k_ ≠ (v323 : Value).ownBlock) (Kd.R_keptB ((Kd.R_apart' HO_6.out (Kd.R_typed HO_322000.out) (by decide))) hkp (fun k_ hk_ hs_ => (hk_.2) hs_)) (fun k_ hk_ => hk_.1.1)); have n1_ := Aside0.mk (Kd.R_mono (ok' := fun k_ => some k_ ≠ (v315 : Value).ownBlock) (Kd.R_keptB ((Kd.R_apart' HO_9.out (Kd.R_typed HO_322000.out) (by decide))) hkp (fun k_ hk_ hs_ => (hk_.2) hs_)) (fun k_ hk_ => hk_.1.1)); have n2_ := Aside0.mk (Kd.R_reok rfl hy0 (fun k_ e_ => HO_322000.out.1 k_ e_)); have n3_ := Aside0.mk (blk_kept (bk BK309) hkp (fun hs_ => (fun e_ => (Kd.R_ne HO_322000.out BK309.out (by decide)) e_) hs_)); have n4_ := Aside0.mk (blk_kept (bk BK321) hkp (fun hs_ => (fun e_ => (Kd.R_ne HO_322000.out BK321.out (by decide)) e_) hs_)); have n5_ := Aside0.mk (Kd.R_mono (ok' := fun k_ => some k_ ≠ (.slice Ao23 t318.length co23 : Value).ownBlock) (Kd.R_keptB (HO329.out) hkp (fun k_ hk_ hs_ => (hk_.2) hs_)) (fun k_ hk_ => hk_.1.2)); have n6_ := Aside0.mk (hb); clear HO_6; clear HO_9; clear HO_322000; clear BK309; clear BK321; clear HO329; clear HB; have HO_6 := n0_; have HO_9 := n1_; have HO_322000 := n2_; have BK309 := n3_; have BK321 := n4_; have HO329 := n5_; have HB := n6_; clear n0_ n1_ n2_ n3_ n4_ n5_ n6_; (try clear hb); (try clear hkp); (try clear hy0)))
      (try simp only [Act.put, List.setIfInBounds_toArray, List.set_cons_zero, List.set_cons_succ])
      go_cut [65] (fun v65 wc => ∃ (kq : Nat) (x65_39 : Bool), v65 = .bool x65_39 ∧ Aside0 (laws_FnExactHolesOf.j1 kq a1 t314 t317 t322 x65_39 l0_0 = some r) ∧ Aside0 (kq ≤ kj11) ∧ Aside0 (Kd.R k61 61 wc w.heap.size (fun k_ => some k_ ≠ (v323 : Value).ownBlock) v315 t314) ∧ Aside0 (Kd.R k61 61 wc w.heap.size (fun k_ => some k_ ≠ (v315 : Value).ownBlock) v323 t322) ∧ Aside0 (Kd.R k48 48 wc w.heap.size (fun _ => True) (.slice Ao23 t318.length co23) t332) ∧ Aside0 (wc.heap[gb309]? = some (.cells #[(.slice A0_0 l0_0.length c0_0)] 24 (0, 0))) ∧ Aside0 (wc.heap[gb321]? = some (.cells #[(.slice Ao23 t318.length co23)] 29 (0, 0))) ∧ Aside0 (Below w.heap.size w wc))
      case first =>
       have H := HC40.out
       clear HC40
       by_cases c48 : t331 < 0
       ·
        rw [if_pos c48] at H
        have c48b0 : decide (t331 < 0) = true := decide_eq_true c48
        clear c48
        (first | rw [c48b0] | (simp only [i64_w, i32_w]; rw [c48b0]) | (simp only [c48b2, Bool.not_false, Bool.not_true]) | skip)
        have H' := Aside0.mk H
        clear H
        go_wp2
        go_meet
        case rel => exact ⟨_, (true), (by first | rfl | (simp; done) | (simp [*]; done)), H', ⟨by have := HJ11.out; first | omega | exact Nat.le_refl _⟩, ⟨rr HO_6.out⟩, ⟨rr HO_9.out⟩, ⟨by (with_reducible repeat (first | apply Kd.R_alloc | apply Kd.R_drewN | apply Kd.R_drew)); exact Kd.R_mono HO_322000.out (fun _ hk => trivial)⟩, ⟨bk BK309⟩, ⟨bk BK321⟩, ⟨bs2 HB GE309 GE321⟩⟩
       ·
        rw [if_neg c48] at H
        have c48b0 : decide (t331 < 0) = false := decide_eq_false c48
        clear c48
        (first | rw [c48b0] | (simp only [i64_w, i32_w]; rw [c48b0]) | (simp only [c48b2, Bool.not_false, Bool.not_true]) | skip)
        replace H := Option.bind_eq_some_iff.mp H
        obtain ⟨t333, A490, H⟩ := H
        replace H : (if t333 = true then (laws_FnExactHolesOf.j1 kj11 a1 t314 t317 t322 (t325 != t317) l0_0) else (laws_FnExactHolesOf.j1 kj11 a1 t314 t317 t322 true l0_0)) = some r := H
        have A49 := Aside0.mk A490
        clear A490
        by_cases c50 : t333 = true
        ·
         subst c50
         rw [if_pos rfl] at H
         have H' := Aside0.mk H
         clear H
         obtain ⟨Ao51, co51, eo51⟩ := Kd.R_slice HO_9.out
         subst eo51
         obtain ⟨Ao52, co52, eo52⟩ := Kd.R_slice HO_6.out
         subst eo52
         go_wp2_with (first | (go_at_call 25; (with_reducible refine (laws_eqExtentS.calls kj11 _ _ t322 _ _ t314 true _ ?side1 ?side2 ?side3 ?side4 A49.out).mono ?_); (case side1 => exact rc0 HO_9); (case side2 => exact (Kd.R_reads' HO_9.out).2.1); (case side3 => exact rc0 HO_6); (case side4 => exact (Kd.R_reads' HO_6.out).2.1); rintro e w53 ⟨rfl, hb⟩; have n0_ := Aside0.mk (Kd.R_below (rr HO_6.out) hb); have n1_ := Aside0.mk (Kd.R_below (rr HO_9.out) hb); have n2_ := Aside0.mk (Kd.R_below (rr HO_322000.out) hb); have n3_ := Aside0.mk (Kd.R_below (rr HO329.out) hb); have n4_ := Aside0.mk (bb BK309 hb); have n5_ := Aside0.mk (bb BK321 hb); have n6_ := Aside0.mk (below_step (bs2 HB GE309 GE321) hb); clear HO_6; clear HO_9; clear HO_322000; clear HO329; clear BK309; clear BK321; clear HB; have HO_6 := n0_; have HO_9 := n1_; have HO_322000 := n2_; have HO329 := n3_; have BK309 := n4_; have BK321 := n5_; have HB := n6_; clear n0_ n1_ n2_ n3_ n4_ n5_ n6_; (try clear hb); (try clear hb2); (try clear hk); (try clear hi)))
         go_meet
         case rel => exact ⟨_, ((t325 != t317)), (by first | rfl | (simp; done) | (simp [*]; done)), H', ⟨by have := HJ11.out; first | omega | exact Nat.le_refl _⟩, ⟨rr HO_6.out⟩, ⟨rr HO_9.out⟩, ⟨by (with_reducible repeat (first | apply Kd.R_alloc | apply Kd.R_drewN | apply Kd.R_drew)); exact Kd.R_mono HO_322000.out (fun _ hk => trivial)⟩, ⟨bk BK309⟩, ⟨bk BK321⟩, ⟨bs2 HB GE309 GE321⟩⟩
        ·
         replace c50 := Bool.eq_false_iff.mpr c50
         subst c50
         rw [if_neg (show ¬ (false = true) by decide)] at H
         have H' := Aside0.mk H
         clear H
         obtain ⟨Ao54, co54, eo54⟩ := Kd.R_slice HO_9.out
         subst eo54
         obtain ⟨Ao55, co55, eo55⟩ := Kd.R_slice HO_6.out
         subst eo55
         go_wp2_with (first | (go_at_call 25; (with_reducible refine (laws_eqExtentS.calls kj11 _ _ t322 _ _ t314 false _ ?side1 ?side2 ?side3 ?side4 A49.out).mono ?_); (case side1 => exact rc0 HO_9); (case side2 => exact (Kd.R_reads' HO_9.out).2.1); (case side3 => exact rc0 HO_6); (case side4 => exact (Kd.R_reads' HO_6.out).2.1); rintro e w56 ⟨rfl, hb⟩; have n0_ := Aside0.mk (Kd.R_below (rr HO_6.out) hb); have n1_ := Aside0.mk (Kd.R_below (rr HO_9.out) hb); have n2_ := Aside0.mk (Kd.R_below (rr HO_322000.out) hb); have n3_ := Aside0.mk (Kd.R_below (rr HO329.out) hb); have n4_ := Aside0.mk (bb BK309 hb); have n5_ := Aside0.mk (bb BK321 hb); have n6_ := Aside0.mk (below_step (bs2 HB GE309 GE321) hb); clear HO_6; clear HO_9; clear HO_322000; clear HO329; clear BK309; clear BK321; clear HB; have HO_6 := n0_; have HO_9 := n1_; have HO_322000 := n2_; have HO329 := n3_; have BK309 := n4_; have BK321 := n5_; have HB := n6_; clear n0_ n1_ n2_ n3_ n4_ n5_ n6_; (try clear hb); (try clear hb2); (try clear hk); (try clear hi)))
         go_meet
         case rel => exact ⟨_, (true), (by first | rfl | (simp; done) | (simp [*]; done)), H', ⟨by have := HJ11.out; first | omega | exact Nat.le_refl _⟩, ⟨rr HO_6.out⟩, ⟨rr HO_9.out⟩, ⟨by (with_reducible repeat (first | apply Kd.R_alloc | apply Kd.R_drewN | apply Kd.R_drew)); exact Kd.R_mono HO_322000.out (fun _ hk => trivial)⟩, ⟨bk BK309⟩, ⟨bk BK321⟩, ⟨bs2 HB GE309 GE321⟩⟩
      case rest =>
       clear HC40
       try clear c1
       try clear c2
       try clear p2
       try clear c3
       try clear c4
       try clear c4b0
       try clear c5
       try clear c6
       try clear c14
       try clear c16
       try clear c18
       try clear c23
       try clear c24
       try clear c25
       try clear c26
       try clear c28
       try clear c35
       try clear c38
       try clear c45
       try clear c48
       try clear c48b0
       try clear c50
       try clear hcz14_0
       try clear hcz16_0
       try clear hcz20_0
       try clear hcz25_0
       try clear hcz46_0
       try clear hcz6_0
       try clear hfz14_0
       try clear hfz16_0
       try clear hfz20_0
       try clear hfz25_0
       try clear hfz46_0
       try clear hfz6_0
       try clear p2
       obtain ⟨kq, x65_39, rfl, HA, HJ39, HO_6, HO_9, HO_322000, BK309, BK321, HB⟩ := hcut
       have hl322000_39 := (Kd.R_reads' HO_322000.out).1
       rw [hl322000_39] at HO_322000
       (try simp only [hl322000_39])
       (try simp only [hl322000_39] at BK309)
       (try simp only [hl322000_39] at BK321)
       (try simp only [hl322000_39] at HO_6)
       (try simp only [hl322000_39] at HO_9)
       cases kq with
       | zero => exact absurd HA.out (by simp [laws_FnExactHolesOf.j1])
       | succ kj39 =>
        have H := HA.out
        clear HA
        simp only [laws_FnExactHolesOf.j1] at H
        by_cases c57 : x65_39 = true
        ·
         subst c57
         rw [if_pos rfl] at H
         obtain rfl := Option.some.inj H
         go_wp2
         go_ret
         exact ⟨by first | rfl | (simp [errW_none, errW_some] <;> rfl) | (simp [*, errW_none, errW_some] <;> rfl), bs2 HB GE309 GE321⟩
        ·
         replace c57 := Bool.eq_false_iff.mpr c57
         subst c57
         rw [if_neg (show ¬ (false = true) by decide)] at H
         replace H := Option.bind_eq_some_iff.mp H
         obtain ⟨⟨t334, t335⟩, A580, H⟩ := H
         replace H : ((laws_heldExtentS.f kj39 t335 1).bind fun t336 => (if t336 < 0 then (some false) else (if t336 = t334 then ((laws_toFileMap.f kj39 l0_0).bind fun t337 => ((impl_HolesOf.f kj39 t337 a1).bind fun bt340 => ((laws_eqExtentS.f kj39 bt340.1 t314).bind fun t344 => (if t344 = true then (laws_FnExactHolesOf.j2 kj39 t335 t334 (bt340.2 != t317)) else (laws_FnExactHolesOf.j2 kj39 t335 t334 true))))) else (some false)))) = some r := H
         have A58 := Aside0.mk A580
         clear A580
         replace H := Option.bind_eq_some_iff.mp H
         obtain ⟨t336, A590, H⟩ := H
         replace H : (if t336 < 0 then (some false) else (if t336 = t334 then ((laws_toFileMap.f kj39 l0_0).bind fun t337 => ((impl_HolesOf.f kj39 t337 a1).bind fun bt340 => ((laws_eqExtentS.f kj39 bt340.1 t314).bind fun t344 => (if t344 = true then (laws_FnExactHolesOf.j2 kj39 t335 t334 (bt340.2 != t317)) else (laws_FnExactHolesOf.j2 kj39 t335 t334 true))))) else (some false))) = some r := H
         have A59 := Aside0.mk A590
         clear A590
         by_cases c60 : t336 < 0
         ·
          rw [if_pos c60] at H
          have c60b0 : decide (t336 < 0) = true := decide_eq_true c60
          clear c60
          obtain rfl := Option.some.inj H
          obtain ⟨Ao61, co61, eo61⟩ := Kd.R_slice HO_9.out
          subst eo61
          go_wp2_with (first | ((with_reducible refine gate_callee (f := 27) rfl ?_); refine goesL_ (some 68) rfl rfl Try.func27 (by kernel_rfl) rfl #[.slice Ao61 t322.length co61, .int .i64 1] rfl (by (try simp only [List.map_toArray, List.map_cons, List.map_nil]); first | done | rfl | (simp only [List.length_drop, List.length_take]; rfl)) ?_; (with_reducible refine (laws_markExtentS.calls kj39 (fun k_ => some k_ = (.slice Ao61 t322.length co61 : Value).ownBlock) (.slice Ao61 t322.length co61) t322 1 t334 t335 w _ ?side1 ?side2 A58.out).mono ?_); (case side1 => repeat (first | (with_reducible first | exact HB.out | apply below_alloc | apply pw_below_drewN | apply below_drew1 | refine below_set ?_ GE309.out | refine below_set ?_ GE321.out) | exact HB.out)); (case side2 => exact Kd.R_tight rfl HO_9.out); rintro e w62 ⟨rfl, hy0, hb, hkp⟩; refine ⟨_, rfl, ?_⟩; have n0_ := Aside0.mk (Kd.R_mono (ok' := fun k_ => some k_ ≠ (.slice Ao61 t322.length co61 : Value).ownBlock) (Kd.R_keptB (HO_6.out) hkp (fun k_ hk_ hs_ => (hk_) hs_)) (fun k_ hk_ => hk_.1)); have n1_ := Aside0.mk (Kd.R_reok rfl hy0 (fun k_ e_ => HO_9.out.1 k_ e_)); have n2_ := Aside0.mk (Kd.R_mono (ok' := fun k_ => True) (Kd.R_keptB ((Kd.R_apart' HO_322000.out (Kd.R_typed HO_9.out) (by decide))) hkp (fun k_ hk_ hs_ => (hk_.2) hs_)) (fun k_ hk_ => trivial)); have n3_ := Aside0.mk (blk_kept (bk BK309) hkp (fun hs_ => (fun e_ => (Kd.R_ne HO_9.out BK309.out (by decide)) e_) hs_)); have n4_ := Aside0.mk (blk_kept (bk BK321) hkp (fun hs_ => (fun e_ => (Kd.R_ne HO_9.out BK321.out (by decide)) e_) hs_)); have n5_ := Aside0.mk (hb); clear HO_6; clear HO_9; clear HO_322000; clear BK309; clear BK321; clear HB; have HO_6 := n0_; have HO_9 := n1_; have HO_322000 := n2_; have BK309 := n3_; have BK321 := n4_; have HB := n5_; clear n0_ n1_ n2_ n3_ n4_ n5_; (try clear hb); (try clear hkp); (try clear hy0)) | ((with_reducible refine gate_callee (f := 28) rfl ?_); refine goesL_ (some 71) rfl rfl Try.func28 (by kernel_rfl) rfl #[.slice Ao61 t335.length co61, .int .i64 1] rfl (by (try simp only [List.map_toArray, List.map_cons, List.map_nil]); first | done | (rw [show t335.length = t322.length from (Kd.R_reads' HO_9.out).1.symm] <;> rfl) | rfl | (simp only [List.length_drop, List.length_take]; rfl)) ?_; (with_reducible refine (laws_heldExtentS.calls kj39 _ _ t335 1 t336 _ ?side1 ?side2 A59.out).mono ?_); (case side1 => exact rc0 HO_9); (case side2 => rw [show t335.length = t322.length from (Kd.R_reads' HO_9.out).1.symm]; exact (Kd.R_reads' HO_9.out).2.1); rintro e w' ⟨rfl, ⟨nd, rfl⟩⟩; refine ⟨_, rfl, ?_⟩))
          go_ret
          exact ⟨by first | rfl | (simp [errW_none, errW_some] <;> rfl) | (simp [*, errW_none, errW_some] <;> rfl), bs2 HB GE309 GE321⟩
         ·
          rw [if_neg c60] at H
          have c60b0 : decide (t336 < 0) = false := decide_eq_false c60
          clear c60
          by_cases c63 : t336 = t334
          ·
           rw [if_pos c63] at H
           have c63b0 : (t336 == t334) = true := beq_iff_eq.mpr c63
           have c63b1 : (t336 != t334) = false := bne_eq_false_iff_eq.mpr c63
           clear c63
           replace H := Option.bind_eq_some_iff.mp H
           obtain ⟨t337, A640, H⟩ := H
           replace H : ((impl_HolesOf.f kj39 t337 a1).bind fun bt340 => ((laws_eqExtentS.f kj39 bt340.1 t314).bind fun t344 => (if t344 = true then (laws_FnExactHolesOf.j2 kj39 t335 t334 (bt340.2 != t317)) else (laws_FnExactHolesOf.j2 kj39 t335 t334 true)))) = some r := H
           have A64 := Aside0.mk A640
           clear A640
           replace H := Option.bind_eq_some_iff.mp H
           obtain ⟨⟨t340, t343⟩, A650, H⟩ := H
           replace H : ((laws_eqExtentS.f kj39 t340 t314).bind fun t344 => (if t344 = true then (laws_FnExactHolesOf.j2 kj39 t335 t334 (t343 != t317)) else (laws_FnExactHolesOf.j2 kj39 t335 t334 true))) = some r := H
           have A65 := Aside0.mk A650
           clear A650
           have HC66 := Aside0.mk H
           clear H
           obtain ⟨Ao67, co67, eo67⟩ := Kd.R_slice HO_9.out
           subst eo67
           go_upto_region 25 with (first | ((with_reducible refine gate_callee (f := 27) rfl ?_); refine goesL_ (some 68) rfl rfl Try.func27 (by kernel_rfl) rfl #[.slice Ao67 t322.length co67, .int .i64 1] rfl (by (try simp only [List.map_toArray, List.map_cons, List.map_nil]); first | done | rfl | (simp only [List.length_drop, List.length_take]; rfl)) ?_; (with_reducible refine (laws_markExtentS.calls kj39 (fun k_ => some k_ = (.slice Ao67 t322.length co67 : Value).ownBlock) (.slice Ao67 t322.length co67) t322 1 t334 t335 w _ ?side1 ?side2 A58.out).mono ?_); (case side1 => repeat (first | (with_reducible first | exact HB.out | apply below_alloc | apply pw_below_drewN | apply below_drew1 | refine below_set ?_ GE309.out | refine below_set ?_ GE321.out) | exact HB.out)); (case side2 => exact Kd.R_tight rfl HO_9.out); rintro e w68 ⟨rfl, hy0, hb, hkp⟩; refine ⟨_, rfl, ?_⟩; have n0_ := Aside0.mk (Kd.R_mono (ok' := fun k_ => some k_ ≠ (.slice Ao67 t322.length co67 : Value).ownBlock) (Kd.R_keptB (HO_6.out) hkp (fun k_ hk_ hs_ => (hk_) hs_)) (fun k_ hk_ => hk_.1)); have n1_ := Aside0.mk (Kd.R_reok rfl hy0 (fun k_ e_ => HO_9.out.1 k_ e_)); have n2_ := Aside0.mk (Kd.R_mono (ok' := fun k_ => True) (Kd.R_keptB ((Kd.R_apart' HO_322000.out (Kd.R_typed HO_9.out) (by decide))) hkp (fun k_ hk_ hs_ => (hk_.2) hs_)) (fun k_ hk_ => trivial)); have n3_ := Aside0.mk (blk_kept (bk BK309) hkp (fun hs_ => (fun e_ => (Kd.R_ne HO_9.out BK309.out (by decide)) e_) hs_)); have n4_ := Aside0.mk (blk_kept (bk BK321) hkp (fun hs_ => (fun e_ => (Kd.R_ne HO_9.out BK321.out (by decide)) e_) hs_)); have n5_ := Aside0.mk (hb); clear HO_6; clear HO_9; clear HO_322000; clear BK309; clear BK321; clear HB; have HO_6 := n0_; have HO_9 := n1_; have HO_322000 := n2_; have BK309 := n3_; have BK321 := n4_; have HB := n5_; clear n0_ n1_ n2_ n3_ n4_ n5_; (try clear hb); (try clear hkp); (try clear hy0)) | ((with_reducible refine gate_callee (f := 28) rfl ?_); refine goesL_ (some 71) rfl rfl Try.func28 (by kernel_rfl) rfl #[.slice Ao67 t335.length co67, .int .i64 1] rfl (by (try simp only [List.map_toArray, List.map_cons, List.map_nil]); first | done | (rw [show t335.length = t322.length from (Kd.R_reads' HO_9.out).1.symm] <;> rfl) | rfl | (simp only [List.length_drop, List.length_take]; rfl)) ?_; (with_reducible refine (laws_heldExtentS.calls kj39 _ _ t335 1 t336 _ ?side1 ?side2 A59.out).mono ?_); (case side1 => exact rc0 HO_9); (case side2 => rw [show t335.length = t322.length from (Kd.R_reads' HO_9.out).1.symm]; exact (Kd.R_reads' HO_9.out).2.1); rintro e w' ⟨rfl, ⟨nd, rfl⟩⟩; refine ⟨_, rfl, ?_⟩; have hnb69 := NB309_321.out; have hnc69 := NB321_309.out; have hcz70_0 : w68.cell? ⟨gb309, 0, none⟩ = some (.slice A0_0 l0_0.length c0_0) := (blk_cell BK309.out 0).trans rfl; have hfz70_0 := blk_frozen BK309.out 0) | ((with_reducible refine gate_callee (f := 16) rfl ?_); refine goesL_ (some 79) rfl rfl Try.func16 (by kernel_rfl) rfl #[.agg #[.slice A0_0 l0_0.length c0_0]] rfl (by (try simp only [List.map_toArray, List.map_cons, List.map_nil]); first | done | rfl | (simp only [List.length_drop, List.length_take]; rfl)) ?_; (with_reducible refine (laws_toFileMap.calls kj39 _ _ l0_0 t337 _ ?side1 ?side2 A64.out).mono ?_); (case side1 => repeat (first | exact (Kd.C_below HR0_0.out (bs2 HB GE309 GE321)) | (with_reducible refine Kd.C_alloc ?_ _) | (with_reducible refine Kd.C_drewN ?_ _) | (with_reducible refine Kd.C_drew ?_))); (case side2 => exact HC0_0.out); rintro e w71 ⟨v338, rfl, ho0, hb⟩; refine ⟨_, rfl, ?_⟩; have n0_ := Aside0.mk (Kd.R_below (rr HO_6.out) hb); have n1_ := Aside0.mk (Kd.R_below (rr HO_9.out) hb); have n2_ := Aside0.mk (Kd.R_elder' (rr HO_322000.out) (Kd.R_base ho0) hb); have n3_ := Aside0.mk (Kd.R_lower (Kd.R_new' ho0 (Kd.R_lt (rr HO_322000.out))) (below_size (bs2 HB GE309 GE321))); have n4_ := Aside0.mk (bb BK309 hb); have n5_ := Aside0.mk (bb BK321 hb); have n6_ := Aside0.mk (below_step (bs2 HB GE309 GE321) hb); clear HO_6; clear HO_9; clear HO_322000; clear BK309; clear BK321; clear HB; have HO_6 := n0_; have HO_9 := n1_; have HO_322000 := n2_; have HO339 := n3_; have BK309 := n4_; have BK321 := n5_; have HB := n6_; clear n0_ n1_ n2_ n3_ n4_ n5_ n6_; (try clear hb); (try clear hb2); (try clear hk); (try clear hi); (try clear ho0); obtain ⟨Ao72, co72, eo72⟩ := Kd.R_slice HO339.out; subst eo72) | ((with_reducible refine gate_callee (f := 24) rfl ?_); refine goesL_ (some 81) rfl rfl Try.func24 (by kernel_rfl) rfl #[.agg #[.slice Ao72 t337.length co72], .int .i64 a1] rfl (by (try simp only [List.map_toArray, List.map_cons, List.map_nil]); first | done | rfl | (simp only [List.length_drop, List.length_take]; rfl)) ?_; (with_reducible refine (impl_HolesOf.calls kj39 _ _ t337 a1 t340 t343 _ ?side1 ?side2 A65.out).mono ?_); (case side1 => exact rc0 HO339); (case side2 => exact (Kd.R_reads' HO339.out).2.1); rintro e w73 ⟨v341, rfl, ho0, hb⟩; refine ⟨_, rfl, ?_⟩; have n0_ := Aside0.mk (Kd.R_elder' (rr HO_6.out) (Kd.R_base ho0) hb); have n1_ := Aside0.mk (Kd.R_elder' (rr HO_9.out) (Kd.R_base ho0) hb); have n2_ := Aside0.mk (Kd.R_below (rr HO_322000.out) hb); have n3_ := Aside0.mk (Kd.R_below (rr HO339.out) hb); have n4_ := Aside0.mk (Kd.R_lower (Kd.R_new' (Kd.R_new' ho0 (Kd.R_lt (rr HO_6.out))) (Kd.R_lt (rr HO_9.out))) (below_size (bs2 HB GE309 GE321))); have n5_ := Aside0.mk (bb BK309 hb); have n6_ := Aside0.mk (bb BK321 hb); have n7_ := Aside0.mk (below_step (bs2 HB GE309 GE321) hb); clear HO_6; clear HO_9; clear HO_322000; clear HO339; clear BK309; clear BK321; clear HB; have HO_6 := n0_; have HO_9 := n1_; have HO_322000 := n2_; have HO339 := n3_; have HO342 := n4_; have BK309 := n5_; have BK321 := n6_; have HB := n7_; clear n0_ n1_ n2_ n3_ n4_ n5_ n6_ n7_; (try clear hb); (try clear hb2); (try clear hk); (try clear hi); (try clear ho0)))
           (try simp only [Act.put, List.setIfInBounds_toArray, List.set_cons_zero, List.set_cons_succ])
           go_cut [92] (fun v92 wc => ∃ (kq : Nat) (x92_65 : Bool), v92 = .bool x92_65 ∧ Aside0 (laws_FnExactHolesOf.j2 kq t335 t334 x92_65 = some r) ∧ Aside0 (kq ≤ kj39) ∧ Aside0 (Kd.R k61 61 wc w.heap.size (fun _ => True) (.slice Ao67 t322.length co67) t335) ∧ Aside0 (Kd.R k48 48 wc w.heap.size (fun _ => True) (.slice Ao23 t332.length co23) t332) ∧ Aside0 (wc.heap[gb309]? = some (.cells #[(.slice A0_0 l0_0.length c0_0)] 24 (0, 0))) ∧ Aside0 (wc.heap[gb321]? = some (.cells #[(.slice Ao23 t332.length co23)] 29 (0, 0))) ∧ Aside0 (Below w.heap.size w wc))
           case first =>
            have H := HC66.out
            clear HC66
            replace H := Option.bind_eq_some_iff.mp H
            obtain ⟨t344, A740, H⟩ := H
            replace H : (if t344 = true then (laws_FnExactHolesOf.j2 kj39 t335 t334 (t343 != t317)) else (laws_FnExactHolesOf.j2 kj39 t335 t334 true)) = some r := H
            have A74 := Aside0.mk A740
            clear A740
            by_cases c75 : t344 = true
            ·
             subst c75
             rw [if_pos rfl] at H
             have H' := Aside0.mk H
             clear H
             obtain ⟨Ao76, co76, eo76⟩ := Kd.R_slice HO342.out
             subst eo76
             obtain ⟨Ao77, co77, eo77⟩ := Kd.R_slice HO_6.out
             subst eo77
             go_wp2_with (first | ((with_reducible refine gate_callee (f := 25) rfl ?_); refine goesL_ (some 86) rfl rfl Try.func25 (by kernel_rfl) rfl #[.slice Ao76 t340.length co76, .slice Ao77 t314.length co77] rfl (by (try simp only [List.map_toArray, List.map_cons, List.map_nil]); first | done | rfl | (simp only [List.length_drop, List.length_take]; rfl)) ?_; (with_reducible refine (laws_eqExtentS.calls kj39 _ _ t340 _ _ t314 true _ ?side1 ?side2 ?side3 ?side4 A74.out).mono ?_); (case side1 => exact rc0 HO342); (case side2 => exact (Kd.R_reads' HO342.out).2.1); (case side3 => exact rc0 HO_6); (case side4 => exact (Kd.R_reads' HO_6.out).2.1); rintro e w78 ⟨rfl, hb⟩; refine ⟨_, rfl, ?_⟩; have n0_ := Aside0.mk (Kd.R_below (rr HO_6.out) hb); have n1_ := Aside0.mk (Kd.R_below (rr HO_9.out) hb); have n2_ := Aside0.mk (Kd.R_below (rr HO_322000.out) hb); have n3_ := Aside0.mk (Kd.R_below (rr HO339.out) hb); have n4_ := Aside0.mk (Kd.R_below (rr HO342.out) hb); have n5_ := Aside0.mk (bb BK309 hb); have n6_ := Aside0.mk (bb BK321 hb); have n7_ := Aside0.mk (below_step (bs2 HB GE309 GE321) hb); clear HO_6; clear HO_9; clear HO_322000; clear HO339; clear HO342; clear BK309; clear BK321; clear HB; have HO_6 := n0_; have HO_9 := n1_; have HO_322000 := n2_; have HO339 := n3_; have HO342 := n4_; have BK309 := n5_; have BK321 := n6_; have HB := n7_; clear n0_ n1_ n2_ n3_ n4_ n5_ n6_ n7_; (try clear hb); (try clear hb2); (try clear hk); (try clear hi)))
             go_meet
             case rel => exact ⟨_, ((t343 != t317)), (by first | rfl | (simp; done) | (simp [*]; done)), H', ⟨by have := HJ11.out; have := HJ39.out; first | omega | exact Nat.le_refl _⟩, ⟨by (try simp only [hl322000_39]); (with_reducible repeat (first | apply Kd.R_alloc | apply Kd.R_drewN | apply Kd.R_drew)); exact Kd.R_mono HO_9.out (fun _ hk => trivial)⟩, ⟨by (try simp only [hl322000_39]); (with_reducible repeat (first | apply Kd.R_alloc | apply Kd.R_drewN | apply Kd.R_drew)); exact Kd.R_mono HO_322000.out (fun _ hk => trivial)⟩, ⟨by (try simp only [hl322000_39]); (with_reducible repeat (first | refine blk_drewN ?_ _ | refine blk_drew ?_ | refine blk_alloc ?_ _)); exact BK309.out⟩, ⟨by (try simp only [hl322000_39]); (with_reducible repeat (first | refine blk_drewN ?_ _ | refine blk_drew ?_ | refine blk_alloc ?_ _)); exact BK321.out⟩, ⟨bs2 HB GE309 GE321⟩⟩
            ·
             replace c75 := Bool.eq_false_iff.mpr c75
             subst c75
             rw [if_neg (show ¬ (false = true) by decide)] at H
             have H' := Aside0.mk H
             clear H
             obtain ⟨Ao79, co79, eo79⟩ := Kd.R_slice HO342.out
             subst eo79
             obtain ⟨Ao80, co80, eo80⟩ := Kd.R_slice HO_6.out
             subst eo80
             go_wp2_with (first | ((with_reducible refine gate_callee (f := 25) rfl ?_); refine goesL_ (some 86) rfl rfl Try.func25 (by kernel_rfl) rfl #[.slice Ao79 t340.length co79, .slice Ao80 t314.length co80] rfl (by (try simp only [List.map_toArray, List.map_cons, List.map_nil]); first | done | rfl | (simp only [List.length_drop, List.length_take]; rfl)) ?_; (with_reducible refine (laws_eqExtentS.calls kj39 _ _ t340 _ _ t314 false _ ?side1 ?side2 ?side3 ?side4 A74.out).mono ?_); (case side1 => exact rc0 HO342); (case side2 => exact (Kd.R_reads' HO342.out).2.1); (case side3 => exact rc0 HO_6); (case side4 => exact (Kd.R_reads' HO_6.out).2.1); rintro e w81 ⟨rfl, hb⟩; refine ⟨_, rfl, ?_⟩; have n0_ := Aside0.mk (Kd.R_below (rr HO_6.out) hb); have n1_ := Aside0.mk (Kd.R_below (rr HO_9.out) hb); have n2_ := Aside0.mk (Kd.R_below (rr HO_322000.out) hb); have n3_ := Aside0.mk (Kd.R_below (rr HO339.out) hb); have n4_ := Aside0.mk (Kd.R_below (rr HO342.out) hb); have n5_ := Aside0.mk (bb BK309 hb); have n6_ := Aside0.mk (bb BK321 hb); have n7_ := Aside0.mk (below_step (bs2 HB GE309 GE321) hb); clear HO_6; clear HO_9; clear HO_322000; clear HO339; clear HO342; clear BK309; clear BK321; clear HB; have HO_6 := n0_; have HO_9 := n1_; have HO_322000 := n2_; have HO339 := n3_; have HO342 := n4_; have BK309 := n5_; have BK321 := n6_; have HB := n7_; clear n0_ n1_ n2_ n3_ n4_ n5_ n6_ n7_; (try clear hb); (try clear hb2); (try clear hk); (try clear hi)))
             go_meet
             case rel => exact ⟨_, (true), (by first | rfl | (simp; done) | (simp [*]; done)), H', ⟨by have := HJ11.out; have := HJ39.out; first | omega | exact Nat.le_refl _⟩, ⟨by (try simp only [hl322000_39]); (with_reducible repeat (first | apply Kd.R_alloc | apply Kd.R_drewN | apply Kd.R_drew)); exact Kd.R_mono HO_9.out (fun _ hk => trivial)⟩, ⟨by (try simp only [hl322000_39]); (with_reducible repeat (first | apply Kd.R_alloc | apply Kd.R_drewN | apply Kd.R_drew)); exact Kd.R_mono HO_322000.out (fun _ hk => trivial)⟩, ⟨by (try simp only [hl322000_39]); (with_reducible repeat (first | refine blk_drewN ?_ _ | refine blk_drew ?_ | refine blk_alloc ?_ _)); exact BK309.out⟩, ⟨by (try simp only [hl322000_39]); (with_reducible repeat (first | refine blk_drewN ?_ _ | refine blk_drew ?_ | refine blk_alloc ?_ _)); exact BK321.out⟩, ⟨bs2 HB GE309 GE321⟩⟩
           case rest =>
            clear HC66
            try clear c1
            try clear c2
            try clear p2
            try clear c3
            try clear c4
            try clear c4b0
            try clear c5
            try clear c6
            try clear c7
            try clear c14
            try clear c16
            try clear c18
            try clear c23
            try clear c24
            try clear c25
            try clear c26
            try clear c27
            try clear c28
            try clear c35
            try clear c38
            try clear c45
            try clear c48
            try clear c48b0
            try clear c50
            try clear c57
            try clear c60
            try clear c60b0
            try clear c63
            try clear c63b0
            try clear c63b1
            try clear c69
            try clear c75
            try clear hcz14_0
            try clear hcz16_0
            try clear hcz20_0
            try clear hcz25_0
            try clear hcz46_0
            try clear hcz6_0
            try clear hcz70_0
            try clear hfz14_0
            try clear hfz16_0
            try clear hfz20_0
            try clear hfz25_0
            try clear hfz46_0
            try clear hfz6_0
            try clear hfz70_0
            try clear p2
            obtain ⟨kq, x92_65, rfl, HA, HJ65, HO_9, HO_322000, BK309, BK321, HB⟩ := hcut
            have hl9_65 := (Kd.R_reads' HO_9.out).1
            rw [hl9_65] at HO_9
            (try simp only [hl9_65])
            (try simp only [hl9_65] at BK309)
            (try simp only [hl9_65] at BK321)
            (try simp only [hl9_65] at HO_322000)
            cases kq with
            | zero => exact absurd HA.out (by simp [laws_FnExactHolesOf.j2])
            | succ kj65 =>
             have H := HA.out
             clear HA
             simp only [laws_FnExactHolesOf.j2] at H
             by_cases c82 : x92_65 = true
             ·
              subst c82
              rw [if_pos rfl] at H
              obtain rfl := Option.some.inj H
              go_wp2
              go_ret
              exact ⟨by first | rfl | (simp [errW_none, errW_some] <;> rfl) | (simp [*, errW_none, errW_some] <;> rfl), bs2 HB GE309 GE321⟩
             ·
              replace c82 := Bool.eq_false_iff.mpr c82
              subst c82
              rw [if_neg (show ¬ (false = true) by decide)] at H
              replace H := Option.bind_eq_some_iff.mp H
              obtain ⟨t345, A830, H⟩ := H
              replace H : (if t345 < 0 then (some false) else (if t345 = t334 then (some true) else (some false))) = some r := H
              have A83 := Aside0.mk A830
              clear A830
              by_cases c84 : t345 < 0
              ·
               rw [if_pos c84] at H
               have c84b0 : decide (t345 < 0) = true := decide_eq_true c84
               clear c84
               obtain rfl := Option.some.inj H
               go_wp2_with (first | ((with_reducible refine gate_callee (f := 28) rfl ?_); refine goesL_ (some 95) rfl rfl Try.func28 (by kernel_rfl) rfl #[.slice Ao67 t335.length co67, .int .i64 1] rfl (by (try simp only [List.map_toArray, List.map_cons, List.map_nil]); first | done | rfl | (simp only [List.length_drop, List.length_take]; rfl)) ?_; (with_reducible refine (laws_heldExtentS.calls kj65 _ _ t335 1 t345 _ ?side1 ?side2 A83.out).mono ?_); (case side1 => exact rc0 HO_9); (case side2 => exact (Kd.R_reads' HO_9.out).2.1); rintro e w' ⟨rfl, ⟨nd, rfl⟩⟩; refine ⟨_, rfl, ?_⟩))
               go_ret
               exact ⟨by first | rfl | (simp [errW_none, errW_some] <;> rfl) | (simp [*, errW_none, errW_some] <;> rfl), bs2 HB GE309 GE321⟩
              ·
               rw [if_neg c84] at H
               have c84b0 : decide (t345 < 0) = false := decide_eq_false c84
               clear c84
               by_cases c85 : t345 = t334
               ·
                rw [if_pos c85] at H
                have c85b0 : (t345 == t334) = true := beq_iff_eq.mpr c85
                have c85b1 : (t345 != t334) = false := bne_eq_false_iff_eq.mpr c85
                clear c85
                obtain rfl := Option.some.inj H
                go_wp2_with (first | ((with_reducible refine gate_callee (f := 28) rfl ?_); refine goesL_ (some 95) rfl rfl Try.func28 (by kernel_rfl) rfl #[.slice Ao67 t335.length co67, .int .i64 1] rfl (by (try simp only [List.map_toArray, List.map_cons, List.map_nil]); first | done | rfl | (simp only [List.length_drop, List.length_take]; rfl)) ?_; (with_reducible refine (laws_heldExtentS.calls kj65 _ _ t335 1 t345 _ ?side1 ?side2 A83.out).mono ?_); (case side1 => exact rc0 HO_9); (case side2 => exact (Kd.R_reads' HO_9.out).2.1); rintro e w' ⟨rfl, ⟨nd, rfl⟩⟩; refine ⟨_, rfl, ?_⟩))
                go_ret
                exact ⟨by first | rfl | (simp [errW_none, errW_some] <;> rfl) | (simp [*, errW_none, errW_some] <;> rfl), bs2 HB GE309 GE321⟩
               ·
                rw [if_neg c85] at H
                have c85b0 : (t345 == t334) = false := beq_eq_false_iff_ne.mpr c85
                have c85b1 : (t345 != t334) = true := bne_iff_ne.mpr c85
                obtain rfl := Option.some.inj H
                go_wp2_with (first | ((with_reducible refine gate_callee (f := 28) rfl ?_); refine goesL_ (some 95) rfl rfl Try.func28 (by kernel_rfl) rfl #[.slice Ao67 t335.length co67, .int .i64 1] rfl (by (try simp only [List.map_toArray, List.map_cons, List.map_nil]); first | done | rfl | (simp only [List.length_drop, List.length_take]; rfl)) ?_; (with_reducible refine (laws_heldExtentS.calls kj65 _ _ t335 1 t345 _ ?side1 ?side2 A83.out).mono ?_); (case side1 => exact rc0 HO_9); (case side2 => exact (Kd.R_reads' HO_9.out).2.1); rintro e w' ⟨rfl, ⟨nd, rfl⟩⟩; refine ⟨_, rfl, ?_⟩))
                go_ret
                exact ⟨by first | rfl | (simp [errW_none, errW_some] <;> rfl) | (simp [*, errW_none, errW_some] <;> rfl), bs2 HB GE309 GE321⟩
          ·
           rw [if_neg c63] at H
           have c63b0 : (t336 == t334) = false := beq_eq_false_iff_ne.mpr c63
           have c63b1 : (t336 != t334) = true := bne_iff_ne.mpr c63
           obtain rfl := Option.some.inj H
           obtain ⟨Ao86, co86, eo86⟩ := Kd.R_slice HO_9.out
           subst eo86
           go_wp2_with (first | ((with_reducible refine gate_callee (f := 27) rfl ?_); refine goesL_ (some 68) rfl rfl Try.func27 (by kernel_rfl) rfl #[.slice Ao86 t322.length co86, .int .i64 1] rfl (by (try simp only [List.map_toArray, List.map_cons, List.map_nil]); first | done | rfl | (simp only [List.length_drop, List.length_take]; rfl)) ?_; (with_reducible refine (laws_markExtentS.calls kj39 (fun k_ => some k_ = (.slice Ao86 t322.length co86 : Value).ownBlock) (.slice Ao86 t322.length co86) t322 1 t334 t335 w _ ?side1 ?side2 A58.out).mono ?_); (case side1 => repeat (first | (with_reducible first | exact HB.out | apply below_alloc | apply pw_below_drewN | apply below_drew1 | refine below_set ?_ GE309.out | refine below_set ?_ GE321.out) | exact HB.out)); (case side2 => exact Kd.R_tight rfl HO_9.out); rintro e w87 ⟨rfl, hy0, hb, hkp⟩; refine ⟨_, rfl, ?_⟩; have n0_ := Aside0.mk (Kd.R_mono (ok' := fun k_ => some k_ ≠ (.slice Ao86 t322.length co86 : Value).ownBlock) (Kd.R_keptB (HO_6.out) hkp (fun k_ hk_ hs_ => (hk_) hs_)) (fun k_ hk_ => hk_.1)); have n1_ := Aside0.mk (Kd.R_reok rfl hy0 (fun k_ e_ => HO_9.out.1 k_ e_)); have n2_ := Aside0.mk (Kd.R_mono (ok' := fun k_ => True) (Kd.R_keptB ((Kd.R_apart' HO_322000.out (Kd.R_typed HO_9.out) (by decide))) hkp (fun k_ hk_ hs_ => (hk_.2) hs_)) (fun k_ hk_ => trivial)); have n3_ := Aside0.mk (blk_kept (bk BK309) hkp (fun hs_ => (fun e_ => (Kd.R_ne HO_9.out BK309.out (by decide)) e_) hs_)); have n4_ := Aside0.mk (blk_kept (bk BK321) hkp (fun hs_ => (fun e_ => (Kd.R_ne HO_9.out BK321.out (by decide)) e_) hs_)); have n5_ := Aside0.mk (hb); clear HO_6; clear HO_9; clear HO_322000; clear BK309; clear BK321; clear HB; have HO_6 := n0_; have HO_9 := n1_; have HO_322000 := n2_; have BK309 := n3_; have BK321 := n4_; have HB := n5_; clear n0_ n1_ n2_ n3_ n4_ n5_; (try clear hb); (try clear hkp); (try clear hy0)) | ((with_reducible refine gate_callee (f := 28) rfl ?_); refine goesL_ (some 71) rfl rfl Try.func28 (by kernel_rfl) rfl #[.slice Ao86 t335.length co86, .int .i64 1] rfl (by (try simp only [List.map_toArray, List.map_cons, List.map_nil]); first | done | (rw [show t335.length = t322.length from (Kd.R_reads' HO_9.out).1.symm] <;> rfl) | rfl | (simp only [List.length_drop, List.length_take]; rfl)) ?_; (with_reducible refine (laws_heldExtentS.calls kj39 _ _ t335 1 t336 _ ?side1 ?side2 A59.out).mono ?_); (case side1 => exact rc0 HO_9); (case side2 => rw [show t335.length = t322.length from (Kd.R_reads' HO_9.out).1.symm]; exact (Kd.R_reads' HO_9.out).2.1); rintro e w' ⟨rfl, ⟨nd, rfl⟩⟩; refine ⟨_, rfl, ?_⟩))
           go_ret
           exact ⟨by first | rfl | (simp [errW_none, errW_some] <;> rfl) | (simp [*, errW_none, errW_some] <;> rfl), bs2 HB GE309 GE321⟩
     ·
      replace c38 := Bool.eq_false_iff.mpr c38
      subst c38
      rw [if_neg (show ¬ (false = true) by decide)] at H
      obtain rfl := Option.some.inj H
      try go_wp2
      have n0_ := Aside0.mk (Kd.R_drew HO_6.out)
      have n1_ := Aside0.mk (Kd.R_drew HO_9.out)
      have n2_ := Aside0.mk (Kd.R_drew HO_322000.out)
      have n3_ := Aside0.mk (blk_drew BK309.out)
      have n4_ := Aside0.mk (blk_drew BK321.out)
      have n5_ := Aside0.mk (below_drew1 HB.out)
      clear HO_6
      clear HO_9
      clear HO_322000
      clear BK309
      clear BK321
      clear HB
      have HO_6 := n0_
      have HO_9 := n1_
      have HO_322000 := n2_
      have BK309 := n3_
      have BK321 := n4_
      have HB := n5_
      clear n0_ n1_ n2_ n3_ n4_ n5_
      refine start_ (n := 5) (S := fun w' => w'.cell? ⟨gb321, 0, none⟩ = some (.slice Ao23 t318.length co23) ∧ w'.cell? ⟨gb309, 0, none⟩ = some (.slice A0_0 l0_0.length c0_0)) (ds := []) #[false, false, false, false, false] (by kernel_rfl) rfl rfl ⟨(blk_cell BK321.out 0).trans rfl, (blk_cell BK309.out 0).trans rfl⟩ (fun hHeld => ?_)
      generalize wc.drew = w88 at HO_6 HO_9 HO_322000 BK309 BK321 HB hHeld ⊢
      refine take_ (i := 0) (N := some 45) (v := ?_) (a' := ?_) #[true, false, false, false, false] rfl rfl (by kernel_rfl) (fun _ _ _ h => h) (Or.inl ⟨by rfl, ?_⟩) hHeld ?_ ?_
      rotate_left
      ·
       rintro w' ⟨s0, s1⟩
       go_simp
       with_reducible rfl
      rotate_left
      ·
       simp only [Act.put, List.setIfInBounds_toArray, List.set_cons_zero, List.set_cons_succ, i64_w, i32_w]
       rfl
      refine take_ (i := 1) (N := some 46) (v := ?_) (a' := ?_) #[true, true, false, false, false] rfl rfl (by kernel_rfl) (fun _ _ _ h => h) (Or.inl ⟨by rfl, ?_⟩) hHeld ?_ ?_
      rotate_left
      ·
       rintro w' ⟨s0, s1⟩
       go_simp
       with_reducible rfl
      rotate_left
      ·
       simp only [Act.put, List.setIfInBounds_toArray, List.set_cons_zero, List.set_cons_succ, i64_w, i32_w]
       rfl
      refine one_ (i := 2) (N := some 47) #[true, true, true, false, false] rfl rfl (by kernel_rfl) (by decide) (fun K hK => ?_)
      refine goes_ Try.func16 (by kernel_rfl) rfl #[.agg #[.slice A0_0 l0_0.length c0_0]] (by rfl) rfl rfl (by (try simp only [List.map_toArray, List.map_cons, List.map_nil]); first | done | rfl | (simp only [List.length_drop, List.length_take]; rfl)) ?_
      with_reducible refine (laws_toFileMap.calls kj11 _ _ l0_0 t327 _ ?side1 ?side2 A36.out).mono ?_
      (case side1 => exact cb HR0_0 HB)
      (case side2 => exact HC0_0.out)
      rintro e w89 ⟨v328, rfl, ho0, hb⟩
      refine ⟨_, rfl, ?_⟩
      have n0_ := Aside0.mk (Kd.R_below (rr HO_6.out) hb)
      have n1_ := Aside0.mk (Kd.R_below (rr HO_9.out) hb)
      have n2_ := Aside0.mk (Kd.R_elder' (rr HO_322000.out) (Kd.R_base ho0) hb)
      have n3_ := Aside0.mk (Kd.R_lower (Kd.R_new' ho0 (Kd.R_lt (rr HO_322000.out))) (below_size (bs2 HB GE309 GE321)))
      have n4_ := Aside0.mk (bb BK309 hb)
      have n5_ := Aside0.mk (bb BK321 hb)
      have n6_ := Aside0.mk (below_step (bs2 HB GE309 GE321) hb)
      clear HO_6
      clear HO_9
      clear HO_322000
      clear BK309
      clear BK321
      clear HB
      have HO_6 := n0_
      have HO_9 := n1_
      have HO_322000 := n2_
      have HO329 := n3_
      have BK309 := n4_
      have BK321 := n5_
      have HB := n6_
      clear n0_ n1_ n2_ n3_ n4_ n5_ n6_
      (try clear hb)
      (try clear hb2)
      (try clear hk)
      (try clear hi)
      (try clear ho0)
      obtain ⟨Ao90, co90, eo90⟩ := Kd.R_slice HO329.out
      (first | subst eo90 | (injection eo90 with f1_ f2_ f3_; have f4_ := f1_.symm; have f5_ := f3_.symm; clear f1_ f2_ f3_; subst f4_; subst f5_))
      refine hK.out _ _ ⟨(blk_cell BK321.out 0).trans rfl, (blk_cell BK309.out 0).trans rfl⟩ (fun hHeld => ?_)
      clear hK K
      refine norm_ (a' := ?_) ?_ ?_
      rotate_left
      ·
       show Act.put _ (some 47) _ = _
       simp only [Act.put, List.setIfInBounds_toArray, List.set_cons_zero, List.set_cons_succ, i64_w, i32_w]
       rfl
      refine one_ (i := 3) (N := some 48) #[true, true, true, true, false] rfl rfl (by kernel_rfl) (by decide) (fun K hK => ?_)
      refine goes_ Try.func18 (by kernel_rfl) rfl #[.agg #[.slice Ao23 t318.length co23], .agg #[.slice Ao90 t327.length co90]] (by rfl) rfl rfl (by (try simp only [List.map_toArray, List.map_cons, List.map_nil]); first | done | rfl | (simp only [List.length_drop, List.length_take]; rfl)) ?_
      with_reducible refine (laws_eqFileMap.calls kj11 _ _ t318 _ _ t327 false _ ?side1 ?side2 ?side3 ?side4 A37.out).mono ?_
      (case side1 => exact rc0 HO_322000)
      (case side2 => exact (Kd.R_reads' HO_322000.out).2.1)
      (case side3 => exact rc0 HO329)
      (case side4 => exact (Kd.R_reads' HO329.out).2.1)
      rintro e w91 ⟨rfl, hb⟩
      refine ⟨_, rfl, ?_⟩
      have n0_ := Aside0.mk (Kd.R_below (rr HO_6.out) hb)
      have n1_ := Aside0.mk (Kd.R_below (rr HO_9.out) hb)
      have n2_ := Aside0.mk (Kd.R_below (rr HO_322000.out) hb)
      have n3_ := Aside0.mk (Kd.R_below (rr HO329.out) hb)
      have n4_ := Aside0.mk (bb BK309 hb)
      have n5_ := Aside0.mk (bb BK321 hb)
      have n6_ := Aside0.mk (below_step (bs2 HB GE309 GE321) hb)
      clear HO_6
      clear HO_9
      clear HO_322000
      clear HO329
      clear BK309
      clear BK321
      clear HB
      have HO_6 := n0_
      have HO_9 := n1_
      have HO_322000 := n2_
      have HO329 := n3_
      have BK309 := n4_
      have BK321 := n5_
      have HB := n6_
      clear n0_ n1_ n2_ n3_ n4_ n5_ n6_
      (try clear hb)
      (try clear hb2)
      (try clear hk)
      (try clear hi)
      refine hK.out _ _ ⟨(blk_cell BK321.out 0).trans rfl, (blk_cell BK309.out 0).trans rfl⟩ (fun hHeld => ?_)
      clear hK K
      refine norm_ (a' := ?_) ?_ ?_
      rotate_left
      ·
       show Act.put _ (some 48) _ = _
       simp only [Act.put, List.setIfInBounds_toArray, List.set_cons_zero, List.set_cons_succ, i64_w, i32_w]
       rfl
      refine pure_ (i := 4) (N := some 49) (v := ?_) (a' := ?_) #[true, true, true, true, true] rfl rfl (by kernel_rfl) (fun _ _ _ h => h) (Or.inl ⟨by rfl, ?_⟩) ?_ ?_
      rotate_left
      ·
       intro w'
       go_simp
       with_reducible rfl
      rotate_left
      ·
       simp only [Act.put, List.setIfInBounds_toArray, List.set_cons_zero, List.set_cons_succ, i64_w, i32_w]
       rfl
      refine done_ (by kernel_rfl) ?_
      try go_wp2
      go_ret
      exact ⟨by first | rfl | (simp [errW_none, errW_some] <;> rfl) | (simp [*, errW_none, errW_some] <;> rfl), bs2 HB GE309 GE321⟩

/-- THE ONE PURE STATEMENT of laws_FnExactHolesOf. -/
def laws_FnExactHolesOf.Pure : Prop := ∀ (l0_0 : List (S45)) (a1 : Int), ok24 (⟨l0_0⟩ : S24) → (Lit.int .i64 a1).wf = true → ∃ k, laws_FnExactHolesOf.f k l0_0 a1 = some true

end Go.Proofs.Ytojdlcbmbpgplaa.G
