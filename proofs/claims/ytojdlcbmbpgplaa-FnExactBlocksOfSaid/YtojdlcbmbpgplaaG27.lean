-- Printed by a program of this session (drive.py, by way of the kit's print). Not trusted: Lean checks it.
import Derived.Test.YtojdlcbmbpgplaaG0
import Derived.Test.YtojdlcbmbpgplaaG3
import Derived.Test.YtojdlcbmbpgplaaG5
import Derived.Test.YtojdlcbmbpgplaaG7
import Derived.Test.YtojdlcbmbpgplaaG9
import Derived.Test.YtojdlcbmbpgplaaG10
import Derived.Test.YtojdlcbmbpgplaaG26
namespace Go.Proofs.Ytojdlcbmbpgplaa.G
open Go.RowKit Go.Proofs.YtojdlcbmbpgplaaW.PrintWords Go.Proofs.YtojdlcbmbpgplaaW.PrintLast Go.Proofs.YtojdlcbmbpgplaaW.PrintMore
attribute [local go_sem] max2_int min2_int max_two min_two max_three min_three max_four min_four   -- for this text's walks alone
set_option linter.unusedVariables false
set_option linter.unusedSimpArgs false

/-! ### laws_FnExactBlocksOf: function 8 -/
mutual
def laws_FnExactBlocksOf.j0 : Nat → List (S61) → Bool → List (S61) → Bool → Bool → List (S45) → List (S48) → Option (Bool)
 | 0, _, _, _, _, _, _, _ => none
 | k + 1, x4, x5, x7, x8, x40, x590000, x602000 => if x40 = true then (some false) else ((laws_toFileMap.f k x590000).bind fun t607 => ((laws_eqFileMap.f k x602000 t607).bind fun t610 => (if t610 = true then ((laws_markFileMap.f k x602000 1).bind fun bt611 => (if bt611.1 < 0 then (laws_FnExactBlocksOf.j1 k x4 x5 x7 true x590000) else ((laws_eqExtentS.f k x7 x4).bind fun t613 => (if t613 = true then (laws_FnExactBlocksOf.j1 k x4 x5 x7 (x8 != x5) x590000) else (laws_FnExactBlocksOf.j1 k x4 x5 x7 true x590000))))) else (some false))))
def laws_FnExactBlocksOf.j1 : Nat → List (S61) → Bool → List (S61) → Bool → List (S45) → Option (Bool)
 | 0, _, _, _, _, _ => none
 | k + 1, x4, x5, x7, x61, x590000 => if x61 = true then (some false) else ((laws_markExtentS.f k x7 1).bind fun bt614 => ((laws_heldExtentS.f k bt614.2 1).bind fun t616 => (if t616 < 0 then (some false) else (if t616 = bt614.1 then ((laws_toFileMap.f k x590000).bind fun t617 => ((impl_BlocksOf.f k t617).bind fun bt620 => ((laws_eqExtentS.f k bt620.1 x4).bind fun t624 => (if t624 = true then (laws_FnExactBlocksOf.j2 k bt614.2 bt614.1 (bt620.2 != x5)) else (laws_FnExactBlocksOf.j2 k bt614.2 bt614.1 true))))) else (some false)))))
def laws_FnExactBlocksOf.j2 : Nat → List (S61) → Int → Bool → Option (Bool)
 | 0, _, _, _ => none
 | k + 1, x7, x10, x87 => if x87 = true then (some false) else ((laws_heldExtentS.f k x7 1).bind fun t625 => (if t625 < 0 then (some false) else (if t625 = x10 then (some true) else (some false))))
end
def laws_FnExactBlocksOf.f (k : Nat) (l0_0 : List (S45)) : Option (Bool) := (laws_szFileMap.f l0_0 1048576).bind fun t590 => (if t590 < 0 then (some true) else ((laws_toFileMap.f k l0_0).bind fun t591 => ((spec_BlocksOf.f k t591).bind fun bt594 => ((laws_toFileMap.f k l0_0).bind fun t598 => ((impl_BlocksOf.f k t598).bind fun bt602 => ((laws_eqExtentS.f k bt602.1 bt594.1).bind fun t606 => (if t606 = true then (laws_FnExactBlocksOf.j0 k bt594.1 bt594.2 bt602.1 bt602.2 (bt602.2 != bt594.2) l0_0 t598) else (laws_FnExactBlocksOf.j0 k bt594.1 bt594.2 bt602.1 bt602.2 true l0_0 t598))))))))
theorem laws_FnExactBlocksOf.mono_l : ∀ k, (∀ y0 y1 y2 y3 y4 y5 y6, LeO (laws_FnExactBlocksOf.j0 k y0 y1 y2 y3 y4 y5 y6) (laws_FnExactBlocksOf.j0 (k + 1) y0 y1 y2 y3 y4 y5 y6)) ∧ (∀ y0 y1 y2 y3 y4, LeO (laws_FnExactBlocksOf.j1 k y0 y1 y2 y3 y4) (laws_FnExactBlocksOf.j1 (k + 1) y0 y1 y2 y3 y4)) ∧ (∀ y0 y1 y2, LeO (laws_FnExactBlocksOf.j2 k y0 y1 y2) (laws_FnExactBlocksOf.j2 (k + 1) y0 y1 y2))
 | 0 => ⟨fun _ _ _ _ _ _ _ r h => by simp [laws_FnExactBlocksOf.j0] at h, fun _ _ _ _ _ r h => by simp [laws_FnExactBlocksOf.j1] at h, fun _ _ _ r h => by simp [laws_FnExactBlocksOf.j2] at h⟩
 | k + 1 => by
  obtain ⟨ih0, ih1, ih2⟩ := laws_FnExactBlocksOf.mono_l k
  refine ⟨?_, ?_, ?_⟩
  ·
   intro y0 y1 y2 y3 y4 y5 y6
   unfold laws_FnExactBlocksOf.j0
   repeat' first
   | (with_reducible exact ih0 _ _ _ _ _ _ _)
   | (with_reducible exact ih1 _ _ _ _ _)
   | (with_reducible exact ih2 _ _ _)
   | (with_reducible exact impl_BlocksOf.mono _ _)
   | (with_reducible exact laws_eqExtentS.mono _ _ _)
   | (with_reducible exact laws_eqFileMap.mono _ _ _)
   | (with_reducible exact laws_heldExtentS.mono _ _ _)
   | (with_reducible exact laws_markExtentS.mono _ _ _)
   | (with_reducible exact laws_markFileMap.mono _ _ _)
   | (with_reducible exact laws_toFileMap.mono _ _)
   | (with_reducible exact spec_BlocksOf.mono _ _)
   | (with_reducible exact LeO.refl _)
   | (with_reducible exact LeO.none _)
   | (with_reducible refine LeO.ite ?_ ?_)
   | (with_reducible refine LeO.bind ?_ (fun _ => ?_))
   | exact ih0 _ _ _ _ _ _ _
   | exact ih1 _ _ _ _ _
   | exact ih2 _ _ _
   | exact impl_BlocksOf.mono _ _
   | exact laws_eqExtentS.mono _ _ _
   | exact laws_eqFileMap.mono _ _ _
   | exact laws_heldExtentS.mono _ _ _
   | exact laws_markExtentS.mono _ _ _
   | exact laws_markFileMap.mono _ _ _
   | exact laws_toFileMap.mono _ _
   | exact spec_BlocksOf.mono _ _
   | exact LeO.none _
   | refine LeO.ite ?_ ?_
   | refine LeO.bind ?_ (fun _ => ?_)
  ·
   intro y0 y1 y2 y3 y4
   unfold laws_FnExactBlocksOf.j1
   repeat' first
   | (with_reducible exact ih0 _ _ _ _ _ _ _)
   | (with_reducible exact ih1 _ _ _ _ _)
   | (with_reducible exact ih2 _ _ _)
   | (with_reducible exact impl_BlocksOf.mono _ _)
   | (with_reducible exact laws_eqExtentS.mono _ _ _)
   | (with_reducible exact laws_eqFileMap.mono _ _ _)
   | (with_reducible exact laws_heldExtentS.mono _ _ _)
   | (with_reducible exact laws_markExtentS.mono _ _ _)
   | (with_reducible exact laws_markFileMap.mono _ _ _)
   | (with_reducible exact laws_toFileMap.mono _ _)
   | (with_reducible exact spec_BlocksOf.mono _ _)
   | (with_reducible exact LeO.refl _)
   | (with_reducible exact LeO.none _)
   | (with_reducible refine LeO.ite ?_ ?_)
   | (with_reducible refine LeO.bind ?_ (fun _ => ?_))
   | exact ih0 _ _ _ _ _ _ _
   | exact ih1 _ _ _ _ _
   | exact ih2 _ _ _
   | exact impl_BlocksOf.mono _ _
   | exact laws_eqExtentS.mono _ _ _
   | exact laws_eqFileMap.mono _ _ _
   | exact laws_heldExtentS.mono _ _ _
   | exact laws_markExtentS.mono _ _ _
   | exact laws_markFileMap.mono _ _ _
   | exact laws_toFileMap.mono _ _
   | exact spec_BlocksOf.mono _ _
   | exact LeO.none _
   | refine LeO.ite ?_ ?_
   | refine LeO.bind ?_ (fun _ => ?_)
  ·
   intro y0 y1 y2
   unfold laws_FnExactBlocksOf.j2
   repeat' first
   | (with_reducible exact ih0 _ _ _ _ _ _ _)
   | (with_reducible exact ih1 _ _ _ _ _)
   | (with_reducible exact ih2 _ _ _)
   | (with_reducible exact impl_BlocksOf.mono _ _)
   | (with_reducible exact laws_eqExtentS.mono _ _ _)
   | (with_reducible exact laws_eqFileMap.mono _ _ _)
   | (with_reducible exact laws_heldExtentS.mono _ _ _)
   | (with_reducible exact laws_markExtentS.mono _ _ _)
   | (with_reducible exact laws_markFileMap.mono _ _ _)
   | (with_reducible exact laws_toFileMap.mono _ _)
   | (with_reducible exact spec_BlocksOf.mono _ _)
   | (with_reducible exact LeO.refl _)
   | (with_reducible exact LeO.none _)
   | (with_reducible refine LeO.ite ?_ ?_)
   | (with_reducible refine LeO.bind ?_ (fun _ => ?_))
   | exact ih0 _ _ _ _ _ _ _
   | exact ih1 _ _ _ _ _
   | exact ih2 _ _ _
   | exact impl_BlocksOf.mono _ _
   | exact laws_eqExtentS.mono _ _ _
   | exact laws_eqFileMap.mono _ _ _
   | exact laws_heldExtentS.mono _ _ _
   | exact laws_markExtentS.mono _ _ _
   | exact laws_markFileMap.mono _ _ _
   | exact laws_toFileMap.mono _ _
   | exact spec_BlocksOf.mono _ _
   | exact LeO.none _
   | refine LeO.ite ?_ ?_
   | refine LeO.bind ?_ (fun _ => ?_)
theorem laws_FnExactBlocksOf.mono : ∀ a0 k, LeO (laws_FnExactBlocksOf.f k a0) (laws_FnExactBlocksOf.f (k + 1) a0) := by
 intro a0 k
 obtain ⟨ih0, ih1, ih2⟩ := laws_FnExactBlocksOf.mono_l k
 unfold laws_FnExactBlocksOf.f
 repeat' first
   | (with_reducible exact ih0 _ _ _ _ _ _ _)
   | (with_reducible exact ih1 _ _ _ _ _)
   | (with_reducible exact ih2 _ _ _)
   | (with_reducible exact impl_BlocksOf.mono _ _)
   | (with_reducible exact laws_eqExtentS.mono _ _ _)
   | (with_reducible exact laws_eqFileMap.mono _ _ _)
   | (with_reducible exact laws_heldExtentS.mono _ _ _)
   | (with_reducible exact laws_markExtentS.mono _ _ _)
   | (with_reducible exact laws_markFileMap.mono _ _ _)
   | (with_reducible exact laws_toFileMap.mono _ _)
   | (with_reducible exact spec_BlocksOf.mono _ _)
   | (with_reducible exact LeO.refl _)
   | (with_reducible exact LeO.none _)
   | (with_reducible refine LeO.ite ?_ ?_)
   | (with_reducible refine LeO.bind ?_ (fun _ => ?_))
   | exact ih0 _ _ _ _ _ _ _
   | exact ih1 _ _ _ _ _
   | exact ih2 _ _ _
   | exact impl_BlocksOf.mono _ _
   | exact laws_eqExtentS.mono _ _ _
   | exact laws_eqFileMap.mono _ _ _
   | exact laws_heldExtentS.mono _ _ _
   | exact laws_markExtentS.mono _ _ _
   | exact laws_markFileMap.mono _ _ _
   | exact laws_toFileMap.mono _ _
   | exact spec_BlocksOf.mono _ _
   | exact LeO.none _
   | refine LeO.ite ?_ ?_
   | refine LeO.bind ?_ (fun _ => ?_)
set_option maxHeartbeats 8000000 in
set_option maxRecDepth 100000 in
theorem laws_FnExactBlocksOf.calls (k : Nat) (A0_0 : Option Addr) (c0_0 : Nat) (l0_0 : List (S45)) (r : Bool) (w : World) (hr0_0 : Kd.C k45 w A0_0 l0_0.length l0_0) (hc0_0 : l0_0.length ≤ c0_0) (h : laws_FnExactBlocksOf.f k l0_0 = some r) :
  Calls Try.prog 8 #[.agg #[.slice A0_0 l0_0.length c0_0]] w fun e w' => e = .returned (.bool r) ∧ Below w.heap.size w w' := by
 have hu24 := Try.underlying24
 have hu29 := Try.underlying29
 have HR0_0 := Aside0.mk hr0_0
 have HC0_0 := Aside0.mk hc0_0
 clear hr0_0 hc0_0
 have HB := Aside0.mk (Below.refl w.heap.size w)
 have H : ((laws_szFileMap.f l0_0 1048576).bind fun t590 => (if t590 < 0 then (some true) else ((laws_toFileMap.f k l0_0).bind fun t591 => ((spec_BlocksOf.f k t591).bind fun bt594 => ((laws_toFileMap.f k l0_0).bind fun t598 => ((impl_BlocksOf.f k t598).bind fun bt602 => ((laws_eqExtentS.f k bt602.1 bt594.1).bind fun t606 => (if t606 = true then (laws_FnExactBlocksOf.j0 k bt594.1 bt594.2 bt602.1 bt602.2 (bt602.2 != bt594.2) l0_0 t598) else (laws_FnExactBlocksOf.j0 k bt594.1 bt594.2 bt602.1 bt602.2 true l0_0 t598))))))))) = some r := h
 clear h
 replace H := Option.bind_eq_some_iff.mp H
 obtain ⟨t590, A20, H⟩ := H
 replace H : (if t590 < 0 then (some true) else ((laws_toFileMap.f k l0_0).bind fun t591 => ((spec_BlocksOf.f k t591).bind fun bt594 => ((laws_toFileMap.f k l0_0).bind fun t598 => ((impl_BlocksOf.f k t598).bind fun bt602 => ((laws_eqExtentS.f k bt602.1 bt594.1).bind fun t606 => (if t606 = true then (laws_FnExactBlocksOf.j0 k bt594.1 bt594.2 bt602.1 bt602.2 (bt602.2 != bt594.2) l0_0 t598) else (laws_FnExactBlocksOf.j0 k bt594.1 bt594.2 bt602.1 bt602.2 true l0_0 t598)))))))) = some r := H
 have A2 := Aside0.mk A20
 clear A20
 by_cases c3 : t590 < 0
 ·
  rw [if_pos c3] at H
  have c3b0 : decide (t590 < 0) = true := decide_eq_true c3
  clear c3
  obtain rfl := Option.some.inj H
  go_enter Try.func8, Try.ntmps8
  go_wp2_with (first | ((with_reducible refine gate_dst (N := 1) rfl ?_); refine box_event ?hg (N := 1) ?hd (cs := #[.slice A0_0 l0_0.length c0_0]) (t := 24) ?hr ?_; (case hd => rfl); (case hg => rfl); (case hr => first | (go_simp; done) | (go_simp; rfl)); intro gb589 hg w4 hbox hb; have n0_ := Aside0.mk (below_step (bs HB) hb); have n1_ := Aside0.mk (hbox); have n2_ := Aside0.mk ((by rw [hg]; exact (below_size (bs HB)) : w.heap.size ≤ gb589)); have n3_ := Aside0.mk ((by rw [hg]; exact (below_size (bs HB)) : w.heap.size ≤ gb589)); clear HB; have HB := n0_; have BK589 := n1_; have GW589 := n2_; have GE589 := n3_; clear n0_ n1_ n2_ n3_; clear hb hbox hg; have hcz5_0 : w4.cell? ⟨gb589, 0, none⟩ = some (.slice A0_0 l0_0.length c0_0) := (blk_cell BK589.out 0).trans rfl; have hfz5_0 := blk_frozen BK589.out 0) | ((with_reducible refine gate_callee (f := 14) rfl ?_); refine goesL_ (some 16) rfl rfl Try.func14 (by kernel_rfl) rfl #[.agg #[.slice A0_0 l0_0.length c0_0], .int .i64 1048576] rfl (by (try simp only [List.map_toArray, List.map_cons, List.map_nil]); first | done | rfl | (simp only [List.length_drop, List.length_take]; rfl)) ?_; (with_reducible refine (laws_szFileMap.calls _ _ l0_0 1048576 t590 _ ?side1 ?side2 A2.out).mono ?_); (case side1 => exact cb HR0_0 HB); (case side2 => exact HC0_0.out); rintro e w6 ⟨rfl, hb⟩; refine ⟨_, rfl, ?_⟩; have n0_ := Aside0.mk (bb BK589 hb); have n1_ := Aside0.mk (below_step (bs1 HB GE589) hb); clear BK589; clear HB; have BK589 := n0_; have HB := n1_; clear n0_ n1_; (try clear hb); (try clear hb2); (try clear hk); (try clear hi)))
  go_ret
  exact ⟨by first | rfl | (simp [errW_none, errW_some] <;> rfl) | (simp [*, errW_none, errW_some] <;> rfl), bs1 HB GE589⟩
 ·
  rw [if_neg c3] at H
  have c3b0 : decide (t590 < 0) = false := decide_eq_false c3
  clear c3
  replace H := Option.bind_eq_some_iff.mp H
  obtain ⟨t591, A70, H⟩ := H
  replace H : ((spec_BlocksOf.f k t591).bind fun bt594 => ((laws_toFileMap.f k l0_0).bind fun t598 => ((impl_BlocksOf.f k t598).bind fun bt602 => ((laws_eqExtentS.f k bt602.1 bt594.1).bind fun t606 => (if t606 = true then (laws_FnExactBlocksOf.j0 k bt594.1 bt594.2 bt602.1 bt602.2 (bt602.2 != bt594.2) l0_0 t598) else (laws_FnExactBlocksOf.j0 k bt594.1 bt594.2 bt602.1 bt602.2 true l0_0 t598)))))) = some r := H
  have A7 := Aside0.mk A70
  clear A70
  replace H := Option.bind_eq_some_iff.mp H
  obtain ⟨⟨t594, t597⟩, A80, H⟩ := H
  replace H : ((laws_toFileMap.f k l0_0).bind fun t598 => ((impl_BlocksOf.f k t598).bind fun bt602 => ((laws_eqExtentS.f k bt602.1 t594).bind fun t606 => (if t606 = true then (laws_FnExactBlocksOf.j0 k t594 t597 bt602.1 bt602.2 (bt602.2 != t597) l0_0 t598) else (laws_FnExactBlocksOf.j0 k t594 t597 bt602.1 bt602.2 true l0_0 t598))))) = some r := H
  have A8 := Aside0.mk A80
  clear A80
  replace H := Option.bind_eq_some_iff.mp H
  obtain ⟨t598, A90, H⟩ := H
  replace H : ((impl_BlocksOf.f k t598).bind fun bt602 => ((laws_eqExtentS.f k bt602.1 t594).bind fun t606 => (if t606 = true then (laws_FnExactBlocksOf.j0 k t594 t597 bt602.1 bt602.2 (bt602.2 != t597) l0_0 t598) else (laws_FnExactBlocksOf.j0 k t594 t597 bt602.1 bt602.2 true l0_0 t598)))) = some r := H
  have A9 := Aside0.mk A90
  clear A90
  replace H := Option.bind_eq_some_iff.mp H
  obtain ⟨⟨t602, t605⟩, A100, H⟩ := H
  replace H : ((laws_eqExtentS.f k t602 t594).bind fun t606 => (if t606 = true then (laws_FnExactBlocksOf.j0 k t594 t597 t602 t605 (t605 != t597) l0_0 t598) else (laws_FnExactBlocksOf.j0 k t594 t597 t602 t605 true l0_0 t598))) = some r := H
  have A10 := Aside0.mk A100
  clear A100
  have HC11 := Aside0.mk H
  clear H
  go_enter Try.func8, Try.ntmps8
  go_upto_region 8 with (first | ((with_reducible refine gate_dst (N := 1) rfl ?_); refine box_event ?hg (N := 1) ?hd (cs := #[.slice A0_0 l0_0.length c0_0]) (t := 24) ?hr ?_; (case hd => rfl); (case hg => rfl); (case hr => first | (go_simp; done) | (go_simp; rfl)); intro gb589 hg w12 hbox hb; have n0_ := Aside0.mk (below_step (bs HB) hb); have n1_ := Aside0.mk (hbox); have n2_ := Aside0.mk ((by rw [hg]; exact (below_size (bs HB)) : w.heap.size ≤ gb589)); have n3_ := Aside0.mk ((by rw [hg]; exact (below_size (bs HB)) : w.heap.size ≤ gb589)); clear HB; have HB := n0_; have BK589 := n1_; have GW589 := n2_; have GE589 := n3_; clear n0_ n1_ n2_ n3_; clear hb hbox hg; have hcz13_0 : w12.cell? ⟨gb589, 0, none⟩ = some (.slice A0_0 l0_0.length c0_0) := (blk_cell BK589.out 0).trans rfl; have hfz13_0 := blk_frozen BK589.out 0) | ((with_reducible refine gate_callee (f := 14) rfl ?_); refine goesL_ (some 16) rfl rfl Try.func14 (by kernel_rfl) rfl #[.agg #[.slice A0_0 l0_0.length c0_0], .int .i64 1048576] rfl (by (try simp only [List.map_toArray, List.map_cons, List.map_nil]); first | done | rfl | (simp only [List.length_drop, List.length_take]; rfl)) ?_; (with_reducible refine (laws_szFileMap.calls _ _ l0_0 1048576 t590 _ ?side1 ?side2 A2.out).mono ?_); (case side1 => exact cb HR0_0 HB); (case side2 => exact HC0_0.out); rintro e w14 ⟨rfl, hb⟩; refine ⟨_, rfl, ?_⟩; have n0_ := Aside0.mk (bb BK589 hb); have n1_ := Aside0.mk (below_step (bs1 HB GE589) hb); clear BK589; clear HB; have BK589 := n0_; have HB := n1_; clear n0_ n1_; (try clear hb); (try clear hb2); (try clear hk); (try clear hi); have hcz15_0 : w14.cell? ⟨gb589, 0, none⟩ = some (.slice A0_0 l0_0.length c0_0) := (blk_cell BK589.out 0).trans rfl; have hfz15_0 := blk_frozen BK589.out 0) | ((with_reducible refine gate_callee (f := 16) rfl ?_); refine goesL_ (some 21) rfl rfl Try.func16 (by kernel_rfl) rfl #[.agg #[.slice A0_0 l0_0.length c0_0]] rfl (by (try simp only [List.map_toArray, List.map_cons, List.map_nil]); first | done | rfl | (simp only [List.length_drop, List.length_take]; rfl)) ?_; (with_reducible refine (laws_toFileMap.calls k _ _ l0_0 t591 _ ?side1 ?side2 A7.out).mono ?_); (case side1 => exact cb HR0_0 HB); (case side2 => exact HC0_0.out); rintro e w16 ⟨v592, rfl, ho0, hb⟩; refine ⟨_, rfl, ?_⟩; have n0_ := Aside0.mk (Kd.R_lower ho0 (below_size (bs1 HB GE589))); have n1_ := Aside0.mk (bb BK589 hb); have n2_ := Aside0.mk (below_step (bs1 HB GE589) hb); clear BK589; clear HB; have HO593 := n0_; have BK589 := n1_; have HB := n2_; clear n0_ n1_ n2_; (try clear hb); (try clear hb2); (try clear hk); (try clear hi); (try clear ho0); obtain ⟨Ao17, co17, eo17⟩ := Kd.R_slice HO593.out; subst eo17) | ((with_reducible refine gate_callee (f := 33) rfl ?_); refine goesL_ (some 22) rfl rfl Try.func33 (by kernel_rfl) rfl #[.agg #[.slice Ao17 t591.length co17]] rfl (by (try simp only [List.map_toArray, List.map_cons, List.map_nil]); first | done | rfl | (simp only [List.length_drop, List.length_take]; rfl)) ?_; (with_reducible refine (spec_BlocksOf.calls k _ _ t591 t594 t597 _ ?side1 ?side2 A8.out).mono ?_); (case side1 => exact rc0 HO593); (case side2 => exact (Kd.R_reads' HO593.out).2.1); rintro e w18 ⟨v595, rfl, ho0, hb⟩; refine ⟨_, rfl, ?_⟩; have n0_ := Aside0.mk (Kd.R_below (rr HO593.out) hb); have n1_ := Aside0.mk (Kd.R_lower ho0 (below_size (bs1 HB GE589))); have n2_ := Aside0.mk (bb BK589 hb); have n3_ := Aside0.mk (below_step (bs1 HB GE589) hb); clear HO593; clear BK589; clear HB; have HO593 := n0_; have HO596 := n1_; have BK589 := n2_; have HB := n3_; clear n0_ n1_ n2_ n3_; (try clear hb); (try clear hb2); (try clear hk); (try clear hi); (try clear ho0); have hcz19_0 : w18.cell? ⟨gb589, 0, none⟩ = some (.slice A0_0 l0_0.length c0_0) := (blk_cell BK589.out 0).trans rfl; have hfz19_0 := blk_frozen BK589.out 0) | ((with_reducible refine gate_callee (f := 16) rfl ?_); refine goesL_ (some 26) rfl rfl Try.func16 (by kernel_rfl) rfl #[.agg #[.slice A0_0 l0_0.length c0_0]] rfl (by (try simp only [List.map_toArray, List.map_cons, List.map_nil]); first | done | rfl | (simp only [List.length_drop, List.length_take]; rfl)) ?_; (with_reducible refine (laws_toFileMap.calls k _ _ l0_0 t598 _ ?side1 ?side2 A9.out).mono ?_); (case side1 => exact cb HR0_0 HB); (case side2 => exact HC0_0.out); rintro e w20 ⟨v599, rfl, ho0, hb⟩; refine ⟨_, rfl, ?_⟩; have n0_ := Aside0.mk (Kd.R_elder' (rr HO593.out) (Kd.R_base ho0) hb); have n1_ := Aside0.mk (Kd.R_below (rr HO596.out) hb); have n2_ := Aside0.mk (Kd.R_lower (Kd.R_new' ho0 (Kd.R_lt (rr HO593.out))) (below_size (bs1 HB GE589))); have n3_ := Aside0.mk (bb BK589 hb); have n4_ := Aside0.mk (below_step (bs1 HB GE589) hb); clear HO593; clear HO596; clear BK589; clear HB; have HO593 := n0_; have HO596 := n1_; have HO600 := n2_; have BK589 := n3_; have HB := n4_; clear n0_ n1_ n2_ n3_ n4_; (try clear hb); (try clear hb2); (try clear hk); (try clear hi); (try clear ho0)) | ((with_reducible refine gate_dst (N := 6) rfl ?_); refine box_event ?hg (N := 6) ?hd (cs := #[.slice none 0 0]) (t := 29) ?hr ?_; (case hd => rfl); (case hg => rfl); (case hr => first | (go_simp; done) | (go_simp; rfl)); intro gb601 hg w21 hbox hb; have n0_ := Aside0.mk (Kd.R_below (rr HO593.out) hb); have n1_ := Aside0.mk (Kd.R_below (rr HO596.out) hb); have n2_ := Aside0.mk (Kd.R_below (rr HO600.out) hb); have n3_ := Aside0.mk (bb BK589 hb); have n4_ := Aside0.mk (below_step (bs1 HB GE589) hb); have n5_ := Aside0.mk (hbox); have n6_ := Aside0.mk ((by rw [hg]; exact (below_size (bs1 HB GE589)) : w.heap.size ≤ gb601)); have n7_ := Aside0.mk ((by rw [hg]; exact (below_size (bs1 HB GE589)) : w.heap.size ≤ gb601)); have n8_ := Aside0.mk ((bn BK589 hg : gb589 ≠ gb601)); have n9_ := Aside0.mk ((bm BK589 hg : gb601 ≠ gb589)); clear HO593; clear HO596; clear HO600; clear BK589; clear HB; have HO593 := n0_; have HO596 := n1_; have HO600 := n2_; have BK589 := n3_; have HB := n4_; have BK601 := n5_; have GW601 := n6_; have GE601 := n7_; have NB589_601 := n8_; have NB601_589 := n9_; clear n0_ n1_ n2_ n3_ n4_ n5_ n6_ n7_ n8_ n9_; clear hb hbox hg; obtain ⟨Ao22, co22, eo22⟩ := Kd.R_slice HO600.out; subst eo22; have hnb23 := NB601_589.out; have hnc23 := NB589_601.out; have hcz24_0 : w21.cell? ⟨gb601, 0, none⟩ = some (.slice none 0 0) := (blk_cell BK601.out 0).trans rfl; have hfz24_0 := blk_frozen BK601.out 0) | ((with_reducible refine gate_callee (f := 34) rfl ?_); refine goesL_ (some 29) rfl rfl Try.func34 (by kernel_rfl) rfl #[.agg #[.slice Ao22 t598.length co22]] rfl (by (try simp only [List.map_toArray, List.map_cons, List.map_nil]); first | done | rfl | (simp only [List.length_drop, List.length_take]; rfl)) ?_; (with_reducible refine (impl_BlocksOf.calls k _ _ t598 t602 t605 _ ?side1 ?side2 A10.out).mono ?_); (case side1 => exact rc HO600 BK601); (case side2 => exact (Kd.R_reads' HO600.out).2.1); rintro e w25 ⟨v603, rfl, ho0, hb⟩; refine ⟨_, rfl, ?_⟩; have n0_ := Aside0.mk (Kd.R_below (rf HO593 BK601) hb); have n1_ := Aside0.mk (Kd.R_elder' (rf HO596 BK601) (Kd.R_base ho0) hb); have n2_ := Aside0.mk (Kd.R_below (rf HO600 BK601) hb); have n3_ := Aside0.mk (Kd.R_lower (Kd.R_new' ho0 (Kd.R_lt (rf HO596 BK601))) (below_size (bs2 HB GE589 GE601))); have n4_ := Aside0.mk (blk_below (bf BK589 NB589_601) hb); have n5_ := Aside0.mk (blk_below (g := gb601) (o := .cells #[.slice Ao22 t598.length co22] 29 (0, 0)) (by (with_reducible repeat (first | refine blk_drewN ?_ _ | refine blk_drew ?_ | refine blk_alloc ?_ _)); refine blk_put (cs := #[.slice none 0 0]) ?_ 0 _ rfl; (with_reducible repeat (first | refine blk_drewN ?_ _ | refine blk_drew ?_ | refine blk_alloc ?_ _)); exact BK601.out) hb); have n6_ := Aside0.mk (below_step (bs2 HB GE589 GE601) hb); clear HO593; clear HO596; clear HO600; clear BK589; clear BK601; clear HB; have HO593 := n0_; have HO596 := n1_; have HO600 := n2_; have HO604 := n3_; have BK589 := n4_; have BK601 := n5_; have HB := n6_; clear n0_ n1_ n2_ n3_ n4_ n5_ n6_; (try clear hb); (try clear hb2); (try clear hk); (try clear hi); (try clear ho0)))
  (try simp only [Act.put, List.setIfInBounds_toArray, List.set_cons_zero, List.set_cons_succ])
  go_cut [40] (fun v40 wc => ∃ (kq : Nat) (x40_10 : Bool), v40 = .bool x40_10 ∧ Aside0 (laws_FnExactBlocksOf.j0 kq t594 t597 t602 t605 x40_10 l0_0 t598 = some r) ∧ Aside0 (kq ≤ k) ∧ Aside0 (Kd.R k61 61 wc w.heap.size (fun k_ => some k_ ≠ (v603 : Value).ownBlock) v595 t594) ∧ Aside0 (Kd.R k61 61 wc w.heap.size (fun k_ => some k_ ≠ (v595 : Value).ownBlock) v603 t602) ∧ Aside0 (Kd.R k48 48 wc w.heap.size (fun _ => True) (.slice Ao22 t598.length co22) t598) ∧ Aside0 (wc.heap[gb589]? = some (.cells #[(.slice A0_0 l0_0.length c0_0)] 24 (0, 0))) ∧ Aside0 (wc.heap[gb601]? = some (.cells #[(.slice Ao22 t598.length co22)] 29 (0, 0))) ∧ Aside0 (Below w.heap.size w wc))
  case first =>
   have H := HC11.out
   clear HC11
   replace H := Option.bind_eq_some_iff.mp H
   obtain ⟨t606, A260, H⟩ := H
   replace H : (if t606 = true then (laws_FnExactBlocksOf.j0 k t594 t597 t602 t605 (t605 != t597) l0_0 t598) else (laws_FnExactBlocksOf.j0 k t594 t597 t602 t605 true l0_0 t598)) = some r := H
   have A26 := Aside0.mk A260
   clear A260
   by_cases c27 : t606 = true
   ·
    subst c27
    rw [if_pos rfl] at H
    have H' := Aside0.mk H
    clear H
    obtain ⟨Ao28, co28, eo28⟩ := Kd.R_slice HO604.out
    subst eo28
    obtain ⟨Ao29, co29, eo29⟩ := Kd.R_slice HO596.out
    subst eo29
    go_wp2_with (first | ((with_reducible refine gate_callee (f := 25) rfl ?_); refine goesL_ (some 34) rfl rfl Try.func25 (by kernel_rfl) rfl #[.slice Ao28 t602.length co28, .slice Ao29 t594.length co29] rfl (by (try simp only [List.map_toArray, List.map_cons, List.map_nil]); first | done | rfl | (simp only [List.length_drop, List.length_take]; rfl)) ?_; (with_reducible refine (laws_eqExtentS.calls k _ _ t602 _ _ t594 true _ ?side1 ?side2 ?side3 ?side4 A26.out).mono ?_); (case side1 => exact rc0 HO604); (case side2 => exact (Kd.R_reads' HO604.out).2.1); (case side3 => exact rc0 HO596); (case side4 => exact (Kd.R_reads' HO596.out).2.1); rintro e w30 ⟨rfl, hb⟩; refine ⟨_, rfl, ?_⟩; have n0_ := Aside0.mk (Kd.R_below (rr HO593.out) hb); have n1_ := Aside0.mk (Kd.R_below (rr HO596.out) hb); have n2_ := Aside0.mk (Kd.R_below (rr HO600.out) hb); have n3_ := Aside0.mk (Kd.R_below (rr HO604.out) hb); have n4_ := Aside0.mk (bb BK589 hb); have n5_ := Aside0.mk (bb BK601 hb); have n6_ := Aside0.mk (below_step (bs2 HB GE589 GE601) hb); clear HO593; clear HO596; clear HO600; clear HO604; clear BK589; clear BK601; clear HB; have HO593 := n0_; have HO596 := n1_; have HO600 := n2_; have HO604 := n3_; have BK589 := n4_; have BK601 := n5_; have HB := n6_; clear n0_ n1_ n2_ n3_ n4_ n5_ n6_; (try clear hb); (try clear hb2); (try clear hk); (try clear hi)))
    go_meet
    case rel => exact ⟨_, ((t605 != t597)), (by first | rfl | (simp; done) | (simp [*]; done)), H', ⟨by first | omega | exact Nat.le_refl _⟩, ⟨by (with_reducible repeat (first | apply Kd.R_alloc | apply Kd.R_drewN | apply Kd.R_drew)); exact Kd.R_mono HO596.out (fun _ hk => hk.2)⟩, ⟨by (with_reducible repeat (first | apply Kd.R_alloc | apply Kd.R_drewN | apply Kd.R_drew)); exact Kd.R_mono HO604.out (fun _ hk => hk.2)⟩, ⟨by (with_reducible repeat (first | apply Kd.R_alloc | apply Kd.R_drewN | apply Kd.R_drew)); exact Kd.R_mono HO600.out (fun _ hk => trivial)⟩, ⟨bk BK589⟩, ⟨bk BK601⟩, ⟨bs2 HB GE589 GE601⟩⟩
   ·
    replace c27 := Bool.eq_false_iff.mpr c27
    subst c27
    rw [if_neg (show ¬ (false = true) by decide)] at H
    have H' := Aside0.mk H
    clear H
    obtain ⟨Ao31, co31, eo31⟩ := Kd.R_slice HO604.out
    subst eo31
    obtain ⟨Ao32, co32, eo32⟩ := Kd.R_slice HO596.out
    subst eo32
    go_wp2_with (first | ((with_reducible refine gate_callee (f := 25) rfl ?_); refine goesL_ (some 34) rfl rfl Try.func25 (by kernel_rfl) rfl #[.slice Ao31 t602.length co31, .slice Ao32 t594.length co32] rfl (by (try simp only [List.map_toArray, List.map_cons, List.map_nil]); first | done | rfl | (simp only [List.length_drop, List.length_take]; rfl)) ?_; (with_reducible refine (laws_eqExtentS.calls k _ _ t602 _ _ t594 false _ ?side1 ?side2 ?side3 ?side4 A26.out).mono ?_); (case side1 => exact rc0 HO604); (case side2 => exact (Kd.R_reads' HO604.out).2.1); (case side3 => exact rc0 HO596); (case side4 => exact (Kd.R_reads' HO596.out).2.1); rintro e w33 ⟨rfl, hb⟩; refine ⟨_, rfl, ?_⟩; have n0_ := Aside0.mk (Kd.R_below (rr HO593.out) hb); have n1_ := Aside0.mk (Kd.R_below (rr HO596.out) hb); have n2_ := Aside0.mk (Kd.R_below (rr HO600.out) hb); have n3_ := Aside0.mk (Kd.R_below (rr HO604.out) hb); have n4_ := Aside0.mk (bb BK589 hb); have n5_ := Aside0.mk (bb BK601 hb); have n6_ := Aside0.mk (below_step (bs2 HB GE589 GE601) hb); clear HO593; clear HO596; clear HO600; clear HO604; clear BK589; clear BK601; clear HB; have HO593 := n0_; have HO596 := n1_; have HO600 := n2_; have HO604 := n3_; have BK589 := n4_; have BK601 := n5_; have HB := n6_; clear n0_ n1_ n2_ n3_ n4_ n5_ n6_; (try clear hb); (try clear hb2); (try clear hk); (try clear hi)))
    go_meet
    case rel => exact ⟨_, (true), (by first | rfl | (simp; done) | (simp [*]; done)), H', ⟨by first | omega | exact Nat.le_refl _⟩, ⟨by (with_reducible repeat (first | apply Kd.R_alloc | apply Kd.R_drewN | apply Kd.R_drew)); exact Kd.R_mono HO596.out (fun _ hk => hk.2)⟩, ⟨by (with_reducible repeat (first | apply Kd.R_alloc | apply Kd.R_drewN | apply Kd.R_drew)); exact Kd.R_mono HO604.out (fun _ hk => hk.2)⟩, ⟨by (with_reducible repeat (first | apply Kd.R_alloc | apply Kd.R_drewN | apply Kd.R_drew)); exact Kd.R_mono HO600.out (fun _ hk => trivial)⟩, ⟨bk BK589⟩, ⟨bk BK601⟩, ⟨bs2 HB GE589 GE601⟩⟩
  case rest =>
   clear HC11
   try clear c1
   try clear c2
   try clear p2
   try clear c3
   try clear c3b0
   try clear c8
   try clear c14
   try clear c16
   try clear c23
   try clear c25
   try clear c27
   try clear c33
   try clear hcz13_0
   try clear hcz15_0
   try clear hcz19_0
   try clear hcz24_0
   try clear hcz5_0
   try clear hfz13_0
   try clear hfz15_0
   try clear hfz19_0
   try clear hfz24_0
   try clear hfz5_0
   obtain ⟨kq, x40_10, rfl, HA, HJ10, HO_4, HO_7, HO_602000, BK589, BK601, HB⟩ := hcut
   cases kq with
   | zero => exact absurd HA.out (by simp [laws_FnExactBlocksOf.j0])
   | succ kj10 =>
    have H := HA.out
    clear HA
    simp only [laws_FnExactBlocksOf.j0] at H
    by_cases c34 : x40_10 = true
    ·
     subst c34
     rw [if_pos rfl] at H
     obtain rfl := Option.some.inj H
     go_wp2
     go_ret
     exact ⟨by first | rfl | (simp [errW_none, errW_some] <;> rfl) | (simp [*, errW_none, errW_some] <;> rfl), bs2 HB GE589 GE601⟩
    ·
     replace c34 := Bool.eq_false_iff.mpr c34
     subst c34
     rw [if_neg (show ¬ (false = true) by decide)] at H
     replace H := Option.bind_eq_some_iff.mp H
     obtain ⟨t607, A350, H⟩ := H
     replace H : ((laws_eqFileMap.f kj10 t598 t607).bind fun t610 => (if t610 = true then ((laws_markFileMap.f kj10 t598 1).bind fun bt611 => (if bt611.1 < 0 then (laws_FnExactBlocksOf.j1 kj10 t594 t597 t602 true l0_0) else ((laws_eqExtentS.f kj10 t602 t594).bind fun t613 => (if t613 = true then (laws_FnExactBlocksOf.j1 kj10 t594 t597 t602 (t605 != t597) l0_0) else (laws_FnExactBlocksOf.j1 kj10 t594 t597 t602 true l0_0))))) else (some false))) = some r := H
     have A35 := Aside0.mk A350
     clear A350
     replace H := Option.bind_eq_some_iff.mp H
     obtain ⟨t610, A360, H⟩ := H
     replace H : (if t610 = true then ((laws_markFileMap.f kj10 t598 1).bind fun bt611 => (if bt611.1 < 0 then (laws_FnExactBlocksOf.j1 kj10 t594 t597 t602 true l0_0) else ((laws_eqExtentS.f kj10 t602 t594).bind fun t613 => (if t613 = true then (laws_FnExactBlocksOf.j1 kj10 t594 t597 t602 (t605 != t597) l0_0) else (laws_FnExactBlocksOf.j1 kj10 t594 t597 t602 true l0_0))))) else (some false)) = some r := H
     have A36 := Aside0.mk A360
     clear A360
     by_cases c37 : t610 = true
     ·
      subst c37
      rw [if_pos rfl] at H
      replace H := Option.bind_eq_some_iff.mp H
      obtain ⟨⟨t611, t612⟩, A380, H⟩ := H
      replace H : (if t611 < 0 then (laws_FnExactBlocksOf.j1 kj10 t594 t597 t602 true l0_0) else ((laws_eqExtentS.f kj10 t602 t594).bind fun t613 => (if t613 = true then (laws_FnExactBlocksOf.j1 kj10 t594 t597 t602 (t605 != t597) l0_0) else (laws_FnExactBlocksOf.j1 kj10 t594 t597 t602 true l0_0)))) = some r := H
      have A38 := Aside0.mk A380
      clear A380
      have HC39 := Aside0.mk H
      clear H
      try go_wp2
      have n0_ := Aside0.mk (Kd.R_drew HO_4.out)
      have n1_ := Aside0.mk (Kd.R_drew HO_7.out)
      have n2_ := Aside0.mk (Kd.R_drew HO_602000.out)
      have n3_ := Aside0.mk (blk_drew BK589.out)
      have n4_ := Aside0.mk (blk_drew BK601.out)
      have n5_ := Aside0.mk (below_drew1 HB.out)
      clear HO_4
      clear HO_7
      clear HO_602000
      clear BK589
      clear BK601
      clear HB
      have HO_4 := n0_
      have HO_7 := n1_
      have HO_602000 := n2_
      have BK589 := n3_
      have BK601 := n4_
      have HB := n5_
      clear n0_ n1_ n2_ n3_ n4_ n5_
      refine start_ (n := 5) (S := fun w' => w'.cell? ⟨gb601, 0, none⟩ = some (.slice Ao22 t598.length co22) ∧ w'.cell? ⟨gb589, 0, none⟩ = some (.slice A0_0 l0_0.length c0_0)) (ds := []) #[false, false, false, false, false] (by kernel_rfl) rfl rfl ⟨(blk_cell BK601.out 0).trans rfl, (blk_cell BK589.out 0).trans rfl⟩ (fun hHeld => ?_)
      generalize wc.drew = w40 at HO_4 HO_7 HO_602000 BK589 BK601 HB hHeld ⊢
      refine take_ (i := 0) (N := some 41) (v := ?_) (a' := ?_) #[true, false, false, false, false] rfl rfl (by kernel_rfl) (fun _ _ _ h => h) (Or.inl ⟨by rfl, ?_⟩) hHeld ?_ ?_
      rotate_left
      ·
       rintro w' ⟨s0, s1⟩
       go_simp
       with_reducible rfl
      rotate_left
      ·
       simp only [Act.put, List.setIfInBounds_toArray, List.set_cons_zero, List.set_cons_succ, i64_w, i32_w]
       rfl
      refine take_ (i := 1) (N := some 42) (v := ?_) (a' := ?_) #[true, true, false, false, false] rfl rfl (by kernel_rfl) (fun _ _ _ h => h) (Or.inl ⟨by rfl, ?_⟩) hHeld ?_ ?_
      rotate_left
      ·
       rintro w' ⟨s0, s1⟩
       go_simp
       with_reducible rfl
      rotate_left
      ·
       simp only [Act.put, List.setIfInBounds_toArray, List.set_cons_zero, List.set_cons_succ, i64_w, i32_w]
       rfl
      refine one_ (i := 2) (N := some 43) #[true, true, true, false, false] rfl rfl (by kernel_rfl) (by decide) (fun K hK => ?_)
      refine goes_ Try.func16 (by kernel_rfl) rfl #[.agg #[.slice A0_0 l0_0.length c0_0]] (by rfl) rfl rfl (by (try simp only [List.map_toArray, List.map_cons, List.map_nil]); first | done | rfl | (simp only [List.length_drop, List.length_take]; rfl)) ?_
      with_reducible refine (laws_toFileMap.calls kj10 _ _ l0_0 t607 _ ?side1 ?side2 A35.out).mono ?_
      (case side1 => exact cb HR0_0 HB)
      (case side2 => exact HC0_0.out)
      rintro e w41 ⟨v608, rfl, ho0, hb⟩
      refine ⟨_, rfl, ?_⟩
      have n0_ := Aside0.mk (Kd.R_below (rr HO_4.out) hb)
      have n1_ := Aside0.mk (Kd.R_below (rr HO_7.out) hb)
      have n2_ := Aside0.mk (Kd.R_elder' (rr HO_602000.out) (Kd.R_base ho0) hb)
      have n3_ := Aside0.mk (Kd.R_lower (Kd.R_new' ho0 (Kd.R_lt (rr HO_602000.out))) (below_size (bs2 HB GE589 GE601)))
      have n4_ := Aside0.mk (bb BK589 hb)
      have n5_ := Aside0.mk (bb BK601 hb)
      have n6_ := Aside0.mk (below_step (bs2 HB GE589 GE601) hb)
      clear HO_4
      clear HO_7
      clear HO_602000
      clear BK589
      clear BK601
      clear HB
      have HO_4 := n0_
      have HO_7 := n1_
      have HO_602000 := n2_
      have HO609 := n3_
      have BK589 := n4_
      have BK601 := n5_
      have HB := n6_
      clear n0_ n1_ n2_ n3_ n4_ n5_ n6_
      (try clear hb)
      (try clear hb2)
      (try clear hk)
      (try clear hi)
      (try clear ho0)
      obtain ⟨Ao42, co42, eo42⟩ := Kd.R_slice HO609.out
      (first | subst eo42 | (injection eo42 with f1_ f2_ f3_; have f4_ := f1_.symm; have f5_ := f3_.symm; clear f1_ f2_ f3_; subst f4_; subst f5_))
      refine hK.out _ _ ⟨(blk_cell BK601.out 0).trans rfl, (blk_cell BK589.out 0).trans rfl⟩ (fun hHeld => ?_)
      clear hK K
      refine norm_ (a' := ?_) ?_ ?_
      rotate_left
      ·
       show Act.put _ (some 43) _ = _
       simp only [Act.put, List.setIfInBounds_toArray, List.set_cons_zero, List.set_cons_succ, i64_w, i32_w]
       rfl
      refine one_ (i := 3) (N := some 44) #[true, true, true, true, false] rfl rfl (by kernel_rfl) (by decide) (fun K hK => ?_)
      refine goes_ Try.func18 (by kernel_rfl) rfl #[.agg #[.slice Ao22 t598.length co22], .agg #[.slice Ao42 t607.length co42]] (by rfl) rfl rfl (by (try simp only [List.map_toArray, List.map_cons, List.map_nil]); first | done | rfl | (simp only [List.length_drop, List.length_take]; rfl)) ?_
      with_reducible refine (laws_eqFileMap.calls kj10 _ _ t598 _ _ t607 true _ ?side1 ?side2 ?side3 ?side4 A36.out).mono ?_
      (case side1 => exact rc0 HO_602000)
      (case side2 => exact (Kd.R_reads' HO_602000.out).2.1)
      (case side3 => exact rc0 HO609)
      (case side4 => exact (Kd.R_reads' HO609.out).2.1)
      rintro e w43 ⟨rfl, hb⟩
      refine ⟨_, rfl, ?_⟩
      have n0_ := Aside0.mk (Kd.R_below (rr HO_4.out) hb)
      have n1_ := Aside0.mk (Kd.R_below (rr HO_7.out) hb)
      have n2_ := Aside0.mk (Kd.R_below (rr HO_602000.out) hb)
      have n3_ := Aside0.mk (Kd.R_below (rr HO609.out) hb)
      have n4_ := Aside0.mk (bb BK589 hb)
      have n5_ := Aside0.mk (bb BK601 hb)
      have n6_ := Aside0.mk (below_step (bs2 HB GE589 GE601) hb)
      clear HO_4
      clear HO_7
      clear HO_602000
      clear HO609
      clear BK589
      clear BK601
      clear HB
      have HO_4 := n0_
      have HO_7 := n1_
      have HO_602000 := n2_
      have HO609 := n3_
      have BK589 := n4_
      have BK601 := n5_
      have HB := n6_
      clear n0_ n1_ n2_ n3_ n4_ n5_ n6_
      (try clear hb)
      (try clear hb2)
      (try clear hk)
      (try clear hi)
      refine hK.out _ _ ⟨(blk_cell BK601.out 0).trans rfl, (blk_cell BK589.out 0).trans rfl⟩ (fun hHeld => ?_)
      clear hK K
      refine norm_ (a' := ?_) ?_ ?_
      rotate_left
      ·
       show Act.put _ (some 44) _ = _
       simp only [Act.put, List.setIfInBounds_toArray, List.set_cons_zero, List.set_cons_succ, i64_w, i32_w]
       rfl
      refine pure_ (i := 4) (N := some 45) (v := ?_) (a' := ?_) #[true, true, true, true, true] rfl rfl (by kernel_rfl) (fun _ _ _ h => h) (Or.inl ⟨by rfl, ?_⟩) ?_ ?_
      rotate_left
      ·
       intro w'
       go_simp
       with_reducible rfl
      rotate_left
      ·
       simp only [Act.put, List.setIfInBounds_toArray, List.set_cons_zero, List.set_cons_succ, i64_w, i32_w]
       rfl
      refine done_ (by kernel_rfl) ?_
      have hnb44 := NB601_589.out
      have hnc44 := NB589_601.out
      have hcz45_0 : w43.cell? ⟨gb601, 0, none⟩ = some (.slice Ao22 t598.length co22) := (blk_cell BK601.out 0).trans rfl
      have hfz45_0 := blk_frozen BK601.out 0
      go_upto_region 14 with (first | ((with_reducible refine gate_callee (f := 26) rfl ?_); refine goesL_ (some 48) rfl rfl Try.func26 (by kernel_rfl) rfl #[.agg #[.slice Ao22 t598.length co22], .int .i64 1] rfl (by (try simp only [List.map_toArray, List.map_cons, List.map_nil]); first | done | rfl | (simp only [List.length_drop, List.length_take]; rfl)) ?_; (with_reducible refine (laws_markFileMap.calls kj10 (fun k_ => some k_ = (.slice Ao22 t598.length co22 : Value).ownBlock) (.slice Ao22 t598.length co22) t598 1 t611 t612 w _ ?side1 ?side2 A38.out).mono ?_); (case side1 => repeat (first | (with_reducible first | exact HB.out | apply below_alloc | apply pw_below_drewN | apply below_drew1 | refine below_set ?_ GE589.out | refine below_set ?_ GE601.out) | exact HB.out)); (case side2 => exact Kd.R_tight rfl HO_602000.out); rintro e w46 ⟨rfl, hy0, hb, hkp⟩; refine ⟨_, rfl, ?_⟩; have n0_ := Aside0.mk (Kd.R_mono (ok' := fun k_ => some k_ ≠ (v603 : Value).ownBlock) (Kd.R_keptB ((Kd.R_apart' HO_4.out (Kd.R_typed HO_602000.out) (by decide))) hkp (fun k_ hk_ hs_ => (hk_.2) hs_)) (fun k_ hk_ => hk_.1.1)); have n1_ := Aside0.mk (Kd.R_mono (ok' := fun k_ => some k_ ≠ (v595 : Value).ownBlock) (Kd.R_keptB ((Kd.R_apart' HO_7.out (Kd.R_typed HO_602000.out) (by decide))) hkp (fun k_ hk_ hs_ => (hk_.2) hs_)) (fun k_ hk_ => hk_.1.1)); have n2_ := Aside0.mk (Kd.R_reok rfl hy0 (fun k_ e_ => HO_602000.out.1 k_ e_)); have n3_ := Aside0.mk (blk_kept (bk BK589) hkp (fun hs_ => (fun e_ => (Kd.R_ne HO_602000.out BK589.out (by decide)) e_) hs_)); have n4_ := Aside0.mk (blk_kept (bk BK601) hkp (fun hs_ => (fun e_ => (Kd.R_ne HO_602000.out BK601.out (by decide)) e_) hs_)); have n5_ := Aside0.mk (Kd.R_mono (ok' := fun k_ => some k_ ≠ (.slice Ao22 t598.length co22 : Value).ownBlock) (Kd.R_keptB (HO609.out) hkp (fun k_ hk_ hs_ => (hk_.2) hs_)) (fun k_ hk_ => hk_.1.2)); have n6_ := Aside0.mk (hb); clear HO_4; clear HO_7; clear HO_602000; clear BK589; clear BK601; clear HO609; clear HB; have HO_4 := n0_; have HO_7 := n1_; have HO_602000 := n2_; have BK589 := n3_; have BK601 := n4_; have HO609 := n5_; have HB := n6_; clear n0_ n1_ n2_ n3_ n4_ n5_ n6_; (try clear hb); (try clear hkp); (try clear hy0)))
      (try simp only [Act.put, List.setIfInBounds_toArray, List.set_cons_zero, List.set_cons_succ])
      go_cut [61] (fun v61 wc => ∃ (kq : Nat) (x61_38 : Bool), v61 = .bool x61_38 ∧ Aside0 (laws_FnExactBlocksOf.j1 kq t594 t597 t602 x61_38 l0_0 = some r) ∧ Aside0 (kq ≤ kj10) ∧ Aside0 (Kd.R k61 61 wc w.heap.size (fun k_ => some k_ ≠ (v603 : Value).ownBlock) v595 t594) ∧ Aside0 (Kd.R k61 61 wc w.heap.size (fun k_ => some k_ ≠ (v595 : Value).ownBlock) v603 t602) ∧ Aside0 (Kd.R k48 48 wc w.heap.size (fun _ => True) (.slice Ao22 t598.length co22) t612) ∧ Aside0 (wc.heap[gb589]? = some (.cells #[(.slice A0_0 l0_0.length c0_0)] 24 (0, 0))) ∧ Aside0 (wc.heap[gb601]? = some (.cells #[(.slice Ao22 t598.length co22)] 29 (0, 0))) ∧ Aside0 (Below w.heap.size w wc))
      case first =>
       have H := HC39.out
       clear HC39
       by_cases c47 : t611 < 0
       ·
        rw [if_pos c47] at H
        have c47b0 : decide (t611 < 0) = true := decide_eq_true c47
        clear c47
        (first | rw [c47b0] | (simp only [i64_w, i32_w]; rw [c47b0]) | (simp only [c47b2, Bool.not_false, Bool.not_true]) | skip)
        have H' := Aside0.mk H
        clear H
        go_wp2
        go_meet
        case rel => exact ⟨_, (true), (by first | rfl | (simp; done) | (simp [*]; done)), H', ⟨by have := HJ10.out; first | omega | exact Nat.le_refl _⟩, ⟨rr HO_4.out⟩, ⟨rr HO_7.out⟩, ⟨by (with_reducible repeat (first | apply Kd.R_alloc | apply Kd.R_drewN | apply Kd.R_drew)); exact Kd.R_mono HO_602000.out (fun _ hk => trivial)⟩, ⟨bk BK589⟩, ⟨bk BK601⟩, ⟨bs2 HB GE589 GE601⟩⟩
       ·
        rw [if_neg c47] at H
        have c47b0 : decide (t611 < 0) = false := decide_eq_false c47
        clear c47
        (first | rw [c47b0] | (simp only [i64_w, i32_w]; rw [c47b0]) | (simp only [c47b2, Bool.not_false, Bool.not_true]) | skip)
        replace H := Option.bind_eq_some_iff.mp H
        obtain ⟨t613, A480, H⟩ := H
        replace H : (if t613 = true then (laws_FnExactBlocksOf.j1 kj10 t594 t597 t602 (t605 != t597) l0_0) else (laws_FnExactBlocksOf.j1 kj10 t594 t597 t602 true l0_0)) = some r := H
        have A48 := Aside0.mk A480
        clear A480
        by_cases c49 : t613 = true
        ·
         subst c49
         rw [if_pos rfl] at H
         have H' := Aside0.mk H
         clear H
         obtain ⟨Ao50, co50, eo50⟩ := Kd.R_slice HO_7.out
         subst eo50
         obtain ⟨Ao51, co51, eo51⟩ := Kd.R_slice HO_4.out
         subst eo51
         go_wp2_with (first | (go_at_call 25; (with_reducible refine (laws_eqExtentS.calls kj10 _ _ t602 _ _ t594 true _ ?side1 ?side2 ?side3 ?side4 A48.out).mono ?_); (case side1 => exact rc0 HO_7); (case side2 => exact (Kd.R_reads' HO_7.out).2.1); (case side3 => exact rc0 HO_4); (case side4 => exact (Kd.R_reads' HO_4.out).2.1); rintro e w52 ⟨rfl, hb⟩; have n0_ := Aside0.mk (Kd.R_below (rr HO_4.out) hb); have n1_ := Aside0.mk (Kd.R_below (rr HO_7.out) hb); have n2_ := Aside0.mk (Kd.R_below (rr HO_602000.out) hb); have n3_ := Aside0.mk (Kd.R_below (rr HO609.out) hb); have n4_ := Aside0.mk (bb BK589 hb); have n5_ := Aside0.mk (bb BK601 hb); have n6_ := Aside0.mk (below_step (bs2 HB GE589 GE601) hb); clear HO_4; clear HO_7; clear HO_602000; clear HO609; clear BK589; clear BK601; clear HB; have HO_4 := n0_; have HO_7 := n1_; have HO_602000 := n2_; have HO609 := n3_; have BK589 := n4_; have BK601 := n5_; have HB := n6_; clear n0_ n1_ n2_ n3_ n4_ n5_ n6_; (try clear hb); (try clear hb2); (try clear hk); (try clear hi)))
         go_meet
         case rel => exact ⟨_, ((t605 != t597)), (by first | rfl | (simp; done) | (simp [*]; done)), H', ⟨by have := HJ10.out; first | omega | exact Nat.le_refl _⟩, ⟨rr HO_4.out⟩, ⟨rr HO_7.out⟩, ⟨by (with_reducible repeat (first | apply Kd.R_alloc | apply Kd.R_drewN | apply Kd.R_drew)); exact Kd.R_mono HO_602000.out (fun _ hk => trivial)⟩, ⟨bk BK589⟩, ⟨bk BK601⟩, ⟨bs2 HB GE589 GE601⟩⟩
        ·
         replace c49 := Bool.eq_false_iff.mpr c49
         subst c49
         rw [if_neg (show ¬ (false = true) by decide)] at H
         have H' := Aside0.mk H
         clear H
         obtain ⟨Ao53, co53, eo53⟩ := Kd.R_slice HO_7.out
         subst eo53
         obtain ⟨Ao54, co54, eo54⟩ := Kd.R_slice HO_4.out
         subst eo54
         go_wp2_with (first | (go_at_call 25; (with_reducible refine (laws_eqExtentS.calls kj10 _ _ t602 _ _ t594 false _ ?side1 ?side2 ?side3 ?side4 A48.out).mono ?_); (case side1 => exact rc0 HO_7); (case side2 => exact (Kd.R_reads' HO_7.out).2.1); (case side3 => exact rc0 HO_4); (case side4 => exact (Kd.R_reads' HO_4.out).2.1); rintro e w55 ⟨rfl, hb⟩; have n0_ := Aside0.mk (Kd.R_below (rr HO_4.out) hb); have n1_ := Aside0.mk (Kd.R_below (rr HO_7.out) hb); have n2_ := Aside0.mk (Kd.R_below (rr HO_602000.out) hb); have n3_ := Aside0.mk (Kd.R_below (rr HO609.out) hb); have n4_ := Aside0.mk (bb BK589 hb); have n5_ := Aside0.mk (bb BK601 hb); have n6_ := Aside0.mk (below_step (bs2 HB GE589 GE601) hb); clear HO_4; clear HO_7; clear HO_602000; clear HO609; clear BK589; clear BK601; clear HB; have HO_4 := n0_; have HO_7 := n1_; have HO_602000 := n2_; have HO609 := n3_; have BK589 := n4_; have BK601 := n5_; have HB := n6_; clear n0_ n1_ n2_ n3_ n4_ n5_ n6_; (try clear hb); (try clear hb2); (try clear hk); (try clear hi)))
         go_meet
         case rel => exact ⟨_, (true), (by first | rfl | (simp; done) | (simp [*]; done)), H', ⟨by have := HJ10.out; first | omega | exact Nat.le_refl _⟩, ⟨rr HO_4.out⟩, ⟨rr HO_7.out⟩, ⟨by (with_reducible repeat (first | apply Kd.R_alloc | apply Kd.R_drewN | apply Kd.R_drew)); exact Kd.R_mono HO_602000.out (fun _ hk => trivial)⟩, ⟨bk BK589⟩, ⟨bk BK601⟩, ⟨bs2 HB GE589 GE601⟩⟩
      case rest =>
       clear HC39
       try clear c1
       try clear c2
       try clear p2
       try clear c3
       try clear c3b0
       try clear c4
       try clear c8
       try clear c14
       try clear c16
       try clear c18
       try clear c23
       try clear c25
       try clear c26
       try clear c27
       try clear c33
       try clear c34
       try clear c37
       try clear c44
       try clear c47
       try clear c47b0
       try clear c49
       try clear hcz13_0
       try clear hcz15_0
       try clear hcz19_0
       try clear hcz24_0
       try clear hcz45_0
       try clear hcz5_0
       try clear hfz13_0
       try clear hfz15_0
       try clear hfz19_0
       try clear hfz24_0
       try clear hfz45_0
       try clear hfz5_0
       try clear p2
       obtain ⟨kq, x61_38, rfl, HA, HJ38, HO_4, HO_7, HO_602000, BK589, BK601, HB⟩ := hcut
       have hl602000_38 := (Kd.R_reads' HO_602000.out).1
       rw [hl602000_38] at HO_602000
       (try simp only [hl602000_38])
       (try simp only [hl602000_38] at BK589)
       (try simp only [hl602000_38] at BK601)
       (try simp only [hl602000_38] at HO_4)
       (try simp only [hl602000_38] at HO_7)
       cases kq with
       | zero => exact absurd HA.out (by simp [laws_FnExactBlocksOf.j1])
       | succ kj38 =>
        have H := HA.out
        clear HA
        simp only [laws_FnExactBlocksOf.j1] at H
        by_cases c56 : x61_38 = true
        ·
         subst c56
         rw [if_pos rfl] at H
         obtain rfl := Option.some.inj H
         go_wp2
         go_ret
         exact ⟨by first | rfl | (simp [errW_none, errW_some] <;> rfl) | (simp [*, errW_none, errW_some] <;> rfl), bs2 HB GE589 GE601⟩
        ·
         replace c56 := Bool.eq_false_iff.mpr c56
         subst c56
         rw [if_neg (show ¬ (false = true) by decide)] at H
         replace H := Option.bind_eq_some_iff.mp H
         obtain ⟨⟨t614, t615⟩, A570, H⟩ := H
         replace H : ((laws_heldExtentS.f kj38 t615 1).bind fun t616 => (if t616 < 0 then (some false) else (if t616 = t614 then ((laws_toFileMap.f kj38 l0_0).bind fun t617 => ((impl_BlocksOf.f kj38 t617).bind fun bt620 => ((laws_eqExtentS.f kj38 bt620.1 t594).bind fun t624 => (if t624 = true then (laws_FnExactBlocksOf.j2 kj38 t615 t614 (bt620.2 != t597)) else (laws_FnExactBlocksOf.j2 kj38 t615 t614 true))))) else (some false)))) = some r := H
         have A57 := Aside0.mk A570
         clear A570
         replace H := Option.bind_eq_some_iff.mp H
         obtain ⟨t616, A580, H⟩ := H
         replace H : (if t616 < 0 then (some false) else (if t616 = t614 then ((laws_toFileMap.f kj38 l0_0).bind fun t617 => ((impl_BlocksOf.f kj38 t617).bind fun bt620 => ((laws_eqExtentS.f kj38 bt620.1 t594).bind fun t624 => (if t624 = true then (laws_FnExactBlocksOf.j2 kj38 t615 t614 (bt620.2 != t597)) else (laws_FnExactBlocksOf.j2 kj38 t615 t614 true))))) else (some false))) = some r := H
         have A58 := Aside0.mk A580
         clear A580
         by_cases c59 : t616 < 0
         ·
          rw [if_pos c59] at H
          have c59b0 : decide (t616 < 0) = true := decide_eq_true c59
          clear c59
          obtain rfl := Option.some.inj H
          obtain ⟨Ao60, co60, eo60⟩ := Kd.R_slice HO_7.out
          subst eo60
          go_wp2_with (first | ((with_reducible refine gate_callee (f := 27) rfl ?_); refine goesL_ (some 64) rfl rfl Try.func27 (by kernel_rfl) rfl #[.slice Ao60 t602.length co60, .int .i64 1] rfl (by (try simp only [List.map_toArray, List.map_cons, List.map_nil]); first | done | rfl | (simp only [List.length_drop, List.length_take]; rfl)) ?_; (with_reducible refine (laws_markExtentS.calls kj38 (fun k_ => some k_ = (.slice Ao60 t602.length co60 : Value).ownBlock) (.slice Ao60 t602.length co60) t602 1 t614 t615 w _ ?side1 ?side2 A57.out).mono ?_); (case side1 => repeat (first | (with_reducible first | exact HB.out | apply below_alloc | apply pw_below_drewN | apply below_drew1 | refine below_set ?_ GE589.out | refine below_set ?_ GE601.out) | exact HB.out)); (case side2 => exact Kd.R_tight rfl HO_7.out); rintro e w61 ⟨rfl, hy0, hb, hkp⟩; refine ⟨_, rfl, ?_⟩; have n0_ := Aside0.mk (Kd.R_mono (ok' := fun k_ => some k_ ≠ (.slice Ao60 t602.length co60 : Value).ownBlock) (Kd.R_keptB (HO_4.out) hkp (fun k_ hk_ hs_ => (hk_) hs_)) (fun k_ hk_ => hk_.1)); have n1_ := Aside0.mk (Kd.R_reok rfl hy0 (fun k_ e_ => HO_7.out.1 k_ e_)); have n2_ := Aside0.mk (Kd.R_mono (ok' := fun k_ => True) (Kd.R_keptB ((Kd.R_apart' HO_602000.out (Kd.R_typed HO_7.out) (by decide))) hkp (fun k_ hk_ hs_ => (hk_.2) hs_)) (fun k_ hk_ => trivial)); have n3_ := Aside0.mk (blk_kept (bk BK589) hkp (fun hs_ => (fun e_ => (Kd.R_ne HO_7.out BK589.out (by decide)) e_) hs_)); have n4_ := Aside0.mk (blk_kept (bk BK601) hkp (fun hs_ => (fun e_ => (Kd.R_ne HO_7.out BK601.out (by decide)) e_) hs_)); have n5_ := Aside0.mk (hb); clear HO_4; clear HO_7; clear HO_602000; clear BK589; clear BK601; clear HB; have HO_4 := n0_; have HO_7 := n1_; have HO_602000 := n2_; have BK589 := n3_; have BK601 := n4_; have HB := n5_; clear n0_ n1_ n2_ n3_ n4_ n5_; (try clear hb); (try clear hkp); (try clear hy0)) | ((with_reducible refine gate_callee (f := 28) rfl ?_); refine goesL_ (some 67) rfl rfl Try.func28 (by kernel_rfl) rfl #[.slice Ao60 t615.length co60, .int .i64 1] rfl (by (try simp only [List.map_toArray, List.map_cons, List.map_nil]); first | done | (rw [show t615.length = t602.length from (Kd.R_reads' HO_7.out).1.symm] <;> rfl) | rfl | (simp only [List.length_drop, List.length_take]; rfl)) ?_; (with_reducible refine (laws_heldExtentS.calls kj38 _ _ t615 1 t616 _ ?side1 ?side2 A58.out).mono ?_); (case side1 => exact rc0 HO_7); (case side2 => rw [show t615.length = t602.length from (Kd.R_reads' HO_7.out).1.symm]; exact (Kd.R_reads' HO_7.out).2.1); rintro e w' ⟨rfl, ⟨nd, rfl⟩⟩; refine ⟨_, rfl, ?_⟩))
          go_ret
          exact ⟨by first | rfl | (simp [errW_none, errW_some] <;> rfl) | (simp [*, errW_none, errW_some] <;> rfl), bs2 HB GE589 GE601⟩
         ·
          rw [if_neg c59] at H
          have c59b0 : decide (t616 < 0) = false := decide_eq_false c59
          clear c59
          by_cases c62 : t616 = t614
          ·
           rw [if_pos c62] at H
           have c62b0 : (t616 == t614) = true := beq_iff_eq.mpr c62
           have c62b1 : (t616 != t614) = false := bne_eq_false_iff_eq.mpr c62
           clear c62
           replace H := Option.bind_eq_some_iff.mp H
           obtain ⟨t617, A630, H⟩ := H
           replace H : ((impl_BlocksOf.f kj38 t617).bind fun bt620 => ((laws_eqExtentS.f kj38 bt620.1 t594).bind fun t624 => (if t624 = true then (laws_FnExactBlocksOf.j2 kj38 t615 t614 (bt620.2 != t597)) else (laws_FnExactBlocksOf.j2 kj38 t615 t614 true)))) = some r := H
           have A63 := Aside0.mk A630
           clear A630
           replace H := Option.bind_eq_some_iff.mp H
           obtain ⟨⟨t620, t623⟩, A640, H⟩ := H
           replace H : ((laws_eqExtentS.f kj38 t620 t594).bind fun t624 => (if t624 = true then (laws_FnExactBlocksOf.j2 kj38 t615 t614 (t623 != t597)) else (laws_FnExactBlocksOf.j2 kj38 t615 t614 true))) = some r := H
           have A64 := Aside0.mk A640
           clear A640
           have HC65 := Aside0.mk H
           clear H
           obtain ⟨Ao66, co66, eo66⟩ := Kd.R_slice HO_7.out
           subst eo66
           go_upto_region 25 with (first | ((with_reducible refine gate_callee (f := 27) rfl ?_); refine goesL_ (some 64) rfl rfl Try.func27 (by kernel_rfl) rfl #[.slice Ao66 t602.length co66, .int .i64 1] rfl (by (try simp only [List.map_toArray, List.map_cons, List.map_nil]); first | done | rfl | (simp only [List.length_drop, List.length_take]; rfl)) ?_; (with_reducible refine (laws_markExtentS.calls kj38 (fun k_ => some k_ = (.slice Ao66 t602.length co66 : Value).ownBlock) (.slice Ao66 t602.length co66) t602 1 t614 t615 w _ ?side1 ?side2 A57.out).mono ?_); (case side1 => repeat (first | (with_reducible first | exact HB.out | apply below_alloc | apply pw_below_drewN | apply below_drew1 | refine below_set ?_ GE589.out | refine below_set ?_ GE601.out) | exact HB.out)); (case side2 => exact Kd.R_tight rfl HO_7.out); rintro e w67 ⟨rfl, hy0, hb, hkp⟩; refine ⟨_, rfl, ?_⟩; have n0_ := Aside0.mk (Kd.R_mono (ok' := fun k_ => some k_ ≠ (.slice Ao66 t602.length co66 : Value).ownBlock) (Kd.R_keptB (HO_4.out) hkp (fun k_ hk_ hs_ => (hk_) hs_)) (fun k_ hk_ => hk_.1)); have n1_ := Aside0.mk (Kd.R_reok rfl hy0 (fun k_ e_ => HO_7.out.1 k_ e_)); have n2_ := Aside0.mk (Kd.R_mono (ok' := fun k_ => True) (Kd.R_keptB ((Kd.R_apart' HO_602000.out (Kd.R_typed HO_7.out) (by decide))) hkp (fun k_ hk_ hs_ => (hk_.2) hs_)) (fun k_ hk_ => trivial)); have n3_ := Aside0.mk (blk_kept (bk BK589) hkp (fun hs_ => (fun e_ => (Kd.R_ne HO_7.out BK589.out (by decide)) e_) hs_)); have n4_ := Aside0.mk (blk_kept (bk BK601) hkp (fun hs_ => (fun e_ => (Kd.R_ne HO_7.out BK601.out (by decide)) e_) hs_)); have n5_ := Aside0.mk (hb); clear HO_4; clear HO_7; clear HO_602000; clear BK589; clear BK601; clear HB; have HO_4 := n0_; have HO_7 := n1_; have HO_602000 := n2_; have BK589 := n3_; have BK601 := n4_; have HB := n5_; clear n0_ n1_ n2_ n3_ n4_ n5_; (try clear hb); (try clear hkp); (try clear hy0)) | ((with_reducible refine gate_callee (f := 28) rfl ?_); refine goesL_ (some 67) rfl rfl Try.func28 (by kernel_rfl) rfl #[.slice Ao66 t615.length co66, .int .i64 1] rfl (by (try simp only [List.map_toArray, List.map_cons, List.map_nil]); first | done | (rw [show t615.length = t602.length from (Kd.R_reads' HO_7.out).1.symm] <;> rfl) | rfl | (simp only [List.length_drop, List.length_take]; rfl)) ?_; (with_reducible refine (laws_heldExtentS.calls kj38 _ _ t615 1 t616 _ ?side1 ?side2 A58.out).mono ?_); (case side1 => exact rc0 HO_7); (case side2 => rw [show t615.length = t602.length from (Kd.R_reads' HO_7.out).1.symm]; exact (Kd.R_reads' HO_7.out).2.1); rintro e w' ⟨rfl, ⟨nd, rfl⟩⟩; refine ⟨_, rfl, ?_⟩; have hnb68 := NB589_601.out; have hnc68 := NB601_589.out; have hcz69_0 : w67.cell? ⟨gb589, 0, none⟩ = some (.slice A0_0 l0_0.length c0_0) := (blk_cell BK589.out 0).trans rfl; have hfz69_0 := blk_frozen BK589.out 0) | ((with_reducible refine gate_callee (f := 16) rfl ?_); refine goesL_ (some 75) rfl rfl Try.func16 (by kernel_rfl) rfl #[.agg #[.slice A0_0 l0_0.length c0_0]] rfl (by (try simp only [List.map_toArray, List.map_cons, List.map_nil]); first | done | rfl | (simp only [List.length_drop, List.length_take]; rfl)) ?_; (with_reducible refine (laws_toFileMap.calls kj38 _ _ l0_0 t617 _ ?side1 ?side2 A63.out).mono ?_); (case side1 => repeat (first | exact (Kd.C_below HR0_0.out (bs2 HB GE589 GE601)) | (with_reducible refine Kd.C_alloc ?_ _) | (with_reducible refine Kd.C_drewN ?_ _) | (with_reducible refine Kd.C_drew ?_))); (case side2 => exact HC0_0.out); rintro e w70 ⟨v618, rfl, ho0, hb⟩; refine ⟨_, rfl, ?_⟩; have n0_ := Aside0.mk (Kd.R_below (rr HO_4.out) hb); have n1_ := Aside0.mk (Kd.R_below (rr HO_7.out) hb); have n2_ := Aside0.mk (Kd.R_elder' (rr HO_602000.out) (Kd.R_base ho0) hb); have n3_ := Aside0.mk (Kd.R_lower (Kd.R_new' ho0 (Kd.R_lt (rr HO_602000.out))) (below_size (bs2 HB GE589 GE601))); have n4_ := Aside0.mk (bb BK589 hb); have n5_ := Aside0.mk (bb BK601 hb); have n6_ := Aside0.mk (below_step (bs2 HB GE589 GE601) hb); clear HO_4; clear HO_7; clear HO_602000; clear BK589; clear BK601; clear HB; have HO_4 := n0_; have HO_7 := n1_; have HO_602000 := n2_; have HO619 := n3_; have BK589 := n4_; have BK601 := n5_; have HB := n6_; clear n0_ n1_ n2_ n3_ n4_ n5_ n6_; (try clear hb); (try clear hb2); (try clear hk); (try clear hi); (try clear ho0); obtain ⟨Ao71, co71, eo71⟩ := Kd.R_slice HO619.out; subst eo71) | ((with_reducible refine gate_callee (f := 34) rfl ?_); refine goesL_ (some 76) rfl rfl Try.func34 (by kernel_rfl) rfl #[.agg #[.slice Ao71 t617.length co71]] rfl (by (try simp only [List.map_toArray, List.map_cons, List.map_nil]); first | done | rfl | (simp only [List.length_drop, List.length_take]; rfl)) ?_; (with_reducible refine (impl_BlocksOf.calls kj38 _ _ t617 t620 t623 _ ?side1 ?side2 A64.out).mono ?_); (case side1 => exact rc0 HO619); (case side2 => exact (Kd.R_reads' HO619.out).2.1); rintro e w72 ⟨v621, rfl, ho0, hb⟩; refine ⟨_, rfl, ?_⟩; have n0_ := Aside0.mk (Kd.R_elder' (rr HO_4.out) (Kd.R_base ho0) hb); have n1_ := Aside0.mk (Kd.R_elder' (rr HO_7.out) (Kd.R_base ho0) hb); have n2_ := Aside0.mk (Kd.R_below (rr HO_602000.out) hb); have n3_ := Aside0.mk (Kd.R_below (rr HO619.out) hb); have n4_ := Aside0.mk (Kd.R_lower (Kd.R_new' (Kd.R_new' ho0 (Kd.R_lt (rr HO_4.out))) (Kd.R_lt (rr HO_7.out))) (below_size (bs2 HB GE589 GE601))); have n5_ := Aside0.mk (bb BK589 hb); have n6_ := Aside0.mk (bb BK601 hb); have n7_ := Aside0.mk (below_step (bs2 HB GE589 GE601) hb); clear HO_4; clear HO_7; clear HO_602000; clear HO619; clear BK589; clear BK601; clear HB; have HO_4 := n0_; have HO_7 := n1_; have HO_602000 := n2_; have HO619 := n3_; have HO622 := n4_; have BK589 := n5_; have BK601 := n6_; have HB := n7_; clear n0_ n1_ n2_ n3_ n4_ n5_ n6_ n7_; (try clear hb); (try clear hb2); (try clear hk); (try clear hi); (try clear ho0)))
           (try simp only [Act.put, List.setIfInBounds_toArray, List.set_cons_zero, List.set_cons_succ])
           go_cut [87] (fun v87 wc => ∃ (kq : Nat) (x87_64 : Bool), v87 = .bool x87_64 ∧ Aside0 (laws_FnExactBlocksOf.j2 kq t615 t614 x87_64 = some r) ∧ Aside0 (kq ≤ kj38) ∧ Aside0 (Kd.R k61 61 wc w.heap.size (fun _ => True) (.slice Ao66 t602.length co66) t615) ∧ Aside0 (Kd.R k48 48 wc w.heap.size (fun _ => True) (.slice Ao22 t612.length co22) t612) ∧ Aside0 (wc.heap[gb589]? = some (.cells #[(.slice A0_0 l0_0.length c0_0)] 24 (0, 0))) ∧ Aside0 (wc.heap[gb601]? = some (.cells #[(.slice Ao22 t612.length co22)] 29 (0, 0))) ∧ Aside0 (Below w.heap.size w wc))
           case first =>
            have H := HC65.out
            clear HC65
            replace H := Option.bind_eq_some_iff.mp H
            obtain ⟨t624, A730, H⟩ := H
            replace H : (if t624 = true then (laws_FnExactBlocksOf.j2 kj38 t615 t614 (t623 != t597)) else (laws_FnExactBlocksOf.j2 kj38 t615 t614 true)) = some r := H
            have A73 := Aside0.mk A730
            clear A730
            by_cases c74 : t624 = true
            ·
             subst c74
             rw [if_pos rfl] at H
             have H' := Aside0.mk H
             clear H
             obtain ⟨Ao75, co75, eo75⟩ := Kd.R_slice HO622.out
             subst eo75
             obtain ⟨Ao76, co76, eo76⟩ := Kd.R_slice HO_4.out
             subst eo76
             go_wp2_with (first | ((with_reducible refine gate_callee (f := 25) rfl ?_); refine goesL_ (some 81) rfl rfl Try.func25 (by kernel_rfl) rfl #[.slice Ao75 t620.length co75, .slice Ao76 t594.length co76] rfl (by (try simp only [List.map_toArray, List.map_cons, List.map_nil]); first | done | rfl | (simp only [List.length_drop, List.length_take]; rfl)) ?_; (with_reducible refine (laws_eqExtentS.calls kj38 _ _ t620 _ _ t594 true _ ?side1 ?side2 ?side3 ?side4 A73.out).mono ?_); (case side1 => exact rc0 HO622); (case side2 => exact (Kd.R_reads' HO622.out).2.1); (case side3 => exact rc0 HO_4); (case side4 => exact (Kd.R_reads' HO_4.out).2.1); rintro e w77 ⟨rfl, hb⟩; refine ⟨_, rfl, ?_⟩; have n0_ := Aside0.mk (Kd.R_below (rr HO_4.out) hb); have n1_ := Aside0.mk (Kd.R_below (rr HO_7.out) hb); have n2_ := Aside0.mk (Kd.R_below (rr HO_602000.out) hb); have n3_ := Aside0.mk (Kd.R_below (rr HO619.out) hb); have n4_ := Aside0.mk (Kd.R_below (rr HO622.out) hb); have n5_ := Aside0.mk (bb BK589 hb); have n6_ := Aside0.mk (bb BK601 hb); have n7_ := Aside0.mk (below_step (bs2 HB GE589 GE601) hb); clear HO_4; clear HO_7; clear HO_602000; clear HO619; clear HO622; clear BK589; clear BK601; clear HB; have HO_4 := n0_; have HO_7 := n1_; have HO_602000 := n2_; have HO619 := n3_; have HO622 := n4_; have BK589 := n5_; have BK601 := n6_; have HB := n7_; clear n0_ n1_ n2_ n3_ n4_ n5_ n6_ n7_; (try clear hb); (try clear hb2); (try clear hk); (try clear hi)))
             go_meet
             case rel => exact ⟨_, ((t623 != t597)), (by first | rfl | (simp; done) | (simp [*]; done)), H', ⟨by have := HJ10.out; have := HJ38.out; first | omega | exact Nat.le_refl _⟩, ⟨by (try simp only [hl602000_38]); (with_reducible repeat (first | apply Kd.R_alloc | apply Kd.R_drewN | apply Kd.R_drew)); exact Kd.R_mono HO_7.out (fun _ hk => trivial)⟩, ⟨by (try simp only [hl602000_38]); (with_reducible repeat (first | apply Kd.R_alloc | apply Kd.R_drewN | apply Kd.R_drew)); exact Kd.R_mono HO_602000.out (fun _ hk => trivial)⟩, ⟨by (try simp only [hl602000_38]); (with_reducible repeat (first | refine blk_drewN ?_ _ | refine blk_drew ?_ | refine blk_alloc ?_ _)); exact BK589.out⟩, ⟨by (try simp only [hl602000_38]); (with_reducible repeat (first | refine blk_drewN ?_ _ | refine blk_drew ?_ | refine blk_alloc ?_ _)); exact BK601.out⟩, ⟨bs2 HB GE589 GE601⟩⟩
            ·
             replace c74 := Bool.eq_false_iff.mpr c74
             subst c74
             rw [if_neg (show ¬ (false = true) by decide)] at H
             have H' := Aside0.mk H
             clear H
             obtain ⟨Ao78, co78, eo78⟩ := Kd.R_slice HO622.out
             subst eo78
             obtain ⟨Ao79, co79, eo79⟩ := Kd.R_slice HO_4.out
             subst eo79
             go_wp2_with (first | ((with_reducible refine gate_callee (f := 25) rfl ?_); refine goesL_ (some 81) rfl rfl Try.func25 (by kernel_rfl) rfl #[.slice Ao78 t620.length co78, .slice Ao79 t594.length co79] rfl (by (try simp only [List.map_toArray, List.map_cons, List.map_nil]); first | done | rfl | (simp only [List.length_drop, List.length_take]; rfl)) ?_; (with_reducible refine (laws_eqExtentS.calls kj38 _ _ t620 _ _ t594 false _ ?side1 ?side2 ?side3 ?side4 A73.out).mono ?_); (case side1 => exact rc0 HO622); (case side2 => exact (Kd.R_reads' HO622.out).2.1); (case side3 => exact rc0 HO_4); (case side4 => exact (Kd.R_reads' HO_4.out).2.1); rintro e w80 ⟨rfl, hb⟩; refine ⟨_, rfl, ?_⟩; have n0_ := Aside0.mk (Kd.R_below (rr HO_4.out) hb); have n1_ := Aside0.mk (Kd.R_below (rr HO_7.out) hb); have n2_ := Aside0.mk (Kd.R_below (rr HO_602000.out) hb); have n3_ := Aside0.mk (Kd.R_below (rr HO619.out) hb); have n4_ := Aside0.mk (Kd.R_below (rr HO622.out) hb); have n5_ := Aside0.mk (bb BK589 hb); have n6_ := Aside0.mk (bb BK601 hb); have n7_ := Aside0.mk (below_step (bs2 HB GE589 GE601) hb); clear HO_4; clear HO_7; clear HO_602000; clear HO619; clear HO622; clear BK589; clear BK601; clear HB; have HO_4 := n0_; have HO_7 := n1_; have HO_602000 := n2_; have HO619 := n3_; have HO622 := n4_; have BK589 := n5_; have BK601 := n6_; have HB := n7_; clear n0_ n1_ n2_ n3_ n4_ n5_ n6_ n7_; (try clear hb); (try clear hb2); (try clear hk); (try clear hi)))
             go_meet
             case rel => exact ⟨_, (true), (by first | rfl | (simp; done) | (simp [*]; done)), H', ⟨by have := HJ10.out; have := HJ38.out; first | omega | exact Nat.le_refl _⟩, ⟨by (try simp only [hl602000_38]); (with_reducible repeat (first | apply Kd.R_alloc | apply Kd.R_drewN | apply Kd.R_drew)); exact Kd.R_mono HO_7.out (fun _ hk => trivial)⟩, ⟨by (try simp only [hl602000_38]); (with_reducible repeat (first | apply Kd.R_alloc | apply Kd.R_drewN | apply Kd.R_drew)); exact Kd.R_mono HO_602000.out (fun _ hk => trivial)⟩, ⟨by (try simp only [hl602000_38]); (with_reducible repeat (first | refine blk_drewN ?_ _ | refine blk_drew ?_ | refine blk_alloc ?_ _)); exact BK589.out⟩, ⟨by (try simp only [hl602000_38]); (with_reducible repeat (first | refine blk_drewN ?_ _ | refine blk_drew ?_ | refine blk_alloc ?_ _)); exact BK601.out⟩, ⟨bs2 HB GE589 GE601⟩⟩
           case rest =>
            clear HC65
            try clear c1
            try clear c2
            try clear p2
            try clear c3
            try clear c3b0
            try clear c4
            try clear c5
            try clear c6
            try clear c7
            try clear c8
            try clear c14
            try clear c16
            try clear c18
            try clear c23
            try clear c25
            try clear c26
            try clear c27
            try clear c28
            try clear c33
            try clear c34
            try clear c37
            try clear c44
            try clear c47
            try clear c47b0
            try clear c49
            try clear c56
            try clear c59
            try clear c59b0
            try clear c62
            try clear c62b0
            try clear c62b1
            try clear c68
            try clear c74
            try clear hcz13_0
            try clear hcz15_0
            try clear hcz19_0
            try clear hcz24_0
            try clear hcz45_0
            try clear hcz5_0
            try clear hcz69_0
            try clear hfz13_0
            try clear hfz15_0
            try clear hfz19_0
            try clear hfz24_0
            try clear hfz45_0
            try clear hfz5_0
            try clear hfz69_0
            try clear p2
            obtain ⟨kq, x87_64, rfl, HA, HJ64, HO_7, HO_602000, BK589, BK601, HB⟩ := hcut
            have hl7_64 := (Kd.R_reads' HO_7.out).1
            rw [hl7_64] at HO_7
            (try simp only [hl7_64])
            (try simp only [hl7_64] at BK589)
            (try simp only [hl7_64] at BK601)
            (try simp only [hl7_64] at HO_602000)
            cases kq with
            | zero => exact absurd HA.out (by simp [laws_FnExactBlocksOf.j2])
            | succ kj64 =>
             have H := HA.out
             clear HA
             simp only [laws_FnExactBlocksOf.j2] at H
             by_cases c81 : x87_64 = true
             ·
              subst c81
              rw [if_pos rfl] at H
              obtain rfl := Option.some.inj H
              go_wp2
              go_ret
              exact ⟨by first | rfl | (simp [errW_none, errW_some] <;> rfl) | (simp [*, errW_none, errW_some] <;> rfl), bs2 HB GE589 GE601⟩
             ·
              replace c81 := Bool.eq_false_iff.mpr c81
              subst c81
              rw [if_neg (show ¬ (false = true) by decide)] at H
              replace H := Option.bind_eq_some_iff.mp H
              obtain ⟨t625, A820, H⟩ := H
              replace H : (if t625 < 0 then (some false) else (if t625 = t614 then (some true) else (some false))) = some r := H
              have A82 := Aside0.mk A820
              clear A820
              by_cases c83 : t625 < 0
              ·
               rw [if_pos c83] at H
               have c83b0 : decide (t625 < 0) = true := decide_eq_true c83
               clear c83
               obtain rfl := Option.some.inj H
               go_wp2_with (first | ((with_reducible refine gate_callee (f := 28) rfl ?_); refine goesL_ (some 90) rfl rfl Try.func28 (by kernel_rfl) rfl #[.slice Ao66 t615.length co66, .int .i64 1] rfl (by (try simp only [List.map_toArray, List.map_cons, List.map_nil]); first | done | rfl | (simp only [List.length_drop, List.length_take]; rfl)) ?_; (with_reducible refine (laws_heldExtentS.calls kj64 _ _ t615 1 t625 _ ?side1 ?side2 A82.out).mono ?_); (case side1 => exact rc0 HO_7); (case side2 => exact (Kd.R_reads' HO_7.out).2.1); rintro e w' ⟨rfl, ⟨nd, rfl⟩⟩; refine ⟨_, rfl, ?_⟩))
               go_ret
               exact ⟨by first | rfl | (simp [errW_none, errW_some] <;> rfl) | (simp [*, errW_none, errW_some] <;> rfl), bs2 HB GE589 GE601⟩
              ·
               rw [if_neg c83] at H
               have c83b0 : decide (t625 < 0) = false := decide_eq_false c83
               clear c83
               by_cases c84 : t625 = t614
               ·
                rw [if_pos c84] at H
                have c84b0 : (t625 == t614) = true := beq_iff_eq.mpr c84
                have c84b1 : (t625 != t614) = false := bne_eq_false_iff_eq.mpr c84
                clear c84
                obtain rfl := Option.some.inj H
                go_wp2_with (first | ((with_reducible refine gate_callee (f := 28) rfl ?_); refine goesL_ (some 90) rfl rfl Try.func28 (by kernel_rfl) rfl #[.slice Ao66 t615.length co66, .int .i64 1] rfl (by (try simp only [List.map_toArray, List.map_cons, List.map_nil]); first | done | rfl | (simp only [List.length_drop, List.length_take]; rfl)) ?_; (with_reducible refine (laws_heldExtentS.calls kj64 _ _ t615 1 t625 _ ?side1 ?side2 A82.out).mono ?_); (case side1 => exact rc0 HO_7); (case side2 => exact (Kd.R_reads' HO_7.out).2.1); rintro e w' ⟨rfl, ⟨nd, rfl⟩⟩; refine ⟨_, rfl, ?_⟩))
                go_ret
                exact ⟨by first | rfl | (simp [errW_none, errW_some] <;> rfl) | (simp [*, errW_none, errW_some] <;> rfl), bs2 HB GE589 GE601⟩
               ·
                rw [if_neg c84] at H
                have c84b0 : (t625 == t614) = false := beq_eq_false_iff_ne.mpr c84
                have c84b1 : (t625 != t614) = true := bne_iff_ne.mpr c84
                obtain rfl := Option.some.inj H
                go_wp2_with (first | ((with_reducible refine gate_callee (f := 28) rfl ?_); refine goesL_ (some 90) rfl rfl Try.func28 (by kernel_rfl) rfl #[.slice Ao66 t615.length co66, .int .i64 1] rfl (by (try simp only [List.map_toArray, List.map_cons, List.map_nil]); first | done | rfl | (simp only [List.length_drop, List.length_take]; rfl)) ?_; (with_reducible refine (laws_heldExtentS.calls kj64 _ _ t615 1 t625 _ ?side1 ?side2 A82.out).mono ?_); (case side1 => exact rc0 HO_7); (case side2 => exact (Kd.R_reads' HO_7.out).2.1); rintro e w' ⟨rfl, ⟨nd, rfl⟩⟩; refine ⟨_, rfl, ?_⟩))
                go_ret
                exact ⟨by first | rfl | (simp [errW_none, errW_some] <;> rfl) | (simp [*, errW_none, errW_some] <;> rfl), bs2 HB GE589 GE601⟩
          ·
           rw [if_neg c62] at H
           have c62b0 : (t616 == t614) = false := beq_eq_false_iff_ne.mpr c62
           have c62b1 : (t616 != t614) = true := bne_iff_ne.mpr c62
           obtain rfl := Option.some.inj H
           obtain ⟨Ao85, co85, eo85⟩ := Kd.R_slice HO_7.out
           subst eo85
           go_wp2_with (first | ((with_reducible refine gate_callee (f := 27) rfl ?_); refine goesL_ (some 64) rfl rfl Try.func27 (by kernel_rfl) rfl #[.slice Ao85 t602.length co85, .int .i64 1] rfl (by (try simp only [List.map_toArray, List.map_cons, List.map_nil]); first | done | rfl | (simp only [List.length_drop, List.length_take]; rfl)) ?_; (with_reducible refine (laws_markExtentS.calls kj38 (fun k_ => some k_ = (.slice Ao85 t602.length co85 : Value).ownBlock) (.slice Ao85 t602.length co85) t602 1 t614 t615 w _ ?side1 ?side2 A57.out).mono ?_); (case side1 => repeat (first | (with_reducible first | exact HB.out | apply below_alloc | apply pw_below_drewN | apply below_drew1 | refine below_set ?_ GE589.out | refine below_set ?_ GE601.out) | exact HB.out)); (case side2 => exact Kd.R_tight rfl HO_7.out); rintro e w86 ⟨rfl, hy0, hb, hkp⟩; refine ⟨_, rfl, ?_⟩; have n0_ := Aside0.mk (Kd.R_mono (ok' := fun k_ => some k_ ≠ (.slice Ao85 t602.length co85 : Value).ownBlock) (Kd.R_keptB (HO_4.out) hkp (fun k_ hk_ hs_ => (hk_) hs_)) (fun k_ hk_ => hk_.1)); have n1_ := Aside0.mk (Kd.R_reok rfl hy0 (fun k_ e_ => HO_7.out.1 k_ e_)); have n2_ := Aside0.mk (Kd.R_mono (ok' := fun k_ => True) (Kd.R_keptB ((Kd.R_apart' HO_602000.out (Kd.R_typed HO_7.out) (by decide))) hkp (fun k_ hk_ hs_ => (hk_.2) hs_)) (fun k_ hk_ => trivial)); have n3_ := Aside0.mk (blk_kept (bk BK589) hkp (fun hs_ => (fun e_ => (Kd.R_ne HO_7.out BK589.out (by decide)) e_) hs_)); have n4_ := Aside0.mk (blk_kept (bk BK601) hkp (fun hs_ => (fun e_ => (Kd.R_ne HO_7.out BK601.out (by decide)) e_) hs_)); have n5_ := Aside0.mk (hb); clear HO_4; clear HO_7; clear HO_602000; clear BK589; clear BK601; clear HB; have HO_4 := n0_; have HO_7 := n1_; have HO_602000 := n2_; have BK589 := n3_; have BK601 := n4_; have HB := n5_; clear n0_ n1_ n2_ n3_ n4_ n5_; (try clear hb); (try clear hkp); (try clear hy0)) | ((with_reducible refine gate_callee (f := 28) rfl ?_); refine goesL_ (some 67) rfl rfl Try.func28 (by kernel_rfl) rfl #[.slice Ao85 t615.length co85, .int .i64 1] rfl (by (try simp only [List.map_toArray, List.map_cons, List.map_nil]); first | done | (rw [show t615.length = t602.length from (Kd.R_reads' HO_7.out).1.symm] <;> rfl) | rfl | (simp only [List.length_drop, List.length_take]; rfl)) ?_; (with_reducible refine (laws_heldExtentS.calls kj38 _ _ t615 1 t616 _ ?side1 ?side2 A58.out).mono ?_); (case side1 => exact rc0 HO_7); (case side2 => rw [show t615.length = t602.length from (Kd.R_reads' HO_7.out).1.symm]; exact (Kd.R_reads' HO_7.out).2.1); rintro e w' ⟨rfl, ⟨nd, rfl⟩⟩; refine ⟨_, rfl, ?_⟩))
           go_ret
           exact ⟨by first | rfl | (simp [errW_none, errW_some] <;> rfl) | (simp [*, errW_none, errW_some] <;> rfl), bs2 HB GE589 GE601⟩
     ·
      replace c37 := Bool.eq_false_iff.mpr c37
      subst c37
      rw [if_neg (show ¬ (false = true) by decide)] at H
      obtain rfl := Option.some.inj H
      try go_wp2
      have n0_ := Aside0.mk (Kd.R_drew HO_4.out)
      have n1_ := Aside0.mk (Kd.R_drew HO_7.out)
      have n2_ := Aside0.mk (Kd.R_drew HO_602000.out)
      have n3_ := Aside0.mk (blk_drew BK589.out)
      have n4_ := Aside0.mk (blk_drew BK601.out)
      have n5_ := Aside0.mk (below_drew1 HB.out)
      clear HO_4
      clear HO_7
      clear HO_602000
      clear BK589
      clear BK601
      clear HB
      have HO_4 := n0_
      have HO_7 := n1_
      have HO_602000 := n2_
      have BK589 := n3_
      have BK601 := n4_
      have HB := n5_
      clear n0_ n1_ n2_ n3_ n4_ n5_
      refine start_ (n := 5) (S := fun w' => w'.cell? ⟨gb601, 0, none⟩ = some (.slice Ao22 t598.length co22) ∧ w'.cell? ⟨gb589, 0, none⟩ = some (.slice A0_0 l0_0.length c0_0)) (ds := []) #[false, false, false, false, false] (by kernel_rfl) rfl rfl ⟨(blk_cell BK601.out 0).trans rfl, (blk_cell BK589.out 0).trans rfl⟩ (fun hHeld => ?_)
      generalize wc.drew = w87 at HO_4 HO_7 HO_602000 BK589 BK601 HB hHeld ⊢
      refine take_ (i := 0) (N := some 41) (v := ?_) (a' := ?_) #[true, false, false, false, false] rfl rfl (by kernel_rfl) (fun _ _ _ h => h) (Or.inl ⟨by rfl, ?_⟩) hHeld ?_ ?_
      rotate_left
      ·
       rintro w' ⟨s0, s1⟩
       go_simp
       with_reducible rfl
      rotate_left
      ·
       simp only [Act.put, List.setIfInBounds_toArray, List.set_cons_zero, List.set_cons_succ, i64_w, i32_w]
       rfl
      refine take_ (i := 1) (N := some 42) (v := ?_) (a' := ?_) #[true, true, false, false, false] rfl rfl (by kernel_rfl) (fun _ _ _ h => h) (Or.inl ⟨by rfl, ?_⟩) hHeld ?_ ?_
      rotate_left
      ·
       rintro w' ⟨s0, s1⟩
       go_simp
       with_reducible rfl
      rotate_left
      ·
       simp only [Act.put, List.setIfInBounds_toArray, List.set_cons_zero, List.set_cons_succ, i64_w, i32_w]
       rfl
      refine one_ (i := 2) (N := some 43) #[true, true, true, false, false] rfl rfl (by kernel_rfl) (by decide) (fun K hK => ?_)
      refine goes_ Try.func16 (by kernel_rfl) rfl #[.agg #[.slice A0_0 l0_0.length c0_0]] (by rfl) rfl rfl (by (try simp only [List.map_toArray, List.map_cons, List.map_nil]); first | done | rfl | (simp only [List.length_drop, List.length_take]; rfl)) ?_
      with_reducible refine (laws_toFileMap.calls kj10 _ _ l0_0 t607 _ ?side1 ?side2 A35.out).mono ?_
      (case side1 => exact cb HR0_0 HB)
      (case side2 => exact HC0_0.out)
      rintro e w88 ⟨v608, rfl, ho0, hb⟩
      refine ⟨_, rfl, ?_⟩
      have n0_ := Aside0.mk (Kd.R_below (rr HO_4.out) hb)
      have n1_ := Aside0.mk (Kd.R_below (rr HO_7.out) hb)
      have n2_ := Aside0.mk (Kd.R_elder' (rr HO_602000.out) (Kd.R_base ho0) hb)
      have n3_ := Aside0.mk (Kd.R_lower (Kd.R_new' ho0 (Kd.R_lt (rr HO_602000.out))) (below_size (bs2 HB GE589 GE601)))
      have n4_ := Aside0.mk (bb BK589 hb)
      have n5_ := Aside0.mk (bb BK601 hb)
      have n6_ := Aside0.mk (below_step (bs2 HB GE589 GE601) hb)
      clear HO_4
      clear HO_7
      clear HO_602000
      clear BK589
      clear BK601
      clear HB
      have HO_4 := n0_
      have HO_7 := n1_
      have HO_602000 := n2_
      have HO609 := n3_
      have BK589 := n4_
      have BK601 := n5_
      have HB := n6_
      clear n0_ n1_ n2_ n3_ n4_ n5_ n6_
      (try clear hb)
      (try clear hb2)
      (try clear hk)
      (try clear hi)
      (try clear ho0)
      obtain ⟨Ao89, co89, eo89⟩ := Kd.R_slice HO609.out
      (first | subst eo89 | (injection eo89 with f1_ f2_ f3_; have f4_ := f1_.symm; have f5_ := f3_.symm; clear f1_ f2_ f3_; subst f4_; subst f5_))
      refine hK.out _ _ ⟨(blk_cell BK601.out 0).trans rfl, (blk_cell BK589.out 0).trans rfl⟩ (fun hHeld => ?_)
      clear hK K
      refine norm_ (a' := ?_) ?_ ?_
      rotate_left
      ·
       show Act.put _ (some 43) _ = _
       simp only [Act.put, List.setIfInBounds_toArray, List.set_cons_zero, List.set_cons_succ, i64_w, i32_w]
       rfl
      refine one_ (i := 3) (N := some 44) #[true, true, true, true, false] rfl rfl (by kernel_rfl) (by decide) (fun K hK => ?_)
      refine goes_ Try.func18 (by kernel_rfl) rfl #[.agg #[.slice Ao22 t598.length co22], .agg #[.slice Ao89 t607.length co89]] (by rfl) rfl rfl (by (try simp only [List.map_toArray, List.map_cons, List.map_nil]); first | done | rfl | (simp only [List.length_drop, List.length_take]; rfl)) ?_
      with_reducible refine (laws_eqFileMap.calls kj10 _ _ t598 _ _ t607 false _ ?side1 ?side2 ?side3 ?side4 A36.out).mono ?_
      (case side1 => exact rc0 HO_602000)
      (case side2 => exact (Kd.R_reads' HO_602000.out).2.1)
      (case side3 => exact rc0 HO609)
      (case side4 => exact (Kd.R_reads' HO609.out).2.1)
      rintro e w90 ⟨rfl, hb⟩
      refine ⟨_, rfl, ?_⟩
      have n0_ := Aside0.mk (Kd.R_below (rr HO_4.out) hb)
      have n1_ := Aside0.mk (Kd.R_below (rr HO_7.out) hb)
      have n2_ := Aside0.mk (Kd.R_below (rr HO_602000.out) hb)
      have n3_ := Aside0.mk (Kd.R_below (rr HO609.out) hb)
      have n4_ := Aside0.mk (bb BK589 hb)
      have n5_ := Aside0.mk (bb BK601 hb)
      have n6_ := Aside0.mk (below_step (bs2 HB GE589 GE601) hb)
      clear HO_4
      clear HO_7
      clear HO_602000
      clear HO609
      clear BK589
      clear BK601
      clear HB
      have HO_4 := n0_
      have HO_7 := n1_
      have HO_602000 := n2_
      have HO609 := n3_
      have BK589 := n4_
      have BK601 := n5_
      have HB := n6_
      clear n0_ n1_ n2_ n3_ n4_ n5_ n6_
      (try clear hb)
      (try clear hb2)
      (try clear hk)
      (try clear hi)
      refine hK.out _ _ ⟨(blk_cell BK601.out 0).trans rfl, (blk_cell BK589.out 0).trans rfl⟩ (fun hHeld => ?_)
      clear hK K
      refine norm_ (a' := ?_) ?_ ?_
      rotate_left
      ·
       show Act.put _ (some 44) _ = _
       simp only [Act.put, List.setIfInBounds_toArray, List.set_cons_zero, List.set_cons_succ, i64_w, i32_w]
       rfl
      refine pure_ (i := 4) (N := some 45) (v := ?_) (a' := ?_) #[true, true, true, true, true] rfl rfl (by kernel_rfl) (fun _ _ _ h => h) (Or.inl ⟨by rfl, ?_⟩) ?_ ?_
      rotate_left
      ·
       intro w'
       go_simp
       with_reducible rfl
      rotate_left
      ·
       simp only [Act.put, List.setIfInBounds_toArray, List.set_cons_zero, List.set_cons_succ, i64_w, i32_w]
       rfl
      refine done_ (by kernel_rfl) ?_
      try go_wp2
      go_ret
      exact ⟨by first | rfl | (simp [errW_none, errW_some] <;> rfl) | (simp [*, errW_none, errW_some] <;> rfl), bs2 HB GE589 GE601⟩

/-- THE ONE PURE STATEMENT of laws_FnExactBlocksOf. -/
def laws_FnExactBlocksOf.Pure : Prop := ∀ (l0_0 : List (S45)), ok24 (⟨l0_0⟩ : S24) → ∃ k, laws_FnExactBlocksOf.f k l0_0 = some true

end Go.Proofs.Ytojdlcbmbpgplaa.G
