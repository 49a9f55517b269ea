-- Printed by a program of this session (drive.py, by way of the kit's print). Not trusted: Lean checks it.
import Derived.Test.YtojdlcbmbpgplaaG0
import Derived.Test.YtojdlcbmbpgplaaG3
import Derived.Test.YtojdlcbmbpgplaaG4
import Derived.Test.YtojdlcbmbpgplaaG5
import Derived.Test.YtojdlcbmbpgplaaG7
import Derived.Test.YtojdlcbmbpgplaaG9
import Derived.Test.YtojdlcbmbpgplaaG10
namespace Go.Proofs.Ytojdlcbmbpgplaa.G
open Go.RowKit Go.Proofs.YtojdlcbmbpgplaaW.PrintWords Go.Proofs.YtojdlcbmbpgplaaW.PrintLast Go.Proofs.YtojdlcbmbpgplaaW.PrintMore
attribute [local go_sem] max2_int min2_int max_two min_two max_three min_three max_four min_four   -- for this text's walks alone
set_option linter.unusedVariables false
set_option linter.unusedSimpArgs false

/-! ### laws_FnExactBlockAt: function 5 -/
def laws_FnExactBlockAt.j0 : Nat → Bool → List (S45) → List (S48) → Option (Bool)
 | 0, _, _, _ => none
 | k + 1, x47, x234000, x245000 => if x47 = true then (some false) else ((laws_toFileMap.f k x234000).bind fun t248 => ((laws_eqFileMap.f k x245000 t248).bind fun t251 => (if t251 = true then (some true) else (some false))))
def laws_FnExactBlockAt.f (k : Nat) (l0_0 : List (S45)) (a1 : Int) : Option (Bool) := (laws_szFileMap.f l0_0 1048576).bind fun t234 => (if t234 < 0 then (some true) else ((laws_toFileMap.f k l0_0).bind fun t235 => ((spec_BlockAt.f k t235 a1).bind fun bt238 => ((laws_toFileMap.f k l0_0).bind fun t241 => ((impl_BlockAt.f k t241 a1).bind fun bt245 => (if bt245.1 = bt238.1 then (if (bt245.2.1 != bt238.2.1) = true then (laws_FnExactBlockAt.j0 k true l0_0 t241) else (laws_FnExactBlockAt.j0 k (bt245.2.2 != bt238.2.2) l0_0 t241)) else (laws_FnExactBlockAt.j0 k true l0_0 t241)))))))
theorem laws_FnExactBlockAt.mono_l : ∀ k, (∀ y0 y1 y2, LeO (laws_FnExactBlockAt.j0 k y0 y1 y2) (laws_FnExactBlockAt.j0 (k + 1) y0 y1 y2))
 | 0 => fun _ _ _ r h => by simp [laws_FnExactBlockAt.j0] at h
 | k + 1 => by
  have ih0 := laws_FnExactBlockAt.mono_l k
  ·
   intro y0 y1 y2
   unfold laws_FnExactBlockAt.j0
   repeat' first
   | (with_reducible exact ih0 _ _ _)
   | (with_reducible exact impl_BlockAt.mono _ _ _)
   | (with_reducible exact laws_eqFileMap.mono _ _ _)
   | (with_reducible exact laws_toFileMap.mono _ _)
   | (with_reducible exact spec_BlockAt.mono _ _ _)
   | (with_reducible exact LeO.refl _)
   | (with_reducible exact LeO.none _)
   | (with_reducible refine LeO.ite ?_ ?_)
   | (with_reducible refine LeO.bind ?_ (fun _ => ?_))
   | exact ih0 _ _ _
   | exact impl_BlockAt.mono _ _ _
   | exact laws_eqFileMap.mono _ _ _
   | exact laws_toFileMap.mono _ _
   | exact spec_BlockAt.mono _ _ _
   | exact LeO.none _
   | refine LeO.ite ?_ ?_
   | refine LeO.bind ?_ (fun _ => ?_)
theorem laws_FnExactBlockAt.mono : ∀ a0 a1 k, LeO (laws_FnExactBlockAt.f k a0 a1) (laws_FnExactBlockAt.f (k + 1) a0 a1) := by
 intro a0 a1 k
 have ih0 := laws_FnExactBlockAt.mono_l k
 unfold laws_FnExactBlockAt.f
 repeat' first
   | (with_reducible exact ih0 _ _ _)
   | (with_reducible exact impl_BlockAt.mono _ _ _)
   | (with_reducible exact laws_eqFileMap.mono _ _ _)
   | (with_reducible exact laws_toFileMap.mono _ _)
   | (with_reducible exact spec_BlockAt.mono _ _ _)
   | (with_reducible exact LeO.refl _)
   | (with_reducible exact LeO.none _)
   | (with_reducible refine LeO.ite ?_ ?_)
   | (with_reducible refine LeO.bind ?_ (fun _ => ?_))
   | exact ih0 _ _ _
   | exact impl_BlockAt.mono _ _ _
   | exact laws_eqFileMap.mono _ _ _
   | exact laws_toFileMap.mono _ _
   | exact spec_BlockAt.mono _ _ _
   | exact LeO.none _
   | refine LeO.ite ?_ ?_
   | refine LeO.bind ?_ (fun _ => ?_)
set_option maxHeartbeats 8000000 in
set_option maxRecDepth 100000 in
theorem laws_FnExactBlockAt.calls (k : Nat) (A0_0 : Option Addr) (c0_0 : Nat) (l0_0 : List (S45)) (a1 : Int) (r : Bool) (w : World) (hr0_0 : Kd.C k45 w A0_0 l0_0.length l0_0) (hc0_0 : l0_0.length ≤ c0_0) (h : laws_FnExactBlockAt.f k l0_0 a1 = some r) :
  Calls Try.prog 5 #[.agg #[.slice A0_0 l0_0.length c0_0], .int .i64 a1] w fun e w' => e = .returned (.bool r) ∧ Below w.heap.size w w' := by
 have hu24 := Try.underlying24
 have hu29 := Try.underlying29
 have HR0_0 := Aside0.mk hr0_0
 have HC0_0 := Aside0.mk hc0_0
 clear hr0_0 hc0_0
 have HB := Aside0.mk (Below.refl w.heap.size w)
 have H : ((laws_szFileMap.f l0_0 1048576).bind fun t234 => (if t234 < 0 then (some true) else ((laws_toFileMap.f k l0_0).bind fun t235 => ((spec_BlockAt.f k t235 a1).bind fun bt238 => ((laws_toFileMap.f k l0_0).bind fun t241 => ((impl_BlockAt.f k t241 a1).bind fun bt245 => (if bt245.1 = bt238.1 then (if (bt245.2.1 != bt238.2.1) = true then (laws_FnExactBlockAt.j0 k true l0_0 t241) else (laws_FnExactBlockAt.j0 k (bt245.2.2 != bt238.2.2) l0_0 t241)) else (laws_FnExactBlockAt.j0 k true l0_0 t241)))))))) = some r := h
 clear h
 replace H := Option.bind_eq_some_iff.mp H
 obtain ⟨t234, A30, H⟩ := H
 replace H : (if t234 < 0 then (some true) else ((laws_toFileMap.f k l0_0).bind fun t235 => ((spec_BlockAt.f k t235 a1).bind fun bt238 => ((laws_toFileMap.f k l0_0).bind fun t241 => ((impl_BlockAt.f k t241 a1).bind fun bt245 => (if bt245.1 = bt238.1 then (if (bt245.2.1 != bt238.2.1) = true then (laws_FnExactBlockAt.j0 k true l0_0 t241) else (laws_FnExactBlockAt.j0 k (bt245.2.2 != bt238.2.2) l0_0 t241)) else (laws_FnExactBlockAt.j0 k true l0_0 t241))))))) = some r := H
 have A3 := Aside0.mk A30
 clear A30
 by_cases c4 : t234 < 0
 ·
  rw [if_pos c4] at H
  have c4b0 : decide (t234 < 0) = true := decide_eq_true c4
  clear c4
  obtain rfl := Option.some.inj H
  go_enter Try.func5, Try.ntmps5
  go_wp2_with (first | ((with_reducible refine gate_dst (N := 2) rfl ?_); refine box_event ?hg (N := 2) ?hd (cs := #[.slice A0_0 l0_0.length c0_0]) (t := 24) ?hr ?_; (case hd => rfl); (case hg => rfl); (case hr => first | (go_simp; done) | (go_simp; rfl)); intro gb233 hg w5 hbox hb; have n0_ := Aside0.mk (below_step (bs HB) hb); have n1_ := Aside0.mk (hbox); have n2_ := Aside0.mk ((by rw [hg]; exact (below_size (bs HB)) : w.heap.size ≤ gb233)); have n3_ := Aside0.mk ((by rw [hg]; exact (below_size (bs HB)) : w.heap.size ≤ gb233)); clear HB; have HB := n0_; have BK233 := n1_; have GW233 := n2_; have GE233 := n3_; clear n0_ n1_ n2_ n3_; clear hb hbox hg; have hcz6_0 : w5.cell? ⟨gb233, 0, none⟩ = some (.slice A0_0 l0_0.length c0_0) := (blk_cell BK233.out 0).trans rfl; have hfz6_0 := blk_frozen BK233.out 0) | ((with_reducible refine gate_callee (f := 14) rfl ?_); refine goesL_ (some 15) rfl rfl Try.func14 (by kernel_rfl) rfl #[.agg #[.slice A0_0 l0_0.length c0_0], .int .i64 1048576] rfl (by (try simp only [List.map_toArray, List.map_cons, List.map_nil]); first | done | rfl | (simp only [List.length_drop, List.length_take]; rfl)) ?_; (with_reducible refine (laws_szFileMap.calls _ _ l0_0 1048576 t234 _ ?side1 ?side2 A3.out).mono ?_); (case side1 => exact cb HR0_0 HB); (case side2 => exact HC0_0.out); rintro e w7 ⟨rfl, hb⟩; refine ⟨_, rfl, ?_⟩; have n0_ := Aside0.mk (blk_below (g := gb233) (o := .cells #[.slice A0_0 l0_0.length c0_0] 24 (0, 0)) (bk BK233) hb); have n1_ := Aside0.mk (below_step (bs1 HB GE233) hb); clear BK233; clear HB; have BK233 := n0_; have HB := n1_; clear n0_ n1_; (try clear hb); (try clear hb2); (try clear hk); (try clear hi)))
  go_ret
  exact ⟨by first | rfl | (simp [errW_none, errW_some] <;> rfl) | (simp [*, errW_none, errW_some] <;> rfl), bs1 HB GE233⟩
 ·
  rw [if_neg c4] at H
  have c4b0 : decide (t234 < 0) = false := decide_eq_false c4
  clear c4
  replace H := Option.bind_eq_some_iff.mp H
  obtain ⟨t235, A80, H⟩ := H
  replace H : ((spec_BlockAt.f k t235 a1).bind fun bt238 => ((laws_toFileMap.f k l0_0).bind fun t241 => ((impl_BlockAt.f k t241 a1).bind fun bt245 => (if bt245.1 = bt238.1 then (if (bt245.2.1 != bt238.2.1) = true then (laws_FnExactBlockAt.j0 k true l0_0 t241) else (laws_FnExactBlockAt.j0 k (bt245.2.2 != bt238.2.2) l0_0 t241)) else (laws_FnExactBlockAt.j0 k true l0_0 t241))))) = some r := H
  have A8 := Aside0.mk A80
  clear A80
  replace H := Option.bind_eq_some_iff.mp H
  obtain ⟨⟨t238, t239, t240⟩, A90, H⟩ := H
  replace H : ((laws_toFileMap.f k l0_0).bind fun t241 => ((impl_BlockAt.f k t241 a1).bind fun bt245 => (if bt245.1 = t238 then (if (bt245.2.1 != t239) = true then (laws_FnExactBlockAt.j0 k true l0_0 t241) else (laws_FnExactBlockAt.j0 k (bt245.2.2 != t240) l0_0 t241)) else (laws_FnExactBlockAt.j0 k true l0_0 t241)))) = some r := H
  have A9 := Aside0.mk A90
  clear A90
  replace H := Option.bind_eq_some_iff.mp H
  obtain ⟨t241, A100, H⟩ := H
  replace H : ((impl_BlockAt.f k t241 a1).bind fun bt245 => (if bt245.1 = t238 then (if (bt245.2.1 != t239) = true then (laws_FnExactBlockAt.j0 k true l0_0 t241) else (laws_FnExactBlockAt.j0 k (bt245.2.2 != t240) l0_0 t241)) else (laws_FnExactBlockAt.j0 k true l0_0 t241))) = some r := H
  have A10 := Aside0.mk A100
  clear A100
  replace H := Option.bind_eq_some_iff.mp H
  obtain ⟨⟨t245, t246, t247⟩, A110, H⟩ := H
  replace H : (if t245 = t238 then (if (t246 != t239) = true then (laws_FnExactBlockAt.j0 k true l0_0 t241) else (laws_FnExactBlockAt.j0 k (t247 != t240) l0_0 t241)) else (laws_FnExactBlockAt.j0 k true l0_0 t241)) = some r := H
  have A11 := Aside0.mk A110
  clear A110
  have HC12 := Aside0.mk H
  clear H
  go_enter Try.func5, Try.ntmps5
  go_upto_region 8 with (first | ((with_reducible refine gate_dst (N := 2) rfl ?_); refine box_event ?hg (N := 2) ?hd (cs := #[.slice A0_0 l0_0.length c0_0]) (t := 24) ?hr ?_; (case hd => rfl); (case hg => rfl); (case hr => first | (go_simp; done) | (go_simp; rfl)); intro gb233 hg w13 hbox hb; have n0_ := Aside0.mk (below_step (bs HB) hb); have n1_ := Aside0.mk (hbox); have n2_ := Aside0.mk ((by rw [hg]; exact (below_size (bs HB)) : w.heap.size ≤ gb233)); have n3_ := Aside0.mk ((by rw [hg]; exact (below_size (bs HB)) : w.heap.size ≤ gb233)); clear HB; have HB := n0_; have BK233 := n1_; have GW233 := n2_; have GE233 := n3_; clear n0_ n1_ n2_ n3_; clear hb hbox hg; have hcz14_0 : w13.cell? ⟨gb233, 0, none⟩ = some (.slice A0_0 l0_0.length c0_0) := (blk_cell BK233.out 0).trans rfl; have hfz14_0 := blk_frozen BK233.out 0) | ((with_reducible refine gate_callee (f := 14) rfl ?_); refine goesL_ (some 15) rfl rfl Try.func14 (by kernel_rfl) rfl #[.agg #[.slice A0_0 l0_0.length c0_0], .int .i64 1048576] rfl (by (try simp only [List.map_toArray, List.map_cons, List.map_nil]); first | done | rfl | (simp only [List.length_drop, List.length_take]; rfl)) ?_; (with_reducible refine (laws_szFileMap.calls _ _ l0_0 1048576 t234 _ ?side1 ?side2 A3.out).mono ?_); (case side1 => exact cb HR0_0 HB); (case side2 => exact HC0_0.out); rintro e w15 ⟨rfl, hb⟩; refine ⟨_, rfl, ?_⟩; have n0_ := Aside0.mk (blk_below (g := gb233) (o := .cells #[.slice A0_0 l0_0.length c0_0] 24 (0, 0)) (bk BK233) hb); have n1_ := Aside0.mk (below_step (bs1 HB GE233) hb); clear BK233; clear HB; have BK233 := n0_; have HB := n1_; clear n0_ n1_; (try clear hb); (try clear hb2); (try clear hk); (try clear hi); have hcz16_0 : w15.cell? ⟨gb233, 0, none⟩ = some (.slice A0_0 l0_0.length c0_0) := (blk_cell BK233.out 0).trans rfl; have hfz16_0 := blk_frozen BK233.out 0) | ((with_reducible refine gate_callee (f := 16) rfl ?_); refine goesL_ (some 20) rfl rfl Try.func16 (by kernel_rfl) rfl #[.agg #[.slice A0_0 l0_0.length c0_0]] rfl (by (try simp only [List.map_toArray, List.map_cons, List.map_nil]); first | done | rfl | (simp only [List.length_drop, List.length_take]; rfl)) ?_; (with_reducible refine (laws_toFileMap.calls k _ _ l0_0 t235 _ ?side1 ?side2 A8.out).mono ?_); (case side1 => exact cb HR0_0 HB); (case side2 => exact HC0_0.out); rintro e w17 ⟨v236, rfl, ho0, hb⟩; refine ⟨_, rfl, ?_⟩; have n0_ := Aside0.mk (Kd.R_lower ho0 (below_size (bs1 HB GE233))); have n1_ := Aside0.mk (blk_below (g := gb233) (o := .cells #[.slice A0_0 l0_0.length c0_0] 24 (0, 0)) (bk BK233) hb); have n2_ := Aside0.mk (below_step (bs1 HB GE233) hb); clear BK233; clear HB; have HO237 := n0_; have BK233 := n1_; have HB := n2_; clear n0_ n1_ n2_; (try clear hb); (try clear hb2); (try clear hk); (try clear hi); (try clear ho0); obtain ⟨Ao18, co18, eo18⟩ := Kd.R_slice HO237.out; subst eo18) | ((with_reducible refine gate_callee (f := 21) rfl ?_); refine goesL_ (some 22) rfl rfl Try.func21 (by kernel_rfl) rfl #[.agg #[.slice Ao18 t235.length co18], .int .i64 a1] rfl (by (try simp only [List.map_toArray, List.map_cons, List.map_nil]); first | done | rfl | (simp only [List.length_drop, List.length_take]; rfl)) ?_; (with_reducible refine (spec_BlockAt.calls k _ _ t235 a1 t238 t239 t240 _ ?side1 ?side2 A9.out).mono ?_); (case side1 => repeat (first | exact (Kd.R_reads' HO237.out).2.2 | (with_reducible refine Kd.C_alloc ?_ _) | (with_reducible refine Kd.C_drewN ?_ _) | (with_reducible refine Kd.C_drew ?_))); (case side2 => exact (Kd.R_reads' HO237.out).2.1); rintro e w19 ⟨rfl, hb⟩; refine ⟨_, rfl, ?_⟩; have n0_ := Aside0.mk (Kd.R_below (rr HO237.out) hb); have n1_ := Aside0.mk (blk_below (g := gb233) (o := .cells #[.slice A0_0 l0_0.length c0_0] 24 (0, 0)) (bk BK233) hb); have n2_ := Aside0.mk (below_step (bs1 HB GE233) hb); clear HO237; clear BK233; clear HB; have HO237 := n0_; have BK233 := n1_; have HB := n2_; clear n0_ n1_ n2_; (try clear hb); (try clear hb2); (try clear hk); (try clear hi); have hcz20_0 : w19.cell? ⟨gb233, 0, none⟩ = some (.slice A0_0 l0_0.length c0_0) := (blk_cell BK233.out 0).trans rfl; have hfz20_0 := blk_frozen BK233.out 0) | ((with_reducible refine gate_callee (f := 16) rfl ?_); refine goesL_ (some 27) rfl rfl Try.func16 (by kernel_rfl) rfl #[.agg #[.slice A0_0 l0_0.length c0_0]] rfl (by (try simp only [List.map_toArray, List.map_cons, List.map_nil]); first | done | rfl | (simp only [List.length_drop, List.length_take]; rfl)) ?_; (with_reducible refine (laws_toFileMap.calls k _ _ l0_0 t241 _ ?side1 ?side2 A10.out).mono ?_); (case side1 => exact cb HR0_0 HB); (case side2 => exact HC0_0.out); rintro e w21 ⟨v242, rfl, ho0, hb⟩; refine ⟨_, rfl, ?_⟩; have n0_ := Aside0.mk (Kd.R_elder' (rr HO237.out) (Kd.R_base ho0) hb); have n1_ := Aside0.mk (Kd.R_lower (Kd.R_new' ho0 (Kd.R_lt (rr HO237.out))) (below_size (bs1 HB GE233))); have n2_ := Aside0.mk (blk_below (g := gb233) (o := .cells #[.slice A0_0 l0_0.length c0_0] 24 (0, 0)) (bk BK233) hb); have n3_ := Aside0.mk (below_step (bs1 HB GE233) hb); clear HO237; clear BK233; clear HB; have HO237 := n0_; have HO243 := n1_; have BK233 := n2_; have HB := n3_; clear n0_ n1_ n2_ n3_; (try clear hb); (try clear hb2); (try clear hk); (try clear hi); (try clear ho0)) | ((with_reducible refine gate_dst (N := 9) rfl ?_); refine box_event ?hg (N := 9) ?hd (cs := #[.slice none 0 0]) (t := 29) ?hr ?_; (case hd => rfl); (case hg => rfl); (case hr => first | (go_simp; done) | (go_simp; rfl)); intro gb244 hg w22 hbox hb; have n0_ := Aside0.mk (Kd.R_below (rr HO237.out) hb); have n1_ := Aside0.mk (Kd.R_below (rr HO243.out) hb); have n2_ := Aside0.mk (blk_below (g := gb233) (o := .cells #[.slice A0_0 l0_0.length c0_0] 24 (0, 0)) (bk BK233) hb); have n3_ := Aside0.mk (below_step (bs1 HB GE233) hb); have n4_ := Aside0.mk (hbox); have n5_ := Aside0.mk ((by rw [hg]; exact (below_size (bs1 HB GE233)) : w.heap.size ≤ gb244)); have n6_ := Aside0.mk ((by rw [hg]; exact (below_size (bs1 HB GE233)) : w.heap.size ≤ gb244)); have n7_ := Aside0.mk ((by rw [hg]; exact Nat.ne_of_lt (blk_lt (g := gb233) (o := .cells #[.slice A0_0 l0_0.length c0_0] 24 (0, 0)) (bk BK233)) : gb233 ≠ gb244)); have n8_ := Aside0.mk ((by rw [hg]; exact Nat.ne_of_gt (blk_lt (g := gb233) (o := .cells #[.slice A0_0 l0_0.length c0_0] 24 (0, 0)) (bk BK233)) : gb244 ≠ gb233)); clear HO237; clear HO243; clear BK233; clear HB; have HO237 := n0_; have HO243 := n1_; have BK233 := n2_; have HB := n3_; have BK244 := n4_; have GW244 := n5_; have GE244 := n6_; have NB233_244 := n7_; have NB244_233 := n8_; clear n0_ n1_ n2_ n3_ n4_ n5_ n6_ n7_ n8_; clear hb hbox hg; obtain ⟨Ao23, co23, eo23⟩ := Kd.R_slice HO243.out; subst eo23; have hnb24 := NB244_233.out; have hnc24 := NB233_244.out; have hcz25_0 : w22.cell? ⟨gb244, 0, none⟩ = some (.slice none 0 0) := (blk_cell BK244.out 0).trans rfl; have hfz25_0 := blk_frozen BK244.out 0) | ((with_reducible refine gate_callee (f := 22) rfl ?_); refine goesL_ (some 31) rfl rfl Try.func22 (by kernel_rfl) rfl #[.agg #[.slice Ao23 t241.length co23], .int .i64 a1] rfl (by (try simp only [List.map_toArray, List.map_cons, List.map_nil]); first | done | rfl | (simp only [List.length_drop, List.length_take]; rfl)) ?_; (with_reducible refine (impl_BlockAt.calls k _ _ t241 a1 t245 t246 t247 _ ?side1 ?side2 A11.out).mono ?_); (case side1 => refine (Kd.R_reads' (e := 48) (base := w.heap.size) (ok := fun k_ => (True ∧ some k_ ≠ (.slice Ao18 t235.length co18 : Value).ownBlock)) (n := t241.length) (c := co23) ?_).2.2; exact (by (with_reducible repeat (first | apply Kd.R_alloc | apply Kd.R_drewN | apply Kd.R_drew)); exact (Kd.R_mono (Kd.R_far (p := ⟨gb244, 0, none⟩) (Kd.R_types HO243.out BK244.out (by decide)) (fun _ hk => hk.2) (.slice Ao23 t241.length co23)) (fun _ h_ => h_.1)))); (case side2 => exact (Kd.R_reads' HO243.out).2.1); rintro e w26 ⟨rfl, hb⟩; refine ⟨_, rfl, ?_⟩; have n0_ := Aside0.mk (Kd.R_below (by (with_reducible repeat (first | apply Kd.R_alloc | apply Kd.R_drewN | apply Kd.R_drew)); exact (Kd.R_mono (Kd.R_far (p := ⟨gb244, 0, none⟩) (Kd.R_types HO237.out BK244.out (by decide)) (fun _ hk => hk.2) (.slice Ao23 t241.length co23)) (fun _ h_ => h_.1))) hb); have n1_ := Aside0.mk (Kd.R_below (by (with_reducible repeat (first | apply Kd.R_alloc | apply Kd.R_drewN | apply Kd.R_drew)); exact (Kd.R_mono (Kd.R_far (p := ⟨gb244, 0, none⟩) (Kd.R_types HO243.out BK244.out (by decide)) (fun _ hk => hk.2) (.slice Ao23 t241.length co23)) (fun _ h_ => h_.1))) hb); have n2_ := Aside0.mk (blk_below (g := gb233) (o := .cells #[.slice A0_0 l0_0.length c0_0] 24 (0, 0)) (by (with_reducible repeat (first | refine blk_drewN ?_ _ | refine blk_drew ?_ | refine blk_alloc ?_ _)); refine blk_far ?_ NB233_244.out _; (with_reducible repeat (first | refine blk_drewN ?_ _ | refine blk_drew ?_ | refine blk_alloc ?_ _)); exact BK233.out) hb); have n3_ := Aside0.mk (blk_below (g := gb244) (o := .cells #[.slice Ao23 t241.length co23] 29 (0, 0)) (by (with_reducible repeat (first | refine blk_drewN ?_ _ | refine blk_drew ?_ | refine blk_alloc ?_ _)); refine blk_put (cs := #[.slice none 0 0]) ?_ 0 _ rfl; (with_reducible repeat (first | refine blk_drewN ?_ _ | refine blk_drew ?_ | refine blk_alloc ?_ _)); exact BK244.out) hb); have n4_ := Aside0.mk (below_step (bs2 HB GE233 GE244) hb); clear HO237; clear HO243; clear BK233; clear BK244; clear HB; have HO237 := n0_; have HO243 := n1_; have BK233 := n2_; have BK244 := n3_; have HB := n4_; clear n0_ n1_ n2_ n3_ n4_; (try clear hb); (try clear hb2); (try clear hk); (try clear hi)))
  (try simp only [Act.put, List.setIfInBounds_toArray, List.set_cons_zero, List.set_cons_succ])
  go_cut [47] (fun v47 wc => ∃ (kq : Nat) (x47_11 : Bool), v47 = .bool x47_11 ∧ Aside0 (laws_FnExactBlockAt.j0 kq x47_11 l0_0 t241 = some r) ∧ Aside0 (kq ≤ k) ∧ Aside0 (Kd.R k48 48 wc w.heap.size (fun _ => True) (.slice Ao23 t241.length co23) t241) ∧ Aside0 (wc.heap[gb233]? = some (.cells #[(.slice A0_0 l0_0.length c0_0)] 24 (0, 0))) ∧ Aside0 (wc.heap[gb244]? = some (.cells #[(.slice Ao23 t241.length co23)] 29 (0, 0))) ∧ Aside0 (Below w.heap.size w wc))
  case first =>
   have H := HC12.out
   clear HC12
   by_cases c27 : t245 = t238
   ·
    rw [if_pos c27] at H
    have c27b0 : (t245 == t238) = true := beq_iff_eq.mpr c27
    have c27b1 : (t245 != t238) = false := bne_eq_false_iff_eq.mpr c27
    clear c27
    (first | rw [c27b0] | (simp only [i64_w, i32_w]; rw [c27b0]) | skip)
    by_cases c28 : (t246 != t239) = true
    ·
     rw [if_pos c28] at H
     have c28b0 : (t246 != t239) = true := c28
     (try (have c28b1 : decide (t246 = t239) = false := by simpa using c28))
     (try (have c28b2 : (t246 == t239) = false := by simpa using c28))
     (try (have c28b3 : ¬ (t246 = t239) := by simpa using c28))
     clear c28
     have H' := Aside0.mk H
     clear H
     go_wp2
     go_meet
     case rel => exact ⟨_, (true), (by first | rfl | (simp; done) | (simp [*]; done)), H', ⟨by first | omega | exact Nat.le_refl _⟩, ⟨by (with_reducible repeat (first | apply Kd.R_alloc | apply Kd.R_drewN | apply Kd.R_drew)); exact Kd.R_mono HO243.out (fun _ hk => trivial)⟩, ⟨bk BK233⟩, ⟨bk BK244⟩, ⟨bs2 HB GE233 GE244⟩⟩
    ·
     rw [if_neg c28] at H
     have c28b0 : (t246 != t239) = false := by simpa using c28
     (try (have c28b1 : decide (t246 = t239) = true := by simpa using c28))
     (try (have c28b2 : (t246 == t239) = true := by simpa using c28))
     clear c28
     have H' := Aside0.mk H
     clear H
     go_wp2
     go_meet
     case rel => exact ⟨_, ((t247 != t240)), (by first | rfl | (simp; done) | (simp [*]; done)), H', ⟨by first | omega | exact Nat.le_refl _⟩, ⟨by (with_reducible repeat (first | apply Kd.R_alloc | apply Kd.R_drewN | apply Kd.R_drew)); exact Kd.R_mono HO243.out (fun _ hk => trivial)⟩, ⟨bk BK233⟩, ⟨bk BK244⟩, ⟨bs2 HB GE233 GE244⟩⟩
   ·
    rw [if_neg c27] at H
    have c27b0 : (t245 == t238) = false := beq_eq_false_iff_ne.mpr c27
    have c27b1 : (t245 != t238) = true := bne_iff_ne.mpr c27
    (first | rw [c27b0] | (simp only [i64_w, i32_w]; rw [c27b0]) | skip)
    have H' := Aside0.mk H
    clear H
    go_wp2
    go_meet
    case rel => exact ⟨_, (true), (by first | rfl | (simp; done) | (simp [*]; done)), H', ⟨by first | omega | exact Nat.le_refl _⟩, ⟨by (with_reducible repeat (first | apply Kd.R_alloc | apply Kd.R_drewN | apply Kd.R_drew)); exact Kd.R_mono HO243.out (fun _ hk => trivial)⟩, ⟨bk BK233⟩, ⟨bk BK244⟩, ⟨bs2 HB GE233 GE244⟩⟩
  case rest =>
   clear HC12
   try clear c1
   try clear c2
   try clear p2
   try clear c4
   try clear c4b0
   try clear c5
   try clear c14
   try clear c16
   try clear c21
   try clear c22
   try clear c24
   try clear c27
   try clear c27b0
   try clear c27b1
   try clear c28
   try clear c28b0
   try clear c28b1
   try clear c28b2
   try clear hcz14_0
   try clear hcz16_0
   try clear hcz20_0
   try clear hcz25_0
   try clear hcz6_0
   try clear hfz14_0
   try clear hfz16_0
   try clear hfz20_0
   try clear hfz25_0
   try clear hfz6_0
   obtain ⟨kq, x47_11, rfl, HA, HJ11, HO_245000, BK233, BK244, HB⟩ := hcut
   cases kq with
   | zero => exact absurd HA.out (by simp [laws_FnExactBlockAt.j0])
   | succ kj11 =>
    have H := HA.out
    clear HA
    simp only [laws_FnExactBlockAt.j0] at H
    by_cases c29 : x47_11 = true
    ·
     subst c29
     rw [if_pos rfl] at H
     obtain rfl := Option.some.inj H
     go_wp2
     go_ret
     exact ⟨by first | rfl | (simp [errW_none, errW_some] <;> rfl) | (simp [*, errW_none, errW_some] <;> rfl), bs2 HB GE233 GE244⟩
    ·
     replace c29 := Bool.eq_false_iff.mpr c29
     subst c29
     rw [if_neg (show ¬ (false = true) by decide)] at H
     replace H := Option.bind_eq_some_iff.mp H
     obtain ⟨t248, A300, H⟩ := H
     replace H : ((laws_eqFileMap.f kj11 t241 t248).bind fun t251 => (if t251 = true then (some true) else (some false))) = some r := H
     have A30 := Aside0.mk A300
     clear A300
     replace H := Option.bind_eq_some_iff.mp H
     obtain ⟨t251, A310, H⟩ := H
     replace H : (if t251 = true then (some true) else (some false)) = some r := H
     have A31 := Aside0.mk A310
     clear A310
     by_cases c32 : t251 = true
     ·
      subst c32
      rw [if_pos rfl] at H
      obtain rfl := Option.some.inj H
      try go_wp2
      have n0_ := Aside0.mk (Kd.R_drew HO_245000.out)
      have n1_ := Aside0.mk (blk_drew BK233.out)
      have n2_ := Aside0.mk (blk_drew BK244.out)
      have n3_ := Aside0.mk (below_drew1 HB.out)
      clear HO_245000
      clear BK233
      clear BK244
      clear HB
      have HO_245000 := n0_
      have BK233 := n1_
      have BK244 := n2_
      have HB := n3_
      clear n0_ n1_ n2_ n3_
      refine start_ (n := 5) (S := fun w' => w'.cell? ⟨gb244, 0, none⟩ = some (.slice Ao23 t241.length co23) ∧ w'.cell? ⟨gb233, 0, none⟩ = some (.slice A0_0 l0_0.length c0_0)) (ds := []) #[false, false, false, false, false] (by kernel_rfl) rfl rfl ⟨(blk_cell BK244.out 0).trans rfl, (blk_cell BK233.out 0).trans rfl⟩ (fun hHeld => ?_)
      generalize wc.drew = w33 at HO_245000 BK233 BK244 HB hHeld ⊢
      refine take_ (i := 0) (N := some 48) (v := ?_) (a' := ?_) #[true, false, false, false, false] rfl rfl (by kernel_rfl) (fun _ _ _ h => h) (Or.inl ⟨by rfl, ?_⟩) hHeld ?_ ?_
      rotate_left
      ·
       rintro w' ⟨s0, s1⟩
       go_simp
       with_reducible rfl
      rotate_left
      ·
       simp only [Act.put, List.setIfInBounds_toArray, List.set_cons_zero, List.set_cons_succ, i64_w, i32_w]
       rfl
      refine take_ (i := 1) (N := some 49) (v := ?_) (a' := ?_) #[true, true, false, false, false] rfl rfl (by kernel_rfl) (fun _ _ _ h => h) (Or.inl ⟨by rfl, ?_⟩) hHeld ?_ ?_
      rotate_left
      ·
       rintro w' ⟨s0, s1⟩
       go_simp
       with_reducible rfl
      rotate_left
      ·
       simp only [Act.put, List.setIfInBounds_toArray, List.set_cons_zero, List.set_cons_succ, i64_w, i32_w]
       rfl
      refine one_ (i := 2) (N := some 50) #[true, true, true, false, false] rfl rfl (by kernel_rfl) (by decide) (fun K hK => ?_)
      refine goes_ Try.func16 (by kernel_rfl) rfl #[.agg #[.slice A0_0 l0_0.length c0_0]] (by rfl) rfl rfl (by (try simp only [List.map_toArray, List.map_cons, List.map_nil]); first | done | rfl | (simp only [List.length_drop, List.length_take]; rfl)) ?_
      with_reducible refine (laws_toFileMap.calls kj11 _ _ l0_0 t248 _ ?side1 ?side2 A30.out).mono ?_
      (case side1 => exact cb HR0_0 HB)
      (case side2 => exact HC0_0.out)
      rintro e w34 ⟨v249, rfl, ho0, hb⟩
      refine ⟨_, rfl, ?_⟩
      have n0_ := Aside0.mk (Kd.R_elder' (rr HO_245000.out) (Kd.R_base ho0) hb)
      have n1_ := Aside0.mk (Kd.R_lower (Kd.R_new' ho0 (Kd.R_lt (rr HO_245000.out))) (below_size (bs2 HB GE233 GE244)))
      have n2_ := Aside0.mk (blk_below (g := gb233) (o := .cells #[.slice A0_0 l0_0.length c0_0] 24 (0, 0)) (bk BK233) hb)
      have n3_ := Aside0.mk (blk_below (g := gb244) (o := .cells #[.slice Ao23 t241.length co23] 29 (0, 0)) (bk BK244) hb)
      have n4_ := Aside0.mk (below_step (bs2 HB GE233 GE244) hb)
      clear HO_245000
      clear BK233
      clear BK244
      clear HB
      have HO_245000 := n0_
      have HO250 := n1_
      have BK233 := n2_
      have BK244 := n3_
      have HB := n4_
      clear n0_ n1_ n2_ n3_ n4_
      (try clear hb)
      (try clear hb2)
      (try clear hk)
      (try clear hi)
      (try clear ho0)
      obtain ⟨Ao35, co35, eo35⟩ := Kd.R_slice HO250.out
      (first | subst eo35 | (injection eo35 with f1_ f2_ f3_; have f4_ := f1_.symm; have f5_ := f3_.symm; clear f1_ f2_ f3_; subst f4_; subst f5_))
      refine hK.out _ _ ⟨(blk_cell BK244.out 0).trans rfl, (blk_cell BK233.out 0).trans rfl⟩ (fun hHeld => ?_)
      clear hK K
      refine norm_ (a' := ?_) ?_ ?_
      rotate_left
      ·
       show Act.put _ (some 50) _ = _
       simp only [Act.put, List.setIfInBounds_toArray, List.set_cons_zero, List.set_cons_succ, i64_w, i32_w]
       rfl
      refine one_ (i := 3) (N := some 51) #[true, true, true, true, false] rfl rfl (by kernel_rfl) (by decide) (fun K hK => ?_)
      refine goes_ Try.func18 (by kernel_rfl) rfl #[.agg #[.slice Ao23 t241.length co23], .agg #[.slice Ao35 t248.length co35]] (by rfl) rfl rfl (by (try simp only [List.map_toArray, List.map_cons, List.map_nil]); first | done | rfl | (simp only [List.length_drop, List.length_take]; rfl)) ?_
      with_reducible refine (laws_eqFileMap.calls kj11 _ _ t241 _ _ t248 true _ ?side1 ?side2 ?side3 ?side4 A31.out).mono ?_
      (case side1 => repeat (first | exact (Kd.R_reads' HO_245000.out).2.2 | (with_reducible refine Kd.C_alloc ?_ _) | (with_reducible refine Kd.C_drewN ?_ _) | (with_reducible refine Kd.C_drew ?_)))
      (case side2 => exact (Kd.R_reads' HO_245000.out).2.1)
      (case side3 => repeat (first | exact (Kd.R_reads' HO250.out).2.2 | (with_reducible refine Kd.C_alloc ?_ _) | (with_reducible refine Kd.C_drewN ?_ _) | (with_reducible refine Kd.C_drew ?_)))
      (case side4 => exact (Kd.R_reads' HO250.out).2.1)
      rintro e w36 ⟨rfl, hb⟩
      refine ⟨_, rfl, ?_⟩
      have n0_ := Aside0.mk (Kd.R_below (rr HO_245000.out) hb)
      have n1_ := Aside0.mk (Kd.R_below (rr HO250.out) hb)
      have n2_ := Aside0.mk (blk_below (g := gb233) (o := .cells #[.slice A0_0 l0_0.length c0_0] 24 (0, 0)) (bk BK233) hb)
      have n3_ := Aside0.mk (blk_below (g := gb244) (o := .cells #[.slice Ao23 t241.length co23] 29 (0, 0)) (bk BK244) hb)
      have n4_ := Aside0.mk (below_step (bs2 HB GE233 GE244) hb)
      clear HO_245000
      clear HO250
      clear BK233
      clear BK244
      clear HB
      have HO_245000 := n0_
      have HO250 := n1_
      have BK233 := n2_
      have BK244 := n3_
      have HB := n4_
      clear n0_ n1_ n2_ n3_ n4_
      (try clear hb)
      (try clear hb2)
      (try clear hk)
      (try clear hi)
      refine hK.out _ _ ⟨(blk_cell BK244.out 0).trans rfl, (blk_cell BK233.out 0).trans rfl⟩ (fun hHeld => ?_)
      clear hK K
      refine norm_ (a' := ?_) ?_ ?_
      rotate_left
      ·
       show Act.put _ (some 51) _ = _
       simp only [Act.put, List.setIfInBounds_toArray, List.set_cons_zero, List.set_cons_succ, i64_w, i32_w]
       rfl
      refine pure_ (i := 4) (N := some 52) (v := ?_) (a' := ?_) #[true, true, true, true, true] rfl rfl (by kernel_rfl) (fun _ _ _ h => h) (Or.inl ⟨by rfl, ?_⟩) ?_ ?_
      rotate_left
      ·
       intro w'
       go_simp
       with_reducible rfl
      rotate_left
      ·
       simp only [Act.put, List.setIfInBounds_toArray, List.set_cons_zero, List.set_cons_succ, i64_w, i32_w]
       rfl
      refine done_ (by kernel_rfl) ?_
      try go_wp2
      go_ret
      exact ⟨by first | rfl | (simp [errW_none, errW_some] <;> rfl) | (simp [*, errW_none, errW_some] <;> rfl), bs2 HB GE233 GE244⟩
     ·
      replace c32 := Bool.eq_false_iff.mpr c32
      subst c32
      rw [if_neg (show ¬ (false = true) by decide)] at H
      obtain rfl := Option.some.inj H
      try go_wp2
      have n0_ := Aside0.mk (Kd.R_drew HO_245000.out)
      have n1_ := Aside0.mk (blk_drew BK233.out)
      have n2_ := Aside0.mk (blk_drew BK244.out)
      have n3_ := Aside0.mk (below_drew1 HB.out)
      clear HO_245000
      clear BK233
      clear BK244
      clear HB
      have HO_245000 := n0_
      have BK233 := n1_
      have BK244 := n2_
      have HB := n3_
      clear n0_ n1_ n2_ n3_
      refine start_ (n := 5) (S := fun w' => w'.cell? ⟨gb244, 0, none⟩ = some (.slice Ao23 t241.length co23) ∧ w'.cell? ⟨gb233, 0, none⟩ = some (.slice A0_0 l0_0.length c0_0)) (ds := []) #[false, false, false, false, false] (by kernel_rfl) rfl rfl ⟨(blk_cell BK244.out 0).trans rfl, (blk_cell BK233.out 0).trans rfl⟩ (fun hHeld => ?_)
      generalize wc.drew = w37 at HO_245000 BK233 BK244 HB hHeld ⊢
      refine take_ (i := 0) (N := some 48) (v := ?_) (a' := ?_) #[true, false, false, false, false] rfl rfl (by kernel_rfl) (fun _ _ _ h => h) (Or.inl ⟨by rfl, ?_⟩) hHeld ?_ ?_
      rotate_left
      ·
       rintro w' ⟨s0, s1⟩
       go_simp
       with_reducible rfl
      rotate_left
      ·
       simp only [Act.put, List.setIfInBounds_toArray, List.set_cons_zero, List.set_cons_succ, i64_w, i32_w]
       rfl
      refine take_ (i := 1) (N := some 49) (v := ?_) (a' := ?_) #[true, true, false, false, false] rfl rfl (by kernel_rfl) (fun _ _ _ h => h) (Or.inl ⟨by rfl, ?_⟩) hHeld ?_ ?_
      rotate_left
      ·
       rintro w' ⟨s0, s1⟩
       go_simp
       with_reducible rfl
      rotate_left
      ·
       simp only [Act.put, List.setIfInBounds_toArray, List.set_cons_zero, List.set_cons_succ, i64_w, i32_w]
       rfl
      refine one_ (i := 2) (N := some 50) #[true, true, true, false, false] rfl rfl (by kernel_rfl) (by decide) (fun K hK => ?_)
      refine goes_ Try.func16 (by kernel_rfl) rfl #[.agg #[.slice A0_0 l0_0.length c0_0]] (by rfl) rfl rfl (by (try simp only [List.map_toArray, List.map_cons, List.map_nil]); first | done | rfl | (simp only [List.length_drop, List.length_take]; rfl)) ?_
      with_reducible refine (laws_toFileMap.calls kj11 _ _ l0_0 t248 _ ?side1 ?side2 A30.out).mono ?_
      (case side1 => exact cb HR0_0 HB)
      (case side2 => exact HC0_0.out)
      rintro e w38 ⟨v249, rfl, ho0, hb⟩
      refine ⟨_, rfl, ?_⟩
      have n0_ := Aside0.mk (Kd.R_elder' (rr HO_245000.out) (Kd.R_base ho0) hb)
      have n1_ := Aside0.mk (Kd.R_lower (Kd.R_new' ho0 (Kd.R_lt (rr HO_245000.out))) (below_size (bs2 HB GE233 GE244)))
      have n2_ := Aside0.mk (blk_below (g := gb233) (o := .cells #[.slice A0_0 l0_0.length c0_0] 24 (0, 0)) (bk BK233) hb)
      have n3_ := Aside0.mk (blk_below (g := gb244) (o := .cells #[.slice Ao23 t241.length co23] 29 (0, 0)) (bk BK244) hb)
      have n4_ := Aside0.mk (below_step (bs2 HB GE233 GE244) hb)
      clear HO_245000
      clear BK233
      clear BK244
      clear HB
      have HO_245000 := n0_
      have HO250 := n1_
      have BK233 := n2_
      have BK244 := n3_
      have HB := n4_
      clear n0_ n1_ n2_ n3_ n4_
      (try clear hb)
      (try clear hb2)
      (try clear hk)
      (try clear hi)
      (try clear ho0)
      obtain ⟨Ao39, co39, eo39⟩ := Kd.R_slice HO250.out
      (first | subst eo39 | (injection eo39 with f1_ f2_ f3_; have f4_ := f1_.symm; have f5_ := f3_.symm; clear f1_ f2_ f3_; subst f4_; subst f5_))
      refine hK.out _ _ ⟨(blk_cell BK244.out 0).trans rfl, (blk_cell BK233.out 0).trans rfl⟩ (fun hHeld => ?_)
      clear hK K
      refine norm_ (a' := ?_) ?_ ?_
      rotate_left
      ·
       show Act.put _ (some 50) _ = _
       simp only [Act.put, List.setIfInBounds_toArray, List.set_cons_zero, List.set_cons_succ, i64_w, i32_w]
       rfl
      refine one_ (i := 3) (N := some 51) #[true, true, true, true, false] rfl rfl (by kernel_rfl) (by decide) (fun K hK => ?_)
      refine goes_ Try.func18 (by kernel_rfl) rfl #[.agg #[.slice Ao23 t241.length co23], .agg #[.slice Ao39 t248.length co39]] (by rfl) rfl rfl (by (try simp only [List.map_toArray, List.map_cons, List.map_nil]); first | done | rfl | (simp only [List.length_drop, List.length_take]; rfl)) ?_
      with_reducible refine (laws_eqFileMap.calls kj11 _ _ t241 _ _ t248 false _ ?side1 ?side2 ?side3 ?side4 A31.out).mono ?_
      (case side1 => repeat (first | exact (Kd.R_reads' HO_245000.out).2.2 | (with_reducible refine Kd.C_alloc ?_ _) | (with_reducible refine Kd.C_drewN ?_ _) | (with_reducible refine Kd.C_drew ?_)))
      (case side2 => exact (Kd.R_reads' HO_245000.out).2.1)
      (case side3 => repeat (first | exact (Kd.R_reads' HO250.out).2.2 | (with_reducible refine Kd.C_alloc ?_ _) | (with_reducible refine Kd.C_drewN ?_ _) | (with_reducible refine Kd.C_drew ?_)))
      (case side4 => exact (Kd.R_reads' HO250.out).2.1)
      rintro e w40 ⟨rfl, hb⟩
      refine ⟨_, rfl, ?_⟩
      have n0_ := Aside0.mk (Kd.R_below (rr HO_245000.out) hb)
      have n1_ := Aside0.mk (Kd.R_below (rr HO250.out) hb)
      have n2_ := Aside0.mk (blk_below (g := gb233) (o := .cells #[.slice A0_0 l0_0.length c0_0] 24 (0, 0)) (bk BK233) hb)
      have n3_ := Aside0.mk (blk_below (g := gb244) (o := .cells #[.slice Ao23 t241.length co23] 29 (0, 0)) (bk BK244) hb)
      have n4_ := Aside0.mk (below_step (bs2 HB GE233 GE244) hb)
      clear HO_245000
      clear HO250
      clear BK233
      clear BK244
      clear HB
      have HO_245000 := n0_
      have HO250 := n1_
      have BK233 := n2_
      have BK244 := n3_
      have HB := n4_
      clear n0_ n1_ n2_ n3_ n4_
      (try clear hb)
      (try clear hb2)
      (try clear hk)
      (try clear hi)
      refine hK.out _ _ ⟨(blk_cell BK244.out 0).trans rfl, (blk_cell BK233.out 0).trans rfl⟩ (fun hHeld => ?_)
      clear hK K
      refine norm_ (a' := ?_) ?_ ?_
      rotate_left
      ·
       show Act.put _ (some 51) _ = _
       simp only [Act.put, List.setIfInBounds_toArray, List.set_cons_zero, List.set_cons_succ, i64_w, i32_w]
       rfl
      refine pure_ (i := 4) (N := some 52) (v := ?_) (a' := ?_) #[true, true, true, true, true] rfl rfl (by kernel_rfl) (fun _ _ _ h => h) (Or.inl ⟨by rfl, ?_⟩) ?_ ?_
      rotate_left
      ·
       intro w'
       go_simp
       with_reducible rfl
      rotate_left
      ·
       simp only [Act.put, List.setIfInBounds_toArray, List.set_cons_zero, List.set_cons_succ, i64_w, i32_w]
       rfl
      refine done_ (by kernel_rfl) ?_
      try go_wp2
      go_ret
      exact ⟨by first | rfl | (simp [errW_none, errW_some] <;> rfl) | (simp [*, errW_none, errW_some] <;> rfl), bs2 HB GE233 GE244⟩

/-- THE ONE PURE STATEMENT of laws_FnExactBlockAt. -/
def laws_FnExactBlockAt.Pure : Prop := ∀ (l0_0 : List (S45)) (a1 : Int), ok24 (⟨l0_0⟩ : S24) → (Lit.int .i64 a1).wf = true → ∃ k, laws_FnExactBlockAt.f k l0_0 a1 = some true

/-! ### spec_HolesOf: function 23 -/
mutual
def spec_HolesOf.j0 : Nat → Int → Bool → List (S48) → Option ((List (S61)) × Bool)
 | 0, _, _, _ => none
 | k + 1, x1, x18, x253000 => if x18 = true then (some (([] : List (S61)), false)) else (spec_HolesOf.l0 k x1 ([] : List (S61)) 0 x253000 (x253000.length : Int) 0)
def spec_HolesOf.l0 : Nat → Int → List (S61) → Int → List (S48) → Int → Int → Option ((List (S61)) × Bool)
 | 0, _, _, _, _, _, _ => none
 | k + 1, x1, x6, x7, x20, x21, x22 => if x22 < x21 then (if 0 ≤ x22 then (if x22 < (x20.length : Int) then (if ((rd_T48 x20 x22).f0) > x1 then (if x1 > x7 then (if x6.length < 8796093022208 then (spec_HolesOf.l0 k x1 (x6 ++ [(⟨x7, wrap64 (x1 - x7)⟩ : S61)]) (wrap64 (((rd_T48 x20 x22).f0) + ((rd_T48 x20 x22).f1))) x20 x21 (wrap64 (x22 + 1))) else (none)) else (spec_HolesOf.l0 k x1 x6 (wrap64 (((rd_T48 x20 x22).f0) + ((rd_T48 x20 x22).f1))) x20 x21 (wrap64 (x22 + 1)))) else (if ((rd_T48 x20 x22).f0) > x7 then (if x6.length < 8796093022208 then (spec_HolesOf.l0 k x1 (x6 ++ [(⟨x7, wrap64 (((rd_T48 x20 x22).f0) - x7)⟩ : S61)]) (wrap64 (((rd_T48 x20 x22).f0) + ((rd_T48 x20 x22).f1))) x20 x21 (wrap64 (x22 + 1))) else (none)) else (spec_HolesOf.l0 k x1 x6 (wrap64 (((rd_T48 x20 x22).f0) + ((rd_T48 x20 x22).f1))) x20 x21 (wrap64 (x22 + 1))))) else (none)) else (none)) else (if x7 < x1 then (if x6.length < 8796093022208 then (some ((x6 ++ [(⟨x7, wrap64 (x1 - x7)⟩ : S61)]), true)) else (none)) else (some (x6, true)))
end
def spec_HolesOf.f (k : Nat) (l0_0 : List (S48)) (a1 : Int) : Option ((List (S61)) × Bool) := (spec_GoodMap.f k l0_0).bind fun t253 => (if t253 = true then ((spec_l1In.f a1 0 200).bind fun t254 => (spec_HolesOf.j0 k a1 (!t254) l0_0)) else (spec_HolesOf.j0 k a1 true l0_0))
theorem spec_HolesOf.mono_l : ∀ k, (∀ y0 y1 y2, LeO (spec_HolesOf.j0 k y0 y1 y2) (spec_HolesOf.j0 (k + 1) y0 y1 y2)) ∧ (∀ y0 y1 y2 y3 y4 y5, LeO (spec_HolesOf.l0 k y0 y1 y2 y3 y4 y5) (spec_HolesOf.l0 (k + 1) y0 y1 y2 y3 y4 y5))
 | 0 => ⟨fun _ _ _ r h => by simp [spec_HolesOf.j0] at h, fun _ _ _ _ _ _ r h => by simp [spec_HolesOf.l0] at h⟩
 | k + 1 => by
  obtain ⟨ih0, ih1⟩ := spec_HolesOf.mono_l k
  refine ⟨?_, ?_⟩
  ·
   intro y0 y1 y2
   unfold spec_HolesOf.j0
   repeat' first
   | (with_reducible exact ih0 _ _ _)
   | (with_reducible exact ih1 _ _ _ _ _ _)
   | (with_reducible exact spec_GoodMap.mono _ _)
   | (with_reducible exact LeO.refl _)
   | (with_reducible exact LeO.none _)
   | (with_reducible refine LeO.ite ?_ ?_)
   | (with_reducible refine LeO.bind ?_ (fun _ => ?_))
   | exact ih0 _ _ _
   | exact ih1 _ _ _ _ _ _
   | exact spec_GoodMap.mono _ _
   | exact LeO.none _
   | refine LeO.ite ?_ ?_
   | refine LeO.bind ?_ (fun _ => ?_)
  ·
   intro y0 y1 y2 y3 y4 y5
   unfold spec_HolesOf.l0
   repeat' first
   | (with_reducible exact ih0 _ _ _)
   | (with_reducible exact ih1 _ _ _ _ _ _)
   | (with_reducible exact spec_GoodMap.mono _ _)
   | (with_reducible exact LeO.refl _)
   | (with_reducible exact LeO.none _)
   | (with_reducible refine LeO.ite ?_ ?_)
   | (with_reducible refine LeO.bind ?_ (fun _ => ?_))
   | exact ih0 _ _ _
   | exact ih1 _ _ _ _ _ _
   | exact spec_GoodMap.mono _ _
   | exact LeO.none _
   | refine LeO.ite ?_ ?_
   | refine LeO.bind ?_ (fun _ => ?_)
theorem spec_HolesOf.mono : ∀ a0 a1 k, LeO (spec_HolesOf.f k a0 a1) (spec_HolesOf.f (k + 1) a0 a1) := by
 intro a0 a1 k
 obtain ⟨ih0, ih1⟩ := spec_HolesOf.mono_l k
 unfold spec_HolesOf.f
 repeat' first
   | (with_reducible exact ih0 _ _ _)
   | (with_reducible exact ih1 _ _ _ _ _ _)
   | (with_reducible exact spec_GoodMap.mono _ _)
   | (with_reducible exact LeO.refl _)
   | (with_reducible exact LeO.none _)
   | (with_reducible refine LeO.ite ?_ ?_)
   | (with_reducible refine LeO.bind ?_ (fun _ => ?_))
   | exact ih0 _ _ _
   | exact ih1 _ _ _ _ _ _
   | exact spec_GoodMap.mono _ _
   | exact LeO.none _
   | refine LeO.ite ?_ ?_
   | refine LeO.bind ?_ (fun _ => ?_)
set_option maxHeartbeats 8000000 in
set_option maxRecDepth 100000 in
theorem spec_HolesOf.calls (k : Nat) (A0_0 : Option Addr) (c0_0 : Nat) (l0_0 : List (S48)) (a1 : Int) (r1 : List (S61)) (r2 : Bool) (w : World) (hr0_0 : Kd.C k48 w A0_0 l0_0.length l0_0) (hc0_0 : l0_0.length ≤ c0_0) (h : spec_HolesOf.f k l0_0 a1 = some (r1, r2)) :
  Calls Try.prog 23 #[.agg #[.slice A0_0 l0_0.length c0_0], .int .i64 a1] w fun e w' => ∃ v0_ : Value, e = .returned (.tuple #[v0_, .bool r2]) ∧ Kd.R k61 61 w' w.heap.size (fun _ => True) v0_ r1 ∧ Below w.heap.size w w' := by
 have hu29 := Try.underlying29
 have hu48 := Try.underlying48
 have hu61 := Try.underlying61
 have HR0_0 := Aside0.mk hr0_0
 have HC0_0 := Aside0.mk hc0_0
 clear hr0_0 hc0_0
 have HB := Aside0.mk (Below.refl w.heap.size w)
 have H : ((spec_GoodMap.f k l0_0).bind fun t253 => (if t253 = true then ((spec_l1In.f a1 0 200).bind fun t254 => (spec_HolesOf.j0 k a1 (!t254) l0_0)) else (spec_HolesOf.j0 k a1 true l0_0))) = some (r1, r2) := h
 clear h
 have HC3 := Aside0.mk H
 clear H
 go_enter Try.func23, Try.ntmps23
 go_upto_region 1 with (first | ((with_reducible refine gate_dst (N := 2) rfl ?_); refine box_event ?hg (N := 2) ?hd (cs := #[.slice A0_0 l0_0.length c0_0]) (t := 29) ?hr ?_; (case hd => rfl); (case hg => rfl); (case hr => first | (go_simp; done) | (go_simp; rfl)); intro gb252 hg w4 hbox hb; have n0_ := Aside0.mk (below_step (bs HB) hb); have n1_ := Aside0.mk (hbox); have n2_ := Aside0.mk ((by rw [hg]; exact (below_size (bs HB)) : w.heap.size ≤ gb252)); have n3_ := Aside0.mk ((by rw [hg]; exact (below_size (bs HB)) : w.heap.size ≤ gb252)); clear HB; have HB := n0_; have BK252 := n1_; have GW252 := n2_; have GE252 := n3_; clear n0_ n1_ n2_ n3_; clear hb hbox hg))
 (try simp only [Act.put, List.setIfInBounds_toArray, List.set_cons_zero, List.set_cons_succ])
 go_cut [18] (fun v18 wc => ∃ (kq : Nat) (x18_2 : Bool), v18 = .bool x18_2 ∧ Aside0 (spec_HolesOf.j0 kq a1 x18_2 l0_0 = some (r1, r2)) ∧ Aside0 (kq ≤ k) ∧ Aside0 (wc.heap[gb252]? = some (.cells #[(.slice A0_0 l0_0.length c0_0)] 29 (0, 0))) ∧ Aside0 (Below w.heap.size w wc))
 case first =>
  have H := HC3.out
  clear HC3
  replace H := Option.bind_eq_some_iff.mp H
  obtain ⟨t253, A50, H⟩ := H
  replace H : (if t253 = true then ((spec_l1In.f a1 0 200).bind fun t254 => (spec_HolesOf.j0 k a1 (!t254) l0_0)) else (spec_HolesOf.j0 k a1 true l0_0)) = some (r1, r2) := H
  have A5 := Aside0.mk A50
  clear A50
  by_cases c6 : t253 = true
  ·
   subst c6
   rw [if_pos rfl] at H
   replace H := Option.bind_eq_some_iff.mp H
   obtain ⟨t254, A70, H⟩ := H
   replace H : (spec_HolesOf.j0 k a1 (!t254) l0_0) = some (r1, r2) := H
   have A7 := Aside0.mk A70
   clear A70
   have H' := Aside0.mk H
   clear H
   have hcz8_0 : w4.cell? ⟨gb252, 0, none⟩ = some (.slice A0_0 l0_0.length c0_0) := (blk_cell BK252.out 0).trans rfl
   have hfz8_0 := blk_frozen BK252.out 0
   go_wp2_with (first | ((with_reducible refine gate_callee (f := 15) rfl ?_); refine goesL_ (some 12) rfl rfl Try.func15 (by kernel_rfl) rfl #[.agg #[.slice A0_0 l0_0.length c0_0]] rfl (by (try simp only [List.map_toArray, List.map_cons, List.map_nil]); first | done | rfl | (simp only [List.length_drop, List.length_take]; rfl)) ?_; (with_reducible refine (spec_GoodMap.calls k _ _ l0_0 true _ ?side1 ?side2 A5.out).mono ?_); (case side1 => exact cb HR0_0 HB); (case side2 => exact HC0_0.out); rintro e w9 ⟨rfl, hb⟩; refine ⟨_, rfl, ?_⟩; have n0_ := Aside0.mk (blk_below (g := gb252) (o := .cells #[.slice A0_0 l0_0.length c0_0] 29 (0, 0)) (bk BK252) hb); have n1_ := Aside0.mk (below_step (bs1 HB GE252) hb); clear BK252; clear HB; have BK252 := n0_; have HB := n1_; clear n0_ n1_; (try clear hb); (try clear hb2); (try clear hk); (try clear hi)) | (go_at_call 54; (with_reducible refine (spec_l1In.calls a1 0 200 t254 _ A7.out).mono ?_); rintro e w' ⟨rfl, ⟨nd, rfl⟩⟩))
   go_meet
   case rel => exact ⟨_, (!t254), (by first | rfl | (simp; done) | (simp [*]; done)), H', ⟨by first | omega | exact Nat.le_refl _⟩, ⟨bk BK252⟩, ⟨bs1 HB GE252⟩⟩
  ·
   replace c6 := Bool.eq_false_iff.mpr c6
   subst c6
   rw [if_neg (show ¬ (false = true) by decide)] at H
   have H' := Aside0.mk H
   clear H
   have hcz10_0 : w4.cell? ⟨gb252, 0, none⟩ = some (.slice A0_0 l0_0.length c0_0) := (blk_cell BK252.out 0).trans rfl
   have hfz10_0 := blk_frozen BK252.out 0
   go_wp2_with (first | ((with_reducible refine gate_callee (f := 15) rfl ?_); refine goesL_ (some 12) rfl rfl Try.func15 (by kernel_rfl) rfl #[.agg #[.slice A0_0 l0_0.length c0_0]] rfl (by (try simp only [List.map_toArray, List.map_cons, List.map_nil]); first | done | rfl | (simp only [List.length_drop, List.length_take]; rfl)) ?_; (with_reducible refine (spec_GoodMap.calls k _ _ l0_0 false _ ?side1 ?side2 A5.out).mono ?_); (case side1 => exact cb HR0_0 HB); (case side2 => exact HC0_0.out); rintro e w11 ⟨rfl, hb⟩; refine ⟨_, rfl, ?_⟩; have n0_ := Aside0.mk (blk_below (g := gb252) (o := .cells #[.slice A0_0 l0_0.length c0_0] 29 (0, 0)) (bk BK252) hb); have n1_ := Aside0.mk (below_step (bs1 HB GE252) hb); clear BK252; clear HB; have BK252 := n0_; have HB := n1_; clear n0_ n1_; (try clear hb); (try clear hb2); (try clear hk); (try clear hi)))
   go_meet
   case rel => exact ⟨_, (true), (by first | rfl | (simp; done) | (simp [*]; done)), H', ⟨by first | omega | exact Nat.le_refl _⟩, ⟨bk BK252⟩, ⟨bs1 HB GE252⟩⟩
 case rest =>
  clear HC3
  try clear c1
  try clear c2
  try clear p2
  try clear c6
  try clear hcz10_0
  try clear hcz8_0
  try clear hfz10_0
  try clear hfz8_0
  obtain ⟨kq, x18_2, rfl, HA, HJ2, BK252, HB⟩ := hcut
  cases kq with
  | zero => exact absurd HA.out (by simp [spec_HolesOf.j0])
  | succ kj2 =>
   have H := HA.out
   clear HA
   simp only [spec_HolesOf.j0] at H
   by_cases c12 : x18_2 = true
   ·
    subst c12
    rw [if_pos rfl] at H
    simp only [Option.some.injEq, Prod.mk.injEq] at H
    obtain ⟨rfl, rfl⟩ := H
    go_wp2
    go_ret2
    exact ⟨_, by first | rfl | (simp [errW_none, errW_some] <;> rfl) | (simp [*, errW_none, errW_some] <;> rfl), by first | exact Kd.R_nil _ _ _ _ _ | exact Kd.N_nil _ _ _ _ _ | exact Kd.V_nil _ _ _ _ _ | exact Kd.Q_nil _ _ _ _ _ | exact Kd.S_nil _ _ _ _ _, bs1 HB GE252⟩
   ·
    replace c12 := Bool.eq_false_iff.mpr c12
    subst c12
    rw [if_neg (show ¬ (false = true) by decide)] at H
    have H' := Aside0.mk H
    clear H
    have hcz13_0 : wc.cell? ⟨gb252, 0, none⟩ = some (.slice A0_0 l0_0.length c0_0) := (blk_cell BK252.out 0).trans rfl
    have hfz13_0 := blk_frozen BK252.out 0
    go_wp2
    go_loopg [6, 7, 22] kj2 (fun kq v6 v7 v22 w' => ∃ (x6_2 : List (S61)) (x7_2 : Int) (x22_2 : Int), v7 = .int .i64 x7_2 ∧ v22 = .int .i64 x22_2 ∧ Aside0 (spec_HolesOf.l0 kq a1 x6_2 x7_2 l0_0 (l0_0.length : Int) x22_2 = some (r1, r2)) ∧ Aside0 (kq ≤ kj2) ∧ Aside0 (Kd.R k61 61 w' w.heap.size (fun _ => True) v6 x6_2) ∧ Aside0 (w'.heap[gb252]? = some (.cells #[(.slice A0_0 l0_0.length c0_0)] 29 (0, 0))) ∧ Aside0 (Below w.heap.size w w'))
    case atStart => exact ⟨(([] : List (S61))), (0), (0), (by first | rfl | (simp; done) | (simp [*]; done)), (by first | rfl | (simp; done) | (simp [*]; done)), H', ⟨Nat.le_refl _⟩, ⟨by first | exact Kd.R_nil _ _ _ _ _ | exact Kd.N_nil _ _ _ _ _ | exact Kd.V_nil _ _ _ _ _ | exact Kd.Q_nil _ _ _ _ _ | exact Kd.S_nil _ _ _ _ _⟩, ⟨bk BK252⟩, ⟨bs1 HB GE252⟩⟩
    case round =>
     clear H'
     try clear c1
     try clear c2
     try clear p2
     try clear c6
     try clear c12
     try clear hcz10_0
     try clear hcz13_0
     try clear hcz8_0
     try clear hfz10_0
     try clear hfz13_0
     try clear hfz8_0
     try clear p2
     obtain ⟨x6_2, x7_2, x22_2, rfl, rfl, HA, HK2, HO_6, BK252, HB⟩ := hrel
     cases gk with
     | zero => exact absurd HA.out (by simp [spec_HolesOf.l0])
     | succ k2 =>
      have H := HA.out
      clear HA
      simp only [spec_HolesOf.l0] at H
      by_cases c14 : x22_2 < (l0_0.length : Int)
      ·
       rw [if_pos c14] at H
       have c14b0 : decide (x22_2 < (l0_0.length : Int)) = true := decide_eq_true c14
       clear c14
       by_cases c15 : 0 ≤ x22_2
       ·
        rw [if_pos c15] at H
        have c15b0 : decide (0 ≤ x22_2) = true := decide_eq_true c15
        clear c15
        by_cases c16 : x22_2 < (l0_0.length : Int)
        ·
         rw [if_pos c16] at H
         have c16b0 : decide (x22_2 < (l0_0.length : Int)) = true := decide_eq_true c16
         clear c16
         by_cases c17 : ((rd_T48 l0_0 x22_2).f0) > a1
         ·
          rw [if_pos c17] at H
          have c17b0 : decide (a1 < ((rd_T48 l0_0 x22_2).f0)) = true := decide_eq_true c17
          clear c17
          by_cases c18 : a1 > x7_2
          ·
           rw [if_pos c18] at H
           have c18b0 : decide (x7_2 < a1) = true := decide_eq_true c18
           clear c18
           by_cases c19 : x6_2.length < 8796093022208
           ·
            rw [if_pos c19] at H
            have LMc19 := Aside0.mk c19
            clear c19
            obtain ⟨y260, hy260⟩ : ∃ y_ : List (S61), y_ = (x6_2 ++ [(⟨x7_2, wrap64 (a1 - x7_2)⟩ : S61)]) := ⟨_, rfl⟩
            replace H : (spec_HolesOf.l0 k2 a1 y260 (wrap64 (((rd_T48 l0_0 x22_2).f0) + ((rd_T48 l0_0 x22_2).f1))) l0_0 (l0_0.length : Int) (wrap64 (x22_2 + 1))) = some (r1, r2) := by first | (rw [hy260]; with_reducible exact H) | (have H2_ := (Option.bind_some _ _).symm.trans H; rw [hy260]; with_reducible exact H2_) | (have H2_ := (Option.bind_some _ _).symm.trans H; with_reducible exact H2_) | with_reducible exact H | (rw [hy260]; exact H) | exact H
            have Ny260 := Aside0.mk hy260
            clear hy260
            have H' := Aside0.mk H
            clear H
            have p258 : 0 ≤ (x22_2 : Int) := of_decide_eq_true (by first | (with_reducible assumption) | assumption)
            have q258 : x22_2 < (l0_0.length : Int) := of_decide_eq_true (by first | (with_reducible assumption) | assumption)
            obtain ⟨ad258, e258, hx258_0, hx258_1, hx258_2, hx258_3⟩ := at_T48 HR0_0.out x22_2 p258 q258
            cases e258
            replace hx258_0 := (HB.out.cell (World.block_lt_of_cell? w _ hx258_0)).trans hx258_0
            replace hx258_1 := (HB.out.cell (World.block_lt_of_cell? w _ hx258_1)).trans hx258_1
            replace hx258_2 := (HB.out.cell (World.block_lt_of_cell? w _ hx258_2)).trans hx258_2
            replace hx258_3 := (HB.out.cell (World.block_lt_of_cell? w _ hx258_3)).trans hx258_3
            replace p258 := eq_true p258
            replace q258 := eq_true q258
            go_wp2_with (first | ((with_reducible refine gate_dst (N := 9) rfl ?_); refine box_event ?hg (N := 9) ?hd (cs := #[.int .i64 0, .int .i64 0, .int .i64 0, .bool false]) (t := 48) ?hr ?_; (case hd => rfl); (case hg => rfl); (case hr => first | (go_simp; done) | (go_simp; rfl)); intro gb259 hg w20 hbox hb; have n0_ := Aside0.mk (Kd.R_below (rr HO_6.out) hb); have n1_ := Aside0.mk (blk_below (g := gb252) (o := .cells #[.slice (some ad258) l0_0.length c0_0] 29 (0, 0)) (bk BK252) hb); have n2_ := Aside0.mk (below_step (bs1 HB GE252) hb); have n3_ := Aside0.mk (hbox); have n4_ := Aside0.mk ((by rw [hg]; exact (below_size (bs1 HB GE252)) : w.heap.size ≤ gb259)); have n5_ := Aside0.mk ((by rw [hg]; exact (below_size (bs1 HB GE252)) : w.heap.size ≤ gb259)); have n6_ := Aside0.mk ((by rw [hg]; exact Nat.ne_of_lt (blk_lt (g := gb252) (o := .cells #[.slice (some ad258) l0_0.length c0_0] 29 (0, 0)) (bk BK252)) : gb252 ≠ gb259)); have n7_ := Aside0.mk ((by rw [hg]; exact Nat.ne_of_gt (blk_lt (g := gb252) (o := .cells #[.slice (some ad258) l0_0.length c0_0] 29 (0, 0)) (bk BK252)) : gb259 ≠ gb252)); clear HO_6; clear BK252; clear HB; have HO_6 := n0_; have BK252 := n1_; have HB := n2_; have BK259 := n3_; have GW259 := n4_; have GE259 := n5_; have NB252_259 := n6_; have NB259_252 := n7_; clear n0_ n1_ n2_ n3_ n4_ n5_ n6_ n7_; clear hb hbox hg; have hnb21 := NB259_252.out; have hnc21 := NB252_259.out; have hcz22_0 : w20.cell? ⟨gb259, 0, none⟩ = some (.int .i64 0) := (blk_cell BK259.out 0).trans rfl; have hcz22_1 : w20.cell? ⟨gb259, 1, none⟩ = some (.int .i64 0) := (blk_cell BK259.out 1).trans rfl; have hcz22_2 : w20.cell? ⟨gb259, 2, none⟩ = some (.int .i64 0) := (blk_cell BK259.out 2).trans rfl; have hcz22_3 : w20.cell? ⟨gb259, 3, none⟩ = some (.bool false) := (blk_cell BK259.out 3).trans rfl; have hfz22_0 := blk_frozen BK259.out 0; have hfz22_1 := blk_frozen BK259.out 1; have hfz22_2 := blk_frozen BK259.out 2; have hfz22_3 := blk_frozen BK259.out 3) | ((with_reducible refine gate_builtin (b := .append) (xs := #[.tmp 35, .tmp 41]) rfl ?_); at_builtin; refine Kd.R_append k61 (w0 := w) w.heap.size rfl (.tmp 35) (.tmp 41) 38 61 (.agg #[(.int .i64 0), (.int .i64 0)]) 16 rfl Try.underlying38 info61 rfl (by decide) (by omega) u6 x6_2 (⟨x7_2, wrap64 (a1 - x7_2)⟩ : S61) [.int .i64 x7_2, .int .i64 (wrap64 (a1 - x7_2))] (fun _ => True) (fun _ => False) rfl (by first | (go_simp; done) | (go_simp; rfl)) ?aP (fun _ hk => hk.elim) ?aF ?aO ?aB ?aS ?aL ?_; (case aP => exact k61_mkM _ _ _ (⟨x7_2, wrap64 (a1 - x7_2)⟩ : S61)); (case aB => exact (bs2 HB GE252 GE259)); (case aF => exact (fun _ _ => trivial)); (case aO => exact (by (with_reducible repeat (first | apply Kd.R_alloc | apply Kd.R_drewN | apply Kd.R_drew)); exact Kd.R_mono (Kd.R_far (p := ⟨gb259, 3, none⟩) (Kd.R_far (p := ⟨gb259, 2, none⟩) (Kd.R_far (p := ⟨gb259, 1, none⟩) (Kd.R_far (p := ⟨gb259, 0, none⟩) (Kd.R_types HO_6.out BK259.out (by decide)) (fun _ hk => hk.2) (.int .i64 ((rd_T48 l0_0 x22_2).f0))) (fun _ hk => hk.2) (.int .i64 ((rd_T48 l0_0 x22_2).f1))) (fun _ hk => hk.2) (.int .i64 ((rd_T48 l0_0 x22_2).f2))) (fun _ hk => hk.2) (.bool ((rd_T48 l0_0 x22_2).f3))) (fun _ hk => trivial))); (case aS => exact (below_size (bs2 HB GE252 GE259))); (case aL => have := LMc19.out; omega); intro v261 w23 ho hb hg hat; rw [← Ny260.out] at ho; have n0_ := Aside0.mk (blk_grown (g := gb252) (o := .cells #[.slice (some ad258) l0_0.length c0_0] 29 (0, 0)) (by (with_reducible repeat (first | refine blk_drewN ?_ _ | refine blk_drew ?_ | refine blk_alloc ?_ _)); refine blk_far ?_ NB252_259.out _; (with_reducible repeat (first | refine blk_drewN ?_ _ | refine blk_drew ?_ | refine blk_alloc ?_ _)); refine blk_far ?_ NB252_259.out _; (with_reducible repeat (first | refine blk_drewN ?_ _ | refine blk_drew ?_ | refine blk_alloc ?_ _)); refine blk_far ?_ NB252_259.out _; (with_reducible repeat (first | refine blk_drewN ?_ _ | refine blk_drew ?_ | refine blk_alloc ?_ _)); refine blk_far ?_ NB252_259.out _; (with_reducible repeat (first | refine blk_drewN ?_ _ | refine blk_drew ?_ | refine blk_alloc ?_ _)); exact BK252.out) hg (Kd.R_ne HO_6.out BK252.out (by decide))); have n1_ := Aside0.mk (blk_grown (g := gb259) (o := .cells #[.int .i64 ((rd_T48 l0_0 x22_2).f0), .int .i64 ((rd_T48 l0_0 x22_2).f1), .int .i64 ((rd_T48 l0_0 x22_2).f2), .bool ((rd_T48 l0_0 x22_2).f3)] 48 (0, 0)) (by (with_reducible repeat (first | refine blk_drewN ?_ _ | refine blk_drew ?_ | refine blk_alloc ?_ _)); refine blk_put (cs := #[.int .i64 ((rd_T48 l0_0 x22_2).f0), .int .i64 ((rd_T48 l0_0 x22_2).f1), .int .i64 ((rd_T48 l0_0 x22_2).f2), .bool false]) ?_ 3 _ rfl; (with_reducible repeat (first | refine blk_drewN ?_ _ | refine blk_drew ?_ | refine blk_alloc ?_ _)); refine blk_put (cs := #[.int .i64 ((rd_T48 l0_0 x22_2).f0), .int .i64 ((rd_T48 l0_0 x22_2).f1), .int .i64 0, .bool false]) ?_ 2 _ rfl; (with_reducible repeat (first | refine blk_drewN ?_ _ | refine blk_drew ?_ | refine blk_alloc ?_ _)); refine blk_put (cs := #[.int .i64 ((rd_T48 l0_0 x22_2).f0), .int .i64 0, .int .i64 0, .bool false]) ?_ 1 _ rfl; (with_reducible repeat (first | refine blk_drewN ?_ _ | refine blk_drew ?_ | refine blk_alloc ?_ _)); refine blk_put (cs := #[.int .i64 0, .int .i64 0, .int .i64 0, .bool false]) ?_ 0 _ rfl; (with_reducible repeat (first | refine blk_drewN ?_ _ | refine blk_drew ?_ | refine blk_alloc ?_ _)); exact BK259.out) hg (Kd.R_ne HO_6.out BK259.out (by decide))); have n2_ := Aside0.mk (hb); have n3_ := Aside0.mk (ho); clear BK252; clear BK259; clear HB; clear HO_6; have BK252 := n0_; have BK259 := n1_; have HB := n2_; have HO262 := n3_; clear n0_ n1_ n2_ n3_; clear ho hb hg hat; have hcz24_0 : w23.cell? ⟨gb259, 0, none⟩ = some (.int .i64 ((rd_T48 l0_0 x22_2).f0)) := (blk_cell BK259.out 0).trans rfl; have hcz24_1 : w23.cell? ⟨gb259, 1, none⟩ = some (.int .i64 ((rd_T48 l0_0 x22_2).f1)) := (blk_cell BK259.out 1).trans rfl; have hcz24_2 : w23.cell? ⟨gb259, 2, none⟩ = some (.int .i64 ((rd_T48 l0_0 x22_2).f2)) := (blk_cell BK259.out 2).trans rfl; have hcz24_3 : w23.cell? ⟨gb259, 3, none⟩ = some (.bool ((rd_T48 l0_0 x22_2).f3)) := (blk_cell BK259.out 3).trans rfl; have hfz24_0 := blk_frozen BK259.out 0; have hfz24_1 := blk_frozen BK259.out 1; have hfz24_2 := blk_frozen BK259.out 2; have hfz24_3 := blk_frozen BK259.out 3))
            go_roundg k2
            case measure => have := HJ2.out; have := HK2.out; omega
            case rel => exact ⟨(y260), (wrap64 (((rd_T48 l0_0 x22_2).f0) + ((rd_T48 l0_0 x22_2).f1))), (wrap64 (x22_2 + 1)), (by first | rfl | (simp; done) | (simp [*]; done)), (by first | rfl | (simp; done) | (simp [*]; done)), H', ⟨by have := HJ2.out; have := HK2.out; omega⟩, ⟨rr HO262.out⟩, ⟨bk BK252⟩, ⟨bs2 HB GE252 GE259⟩⟩
           ·
            rw [if_neg c19] at H
            exact absurd H (by simp)
          ·
           rw [if_neg c18] at H
           have c18b0 : decide (x7_2 < a1) = false := decide_eq_false c18
           clear c18
           have H' := Aside0.mk H
           clear H
           have p258 : 0 ≤ (x22_2 : Int) := of_decide_eq_true (by first | (with_reducible assumption) | assumption)
           have q258 : x22_2 < (l0_0.length : Int) := of_decide_eq_true (by first | (with_reducible assumption) | assumption)
           obtain ⟨ad258, e258, hx258_0, hx258_1, hx258_2, hx258_3⟩ := at_T48 HR0_0.out x22_2 p258 q258
           cases e258
           replace hx258_0 := (HB.out.cell (World.block_lt_of_cell? w _ hx258_0)).trans hx258_0
           replace hx258_1 := (HB.out.cell (World.block_lt_of_cell? w _ hx258_1)).trans hx258_1
           replace hx258_2 := (HB.out.cell (World.block_lt_of_cell? w _ hx258_2)).trans hx258_2
           replace hx258_3 := (HB.out.cell (World.block_lt_of_cell? w _ hx258_3)).trans hx258_3
           replace p258 := eq_true p258
           replace q258 := eq_true q258
           go_wp2_with (first | ((with_reducible refine gate_dst (N := 9) rfl ?_); refine box_event ?hg (N := 9) ?hd (cs := #[.int .i64 0, .int .i64 0, .int .i64 0, .bool false]) (t := 48) ?hr ?_; (case hd => rfl); (case hg => rfl); (case hr => first | (go_simp; done) | (go_simp; rfl)); intro gb259 hg w25 hbox hb; have n0_ := Aside0.mk (Kd.R_below (rr HO_6.out) hb); have n1_ := Aside0.mk (blk_below (g := gb252) (o := .cells #[.slice (some ad258) l0_0.length c0_0] 29 (0, 0)) (bk BK252) hb); have n2_ := Aside0.mk (below_step (bs1 HB GE252) hb); have n3_ := Aside0.mk (hbox); have n4_ := Aside0.mk ((by rw [hg]; exact (below_size (bs1 HB GE252)) : w.heap.size ≤ gb259)); have n5_ := Aside0.mk ((by rw [hg]; exact (below_size (bs1 HB GE252)) : w.heap.size ≤ gb259)); have n6_ := Aside0.mk ((by rw [hg]; exact Nat.ne_of_lt (blk_lt (g := gb252) (o := .cells #[.slice (some ad258) l0_0.length c0_0] 29 (0, 0)) (bk BK252)) : gb252 ≠ gb259)); have n7_ := Aside0.mk ((by rw [hg]; exact Nat.ne_of_gt (blk_lt (g := gb252) (o := .cells #[.slice (some ad258) l0_0.length c0_0] 29 (0, 0)) (bk BK252)) : gb259 ≠ gb252)); clear HO_6; clear BK252; clear HB; have HO_6 := n0_; have BK252 := n1_; have HB := n2_; have BK259 := n3_; have GW259 := n4_; have GE259 := n5_; have NB252_259 := n6_; have NB259_252 := n7_; clear n0_ n1_ n2_ n3_ n4_ n5_ n6_ n7_; clear hb hbox hg; have hnb26 := NB259_252.out; have hnc26 := NB252_259.out; have hcz27_0 : w25.cell? ⟨gb259, 0, none⟩ = some (.int .i64 0) := (blk_cell BK259.out 0).trans rfl; have hcz27_1 : w25.cell? ⟨gb259, 1, none⟩ = some (.int .i64 0) := (blk_cell BK259.out 1).trans rfl; have hcz27_2 : w25.cell? ⟨gb259, 2, none⟩ = some (.int .i64 0) := (blk_cell BK259.out 2).trans rfl; have hcz27_3 : w25.cell? ⟨gb259, 3, none⟩ = some (.bool false) := (blk_cell BK259.out 3).trans rfl; have hfz27_0 := blk_frozen BK259.out 0; have hfz27_1 := blk_frozen BK259.out 1; have hfz27_2 := blk_frozen BK259.out 2; have hfz27_3 := blk_frozen BK259.out 3))
           go_roundg k2
           case measure => have := HJ2.out; have := HK2.out; omega
           case rel => exact ⟨(x6_2), (wrap64 (((rd_T48 l0_0 x22_2).f0) + ((rd_T48 l0_0 x22_2).f1))), (wrap64 (x22_2 + 1)), (by first | rfl | (simp; done) | (simp [*]; done)), (by first | rfl | (simp; done) | (simp [*]; done)), H', ⟨by have := HJ2.out; have := HK2.out; omega⟩, ⟨by (with_reducible repeat (first | apply Kd.R_alloc | apply Kd.R_drewN | apply Kd.R_drew)); exact Kd.R_mono (Kd.R_far (p := ⟨gb259, 3, none⟩) (Kd.R_far (p := ⟨gb259, 2, none⟩) (Kd.R_far (p := ⟨gb259, 1, none⟩) (Kd.R_far (p := ⟨gb259, 0, none⟩) (Kd.R_types HO_6.out BK259.out (by decide)) (fun _ hk => hk.2) (.int .i64 ((rd_T48 l0_0 x22_2).f0))) (fun _ hk => hk.2) (.int .i64 ((rd_T48 l0_0 x22_2).f1))) (fun _ hk => hk.2) (.int .i64 ((rd_T48 l0_0 x22_2).f2))) (fun _ hk => hk.2) (.bool ((rd_T48 l0_0 x22_2).f3))) (fun _ hk => trivial)⟩, ⟨by (with_reducible repeat (first | refine blk_drewN ?_ _ | refine blk_drew ?_ | refine blk_alloc ?_ _)); refine blk_far ?_ NB252_259.out _; (with_reducible repeat (first | refine blk_drewN ?_ _ | refine blk_drew ?_ | refine blk_alloc ?_ _)); refine blk_far ?_ NB252_259.out _; (with_reducible repeat (first | refine blk_drewN ?_ _ | refine blk_drew ?_ | refine blk_alloc ?_ _)); refine blk_far ?_ NB252_259.out _; (with_reducible repeat (first | refine blk_drewN ?_ _ | refine blk_drew ?_ | refine blk_alloc ?_ _)); refine blk_far ?_ NB252_259.out _; (with_reducible repeat (first | refine blk_drewN ?_ _ | refine blk_drew ?_ | refine blk_alloc ?_ _)); exact BK252.out⟩, ⟨bs2 HB GE252 GE259⟩⟩
         ·
          rw [if_neg c17] at H
          have c17b0 : decide (a1 < ((rd_T48 l0_0 x22_2).f0)) = false := decide_eq_false c17
          clear c17
          by_cases c28 : ((rd_T48 l0_0 x22_2).f0) > x7_2
          ·
           rw [if_pos c28] at H
           have c28b0 : decide (x7_2 < ((rd_T48 l0_0 x22_2).f0)) = true := decide_eq_true c28
           clear c28
           by_cases c29 : x6_2.length < 8796093022208
           ·
            rw [if_pos c29] at H
            have LMc29 := Aside0.mk c29
            clear c29
            obtain ⟨y263, hy263⟩ : ∃ y_ : List (S61), y_ = (x6_2 ++ [(⟨x7_2, wrap64 (((rd_T48 l0_0 x22_2).f0) - x7_2)⟩ : S61)]) := ⟨_, rfl⟩
            replace H : (spec_HolesOf.l0 k2 a1 y263 (wrap64 (((rd_T48 l0_0 x22_2).f0) + ((rd_T48 l0_0 x22_2).f1))) l0_0 (l0_0.length : Int) (wrap64 (x22_2 + 1))) = some (r1, r2) := by first | (rw [hy263]; with_reducible exact H) | (have H2_ := (Option.bind_some _ _).symm.trans H; rw [hy263]; with_reducible exact H2_) | (have H2_ := (Option.bind_some _ _).symm.trans H; with_reducible exact H2_) | with_reducible exact H | (rw [hy263]; exact H) | exact H
            have Ny263 := Aside0.mk hy263
            clear hy263
            have H' := Aside0.mk H
            clear H
            have p258 : 0 ≤ (x22_2 : Int) := of_decide_eq_true (by first | (with_reducible assumption) | assumption)
            have q258 : x22_2 < (l0_0.length : Int) := of_decide_eq_true (by first | (with_reducible assumption) | assumption)
            obtain ⟨ad258, e258, hx258_0, hx258_1, hx258_2, hx258_3⟩ := at_T48 HR0_0.out x22_2 p258 q258
            cases e258
            replace hx258_0 := (HB.out.cell (World.block_lt_of_cell? w _ hx258_0)).trans hx258_0
            replace hx258_1 := (HB.out.cell (World.block_lt_of_cell? w _ hx258_1)).trans hx258_1
            replace hx258_2 := (HB.out.cell (World.block_lt_of_cell? w _ hx258_2)).trans hx258_2
            replace hx258_3 := (HB.out.cell (World.block_lt_of_cell? w _ hx258_3)).trans hx258_3
            replace p258 := eq_true p258
            replace q258 := eq_true q258
            go_wp2_with (first | ((with_reducible refine gate_dst (N := 9) rfl ?_); refine box_event ?hg (N := 9) ?hd (cs := #[.int .i64 0, .int .i64 0, .int .i64 0, .bool false]) (t := 48) ?hr ?_; (case hd => rfl); (case hg => rfl); (case hr => first | (go_simp; done) | (go_simp; rfl)); intro gb259 hg w30 hbox hb; have n0_ := Aside0.mk (Kd.R_below (rr HO_6.out) hb); have n1_ := Aside0.mk (blk_below (g := gb252) (o := .cells #[.slice (some ad258) l0_0.length c0_0] 29 (0, 0)) (bk BK252) hb); have n2_ := Aside0.mk (below_step (bs1 HB GE252) hb); have n3_ := Aside0.mk (hbox); have n4_ := Aside0.mk ((by rw [hg]; exact (below_size (bs1 HB GE252)) : w.heap.size ≤ gb259)); have n5_ := Aside0.mk ((by rw [hg]; exact (below_size (bs1 HB GE252)) : w.heap.size ≤ gb259)); have n6_ := Aside0.mk ((by rw [hg]; exact Nat.ne_of_lt (blk_lt (g := gb252) (o := .cells #[.slice (some ad258) l0_0.length c0_0] 29 (0, 0)) (bk BK252)) : gb252 ≠ gb259)); have n7_ := Aside0.mk ((by rw [hg]; exact Nat.ne_of_gt (blk_lt (g := gb252) (o := .cells #[.slice (some ad258) l0_0.length c0_0] 29 (0, 0)) (bk BK252)) : gb259 ≠ gb252)); clear HO_6; clear BK252; clear HB; have HO_6 := n0_; have BK252 := n1_; have HB := n2_; have BK259 := n3_; have GW259 := n4_; have GE259 := n5_; have NB252_259 := n6_; have NB259_252 := n7_; clear n0_ n1_ n2_ n3_ n4_ n5_ n6_ n7_; clear hb hbox hg; have hnb31 := NB259_252.out; have hnc31 := NB252_259.out; have hcz32_0 : w30.cell? ⟨gb259, 0, none⟩ = some (.int .i64 0) := (blk_cell BK259.out 0).trans rfl; have hcz32_1 : w30.cell? ⟨gb259, 1, none⟩ = some (.int .i64 0) := (blk_cell BK259.out 1).trans rfl; have hcz32_2 : w30.cell? ⟨gb259, 2, none⟩ = some (.int .i64 0) := (blk_cell BK259.out 2).trans rfl; have hcz32_3 : w30.cell? ⟨gb259, 3, none⟩ = some (.bool false) := (blk_cell BK259.out 3).trans rfl; have hfz32_0 := blk_frozen BK259.out 0; have hfz32_1 := blk_frozen BK259.out 1; have hfz32_2 := blk_frozen BK259.out 2; have hfz32_3 := blk_frozen BK259.out 3) | ((with_reducible refine gate_builtin (b := .append) (xs := #[.tmp 35, .tmp 41]) rfl ?_); at_builtin; refine Kd.R_append k61 (w0 := w) w.heap.size rfl (.tmp 35) (.tmp 41) 38 61 (.agg #[(.int .i64 0), (.int .i64 0)]) 16 rfl Try.underlying38 info61 rfl (by decide) (by omega) u6 x6_2 (⟨x7_2, wrap64 (((rd_T48 l0_0 x22_2).f0) - x7_2)⟩ : S61) [.int .i64 x7_2, .int .i64 (wrap64 (((rd_T48 l0_0 x22_2).f0) - x7_2))] (fun _ => True) (fun _ => False) rfl (by first | (go_simp; done) | (go_simp; rfl)) ?aP (fun _ hk => hk.elim) ?aF ?aO ?aB ?aS ?aL ?_; (case aP => exact k61_mkM _ _ _ (⟨x7_2, wrap64 (((rd_T48 l0_0 x22_2).f0) - x7_2)⟩ : S61)); (case aB => exact (bs2 HB GE252 GE259)); (case aF => exact (fun _ _ => trivial)); (case aO => exact (by (with_reducible repeat (first | apply Kd.R_alloc | apply Kd.R_drewN | apply Kd.R_drew)); exact Kd.R_mono (Kd.R_far (p := ⟨gb259, 3, none⟩) (Kd.R_far (p := ⟨gb259, 2, none⟩) (Kd.R_far (p := ⟨gb259, 1, none⟩) (Kd.R_far (p := ⟨gb259, 0, none⟩) (Kd.R_types HO_6.out BK259.out (by decide)) (fun _ hk => hk.2) (.int .i64 ((rd_T48 l0_0 x22_2).f0))) (fun _ hk => hk.2) (.int .i64 ((rd_T48 l0_0 x22_2).f1))) (fun _ hk => hk.2) (.int .i64 ((rd_T48 l0_0 x22_2).f2))) (fun _ hk => hk.2) (.bool ((rd_T48 l0_0 x22_2).f3))) (fun _ hk => trivial))); (case aS => exact (below_size (bs2 HB GE252 GE259))); (case aL => have := LMc29.out; omega); intro v264 w33 ho hb hg hat; rw [← Ny263.out] at ho; have n0_ := Aside0.mk (blk_grown (g := gb252) (o := .cells #[.slice (some ad258) l0_0.length c0_0] 29 (0, 0)) (by (with_reducible repeat (first | refine blk_drewN ?_ _ | refine blk_drew ?_ | refine blk_alloc ?_ _)); refine blk_far ?_ NB252_259.out _; (with_reducible repeat (first | refine blk_drewN ?_ _ | refine blk_drew ?_ | refine blk_alloc ?_ _)); refine blk_far ?_ NB252_259.out _; (with_reducible repeat (first | refine blk_drewN ?_ _ | refine blk_drew ?_ | refine blk_alloc ?_ _)); refine blk_far ?_ NB252_259.out _; (with_reducible repeat (first | refine blk_drewN ?_ _ | refine blk_drew ?_ | refine blk_alloc ?_ _)); refine blk_far ?_ NB252_259.out _; (with_reducible repeat (first | refine blk_drewN ?_ _ | refine blk_drew ?_ | refine blk_alloc ?_ _)); exact BK252.out) hg (Kd.R_ne HO_6.out BK252.out (by decide))); have n1_ := Aside0.mk (blk_grown (g := gb259) (o := .cells #[.int .i64 ((rd_T48 l0_0 x22_2).f0), .int .i64 ((rd_T48 l0_0 x22_2).f1), .int .i64 ((rd_T48 l0_0 x22_2).f2), .bool ((rd_T48 l0_0 x22_2).f3)] 48 (0, 0)) (by (with_reducible repeat (first | refine blk_drewN ?_ _ | refine blk_drew ?_ | refine blk_alloc ?_ _)); refine blk_put (cs := #[.int .i64 ((rd_T48 l0_0 x22_2).f0), .int .i64 ((rd_T48 l0_0 x22_2).f1), .int .i64 ((rd_T48 l0_0 x22_2).f2), .bool false]) ?_ 3 _ rfl; (with_reducible repeat (first | refine blk_drewN ?_ _ | refine blk_drew ?_ | refine blk_alloc ?_ _)); refine blk_put (cs := #[.int .i64 ((rd_T48 l0_0 x22_2).f0), .int .i64 ((rd_T48 l0_0 x22_2).f1), .int .i64 0, .bool false]) ?_ 2 _ rfl; (with_reducible repeat (first | refine blk_drewN ?_ _ | refine blk_drew ?_ | refine blk_alloc ?_ _)); refine blk_put (cs := #[.int .i64 ((rd_T48 l0_0 x22_2).f0), .int .i64 0, .int .i64 0, .bool false]) ?_ 1 _ rfl; (with_reducible repeat (first | refine blk_drewN ?_ _ | refine blk_drew ?_ | refine blk_alloc ?_ _)); refine blk_put (cs := #[.int .i64 0, .int .i64 0, .int .i64 0, .bool false]) ?_ 0 _ rfl; (with_reducible repeat (first | refine blk_drewN ?_ _ | refine blk_drew ?_ | refine blk_alloc ?_ _)); exact BK259.out) hg (Kd.R_ne HO_6.out BK259.out (by decide))); have n2_ := Aside0.mk (hb); have n3_ := Aside0.mk (ho); clear BK252; clear BK259; clear HB; clear HO_6; have BK252 := n0_; have BK259 := n1_; have HB := n2_; have HO265 := n3_; clear n0_ n1_ n2_ n3_; clear ho hb hg hat; have hcz34_0 : w33.cell? ⟨gb259, 0, none⟩ = some (.int .i64 ((rd_T48 l0_0 x22_2).f0)) := (blk_cell BK259.out 0).trans rfl; have hcz34_1 : w33.cell? ⟨gb259, 1, none⟩ = some (.int .i64 ((rd_T48 l0_0 x22_2).f1)) := (blk_cell BK259.out 1).trans rfl; have hcz34_2 : w33.cell? ⟨gb259, 2, none⟩ = some (.int .i64 ((rd_T48 l0_0 x22_2).f2)) := (blk_cell BK259.out 2).trans rfl; have hcz34_3 : w33.cell? ⟨gb259, 3, none⟩ = some (.bool ((rd_T48 l0_0 x22_2).f3)) := (blk_cell BK259.out 3).trans rfl; have hfz34_0 := blk_frozen BK259.out 0; have hfz34_1 := blk_frozen BK259.out 1; have hfz34_2 := blk_frozen BK259.out 2; have hfz34_3 := blk_frozen BK259.out 3))
            go_roundg k2
            case measure => have := HJ2.out; have := HK2.out; omega
            case rel => exact ⟨(y263), (wrap64 (((rd_T48 l0_0 x22_2).f0) + ((rd_T48 l0_0 x22_2).f1))), (wrap64 (x22_2 + 1)), (by first | rfl | (simp; done) | (simp [*]; done)), (by first | rfl | (simp; done) | (simp [*]; done)), H', ⟨by have := HJ2.out; have := HK2.out; omega⟩, ⟨rr HO265.out⟩, ⟨bk BK252⟩, ⟨bs2 HB GE252 GE259⟩⟩
           ·
            rw [if_neg c29] at H
            exact absurd H (by simp)
          ·
           rw [if_neg c28] at H
           have c28b0 : decide (x7_2 < ((rd_T48 l0_0 x22_2).f0)) = false := decide_eq_false c28
           clear c28
           have H' := Aside0.mk H
           clear H
           have p258 : 0 ≤ (x22_2 : Int) := of_decide_eq_true (by first | (with_reducible assumption) | assumption)
           have q258 : x22_2 < (l0_0.length : Int) := of_decide_eq_true (by first | (with_reducible assumption) | assumption)
           obtain ⟨ad258, e258, hx258_0, hx258_1, hx258_2, hx258_3⟩ := at_T48 HR0_0.out x22_2 p258 q258
           cases e258
           replace hx258_0 := (HB.out.cell (World.block_lt_of_cell? w _ hx258_0)).trans hx258_0
           replace hx258_1 := (HB.out.cell (World.block_lt_of_cell? w _ hx258_1)).trans hx258_1
           replace hx258_2 := (HB.out.cell (World.block_lt_of_cell? w _ hx258_2)).trans hx258_2
           replace hx258_3 := (HB.out.cell (World.block_lt_of_cell? w _ hx258_3)).trans hx258_3
           replace p258 := eq_true p258
           replace q258 := eq_true q258
           go_wp2_with (first | ((with_reducible refine gate_dst (N := 9) rfl ?_); refine box_event ?hg (N := 9) ?hd (cs := #[.int .i64 0, .int .i64 0, .int .i64 0, .bool false]) (t := 48) ?hr ?_; (case hd => rfl); (case hg => rfl); (case hr => first | (go_simp; done) | (go_simp; rfl)); intro gb259 hg w35 hbox hb; have n0_ := Aside0.mk (Kd.R_below (rr HO_6.out) hb); have n1_ := Aside0.mk (blk_below (g := gb252) (o := .cells #[.slice (some ad258) l0_0.length c0_0] 29 (0, 0)) (bk BK252) hb); have n2_ := Aside0.mk (below_step (bs1 HB GE252) hb); have n3_ := Aside0.mk (hbox); have n4_ := Aside0.mk ((by rw [hg]; exact (below_size (bs1 HB GE252)) : w.heap.size ≤ gb259)); have n5_ := Aside0.mk ((by rw [hg]; exact (below_size (bs1 HB GE252)) : w.heap.size ≤ gb259)); have n6_ := Aside0.mk ((by rw [hg]; exact Nat.ne_of_lt (blk_lt (g := gb252) (o := .cells #[.slice (some ad258) l0_0.length c0_0] 29 (0, 0)) (bk BK252)) : gb252 ≠ gb259)); have n7_ := Aside0.mk ((by rw [hg]; exact Nat.ne_of_gt (blk_lt (g := gb252) (o := .cells #[.slice (some ad258) l0_0.length c0_0] 29 (0, 0)) (bk BK252)) : gb259 ≠ gb252)); clear HO_6; clear BK252; clear HB; have HO_6 := n0_; have BK252 := n1_; have HB := n2_; have BK259 := n3_; have GW259 := n4_; have GE259 := n5_; have NB252_259 := n6_; have NB259_252 := n7_; clear n0_ n1_ n2_ n3_ n4_ n5_ n6_ n7_; clear hb hbox hg; have hnb36 := NB259_252.out; have hnc36 := NB252_259.out; have hcz37_0 : w35.cell? ⟨gb259, 0, none⟩ = some (.int .i64 0) := (blk_cell BK259.out 0).trans rfl; have hcz37_1 : w35.cell? ⟨gb259, 1, none⟩ = some (.int .i64 0) := (blk_cell BK259.out 1).trans rfl; have hcz37_2 : w35.cell? ⟨gb259, 2, none⟩ = some (.int .i64 0) := (blk_cell BK259.out 2).trans rfl; have hcz37_3 : w35.cell? ⟨gb259, 3, none⟩ = some (.bool false) := (blk_cell BK259.out 3).trans rfl; have hfz37_0 := blk_frozen BK259.out 0; have hfz37_1 := blk_frozen BK259.out 1; have hfz37_2 := blk_frozen BK259.out 2; have hfz37_3 := blk_frozen BK259.out 3))
           go_roundg k2
           case measure => have := HJ2.out; have := HK2.out; omega
           case rel => exact ⟨(x6_2), (wrap64 (((rd_T48 l0_0 x22_2).f0) + ((rd_T48 l0_0 x22_2).f1))), (wrap64 (x22_2 + 1)), (by first | rfl | (simp; done) | (simp [*]; done)), (by first | rfl | (simp; done) | (simp [*]; done)), H', ⟨by have := HJ2.out; have := HK2.out; omega⟩, ⟨by (with_reducible repeat (first | apply Kd.R_alloc | apply Kd.R_drewN | apply Kd.R_drew)); exact Kd.R_mono (Kd.R_far (p := ⟨gb259, 3, none⟩) (Kd.R_far (p := ⟨gb259, 2, none⟩) (Kd.R_far (p := ⟨gb259, 1, none⟩) (Kd.R_far (p := ⟨gb259, 0, none⟩) (Kd.R_types HO_6.out BK259.out (by decide)) (fun _ hk => hk.2) (.int .i64 ((rd_T48 l0_0 x22_2).f0))) (fun _ hk => hk.2) (.int .i64 ((rd_T48 l0_0 x22_2).f1))) (fun _ hk => hk.2) (.int .i64 ((rd_T48 l0_0 x22_2).f2))) (fun _ hk => hk.2) (.bool ((rd_T48 l0_0 x22_2).f3))) (fun _ hk => trivial)⟩, ⟨by (with_reducible repeat (first | refine blk_drewN ?_ _ | refine blk_drew ?_ | refine blk_alloc ?_ _)); refine blk_far ?_ NB252_259.out _; (with_reducible repeat (first | refine blk_drewN ?_ _ | refine blk_drew ?_ | refine blk_alloc ?_ _)); refine blk_far ?_ NB252_259.out _; (with_reducible repeat (first | refine blk_drewN ?_ _ | refine blk_drew ?_ | refine blk_alloc ?_ _)); refine blk_far ?_ NB252_259.out _; (with_reducible repeat (first | refine blk_drewN ?_ _ | refine blk_drew ?_ | refine blk_alloc ?_ _)); refine blk_far ?_ NB252_259.out _; (with_reducible repeat (first | refine blk_drewN ?_ _ | refine blk_drew ?_ | refine blk_alloc ?_ _)); exact BK252.out⟩, ⟨bs2 HB GE252 GE259⟩⟩
        ·
         rw [if_neg c16] at H
         exact absurd H (by simp)
       ·
        rw [if_neg c15] at H
        exact absurd H (by simp)
      ·
       rw [if_neg c14] at H
       have c14b0 : decide (x22_2 < (l0_0.length : Int)) = false := decide_eq_false c14
       clear c14
       by_cases c38 : x7_2 < a1
       ·
        rw [if_pos c38] at H
        have c38b0 : decide (x7_2 < a1) = true := decide_eq_true c38
        clear c38
        by_cases c39 : x6_2.length < 8796093022208
        ·
         rw [if_pos c39] at H
         have LMc39 := Aside0.mk c39
         clear c39
         obtain ⟨y255, hy255⟩ : ∃ y_ : List (S61), y_ = (x6_2 ++ [(⟨x7_2, wrap64 (a1 - x7_2)⟩ : S61)]) := ⟨_, rfl⟩
         replace H : (some (y255, true)) = some (r1, r2) := by first | (rw [hy255]; with_reducible exact H) | (have H2_ := (Option.bind_some _ _).symm.trans H; rw [hy255]; with_reducible exact H2_) | (have H2_ := (Option.bind_some _ _).symm.trans H; with_reducible exact H2_) | with_reducible exact H | (rw [hy255]; exact H) | exact H
         have Ny255 := Aside0.mk hy255
         clear hy255
         simp only [Option.some.injEq, Prod.mk.injEq] at H
         obtain ⟨rfl, rfl⟩ := H
         go_wp2_with (first | ((with_reducible refine gate_builtin (b := .append) (xs := #[.tmp 52, .tmp 58]) rfl ?_); at_builtin; refine Kd.R_append k61 (w0 := w) w.heap.size rfl (.tmp 52) (.tmp 58) 38 61 (.agg #[(.int .i64 0), (.int .i64 0)]) 16 rfl Try.underlying38 info61 rfl (by decide) (by omega) u6 x6_2 (⟨x7_2, wrap64 (a1 - x7_2)⟩ : S61) [.int .i64 x7_2, .int .i64 (wrap64 (a1 - x7_2))] (fun _ => True) (fun _ => False) rfl rfl ?aP (fun _ hk => hk.elim) ?aF ?aO ?aB ?aS ?aL ?_; (case aP => exact k61_mkM _ _ _ (⟨x7_2, wrap64 (a1 - x7_2)⟩ : S61)); (case aB => exact (bs1 HB GE252)); (case aF => exact (fun _ _ => trivial)); (case aO => exact (rr HO_6.out)); (case aS => exact (below_size (bs1 HB GE252))); (case aL => have := LMc39.out; omega); intro v256 w40 ho hb hg hat; rw [← Ny255.out] at ho; have n0_ := Aside0.mk (blk_grown (g := gb252) (o := .cells #[.slice A0_0 l0_0.length c0_0] 29 (0, 0)) (bk BK252) hg (Kd.R_ne HO_6.out BK252.out (by decide))); have n1_ := Aside0.mk (hb); have n2_ := Aside0.mk (ho); clear BK252; clear HB; clear HO_6; have BK252 := n0_; have HB := n1_; have HO257 := n2_; clear n0_ n1_ n2_; clear ho hb hg hat))
         go_ret2
         exact ⟨_, by first | rfl | (simp [errW_none, errW_some] <;> rfl) | (simp [*, errW_none, errW_some] <;> rfl), by (with_reducible repeat (first | apply Kd.R_alloc | apply Kd.R_drewN | apply Kd.R_drew)); exact HO257.out, bs1 HB GE252⟩
        ·
         rw [if_neg c39] at H
         exact absurd H (by simp)
       ·
        rw [if_neg c38] at H
        have c38b0 : decide (x7_2 < a1) = false := decide_eq_false c38
        clear c38
        simp only [Option.some.injEq, Prod.mk.injEq] at H
        obtain ⟨rfl, rfl⟩ := H
        go_wp2
        go_ret2
        exact ⟨_, by first | rfl | (simp [errW_none, errW_some] <;> rfl) | (simp [*, errW_none, errW_some] <;> rfl), by (with_reducible repeat (first | apply Kd.R_alloc | apply Kd.R_drewN | apply Kd.R_drew)); exact HO_6.out, bs1 HB GE252⟩

-- NOT PRINTED: function 58 (impl_merged)

/-! ### impl_HolesOf_1: function 59 -/
def impl_HolesOf_1.f (a0 : Int) (l1_0 : List (S78)) : Option (Bool) := if 0 ≤ a0 then (if a0 < (l1_0.length : Int) then (some (!((rd_T78 l1_0 a0).f0))) else (none)) else (none)
set_option maxHeartbeats 8000000 in
set_option maxRecDepth 100000 in
theorem impl_HolesOf_1.calls (a0 : Int) (gx1_0 : Nat) (A1_0 : Option Addr) (c1_0 : Nat) (l1_0 : List (S78)) (r : Bool) (w : World) (hr1_0 : Kd.C k78 w A1_0 l1_0.length l1_0) (hc1_0 : l1_0.length ≤ c1_0) (hx1_0 : w.heap[gx1_0]? = some (.cells #[.slice A1_0 l1_0.length c1_0] 79 (0, 0))) (h : impl_HolesOf_1.f a0 l1_0 = some r) :
  Calls Try.prog 59 #[.int .i64 a0, .pointer (some ⟨gx1_0, 0, none⟩)] w fun e w' => e = .returned (.bool r) ∧ Drawn0 w w' := by
 have HR1_0 := Aside0.mk hr1_0
 have HC1_0 := Aside0.mk hc1_0
 clear hr1_0 hc1_0
 have BK266 := Aside0.mk hx1_0
 clear hx1_0
 have H : (if 0 ≤ a0 then (if a0 < (l1_0.length : Int) then (some (!((rd_T78 l1_0 a0).f0))) else (none)) else (none)) = some r := h
 clear h
 by_cases c3 : 0 ≤ a0
 ·
  rw [if_pos c3] at H
  have c3b0 : decide (0 ≤ a0) = true := decide_eq_true c3
  clear c3
  by_cases c4 : a0 < (l1_0.length : Int)
  ·
   rw [if_pos c4] at H
   have c4b0 : decide (a0 < (l1_0.length : Int)) = true := decide_eq_true c4
   clear c4
   obtain rfl := Option.some.inj H
   have hcz5_0 : w.cell? ⟨gx1_0, 0, none⟩ = some (.slice A1_0 l1_0.length c1_0) := (blk_cell BK266.out 0).trans rfl
   have hfz5_0 := blk_frozen BK266.out 0
   have p267 : 0 ≤ (a0 : Int) := of_decide_eq_true (by first | (with_reducible assumption) | assumption)
   have q267 : a0 < (l1_0.length : Int) := of_decide_eq_true (by first | (with_reducible assumption) | assumption)
   obtain ⟨ad267, e267, hx267_0, hx267_1, hx267_2⟩ := at_T78 HR1_0.out a0 p267 q267
   cases e267
   replace p267 := eq_true p267
   replace q267 := eq_true q267
   go_enter Try.func59, Try.ntmps59
   go_wp2
   go_ret
   exact ⟨by first | rfl | (simp; done) | (simp [*]; done), by repeat (first | exact Drawn0.refl _ | apply Drawn0.step)⟩
  ·
   rw [if_neg c4] at H
   exact absurd H (by simp)
 ·
  rw [if_neg c3] at H
  exact absurd H (by simp)

end Go.Proofs.Ytojdlcbmbpgplaa.G
