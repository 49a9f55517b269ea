-- Printed by a program of this session (drive.py, by way of the kit's print). Not trusted: Lean checks it.
import Derived.Test.YtojdlcbmbpgplaaG0
import Derived.Test.YtojdlcbmbpgplaaG3
import Derived.Test.YtojdlcbmbpgplaaG4
import Derived.Test.YtojdlcbmbpgplaaG5
import Derived.Test.YtojdlcbmbpgplaaG6
import Derived.Test.YtojdlcbmbpgplaaG8
namespace Go.Proofs.Ytojdlcbmbpgplaa.G
open Go.RowKit Go.Proofs.YtojdlcbmbpgplaaW.PrintWords Go.Proofs.YtojdlcbmbpgplaaW.PrintLast Go.Proofs.YtojdlcbmbpgplaaW.PrintMore
attribute [local go_sem] max2_int min2_int max_two min_two max_three min_three max_four min_four   -- for this text's walks alone
set_option linter.unusedVariables false
set_option linter.unusedSimpArgs false

/-! ### spec_HolesOf: function 23 -/
mutual
def spec_HolesOf.j0 : Nat → Int → Bool → List (S48) → Option ((List (S61)) × Bool)
 | 0, _, _, _ => none
 | k + 1, x1, x18, x253000 => if x18 = true then (some (([] : List (S61)), false)) else (spec_HolesOf.l0 k x1 ([] : List (S61)) 0 x253000 (x253000.length : Int) 0)
def spec_HolesOf.l0 : Nat → Int → List (S61) → Int → List (S48) → Int → Int → Option ((List (S61)) × Bool)
 | 0, _, _, _, _, _, _ => none
 | k + 1, x1, x6, x7, x20, x21, x22 => if x22 < x21 then (if 0 ≤ x22 then (if x22 < (x20.length : Int) then (if ((rd_T48 x20 x22).f0) > x1 then (if x1 > x7 then (if x6.length < 8796093022208 then (spec_HolesOf.l0 k x1 (x6 ++ [(⟨x7, wrap64 (x1 - x7)⟩ : S61)]) (wrap64 (((rd_T48 x20 x22).f0) + ((rd_T48 x20 x22).f1))) x20 x21 (wrap64 (x22 + 1))) else (none)) else (spec_HolesOf.l0 k x1 x6 (wrap64 (((rd_T48 x20 x22).f0) + ((rd_T48 x20 x22).f1))) x20 x21 (wrap64 (x22 + 1)))) else (if ((rd_T48 x20 x22).f0) > x7 then (if x6.length < 8796093022208 then (spec_HolesOf.l0 k x1 (x6 ++ [(⟨x7, wrap64 (((rd_T48 x20 x22).f0) - x7)⟩ : S61)]) (wrap64 (((rd_T48 x20 x22).f0) + ((rd_T48 x20 x22).f1))) x20 x21 (wrap64 (x22 + 1))) else (none)) else (spec_HolesOf.l0 k x1 x6 (wrap64 (((rd_T48 x20 x22).f0) + ((rd_T48 x20 x22).f1))) x20 x21 (wrap64 (x22 + 1))))) else (none)) else (none)) else (if x7 < x1 then (if x6.length < 8796093022208 then (some ((x6 ++ [(⟨x7, wrap64 (x1 - x7)⟩ : S61)]), true)) else (none)) else (some (x6, true)))
end
def spec_HolesOf.f (k : Nat) (l0_0 : List (S48)) (a1 : Int) : Option ((List (S61)) × Bool) := (spec_GoodMap.f k l0_0).bind fun t253 => (if t253 = true then ((spec_l1In.f a1 0 200).bind fun t254 => (spec_HolesOf.j0 k a1 (!t254) l0_0)) else (spec_HolesOf.j0 k a1 true l0_0))
theorem spec_HolesOf.mono_l : ∀ k, (∀ y0 y1 y2, LeO (spec_HolesOf.j0 k y0 y1 y2) (spec_HolesOf.j0 (k + 1) y0 y1 y2)) ∧ (∀ y0 y1 y2 y3 y4 y5, LeO (spec_HolesOf.l0 k y0 y1 y2 y3 y4 y5) (spec_HolesOf.l0 (k + 1) y0 y1 y2 y3 y4 y5))
 | 0 => ⟨fun _ _ _ r h => by simp [spec_HolesOf.j0] at h, fun _ _ _ _ _ _ r h => by simp [spec_HolesOf.l0] at h⟩
 | k + 1 => by
  obtain ⟨ih0, ih1⟩ := spec_HolesOf.mono_l k
  refine ⟨?_, ?_⟩
  ·
   intro y0 y1 y2
   unfold spec_HolesOf.j0
   repeat' first
   | (with_reducible exact ih0 _ _ _)
   | (with_reducible exact ih1 _ _ _ _ _ _)
   | (with_reducible exact spec_GoodMap.mono _ _)
   | (with_reducible exact LeO.refl _)
   | (with_reducible exact LeO.none _)
   | (with_reducible refine LeO.ite ?_ ?_)
   | (with_reducible refine LeO.bind ?_ (fun _ => ?_))
   | exact ih0 _ _ _
   | exact ih1 _ _ _ _ _ _
   | exact spec_GoodMap.mono _ _
   | exact LeO.none _
   | refine LeO.ite ?_ ?_
   | refine LeO.bind ?_ (fun _ => ?_)
  ·
   intro y0 y1 y2 y3 y4 y5
   unfold spec_HolesOf.l0
   repeat' first
   | (with_reducible exact ih0 _ _ _)
   | (with_reducible exact ih1 _ _ _ _ _ _)
   | (with_reducible exact spec_GoodMap.mono _ _)
   | (with_reducible exact LeO.refl _)
   | (with_reducible exact LeO.none _)
   | (with_reducible refine LeO.ite ?_ ?_)
   | (with_reducible refine LeO.bind ?_ (fun _ => ?_))
   | exact ih0 _ _ _
   | exact ih1 _ _ _ _ _ _
   | exact spec_GoodMap.mono _ _
   | exact LeO.none _
   | refine LeO.ite ?_ ?_
   | refine LeO.bind ?_ (fun _ => ?_)
theorem spec_HolesOf.mono : ∀ a0 a1 k, LeO (spec_HolesOf.f k a0 a1) (spec_HolesOf.f (k + 1) a0 a1) := by
 intro a0 a1 k
 obtain ⟨ih0, ih1⟩ := spec_HolesOf.mono_l k
 unfold spec_HolesOf.f
 repeat' first
   | (with_reducible exact ih0 _ _ _)
   | (with_reducible exact ih1 _ _ _ _ _ _)
   | (with_reducible exact spec_GoodMap.mono _ _)
   | (with_reducible exact LeO.refl _)
   | (with_reducible exact LeO.none _)
   | (with_reducible refine LeO.ite ?_ ?_)
   | (with_reducible refine LeO.bind ?_ (fun _ => ?_))
   | exact ih0 _ _ _
   | exact ih1 _ _ _ _ _ _
   | exact spec_GoodMap.mono _ _
   | exact LeO.none _
   | refine LeO.ite ?_ ?_
   | refine LeO.bind ?_ (fun _ => ?_)
set_option maxHeartbeats 8000000 in
set_option maxRecDepth 100000 in
theorem spec_HolesOf.calls (k : Nat) (A0_0 : Option Addr) (c0_0 : Nat) (l0_0 : List (S48)) (a1 : Int) (r1 : List (S61)) (r2 : Bool) (w : World) (hr0_0 : Kd.C k48 w A0_0 l0_0.length l0_0) (hc0_0 : l0_0.length ≤ c0_0) (h : spec_HolesOf.f k l0_0 a1 = some (r1, r2)) :
  Calls Try.prog 23 #[.agg #[.slice A0_0 l0_0.length c0_0], .int .i64 a1] w fun e w' => ∃ v0_ : Value, e = .returned (.tuple #[v0_, .bool r2]) ∧ Kd.R k61 61 w' w.heap.size (fun _ => True) v0_ r1 ∧ Below w.heap.size w w' := by
 have hu29 := Try.underlying29
 have hu48 := Try.underlying48
 have hu61 := Try.underlying61
 have HR0_0 := Aside0.mk hr0_0
 have HC0_0 := Aside0.mk hc0_0
 clear hr0_0 hc0_0
 have HB := Aside0.mk (Below.refl w.heap.size w)
 have H : ((spec_GoodMap.f k l0_0).bind fun t253 => (if t253 = true then ((spec_l1In.f a1 0 200).bind fun t254 => (spec_HolesOf.j0 k a1 (!t254) l0_0)) else (spec_HolesOf.j0 k a1 true l0_0))) = some (r1, r2) := h
 clear h
 have HC3 := Aside0.mk H
 clear H
 go_enter Try.func23, Try.ntmps23
 go_upto_region 1 with (first | ((with_reducible refine gate_dst (N := 2) rfl ?_); refine box_event ?hg (N := 2) ?hd (cs := #[.slice A0_0 l0_0.length c0_0]) (t := 29) ?hr ?_; (case hd => rfl); (case hg => rfl); (case hr => first | (go_simp; done) | (go_simp; rfl)); intro gb252 hg w4 hbox hb; have n0_ := Aside0.mk (below_step (bs HB) hb); have n1_ := Aside0.mk (hbox); have n2_ := Aside0.mk ((by rw [hg]; exact (below_size (bs HB)) : w.heap.size ≤ gb252)); have n3_ := Aside0.mk ((by rw [hg]; exact (below_size (bs HB)) : w.heap.size ≤ gb252)); clear HB; have HB := n0_; have BK252 := n1_; have GW252 := n2_; have GE252 := n3_; clear n0_ n1_ n2_ n3_; clear hb hbox hg))
 (try simp only [Act.put, List.setIfInBounds_toArray, List.set_cons_zero, List.set_cons_succ])
 go_cut [18] (fun v18 wc => ∃ (kq : Nat) (x18_2 : Bool), v18 = .bool x18_2 ∧ Aside0 (spec_HolesOf.j0 kq a1 x18_2 l0_0 = some (r1, r2)) ∧ Aside0 (kq ≤ k) ∧ Aside0 (wc.heap[gb252]? = some (.cells #[(.slice A0_0 l0_0.length c0_0)] 29 (0, 0))) ∧ Aside0 (Below w.heap.size w wc))
 case first =>
  have H := HC3.out
  clear HC3
  replace H := Option.bind_eq_some_iff.mp H
  obtain ⟨t253, A50, H⟩ := H
  replace H : (if t253 = true then ((spec_l1In.f a1 0 200).bind fun t254 => (spec_HolesOf.j0 k a1 (!t254) l0_0)) else (spec_HolesOf.j0 k a1 true l0_0)) = some (r1, r2) := H
  have A5 := Aside0.mk A50
  clear A50
  by_cases c6 : t253 = true
  ·
   subst c6
   rw [if_pos rfl] at H
   replace H := Option.bind_eq_some_iff.mp H
   obtain ⟨t254, A70, H⟩ := H
   replace H : (spec_HolesOf.j0 k a1 (!t254) l0_0) = some (r1, r2) := H
   have A7 := Aside0.mk A70
   clear A70
   have H' := Aside0.mk H
   clear H
   have hcz8_0 : w4.cell? ⟨gb252, 0, none⟩ = some (.slice A0_0 l0_0.length c0_0) := (blk_cell BK252.out 0).trans rfl
   have hfz8_0 := blk_frozen BK252.out 0
   go_wp2_with (first | ((with_reducible refine gate_callee (f := 15) rfl ?_); refine goesL_ (some 12) rfl rfl Try.func15 (by kernel_rfl) rfl #[.agg #[.slice A0_0 l0_0.length c0_0]] rfl (by (try simp only [List.map_toArray, List.map_cons, List.map_nil]); first | done | rfl | (simp only [List.length_drop, List.length_take]; rfl)) ?_; (with_reducible refine (spec_GoodMap.calls k _ _ l0_0 true _ ?side1 ?side2 A5.out).mono ?_); (case side1 => exact cb HR0_0 HB); (case side2 => exact HC0_0.out); rintro e w9 ⟨rfl, hb⟩; refine ⟨_, rfl, ?_⟩; have n0_ := Aside0.mk (bb BK252 hb); have n1_ := Aside0.mk (below_step (bs1 HB GE252) hb); clear BK252; clear HB; have BK252 := n0_; have HB := n1_; clear n0_ n1_; (try clear hb); (try clear hb2); (try clear hk); (try clear hi)) | (go_at_call 54; (with_reducible refine (spec_l1In.calls a1 0 200 t254 _ A7.out).mono ?_); rintro e w' ⟨rfl, ⟨nd, rfl⟩⟩))
   go_meet
   case rel => exact ⟨_, (!t254), (by first | rfl | (simp; done) | (simp [*]; done)), H', ⟨by first | omega | exact Nat.le_refl _⟩, ⟨bk BK252⟩, ⟨bs1 HB GE252⟩⟩
  ·
   replace c6 := Bool.eq_false_iff.mpr c6
   subst c6
   rw [if_neg (show ¬ (false = true) by decide)] at H
   have H' := Aside0.mk H
   clear H
   have hcz10_0 : w4.cell? ⟨gb252, 0, none⟩ = some (.slice A0_0 l0_0.length c0_0) := (blk_cell BK252.out 0).trans rfl
   have hfz10_0 := blk_frozen BK252.out 0
   go_wp2_with (first | ((with_reducible refine gate_callee (f := 15) rfl ?_); refine goesL_ (some 12) rfl rfl Try.func15 (by kernel_rfl) rfl #[.agg #[.slice A0_0 l0_0.length c0_0]] rfl (by (try simp only [List.map_toArray, List.map_cons, List.map_nil]); first | done | rfl | (simp only [List.length_drop, List.length_take]; rfl)) ?_; (with_reducible refine (spec_GoodMap.calls k _ _ l0_0 false _ ?side1 ?side2 A5.out).mono ?_); (case side1 => exact cb HR0_0 HB); (case side2 => exact HC0_0.out); rintro e w11 ⟨rfl, hb⟩; refine ⟨_, rfl, ?_⟩; have n0_ := Aside0.mk (bb BK252 hb); have n1_ := Aside0.mk (below_step (bs1 HB GE252) hb); clear BK252; clear HB; have BK252 := n0_; have HB := n1_; clear n0_ n1_; (try clear hb); (try clear hb2); (try clear hk); (try clear hi)))
   go_meet
   case rel => exact ⟨_, (true), (by first | rfl | (simp; done) | (simp [*]; done)), H', ⟨by first | omega | exact Nat.le_refl _⟩, ⟨bk BK252⟩, ⟨bs1 HB GE252⟩⟩
 case rest =>
  clear HC3
  try clear c1
  try clear c2
  try clear p2
  try clear c6
  try clear hcz10_0
  try clear hcz8_0
  try clear hfz10_0
  try clear hfz8_0
  obtain ⟨kq, x18_2, rfl, HA, HJ2, BK252, HB⟩ := hcut
  cases kq with
  | zero => exact absurd HA.out (by simp [spec_HolesOf.j0])
  | succ kj2 =>
   have H := HA.out
   clear HA
   simp only [spec_HolesOf.j0] at H
   by_cases c12 : x18_2 = true
   ·
    subst c12
    rw [if_pos rfl] at H
    simp only [Option.some.injEq, Prod.mk.injEq] at H
    obtain ⟨rfl, rfl⟩ := H
    go_wp2
    go_ret2
    exact ⟨_, by first | rfl | (simp [errW_none, errW_some] <;> rfl) | (simp [*, errW_none, errW_some] <;> rfl), by first | exact Kd.R_nil _ _ _ _ _ | exact Kd.N_nil _ _ _ _ _ | exact Kd.V_nil _ _ _ _ _ | exact Kd.Q_nil _ _ _ _ _ | exact Kd.S_nil _ _ _ _ _, bs1 HB GE252⟩
   ·
    replace c12 := Bool.eq_false_iff.mpr c12
    subst c12
    rw [if_neg (show ¬ (false = true) by decide)] at H
    have H' := Aside0.mk H
    clear H
    have hcz13_0 : wc.cell? ⟨gb252, 0, none⟩ = some (.slice A0_0 l0_0.length c0_0) := (blk_cell BK252.out 0).trans rfl
    have hfz13_0 := blk_frozen BK252.out 0
    go_wp2
    go_loopg [6, 7, 22] kj2 (fun kq v6 v7 v22 w' => ∃ (x6_2 : List (S61)) (x7_2 : Int) (x22_2 : Int), v7 = .int .i64 x7_2 ∧ v22 = .int .i64 x22_2 ∧ Aside0 (spec_HolesOf.l0 kq a1 x6_2 x7_2 l0_0 (l0_0.length : Int) x22_2 = some (r1, r2)) ∧ Aside0 (kq ≤ kj2) ∧ Aside0 (Kd.R k61 61 w' w.heap.size (fun _ => True) v6 x6_2) ∧ Aside0 (w'.heap[gb252]? = some (.cells #[(.slice A0_0 l0_0.length c0_0)] 29 (0, 0))) ∧ Aside0 (Below w.heap.size w w'))
    case atStart => exact ⟨(([] : List (S61))), (0), (0), (by first | rfl | (simp; done) | (simp [*]; done)), (by first | rfl | (simp; done) | (simp [*]; done)), H', ⟨Nat.le_refl _⟩, ⟨by first | exact Kd.R_nil _ _ _ _ _ | exact Kd.N_nil _ _ _ _ _ | exact Kd.V_nil _ _ _ _ _ | exact Kd.Q_nil _ _ _ _ _ | exact Kd.S_nil _ _ _ _ _⟩, ⟨bk BK252⟩, ⟨bs1 HB GE252⟩⟩
    case round =>
     clear H'
     try clear c1
     try clear c2
     try clear p2
     try clear c6
     try clear c12
     try clear hcz10_0
     try clear hcz13_0
     try clear hcz8_0
     try clear hfz10_0
     try clear hfz13_0
     try clear hfz8_0
     try clear p2
     obtain ⟨x6_2, x7_2, x22_2, rfl, rfl, HA, HK2, HO_6, BK252, HB⟩ := hrel
     cases gk with
     | zero => exact absurd HA.out (by simp [spec_HolesOf.l0])
     | succ k2 =>
      have H := HA.out
      clear HA
      simp only [spec_HolesOf.l0] at H
      by_cases c14 : x22_2 < (l0_0.length : Int)
      ·
       rw [if_pos c14] at H
       have c14b0 : decide (x22_2 < (l0_0.length : Int)) = true := decide_eq_true c14
       clear c14
       by_cases c15 : 0 ≤ x22_2
       ·
        rw [if_pos c15] at H
        have c15b0 : decide (0 ≤ x22_2) = true := decide_eq_true c15
        clear c15
        by_cases c16 : x22_2 < (l0_0.length : Int)
        ·
         rw [if_pos c16] at H
         have c16b0 : decide (x22_2 < (l0_0.length : Int)) = true := decide_eq_true c16
         clear c16
         by_cases c17 : ((rd_T48 l0_0 x22_2).f0) > a1
         ·
          rw [if_pos c17] at H
          have c17b0 : decide (a1 < ((rd_T48 l0_0 x22_2).f0)) = true := decide_eq_true c17
          clear c17
          by_cases c18 : a1 > x7_2
          ·
           rw [if_pos c18] at H
           have c18b0 : decide (x7_2 < a1) = true := decide_eq_true c18
           clear c18
           by_cases c19 : x6_2.length < 8796093022208
           ·
            rw [if_pos c19] at H
            have LMc19 := Aside0.mk c19
            clear c19
            obtain ⟨y260, hy260⟩ : ∃ y_ : List (S61), y_ = (x6_2 ++ [(⟨x7_2, wrap64 (a1 - x7_2)⟩ : S61)]) := ⟨_, rfl⟩
            replace H : (spec_HolesOf.l0 k2 a1 y260 (wrap64 (((rd_T48 l0_0 x22_2).f0) + ((rd_T48 l0_0 x22_2).f1))) l0_0 (l0_0.length : Int) (wrap64 (x22_2 + 1))) = some (r1, r2) := by first | (rw [hy260]; with_reducible exact H) | (have H2_ := (Option.bind_some _ _).symm.trans H; rw [hy260]; with_reducible exact H2_) | (have H2_ := (Option.bind_some _ _).symm.trans H; with_reducible exact H2_) | with_reducible exact H | (rw [hy260]; exact H) | exact H
            have Ny260 := Aside0.mk hy260
            clear hy260
            have H' := Aside0.mk H
            clear H
            have p258 : 0 ≤ (x22_2 : Int) := of_decide_eq_true (by first | (with_reducible assumption) | assumption)
            have q258 : x22_2 < (l0_0.length : Int) := of_decide_eq_true (by first | (with_reducible assumption) | assumption)
            obtain ⟨ad258, e258, hx258_0, hx258_1, hx258_2, hx258_3⟩ := at_T48 HR0_0.out x22_2 p258 q258
            cases e258
            replace hx258_0 := (HB.out.cell (World.block_lt_of_cell? w _ hx258_0)).trans hx258_0
            replace hx258_1 := (HB.out.cell (World.block_lt_of_cell? w _ hx258_1)).trans hx258_1
            replace hx258_2 := (HB.out.cell (World.block_lt_of_cell? w _ hx258_2)).trans hx258_2
            replace hx258_3 := (HB.out.cell (World.block_lt_of_cell? w _ hx258_3)).trans hx258_3
            replace p258 := eq_true p258
            replace q258 := eq_true q258
            go_wp2_with (first | ((with_reducible refine gate_dst (N := 9) rfl ?_); refine box_event ?hg (N := 9) ?hd (cs := #[.int .i64 0, .int .i64 0, .int .i64 0, .bool false]) (t := 48) ?hr ?_; (case hd => rfl); (case hg => rfl); (case hr => first | (go_simp; done) | (go_simp; rfl)); intro gb259 hg w20 hbox hb; have n0_ := Aside0.mk (Kd.R_below (rr HO_6.out) hb); have n1_ := Aside0.mk (bb BK252 hb); have n2_ := Aside0.mk (below_step (bs1 HB GE252) hb); have n3_ := Aside0.mk (hbox); have n4_ := Aside0.mk ((by rw [hg]; exact (below_size (bs1 HB GE252)) : w.heap.size ≤ gb259)); have n5_ := Aside0.mk ((by rw [hg]; exact (below_size (bs1 HB GE252)) : w.heap.size ≤ gb259)); have n6_ := Aside0.mk ((bn BK252 hg : gb252 ≠ gb259)); have n7_ := Aside0.mk ((bm BK252 hg : gb259 ≠ gb252)); clear HO_6; clear BK252; clear HB; have HO_6 := n0_; have BK252 := n1_; have HB := n2_; have BK259 := n3_; have GW259 := n4_; have GE259 := n5_; have NB252_259 := n6_; have NB259_252 := n7_; clear n0_ n1_ n2_ n3_ n4_ n5_ n6_ n7_; clear hb hbox hg; have hnb21 := NB259_252.out; have hnc21 := NB252_259.out; have hcz22_0 : w20.cell? ⟨gb259, 0, none⟩ = some (.int .i64 0) := (blk_cell BK259.out 0).trans rfl; have hcz22_1 : w20.cell? ⟨gb259, 1, none⟩ = some (.int .i64 0) := (blk_cell BK259.out 1).trans rfl; have hcz22_2 : w20.cell? ⟨gb259, 2, none⟩ = some (.int .i64 0) := (blk_cell BK259.out 2).trans rfl; have hcz22_3 : w20.cell? ⟨gb259, 3, none⟩ = some (.bool false) := (blk_cell BK259.out 3).trans rfl; have hfz22_0 := blk_frozen BK259.out 0; have hfz22_1 := blk_frozen BK259.out 1; have hfz22_2 := blk_frozen BK259.out 2; have hfz22_3 := blk_frozen BK259.out 3) | ((with_reducible refine gate_builtin (b := .append) (xs := #[.tmp 35, .tmp 41]) rfl ?_); at_builtin; refine Kd.R_append k61 (w0 := w) w.heap.size rfl (.tmp 35) (.tmp 41) 38 61 (.agg #[(.int .i64 0), (.int .i64 0)]) 16 rfl Try.underlying38 info61 rfl (by decide) (by omega) u6 x6_2 (⟨x7_2, wrap64 (a1 - x7_2)⟩ : S61) [.int .i64 x7_2, .int .i64 (wrap64 (a1 - x7_2))] (fun _ => True) (fun _ => False) rfl (by first | (go_simp; done) | (go_simp; rfl)) ?aP (fun _ hk => hk.elim) ?aF ?aO ?aB ?aS ?aL ?_; (case aP => exact k61_mkM _ _ _ (⟨x7_2, wrap64 (a1 - x7_2)⟩ : S61)); (case aB => exact (bs2 HB GE252 GE259)); (case aF => exact (fun _ _ => trivial)); (case aO => exact (by (with_reducible repeat (first | apply Kd.R_alloc | apply Kd.R_drewN | apply Kd.R_drew)); exact Kd.R_mono (Kd.R_far (p := ⟨gb259, 3, none⟩) (Kd.R_far (p := ⟨gb259, 2, none⟩) (Kd.R_far (p := ⟨gb259, 1, none⟩) (Kd.R_far (p := ⟨gb259, 0, none⟩) (Kd.R_types HO_6.out BK259.out (by decide)) (fun _ hk => hk.2) (.int .i64 ((rd_T48 l0_0 x22_2).f0))) (fun _ hk => hk.2) (.int .i64 ((rd_T48 l0_0 x22_2).f1))) (fun _ hk => hk.2) (.int .i64 ((rd_T48 l0_0 x22_2).f2))) (fun _ hk => hk.2) (.bool ((rd_T48 l0_0 x22_2).f3))) (fun _ hk => trivial))); (case aS => exact (below_size (bs2 HB GE252 GE259))); (case aL => have := LMc19.out; omega); intro v261 w23 ho hb hg hat; rw [← Ny260.out] at ho; have n0_ := Aside0.mk (blk_grown (g := gb252) (o := .cells #[.slice (some ad258) l0_0.length c0_0] 29 (0, 0)) (bf BK252 NB252_259) hg (Kd.R_ne HO_6.out BK252.out (by decide))); have n1_ := Aside0.mk (blk_grown (g := gb259) (o := .cells #[.int .i64 ((rd_T48 l0_0 x22_2).f0), .int .i64 ((rd_T48 l0_0 x22_2).f1), .int .i64 ((rd_T48 l0_0 x22_2).f2), .bool ((rd_T48 l0_0 x22_2).f3)] 48 (0, 0)) (by (with_reducible repeat (first | refine blk_drewN ?_ _ | refine blk_drew ?_ | refine blk_alloc ?_ _)); refine blk_put (cs := #[.int .i64 ((rd_T48 l0_0 x22_2).f0), .int .i64 ((rd_T48 l0_0 x22_2).f1), .int .i64 ((rd_T48 l0_0 x22_2).f2), .bool false]) ?_ 3 _ rfl; (with_reducible repeat (first | refine blk_drewN ?_ _ | refine blk_drew ?_ | refine blk_alloc ?_ _)); refine blk_put (cs := #[.int .i64 ((rd_T48 l0_0 x22_2).f0), .int .i64 ((rd_T48 l0_0 x22_2).f1), .int .i64 0, .bool false]) ?_ 2 _ rfl; (with_reducible repeat (first | refine blk_drewN ?_ _ | refine blk_drew ?_ | refine blk_alloc ?_ _)); refine blk_put (cs := #[.int .i64 ((rd_T48 l0_0 x22_2).f0), .int .i64 0, .int .i64 0, .bool false]) ?_ 1 _ rfl; (with_reducible repeat (first | refine blk_drewN ?_ _ | refine blk_drew ?_ | refine blk_alloc ?_ _)); refine blk_put (cs := #[.int .i64 0, .int .i64 0, .int .i64 0, .bool false]) ?_ 0 _ rfl; (with_reducible repeat (first | refine blk_drewN ?_ _ | refine blk_drew ?_ | refine blk_alloc ?_ _)); exact BK259.out) hg (Kd.R_ne HO_6.out BK259.out (by decide))); have n2_ := Aside0.mk (hb); have n3_ := Aside0.mk (ho); clear BK252; clear BK259; clear HB; clear HO_6; have BK252 := n0_; have BK259 := n1_; have HB := n2_; have HO262 := n3_; clear n0_ n1_ n2_ n3_; clear ho hb hg hat; have hcz24_0 : w23.cell? ⟨gb259, 0, none⟩ = some (.int .i64 ((rd_T48 l0_0 x22_2).f0)) := (blk_cell BK259.out 0).trans rfl; have hcz24_1 : w23.cell? ⟨gb259, 1, none⟩ = some (.int .i64 ((rd_T48 l0_0 x22_2).f1)) := (blk_cell BK259.out 1).trans rfl; have hcz24_2 : w23.cell? ⟨gb259, 2, none⟩ = some (.int .i64 ((rd_T48 l0_0 x22_2).f2)) := (blk_cell BK259.out 2).trans rfl; have hcz24_3 : w23.cell? ⟨gb259, 3, none⟩ = some (.bool ((rd_T48 l0_0 x22_2).f3)) := (blk_cell BK259.out 3).trans rfl; have hfz24_0 := blk_frozen BK259.out 0; have hfz24_1 := blk_frozen BK259.out 1; have hfz24_2 := blk_frozen BK259.out 2; have hfz24_3 := blk_frozen BK259.out 3))
            go_roundg k2
            case measure => have := HJ2.out; have := HK2.out; omega
            case rel => exact ⟨(y260), (wrap64 (((rd_T48 l0_0 x22_2).f0) + ((rd_T48 l0_0 x22_2).f1))), (wrap64 (x22_2 + 1)), (by first | rfl | (simp; done) | (simp [*]; done)), (by first | rfl | (simp; done) | (simp [*]; done)), H', ⟨by have := HJ2.out; have := HK2.out; omega⟩, ⟨rr HO262.out⟩, ⟨bk BK252⟩, ⟨bs2 HB GE252 GE259⟩⟩
           ·
            rw [if_neg c19] at H
            exact absurd H (by simp)
          ·
           rw [if_neg c18] at H
           have c18b0 : decide (x7_2 < a1) = false := decide_eq_false c18
           clear c18
           have H' := Aside0.mk H
           clear H
           have p258 : 0 ≤ (x22_2 : Int) := of_decide_eq_true (by first | (with_reducible assumption) | assumption)
           have q258 : x22_2 < (l0_0.length : Int) := of_decide_eq_true (by first | (with_reducible assumption) | assumption)
           obtain ⟨ad258, e258, hx258_0, hx258_1, hx258_2, hx258_3⟩ := at_T48 HR0_0.out x22_2 p258 q258
           cases e258
           replace hx258_0 := (HB.out.cell (World.block_lt_of_cell? w _ hx258_0)).trans hx258_0
           replace hx258_1 := (HB.out.cell (World.block_lt_of_cell? w _ hx258_1)).trans hx258_1
           replace hx258_2 := (HB.out.cell (World.block_lt_of_cell? w _ hx258_2)).trans hx258_2
           replace hx258_3 := (HB.out.cell (World.block_lt_of_cell? w _ hx258_3)).trans hx258_3
           replace p258 := eq_true p258
           replace q258 := eq_true q258
           go_wp2_with (first | ((with_reducible refine gate_dst (N := 9) rfl ?_); refine box_event ?hg (N := 9) ?hd (cs := #[.int .i64 0, .int .i64 0, .int .i64 0, .bool false]) (t := 48) ?hr ?_; (case hd => rfl); (case hg => rfl); (case hr => first | (go_simp; done) | (go_simp; rfl)); intro gb259 hg w25 hbox hb; have n0_ := Aside0.mk (Kd.R_below (rr HO_6.out) hb); have n1_ := Aside0.mk (bb BK252 hb); have n2_ := Aside0.mk (below_step (bs1 HB GE252) hb); have n3_ := Aside0.mk (hbox); have n4_ := Aside0.mk ((by rw [hg]; exact (below_size (bs1 HB GE252)) : w.heap.size ≤ gb259)); have n5_ := Aside0.mk ((by rw [hg]; exact (below_size (bs1 HB GE252)) : w.heap.size ≤ gb259)); have n6_ := Aside0.mk ((bn BK252 hg : gb252 ≠ gb259)); have n7_ := Aside0.mk ((bm BK252 hg : gb259 ≠ gb252)); clear HO_6; clear BK252; clear HB; have HO_6 := n0_; have BK252 := n1_; have HB := n2_; have BK259 := n3_; have GW259 := n4_; have GE259 := n5_; have NB252_259 := n6_; have NB259_252 := n7_; clear n0_ n1_ n2_ n3_ n4_ n5_ n6_ n7_; clear hb hbox hg; have hnb26 := NB259_252.out; have hnc26 := NB252_259.out; have hcz27_0 : w25.cell? ⟨gb259, 0, none⟩ = some (.int .i64 0) := (blk_cell BK259.out 0).trans rfl; have hcz27_1 : w25.cell? ⟨gb259, 1, none⟩ = some (.int .i64 0) := (blk_cell BK259.out 1).trans rfl; have hcz27_2 : w25.cell? ⟨gb259, 2, none⟩ = some (.int .i64 0) := (blk_cell BK259.out 2).trans rfl; have hcz27_3 : w25.cell? ⟨gb259, 3, none⟩ = some (.bool false) := (blk_cell BK259.out 3).trans rfl; have hfz27_0 := blk_frozen BK259.out 0; have hfz27_1 := blk_frozen BK259.out 1; have hfz27_2 := blk_frozen BK259.out 2; have hfz27_3 := blk_frozen BK259.out 3))
           go_roundg k2
           case measure => have := HJ2.out; have := HK2.out; omega
           case rel => exact ⟨(x6_2), (wrap64 (((rd_T48 l0_0 x22_2).f0) + ((rd_T48 l0_0 x22_2).f1))), (wrap64 (x22_2 + 1)), (by first | rfl | (simp; done) | (simp [*]; done)), (by first | rfl | (simp; done) | (simp [*]; done)), H', ⟨by have := HJ2.out; have := HK2.out; omega⟩, ⟨by (with_reducible repeat (first | apply Kd.R_alloc | apply Kd.R_drewN | apply Kd.R_drew)); exact Kd.R_mono (Kd.R_far (p := ⟨gb259, 3, none⟩) (Kd.R_far (p := ⟨gb259, 2, none⟩) (Kd.R_far (p := ⟨gb259, 1, none⟩) (Kd.R_far (p := ⟨gb259, 0, none⟩) (Kd.R_types HO_6.out BK259.out (by decide)) (fun _ hk => hk.2) (.int .i64 ((rd_T48 l0_0 x22_2).f0))) (fun _ hk => hk.2) (.int .i64 ((rd_T48 l0_0 x22_2).f1))) (fun _ hk => hk.2) (.int .i64 ((rd_T48 l0_0 x22_2).f2))) (fun _ hk => hk.2) (.bool ((rd_T48 l0_0 x22_2).f3))) (fun _ hk => trivial)⟩, ⟨bf BK252 NB252_259⟩, ⟨bs2 HB GE252 GE259⟩⟩
         ·
          rw [if_neg c17] at H
          have c17b0 : decide (a1 < ((rd_T48 l0_0 x22_2).f0)) = false := decide_eq_false c17
          clear c17
          by_cases c28 : ((rd_T48 l0_0 x22_2).f0) > x7_2
          ·
           rw [if_pos c28] at H
           have c28b0 : decide (x7_2 < ((rd_T48 l0_0 x22_2).f0)) = true := decide_eq_true c28
           clear c28
           by_cases c29 : x6_2.length < 8796093022208
           ·
            rw [if_pos c29] at H
            have LMc29 := Aside0.mk c29
            clear c29
            obtain ⟨y263, hy263⟩ : ∃ y_ : List (S61), y_ = (x6_2 ++ [(⟨x7_2, wrap64 (((rd_T48 l0_0 x22_2).f0) - x7_2)⟩ : S61)]) := ⟨_, rfl⟩
            replace H : (spec_HolesOf.l0 k2 a1 y263 (wrap64 (((rd_T48 l0_0 x22_2).f0) + ((rd_T48 l0_0 x22_2).f1))) l0_0 (l0_0.length : Int) (wrap64 (x22_2 + 1))) = some (r1, r2) := by first | (rw [hy263]; with_reducible exact H) | (have H2_ := (Option.bind_some _ _).symm.trans H; rw [hy263]; with_reducible exact H2_) | (have H2_ := (Option.bind_some _ _).symm.trans H; with_reducible exact H2_) | with_reducible exact H | (rw [hy263]; exact H) | exact H
            have Ny263 := Aside0.mk hy263
            clear hy263
            have H' := Aside0.mk H
            clear H
            have p258 : 0 ≤ (x22_2 : Int) := of_decide_eq_true (by first | (with_reducible assumption) | assumption)
            have q258 : x22_2 < (l0_0.length : Int) := of_decide_eq_true (by first | (with_reducible assumption) | assumption)
            obtain ⟨ad258, e258, hx258_0, hx258_1, hx258_2, hx258_3⟩ := at_T48 HR0_0.out x22_2 p258 q258
            cases e258
            replace hx258_0 := (HB.out.cell (World.block_lt_of_cell? w _ hx258_0)).trans hx258_0
            replace hx258_1 := (HB.out.cell (World.block_lt_of_cell? w _ hx258_1)).trans hx258_1
            replace hx258_2 := (HB.out.cell (World.block_lt_of_cell? w _ hx258_2)).trans hx258_2
            replace hx258_3 := (HB.out.cell (World.block_lt_of_cell? w _ hx258_3)).trans hx258_3
            replace p258 := eq_true p258
            replace q258 := eq_true q258
            go_wp2_with (first | ((with_reducible refine gate_dst (N := 9) rfl ?_); refine box_event ?hg (N := 9) ?hd (cs := #[.int .i64 0, .int .i64 0, .int .i64 0, .bool false]) (t := 48) ?hr ?_; (case hd => rfl); (case hg => rfl); (case hr => first | (go_simp; done) | (go_simp; rfl)); intro gb259 hg w30 hbox hb; have n0_ := Aside0.mk (Kd.R_below (rr HO_6.out) hb); have n1_ := Aside0.mk (bb BK252 hb); have n2_ := Aside0.mk (below_step (bs1 HB GE252) hb); have n3_ := Aside0.mk (hbox); have n4_ := Aside0.mk ((by rw [hg]; exact (below_size (bs1 HB GE252)) : w.heap.size ≤ gb259)); have n5_ := Aside0.mk ((by rw [hg]; exact (below_size (bs1 HB GE252)) : w.heap.size ≤ gb259)); have n6_ := Aside0.mk ((bn BK252 hg : gb252 ≠ gb259)); have n7_ := Aside0.mk ((bm BK252 hg : gb259 ≠ gb252)); clear HO_6; clear BK252; clear HB; have HO_6 := n0_; have BK252 := n1_; have HB := n2_; have BK259 := n3_; have GW259 := n4_; have GE259 := n5_; have NB252_259 := n6_; have NB259_252 := n7_; clear n0_ n1_ n2_ n3_ n4_ n5_ n6_ n7_; clear hb hbox hg; have hnb31 := NB259_252.out; have hnc31 := NB252_259.out; have hcz32_0 : w30.cell? ⟨gb259, 0, none⟩ = some (.int .i64 0) := (blk_cell BK259.out 0).trans rfl; have hcz32_1 : w30.cell? ⟨gb259, 1, none⟩ = some (.int .i64 0) := (blk_cell BK259.out 1).trans rfl; have hcz32_2 : w30.cell? ⟨gb259, 2, none⟩ = some (.int .i64 0) := (blk_cell BK259.out 2).trans rfl; have hcz32_3 : w30.cell? ⟨gb259, 3, none⟩ = some (.bool false) := (blk_cell BK259.out 3).trans rfl; have hfz32_0 := blk_frozen BK259.out 0; have hfz32_1 := blk_frozen BK259.out 1; have hfz32_2 := blk_frozen BK259.out 2; have hfz32_3 := blk_frozen BK259.out 3) | ((with_reducible refine gate_builtin (b := .append) (xs := #[.tmp 35, .tmp 41]) rfl ?_); at_builtin; refine Kd.R_append k61 (w0 := w) w.heap.size rfl (.tmp 35) (.tmp 41) 38 61 (.agg #[(.int .i64 0), (.int .i64 0)]) 16 rfl Try.underlying38 info61 rfl (by decide) (by omega) u6 x6_2 (⟨x7_2, wrap64 (((rd_T48 l0_0 x22_2).f0) - x7_2)⟩ : S61) [.int .i64 x7_2, .int .i64 (wrap64 (((rd_T48 l0_0 x22_2).f0) - x7_2))] (fun _ => True) (fun _ => False) rfl (by first | (go_simp; done) | (go_simp; rfl)) ?aP (fun _ hk => hk.elim) ?aF ?aO ?aB ?aS ?aL ?_; (case aP => exact k61_mkM _ _ _ (⟨x7_2, wrap64 (((rd_T48 l0_0 x22_2).f0) - x7_2)⟩ : S61)); (case aB => exact (bs2 HB GE252 GE259)); (case aF => exact (fun _ _ => trivial)); (case aO => exact (by (with_reducible repeat (first | apply Kd.R_alloc | apply Kd.R_drewN | apply Kd.R_drew)); exact Kd.R_mono (Kd.R_far (p := ⟨gb259, 3, none⟩) (Kd.R_far (p := ⟨gb259, 2, none⟩) (Kd.R_far (p := ⟨gb259, 1, none⟩) (Kd.R_far (p := ⟨gb259, 0, none⟩) (Kd.R_types HO_6.out BK259.out (by decide)) (fun _ hk => hk.2) (.int .i64 ((rd_T48 l0_0 x22_2).f0))) (fun _ hk => hk.2) (.int .i64 ((rd_T48 l0_0 x22_2).f1))) (fun _ hk => hk.2) (.int .i64 ((rd_T48 l0_0 x22_2).f2))) (fun _ hk => hk.2) (.bool ((rd_T48 l0_0 x22_2).f3))) (fun _ hk => trivial))); (case aS => exact (below_size (bs2 HB GE252 GE259))); (case aL => have := LMc29.out; omega); intro v264 w33 ho hb hg hat; rw [← Ny263.out] at ho; have n0_ := Aside0.mk (blk_grown (g := gb252) (o := .cells #[.slice (some ad258) l0_0.length c0_0] 29 (0, 0)) (bf BK252 NB252_259) hg (Kd.R_ne HO_6.out BK252.out (by decide))); have n1_ := Aside0.mk (blk_grown (g := gb259) (o := .cells #[.int .i64 ((rd_T48 l0_0 x22_2).f0), .int .i64 ((rd_T48 l0_0 x22_2).f1), .int .i64 ((rd_T48 l0_0 x22_2).f2), .bool ((rd_T48 l0_0 x22_2).f3)] 48 (0, 0)) (by (with_reducible repeat (first | refine blk_drewN ?_ _ | refine blk_drew ?_ | refine blk_alloc ?_ _)); refine blk_put (cs := #[.int .i64 ((rd_T48 l0_0 x22_2).f0), .int .i64 ((rd_T48 l0_0 x22_2).f1), .int .i64 ((rd_T48 l0_0 x22_2).f2), .bool false]) ?_ 3 _ rfl; (with_reducible repeat (first | refine blk_drewN ?_ _ | refine blk_drew ?_ | refine blk_alloc ?_ _)); refine blk_put (cs := #[.int .i64 ((rd_T48 l0_0 x22_2).f0), .int .i64 ((rd_T48 l0_0 x22_2).f1), .int .i64 0, .bool false]) ?_ 2 _ rfl; (with_reducible repeat (first | refine blk_drewN ?_ _ | refine blk_drew ?_ | refine blk_alloc ?_ _)); refine blk_put (cs := #[.int .i64 ((rd_T48 l0_0 x22_2).f0), .int .i64 0, .int .i64 0, .bool false]) ?_ 1 _ rfl; (with_reducible repeat (first | refine blk_drewN ?_ _ | refine blk_drew ?_ | refine blk_alloc ?_ _)); refine blk_put (cs := #[.int .i64 0, .int .i64 0, .int .i64 0, .bool false]) ?_ 0 _ rfl; (with_reducible repeat (first | refine blk_drewN ?_ _ | refine blk_drew ?_ | refine blk_alloc ?_ _)); exact BK259.out) hg (Kd.R_ne HO_6.out BK259.out (by decide))); have n2_ := Aside0.mk (hb); have n3_ := Aside0.mk (ho); clear BK252; clear BK259; clear HB; clear HO_6; have BK252 := n0_; have BK259 := n1_; have HB := n2_; have HO265 := n3_; clear n0_ n1_ n2_ n3_; clear ho hb hg hat; have hcz34_0 : w33.cell? ⟨gb259, 0, none⟩ = some (.int .i64 ((rd_T48 l0_0 x22_2).f0)) := (blk_cell BK259.out 0).trans rfl; have hcz34_1 : w33.cell? ⟨gb259, 1, none⟩ = some (.int .i64 ((rd_T48 l0_0 x22_2).f1)) := (blk_cell BK259.out 1).trans rfl; have hcz34_2 : w33.cell? ⟨gb259, 2, none⟩ = some (.int .i64 ((rd_T48 l0_0 x22_2).f2)) := (blk_cell BK259.out 2).trans rfl; have hcz34_3 : w33.cell? ⟨gb259, 3, none⟩ = some (.bool ((rd_T48 l0_0 x22_2).f3)) := (blk_cell BK259.out 3).trans rfl; have hfz34_0 := blk_frozen BK259.out 0; have hfz34_1 := blk_frozen BK259.out 1; have hfz34_2 := blk_frozen BK259.out 2; have hfz34_3 := blk_frozen BK259.out 3))
            go_roundg k2
            case measure => have := HJ2.out; have := HK2.out; omega
            case rel => exact ⟨(y263), (wrap64 (((rd_T48 l0_0 x22_2).f0) + ((rd_T48 l0_0 x22_2).f1))), (wrap64 (x22_2 + 1)), (by first | rfl | (simp; done) | (simp [*]; done)), (by first | rfl | (simp; done) | (simp [*]; done)), H', ⟨by have := HJ2.out; have := HK2.out; omega⟩, ⟨rr HO265.out⟩, ⟨bk BK252⟩, ⟨bs2 HB GE252 GE259⟩⟩
           ·
            rw [if_neg c29] at H
            exact absurd H (by simp)
          ·
           rw [if_neg c28] at H
           have c28b0 : decide (x7_2 < ((rd_T48 l0_0 x22_2).f0)) = false := decide_eq_false c28
           clear c28
           have H' := Aside0.mk H
           clear H
           have p258 : 0 ≤ (x22_2 : Int) := of_decide_eq_true (by first | (with_reducible assumption) | assumption)
           have q258 : x22_2 < (l0_0.length : Int) := of_decide_eq_true (by first | (with_reducible assumption) | assumption)
           obtain ⟨ad258, e258, hx258_0, hx258_1, hx258_2, hx258_3⟩ := at_T48 HR0_0.out x22_2 p258 q258
           cases e258
           replace hx258_0 := (HB.out.cell (World.block_lt_of_cell? w _ hx258_0)).trans hx258_0
           replace hx258_1 := (HB.out.cell (World.block_lt_of_cell? w _ hx258_1)).trans hx258_1
           replace hx258_2 := (HB.out.cell (World.block_lt_of_cell? w _ hx258_2)).trans hx258_2
           replace hx258_3 := (HB.out.cell (World.block_lt_of_cell? w _ hx258_3)).trans hx258_3
           replace p258 := eq_true p258
           replace q258 := eq_true q258
           go_wp2_with (first | ((with_reducible refine gate_dst (N := 9) rfl ?_); refine box_event ?hg (N := 9) ?hd (cs := #[.int .i64 0, .int .i64 0, .int .i64 0, .bool false]) (t := 48) ?hr ?_; (case hd => rfl); (case hg => rfl); (case hr => first | (go_simp; done) | (go_simp; rfl)); intro gb259 hg w35 hbox hb; have n0_ := Aside0.mk (Kd.R_below (rr HO_6.out) hb); have n1_ := Aside0.mk (bb BK252 hb); have n2_ := Aside0.mk (below_step (bs1 HB GE252) hb); have n3_ := Aside0.mk (hbox); have n4_ := Aside0.mk ((by rw [hg]; exact (below_size (bs1 HB GE252)) : w.heap.size ≤ gb259)); have n5_ := Aside0.mk ((by rw [hg]; exact (below_size (bs1 HB GE252)) : w.heap.size ≤ gb259)); have n6_ := Aside0.mk ((bn BK252 hg : gb252 ≠ gb259)); have n7_ := Aside0.mk ((bm BK252 hg : gb259 ≠ gb252)); clear HO_6; clear BK252; clear HB; have HO_6 := n0_; have BK252 := n1_; have HB := n2_; have BK259 := n3_; have GW259 := n4_; have GE259 := n5_; have NB252_259 := n6_; have NB259_252 := n7_; clear n0_ n1_ n2_ n3_ n4_ n5_ n6_ n7_; clear hb hbox hg; have hnb36 := NB259_252.out; have hnc36 := NB252_259.out; have hcz37_0 : w35.cell? ⟨gb259, 0, none⟩ = some (.int .i64 0) := (blk_cell BK259.out 0).trans rfl; have hcz37_1 : w35.cell? ⟨gb259, 1, none⟩ = some (.int .i64 0) := (blk_cell BK259.out 1).trans rfl; have hcz37_2 : w35.cell? ⟨gb259, 2, none⟩ = some (.int .i64 0) := (blk_cell BK259.out 2).trans rfl; have hcz37_3 : w35.cell? ⟨gb259, 3, none⟩ = some (.bool false) := (blk_cell BK259.out 3).trans rfl; have hfz37_0 := blk_frozen BK259.out 0; have hfz37_1 := blk_frozen BK259.out 1; have hfz37_2 := blk_frozen BK259.out 2; have hfz37_3 := blk_frozen BK259.out 3))
           go_roundg k2
           case measure => have := HJ2.out; have := HK2.out; omega
           case rel => exact ⟨(x6_2), (wrap64 (((rd_T48 l0_0 x22_2).f0) + ((rd_T48 l0_0 x22_2).f1))), (wrap64 (x22_2 + 1)), (by first | rfl | (simp; done) | (simp [*]; done)), (by first | rfl | (simp; done) | (simp [*]; done)), H', ⟨by have := HJ2.out; have := HK2.out; omega⟩, ⟨by (with_reducible repeat (first | apply Kd.R_alloc | apply Kd.R_drewN | apply Kd.R_drew)); exact Kd.R_mono (Kd.R_far (p := ⟨gb259, 3, none⟩) (Kd.R_far (p := ⟨gb259, 2, none⟩) (Kd.R_far (p := ⟨gb259, 1, none⟩) (Kd.R_far (p := ⟨gb259, 0, none⟩) (Kd.R_types HO_6.out BK259.out (by decide)) (fun _ hk => hk.2) (.int .i64 ((rd_T48 l0_0 x22_2).f0))) (fun _ hk => hk.2) (.int .i64 ((rd_T48 l0_0 x22_2).f1))) (fun _ hk => hk.2) (.int .i64 ((rd_T48 l0_0 x22_2).f2))) (fun _ hk => hk.2) (.bool ((rd_T48 l0_0 x22_2).f3))) (fun _ hk => trivial)⟩, ⟨bf BK252 NB252_259⟩, ⟨bs2 HB GE252 GE259⟩⟩
        ·
         rw [if_neg c16] at H
         exact absurd H (by simp)
       ·
        rw [if_neg c15] at H
        exact absurd H (by simp)
      ·
       rw [if_neg c14] at H
       have c14b0 : decide (x22_2 < (l0_0.length : Int)) = false := decide_eq_false c14
       clear c14
       by_cases c38 : x7_2 < a1
       ·
        rw [if_pos c38] at H
        have c38b0 : decide (x7_2 < a1) = true := decide_eq_true c38
        clear c38
        by_cases c39 : x6_2.length < 8796093022208
        ·
         rw [if_pos c39] at H
         have LMc39 := Aside0.mk c39
         clear c39
         obtain ⟨y255, hy255⟩ : ∃ y_ : List (S61), y_ = (x6_2 ++ [(⟨x7_2, wrap64 (a1 - x7_2)⟩ : S61)]) := ⟨_, rfl⟩
         replace H : (some (y255, true)) = some (r1, r2) := by first | (rw [hy255]; with_reducible exact H) | (have H2_ := (Option.bind_some _ _).symm.trans H; rw [hy255]; with_reducible exact H2_) | (have H2_ := (Option.bind_some _ _).symm.trans H; with_reducible exact H2_) | with_reducible exact H | (rw [hy255]; exact H) | exact H
         have Ny255 := Aside0.mk hy255
         clear hy255
         simp only [Option.some.injEq, Prod.mk.injEq] at H
         obtain ⟨rfl, rfl⟩ := H
         go_wp2_with (first | ((with_reducible refine gate_builtin (b := .append) (xs := #[.tmp 52, .tmp 58]) rfl ?_); at_builtin; refine Kd.R_append k61 (w0 := w) w.heap.size rfl (.tmp 52) (.tmp 58) 38 61 (.agg #[(.int .i64 0), (.int .i64 0)]) 16 rfl Try.underlying38 info61 rfl (by decide) (by omega) u6 x6_2 (⟨x7_2, wrap64 (a1 - x7_2)⟩ : S61) [.int .i64 x7_2, .int .i64 (wrap64 (a1 - x7_2))] (fun _ => True) (fun _ => False) rfl rfl ?aP (fun _ hk => hk.elim) ?aF ?aO ?aB ?aS ?aL ?_; (case aP => exact k61_mkM _ _ _ (⟨x7_2, wrap64 (a1 - x7_2)⟩ : S61)); (case aB => exact (bs1 HB GE252)); (case aF => exact (fun _ _ => trivial)); (case aO => exact (rr HO_6.out)); (case aS => exact (below_size (bs1 HB GE252))); (case aL => have := LMc39.out; omega); intro v256 w40 ho hb hg hat; rw [← Ny255.out] at ho; have n0_ := Aside0.mk (blk_grown (g := gb252) (o := .cells #[.slice A0_0 l0_0.length c0_0] 29 (0, 0)) (bk BK252) hg (Kd.R_ne HO_6.out BK252.out (by decide))); have n1_ := Aside0.mk (hb); have n2_ := Aside0.mk (ho); clear BK252; clear HB; clear HO_6; have BK252 := n0_; have HB := n1_; have HO257 := n2_; clear n0_ n1_ n2_; clear ho hb hg hat))
         go_ret2
         exact ⟨_, by first | rfl | (simp [errW_none, errW_some] <;> rfl) | (simp [*, errW_none, errW_some] <;> rfl), by (with_reducible repeat (first | apply Kd.R_alloc | apply Kd.R_drewN | apply Kd.R_drew)); exact HO257.out, bs1 HB GE252⟩
        ·
         rw [if_neg c39] at H
         exact absurd H (by simp)
       ·
        rw [if_neg c38] at H
        have c38b0 : decide (x7_2 < a1) = false := decide_eq_false c38
        clear c38
        simp only [Option.some.injEq, Prod.mk.injEq] at H
        obtain ⟨rfl, rfl⟩ := H
        go_wp2
        go_ret2
        exact ⟨_, by first | rfl | (simp [errW_none, errW_some] <;> rfl) | (simp [*, errW_none, errW_some] <;> rfl), by (with_reducible repeat (first | apply Kd.R_alloc | apply Kd.R_drewN | apply Kd.R_drew)); exact HO_6.out, bs1 HB GE252⟩

/-! ### impl_HolesOf_1: function 59 -/
def impl_HolesOf_1.f (a0 : Int) (l1_0 : List (S78)) : Option (Bool) := if 0 ≤ a0 then (if a0 < (l1_0.length : Int) then (some (!((rd_T78 l1_0 a0).f0))) else (none)) else (none)
set_option maxHeartbeats 8000000 in
set_option maxRecDepth 100000 in
theorem impl_HolesOf_1.calls (a0 : Int) (gx1_0 : Nat) (A1_0 : Option Addr) (c1_0 : Nat) (l1_0 : List (S78)) (r : Bool) (w : World) (hr1_0 : Kd.C k78 w A1_0 l1_0.length l1_0) (hc1_0 : l1_0.length ≤ c1_0) (hx1_0 : w.heap[gx1_0]? = some (.cells #[.slice A1_0 l1_0.length c1_0] 79 (0, 0))) (h : impl_HolesOf_1.f a0 l1_0 = some r) :
  Calls Try.prog 59 #[.int .i64 a0, .pointer (some ⟨gx1_0, 0, none⟩)] w fun e w' => e = .returned (.bool r) ∧ Drawn0 w w' := by
 have HR1_0 := Aside0.mk hr1_0
 have HC1_0 := Aside0.mk hc1_0
 clear hr1_0 hc1_0
 have BK266 := Aside0.mk hx1_0
 clear hx1_0
 have H : (if 0 ≤ a0 then (if a0 < (l1_0.length : Int) then (some (!((rd_T78 l1_0 a0).f0))) else (none)) else (none)) = some r := h
 clear h
 by_cases c3 : 0 ≤ a0
 ·
  rw [if_pos c3] at H
  have c3b0 : decide (0 ≤ a0) = true := decide_eq_true c3
  clear c3
  by_cases c4 : a0 < (l1_0.length : Int)
  ·
   rw [if_pos c4] at H
   have c4b0 : decide (a0 < (l1_0.length : Int)) = true := decide_eq_true c4
   clear c4
   obtain rfl := Option.some.inj H
   have hcz5_0 : w.cell? ⟨gx1_0, 0, none⟩ = some (.slice A1_0 l1_0.length c1_0) := (blk_cell BK266.out 0).trans rfl
   have hfz5_0 := blk_frozen BK266.out 0
   have p267 : 0 ≤ (a0 : Int) := of_decide_eq_true (by first | (with_reducible assumption) | assumption)
   have q267 : a0 < (l1_0.length : Int) := of_decide_eq_true (by first | (with_reducible assumption) | assumption)
   obtain ⟨ad267, e267, hx267_0, hx267_1, hx267_2⟩ := at_T78 HR1_0.out a0 p267 q267
   cases e267
   replace p267 := eq_true p267
   replace q267 := eq_true q267
   go_enter Try.func59, Try.ntmps59
   go_wp2
   go_ret
   exact ⟨by first | rfl | (simp; done) | (simp [*]; done), by repeat (first | exact Drawn0.refl _ | apply Drawn0.step)⟩
  ·
   rw [if_neg c4] at H
   exact absurd H (by simp)
 ·
  rw [if_neg c3] at H
  exact absurd H (by simp)

/-! ### impl_merged_at_impl_HolesOf_1: function 58 -/
def impl_merged_at_impl_HolesOf_1.l0 : Nat → List (S61) → Int → Int → List (S78) → Option ((List (S61)))
 | 0, _, _, _, _ => none
 | k + 1, x5, x9, x10, x269000 => if x10 < x9 then ((impl_HolesOf_1.f x10 x269000).bind fun t272 => (if t272 = true then (if (wrap64 ((x5.length : Int) - 1)) ≥ 0 then (if 0 ≤ (wrap64 ((x5.length : Int) - 1)) then (if (wrap64 ((x5.length : Int) - 1)) < (x5.length : Int) then (if (wrap64 (((rd_T61 x5 (wrap64 ((x5.length : Int) - 1))).f0) + ((rd_T61 x5 (wrap64 ((x5.length : Int) - 1))).f1))) = x10 then (impl_merged_at_impl_HolesOf_1.l0 k (x5.set ((wrap64 ((x5.length : Int) - 1)) : Int).toNat (⟨(rd_T61 x5 (wrap64 ((x5.length : Int) - 1))).f0, wrap64 (((rd_T61 x5 (wrap64 ((x5.length : Int) - 1))).f1) + 1)⟩ : S61)) x9 (wrap64 (x10 + 1)) x269000) else (if x5.length < 8796093022208 then (impl_merged_at_impl_HolesOf_1.l0 k (x5 ++ [(⟨x10, 1⟩ : S61)]) x9 (wrap64 (x10 + 1)) x269000) else (none))) else (none)) else (none)) else (if x5.length < 8796093022208 then (impl_merged_at_impl_HolesOf_1.l0 k (x5 ++ [(⟨x10, 1⟩ : S61)]) x9 (wrap64 (x10 + 1)) x269000) else (none))) else (impl_merged_at_impl_HolesOf_1.l0 k x5 x9 (wrap64 (x10 + 1)) x269000))) else (some x5)
def impl_merged_at_impl_HolesOf_1.f (k : Nat) (a0 : Int) (l1_0 : List (S78)) : Option ((List (S61))) := impl_merged_at_impl_HolesOf_1.l0 k (([] : List (S61))) a0 0 l1_0
theorem impl_merged_at_impl_HolesOf_1.mono_l : ∀ k, (∀ y0 y1 y2 y3, LeO (impl_merged_at_impl_HolesOf_1.l0 k y0 y1 y2 y3) (impl_merged_at_impl_HolesOf_1.l0 (k + 1) y0 y1 y2 y3))
 | 0 => fun _ _ _ _ r h => by simp [impl_merged_at_impl_HolesOf_1.l0] at h
 | k + 1 => by
  have ih0 := impl_merged_at_impl_HolesOf_1.mono_l k
  ·
   intro y0 y1 y2 y3
   unfold impl_merged_at_impl_HolesOf_1.l0
   repeat' first
   | (with_reducible exact ih0 _ _ _ _)
   | (with_reducible exact LeO.refl _)
   | (with_reducible exact LeO.none _)
   | (with_reducible refine LeO.ite ?_ ?_)
   | (with_reducible refine LeO.bind ?_ (fun _ => ?_))
   | exact ih0 _ _ _ _
   | exact LeO.none _
   | refine LeO.ite ?_ ?_
   | refine LeO.bind ?_ (fun _ => ?_)
theorem impl_merged_at_impl_HolesOf_1.mono : ∀ a0 a1 k, LeO (impl_merged_at_impl_HolesOf_1.f k a0 a1) (impl_merged_at_impl_HolesOf_1.f (k + 1) a0 a1) := by
 intro a0 a1 k
 have ih0 := impl_merged_at_impl_HolesOf_1.mono_l k
 unfold impl_merged_at_impl_HolesOf_1.f
 repeat' first
   | (with_reducible exact ih0 _ _ _ _)
   | (with_reducible exact LeO.refl _)
   | (with_reducible exact LeO.none _)
   | (with_reducible refine LeO.ite ?_ ?_)
   | (with_reducible refine LeO.bind ?_ (fun _ => ?_))
   | exact ih0 _ _ _ _
   | exact LeO.none _
   | refine LeO.ite ?_ ?_
   | refine LeO.bind ?_ (fun _ => ?_)
set_option maxHeartbeats 8000000 in
set_option maxRecDepth 100000 in
theorem impl_merged_at_impl_HolesOf_1.calls (k : Nat) (a0 : Int) (gx1_0 : Nat) (A1_0 : Option Addr) (c1_0 : Nat) (l1_0 : List (S78)) (r : List (S61)) (w : World) (hr1_0 : Kd.C k78 w A1_0 l1_0.length l1_0) (hc1_0 : l1_0.length ≤ c1_0) (hx1_0 : w.heap[gx1_0]? = some (.cells #[.slice A1_0 l1_0.length c1_0] 79 (0, 0))) (h : impl_merged_at_impl_HolesOf_1.f k a0 l1_0 = some r) :
  Calls Try.prog 58 #[.int .i64 a0, .func (.func 59) #[] #[.pointer (some ⟨gx1_0, 0, none⟩)]] w fun e w' => ∃ v0_ : Value, e = .returned (v0_) ∧ Kd.R k61 61 w' w.heap.size (fun _ => True) v0_ r ∧ Below w.heap.size w w' := by
 have hu61 := Try.underlying61
 have eg59 := fun (args : Array Value) (w : World) => enters_ (P := Try.prog) Try.func59 (by kernel_rfl) rfl args w
 have HR1_0 := Aside0.mk hr1_0
 have HC1_0 := Aside0.mk hc1_0
 clear hr1_0 hc1_0
 have BK268 := Aside0.mk hx1_0
 clear hx1_0
 have HB := Aside0.mk (Below.refl w.heap.size w)
 have H : (impl_merged_at_impl_HolesOf_1.l0 k (([] : List (S61))) a0 0 l1_0) = some r := h
 clear h
 obtain ⟨y269, hy269⟩ : ∃ y_ : List (S61), y_ = (([] : List (S61))) := ⟨_, rfl⟩
 replace H : (impl_merged_at_impl_HolesOf_1.l0 k y269 a0 0 l1_0) = some r := by first | (rw [hy269]; with_reducible exact H) | (have H2_ := (Option.bind_some _ _).symm.trans H; rw [hy269]; with_reducible exact H2_) | (have H2_ := (Option.bind_some _ _).symm.trans H; with_reducible exact H2_) | with_reducible exact H | (rw [hy269]; exact H) | exact H
 have Ny269 := Aside0.mk hy269
 clear hy269
 have H' := Aside0.mk H
 clear H
 go_enter Try.func58, Try.ntmps58
 go_wp2_with (first | ((with_reducible refine gate_dst (N := 8) rfl ?_); refine Kd.R_lit k61 _ 61 ?hg (N := 8) ?hd (xs := ([] : List (S61))) (inner := []) (ok := fun _ => True) (okp := fun _ => True) ?hr ?hp (fun _ hk => hk) trivial (Below.refl _ _) (Nat.le_refl _) (by simp) ?_; (case hd => rfl); (case hg => rfl); (case hr => first | (go_simp; done) | (go_simp; rfl)); (case hp => exact (Reps.none _ _)); intro v270 w3 ho4 hb hg_ hnew_; clear hg_ hnew_; (first | rw [← Ny269.out] at ho4 | (simp only [Int.reduceToNat] at ho4; rw [← Ny269.out] at ho4)); have n0_ := Aside0.mk (Kd.R_lower ho4 (below_size (bs HB))); have n1_ := Aside0.mk (blk_below (g := gx1_0) (o := .cells #[.slice A1_0 l1_0.length c1_0] 79 (0, 0)) (bk BK268) hb); have n2_ := Aside0.mk (below_step (bs HB) hb); clear BK268; clear HB; have HO271 := n0_; have BK268 := n1_; have HB := n2_; clear n0_ n1_ n2_; clear hb ho4))
 repeat (go_quiet (first | ((with_reducible refine gate_dst (N := 8) rfl ?_); refine Kd.R_lit k61 _ 61 ?hg (N := 8) ?hd (xs := ([] : List (S61))) (inner := []) (ok := fun _ => True) (okp := fun _ => True) ?hr ?hp (fun _ hk => hk) trivial (Below.refl _ _) (Nat.le_refl _) (by simp) ?_; (case hd => rfl); (case hg => rfl); (case hr => first | (go_simp; done) | (go_simp; rfl)); (case hp => exact (Reps.none _ _)); intro v270 w3 ho4 hb hg_ hnew_; clear hg_ hnew_; (first | rw [← Ny269.out] at ho4 | (simp only [Int.reduceToNat] at ho4; rw [← Ny269.out] at ho4)); have n0_ := Aside0.mk (Kd.R_lower ho4 (below_size (bs HB))); have n1_ := Aside0.mk (blk_below (g := gx1_0) (o := .cells #[.slice A1_0 l1_0.length c1_0] 79 (0, 0)) (bk BK268) hb); have n2_ := Aside0.mk (below_step (bs HB) hb); clear BK268; clear HB; have HO271 := n0_; have BK268 := n1_; have HB := n2_; clear n0_ n1_ n2_; clear hb ho4)); try go_wp2_with (first | ((with_reducible refine gate_dst (N := 8) rfl ?_); refine Kd.R_lit k61 _ 61 ?hg (N := 8) ?hd (xs := ([] : List (S61))) (inner := []) (ok := fun _ => True) (okp := fun _ => True) ?hr ?hp (fun _ hk => hk) trivial (Below.refl _ _) (Nat.le_refl _) (by simp) ?_; (case hd => rfl); (case hg => rfl); (case hr => first | (go_simp; done) | (go_simp; rfl)); (case hp => exact (Reps.none _ _)); intro v270 w3 ho4 hb hg_ hnew_; clear hg_ hnew_; (first | rw [← Ny269.out] at ho4 | (simp only [Int.reduceToNat] at ho4; rw [← Ny269.out] at ho4)); have n0_ := Aside0.mk (Kd.R_lower ho4 (below_size (bs HB))); have n1_ := Aside0.mk (blk_below (g := gx1_0) (o := .cells #[.slice A1_0 l1_0.length c1_0] 79 (0, 0)) (bk BK268) hb); have n2_ := Aside0.mk (below_step (bs HB) hb); clear BK268; clear HB; have HO271 := n0_; have BK268 := n1_; have HB := n2_; clear n0_ n1_ n2_; clear hb ho4)))
 go_loopg [5, 10] k (fun kq v5 v10 w' => ∃ (x5_1 : List (S61)) (x10_1 : Int), v10 = .int .i64 x10_1 ∧ Aside0 (impl_merged_at_impl_HolesOf_1.l0 kq x5_1 a0 x10_1 l1_0 = some r) ∧ Aside0 (kq ≤ k) ∧ Aside0 (Kd.R k61 61 w' w.heap.size (fun _ => True) v5 x5_1) ∧ Aside0 (w'.heap[gx1_0]? = some (.cells #[(.slice A1_0 l1_0.length c1_0)] 79 (0, 0))) ∧ Aside0 (Below w.heap.size w w'))
 case atStart => exact ⟨(y269), (0), (by first | rfl | (simp; done) | (simp [*]; done)), H', ⟨Nat.le_refl _⟩, ⟨rr HO271.out⟩, ⟨bk BK268⟩, ⟨bs HB⟩⟩
 case round =>
  clear H'
  try clear c1
  try clear hx1
  try clear p2
  try clear hx1_0
  obtain ⟨x5_1, x10_1, rfl, HA, HK1, HO_5, BK268, HB⟩ := hrel
  cases gk with
  | zero => exact absurd HA.out (by simp [impl_merged_at_impl_HolesOf_1.l0])
  | succ k1 =>
   have H := HA.out
   clear HA
   simp only [impl_merged_at_impl_HolesOf_1.l0] at H
   by_cases c5 : x10_1 < a0
   ·
    rw [if_pos c5] at H
    have c5b0 : decide (x10_1 < a0) = true := decide_eq_true c5
    clear c5
    replace H := Option.bind_eq_some_iff.mp H
    obtain ⟨t272, A60, H⟩ := H
    replace H : (if t272 = true then (if (wrap64 ((x5_1.length : Int) - 1)) ≥ 0 then (if 0 ≤ (wrap64 ((x5_1.length : Int) - 1)) then (if (wrap64 ((x5_1.length : Int) - 1)) < (x5_1.length : Int) then (if (wrap64 (((rd_T61 x5_1 (wrap64 ((x5_1.length : Int) - 1))).f0) + ((rd_T61 x5_1 (wrap64 ((x5_1.length : Int) - 1))).f1))) = x10_1 then (impl_merged_at_impl_HolesOf_1.l0 k1 (x5_1.set ((wrap64 ((x5_1.length : Int) - 1)) : Int).toNat (⟨(rd_T61 x5_1 (wrap64 ((x5_1.length : Int) - 1))).f0, wrap64 (((rd_T61 x5_1 (wrap64 ((x5_1.length : Int) - 1))).f1) + 1)⟩ : S61)) a0 (wrap64 (x10_1 + 1)) l1_0) else (if x5_1.length < 8796093022208 then (impl_merged_at_impl_HolesOf_1.l0 k1 (x5_1 ++ [(⟨x10_1, 1⟩ : S61)]) a0 (wrap64 (x10_1 + 1)) l1_0) else (none))) else (none)) else (none)) else (if x5_1.length < 8796093022208 then (impl_merged_at_impl_HolesOf_1.l0 k1 (x5_1 ++ [(⟨x10_1, 1⟩ : S61)]) a0 (wrap64 (x10_1 + 1)) l1_0) else (none))) else (impl_merged_at_impl_HolesOf_1.l0 k1 x5_1 a0 (wrap64 (x10_1 + 1)) l1_0)) = some r := H
    have A6 := Aside0.mk A60
    clear A60
    by_cases c7 : t272 = true
    ·
     subst c7
     rw [if_pos rfl] at H
     by_cases c8 : (wrap64 ((x5_1.length : Int) - 1)) ≥ 0
     ·
      rw [if_pos c8] at H
      have c8b0 : decide (0 ≤ (wrap64 ((x5_1.length : Int) - 1))) = true := decide_eq_true c8
      clear c8
      obtain ⟨ji9, hji9⟩ : ∃ j_ : Int, (wrap64 ((x5_1.length : Int) - 1)) = j_ := ⟨_, rfl⟩
      replace H : (if 0 ≤ (ji9) then (if (ji9) < (x5_1.length : Int) then (if (wrap64 (((rd_T61 x5_1 (ji9)).f0) + ((rd_T61 x5_1 (ji9)).f1))) = x10_1 then (impl_merged_at_impl_HolesOf_1.l0 k1 (x5_1.set ((ji9) : Int).toNat (⟨(rd_T61 x5_1 (ji9)).f0, wrap64 (((rd_T61 x5_1 (ji9)).f1) + 1)⟩ : S61)) a0 (wrap64 (x10_1 + 1)) l1_0) else (if x5_1.length < 8796093022208 then (impl_merged_at_impl_HolesOf_1.l0 k1 (x5_1 ++ [(⟨x10_1, 1⟩ : S61)]) a0 (wrap64 (x10_1 + 1)) l1_0) else (none))) else (none)) else (none)) = some r := by first | (rw [hji9] at H; exact H) | (simp only [hji9] at H ⊢; exact H)
      (try rw [hji9] at c8b0)
      (try rw [hji9] at A6)
      have hji9w : (IntKind.i64.wrap ((x5_1.length : Int) - 1)) = ji9 := (i64_w _).trans hji9
      by_cases c10 : 0 ≤ (ji9)
      ·
       rw [if_pos c10] at H
       have c10b0 : decide (0 ≤ (ji9)) = true := decide_eq_true c10
       clear c10
       by_cases c11 : (ji9) < (x5_1.length : Int)
       ·
        rw [if_pos c11] at H
        have c11b0 : decide ((ji9) < (x5_1.length : Int)) = true := decide_eq_true c11
        clear c11
        by_cases c12 : (wrap64 (((rd_T61 x5_1 (ji9)).f0) + ((rd_T61 x5_1 (ji9)).f1))) = x10_1
        ·
         rw [if_pos c12] at H
         have c12b0 : ((wrap64 (((rd_T61 x5_1 (ji9)).f0) + ((rd_T61 x5_1 (ji9)).f1))) == x10_1) = true := beq_iff_eq.mpr c12
         have c12b1 : ((wrap64 (((rd_T61 x5_1 (ji9)).f0) + ((rd_T61 x5_1 (ji9)).f1))) != x10_1) = false := bne_eq_false_iff_eq.mpr c12
         clear c12
         obtain ⟨y276, hy276⟩ : ∃ y_ : List (S61), y_ = (x5_1.set ((ji9) : Int).toNat (⟨(rd_T61 x5_1 (ji9)).f0, wrap64 (((rd_T61 x5_1 (ji9)).f1) + 1)⟩ : S61)) := ⟨_, rfl⟩
         replace H : (impl_merged_at_impl_HolesOf_1.l0 k1 y276 a0 (wrap64 (x10_1 + 1)) l1_0) = some r := by first | (rw [hy276]; with_reducible exact H) | (have H2_ := (Option.bind_some _ _).symm.trans H; rw [hy276]; with_reducible exact H2_) | (have H2_ := (Option.bind_some _ _).symm.trans H; with_reducible exact H2_) | with_reducible exact H | (rw [hy276]; exact H) | exact H
         have Ny276 := Aside0.mk hy276
         clear hy276
         have H' := Aside0.mk H
         clear H
         go_wp2_with (first | (go_at_call 59; (with_reducible refine (impl_HolesOf_1.calls x10_1 gx1_0 A1_0 c1_0 l1_0 true _ ?side1 ?side2 ?side3 A6.out).mono ?_); (case side1 => exact cb HR1_0 HB); (case side2 => exact HC1_0.out); (case side3 => (with_reducible repeat (first | refine blk_drewN ?_ _ | refine blk_drew ?_ | refine blk_alloc ?_ _)); exact BK268.out); rintro e w' ⟨rfl, ⟨nd, rfl⟩⟩; (try first | exact ⟨rfl, _, World.drewN_drewN _ _ _⟩ | exact ⟨rfl, _, Eq.trans (World.drewN_drewN _ _ _) (congrArg (World.drewN _) (Nat.add_assoc _ _ _))⟩); obtain ⟨Ao14, co14, eo14⟩ := Kd.R_slice HO_5.out; subst eo14; have p273 : 0 ≤ ((ji9) : Int) := of_decide_eq_true (by first | (with_reducible assumption) | assumption); have q273 : (ji9) < (x5_1.length : Int) := of_decide_eq_true (by first | (with_reducible assumption) | assumption); obtain ⟨ad273, e273, hx273_0, hx273_1⟩ := at_T61 (Kd.R_reads' HO_5.out).2.2 (ji9) p273 q273; cases e273; replace p273 := eq_true p273; replace q273 := eq_true q273; have p274 : 0 ≤ ((ji9) : Int) := of_decide_eq_true (by first | (with_reducible assumption) | assumption); have q274 : (ji9) < (x5_1.length : Int) := of_decide_eq_true (by first | (with_reducible assumption) | assumption); obtain ⟨ad274, e274, hx274_0, hx274_1⟩ := at_T61 (Kd.R_reads' HO_5.out).2.2 (ji9) p274 q274; obtain rfl : ad273 = ad274 := (by injection e274); replace p274 := eq_true p274; replace q274 := eq_true q274; have p275 : 0 ≤ ((ji9) : Int) := of_decide_eq_true (by first | (with_reducible assumption) | assumption); have q275 : (ji9) < (x5_1.length : Int) := of_decide_eq_true (by first | (with_reducible assumption) | assumption); obtain ⟨ad275, e275, hx275_0, hx275_1⟩ := at_T61 (Kd.R_reads' HO_5.out).2.2 (ji9) p275 q275; obtain rfl : ad273 = ad275 := (by injection e275); replace p275 := eq_true p275; replace q275 := eq_true q275; have p13 : 0 ≤ ((ji9) : Int) := of_decide_eq_true (by first | (with_reducible assumption) | assumption); have q13 : ((ji9) : Int) < ((x5_1.length : Int) : Int) := of_decide_eq_true (by first | (with_reducible assumption) | assumption); obtain ⟨go13, co13, eo13, gb13, gl13, cl13, HG13⟩ := Kd.R_form HO_5.out (by omega); (first | cases eo13 | (injection eo13 with ea_ en_ ec_; (first | subst ea_ | (injection ea_ with ea_; subst ea_)); subst ec_; clear en_)); have GB13 := Aside0.mk gb13; have GG13 := Aside0.mk HG13; clear gb13 gl13 HG13; (first | simp only [add_plain] at hx273_0 | skip); (first | simp only [add_plain] at hx273_1 | skip); (first | simp only [add_plain] at hx274_0 | skip); (first | simp only [add_plain] at hx274_1 | skip); (first | simp only [add_plain] at hx275_0 | skip); (first | simp only [add_plain] at hx275_1 | skip); obtain ⟨ce13, hcl13, hM13, hcc13, hfr13⟩ := Kd.R_elem HO_5.out z61 ((ji9) : Int) p13 q13; obtain rfl := k61_openM hM13; have hx13_0 : wr.cell? ⟨go13, ((ji9) : Int).toNat * 2, none⟩ = some (.int .i64 ((rd_T61 x5_1 (ji9)).f0)) := hcc13 0 _ rfl; have hx13_1 : wr.cell? ⟨go13, ((ji9) : Int).toNat * 2 + 1, none⟩ = some (.int .i64 ((rd_T61 x5_1 (ji9)).f1)) := hcc13 1 _ rfl; have hf13_0 : wr.frozen? ⟨go13, ((ji9) : Int).toNat * 2, none⟩ = false := hfr13 0; have hf13_1 : wr.frozen? ⟨go13, ((ji9) : Int).toNat * 2 + 1, none⟩ = false := hfr13 1; clear hcl13 hcc13 hfr13 hM13; replace p13 := eq_true p13; replace q13 := eq_true q13; have HX15 := Aside0.mk (show Kd.R k61 61 wr w.heap.size (fun _ => True) (.slice (some ⟨go13, 0, none⟩) x5_1.length co14) x5_1 from (rr HO_5.out)); obtain ⟨ce15, hcl15, hM15, hcc15, hfr15⟩ := Kd.R_elem HX15.out z61 ((ji9) : Int) (of_decide_eq_true (by first | (with_reducible assumption) | assumption)) (by have h_ : ((ji9) : Int) < ((x5_1.length : Int) : Int) := of_decide_eq_true (by first | (with_reducible assumption) | assumption); first | exact h_ | (have e_ := (Kd.R_reads' HO_5.out).1; omega) | simpa using h_); obtain rfl := k61_openM hM15; have HP15 := Kd.R_seg HX15.out ((ji9) : Int) (of_decide_eq_true (by first | (with_reducible assumption) | assumption)) (by have h_ : ((ji9) : Int) < ((x5_1.length : Int) : Int) := of_decide_eq_true (by first | (with_reducible assumption) | assumption); first | exact h_ | (have e_ := (Kd.R_reads' HO_5.out).1; omega) | simpa using h_) (seg := [.int .i64 (wrap64 (((rd_T61 x5_1 (ji9)).f1) + 1))]) (j := 1) hcl15 hcc15 (show 2 ≤ 2 from by decide) (x' := (⟨(rd_T61 x5_1 (ji9)).f0, wrap64 (((rd_T61 x5_1 (ji9)).f1) + 1)⟩ : S61)) (k61_mkM _ _ _ (⟨(rd_T61 x5_1 (ji9)).f0, wrap64 (((rd_T61 x5_1 (ji9)).f1) + 1)⟩ : S61) ) (fun _ hk => hk); have hx15_1 := hcc15 1 _ rfl; (try simp only [show (k61).sz = 2 from rfl, Nat.mul_one, Nat.add_zero] at hx15_1); have hf15_1 := hfr15 1; (try simp only [show (k61).sz = 2 from rfl, Nat.mul_one, Nat.add_zero] at hf15_1); clear hcl15 hcc15 hfr15 hM15) | ((with_reducible refine gate_store (t := 3) (p := 44) rfl ?_); (try (rw [drewN_self wr]; generalize hq_ : World.drewN wr _ = wr; have n0_ := Aside0.mk (Kd.R_at hq_ HO_5.out); have n1_ := Aside0.mk (blk_at hq_ BK268.out); have n2_ := Aside0.mk (below_at hq_ HB.out); clear hq_ HO_5 BK268 HB; have HO_5 := n0_; have BK268 := n1_; have HB := n2_; clear n0_ n1_ n2_; (try (have HX15 := Aside0.mk (show Kd.R k61 61 wr w.heap.size (fun _ => True) (.slice (some ⟨go13, 0, none⟩) x5_1.length co14) x5_1 from (rr HO_5.out)))); (try (obtain ⟨ce15, hcl15, hM15, hcc15, hfr15⟩ := Kd.R_elem HX15.out z61 ((ji9) : Int) (of_decide_eq_true (by first | (with_reducible assumption) | assumption)) (by have h_ : ((ji9) : Int) < ((x5_1.length : Int) : Int) := of_decide_eq_true (by first | (with_reducible assumption) | assumption); first | exact h_ | (have e_ := (Kd.R_reads' HO_5.out).1; omega) | simpa using h_))); (try (obtain rfl := k61_openM hM15)); (try (have HP15 := Kd.R_seg HX15.out ((ji9) : Int) (of_decide_eq_true (by first | (with_reducible assumption) | assumption)) (by have h_ : ((ji9) : Int) < ((x5_1.length : Int) : Int) := of_decide_eq_true (by first | (with_reducible assumption) | assumption); first | exact h_ | (have e_ := (Kd.R_reads' HO_5.out).1; omega) | simpa using h_) (seg := [.int .i64 (wrap64 (((rd_T61 x5_1 (ji9)).f1) + 1))]) (j := 1) hcl15 hcc15 (show 2 ≤ 2 from by decide) (x' := (⟨(rd_T61 x5_1 (ji9)).f0, wrap64 (((rd_T61 x5_1 (ji9)).f1) + 1)⟩ : S61)) (k61_mkM _ _ _ (⟨(rd_T61 x5_1 (ji9)).f0, wrap64 (((rd_T61 x5_1 (ji9)).f1) + 1)⟩ : S61) ) (fun _ hk => hk))); (try (have hx15_1 := hcc15 1 _ rfl)); (try (try simp only [show (k61).sz = 2 from rfl, Nat.mul_one, Nat.add_zero] at hx15_1)); (try (have hf15_1 := hfr15 1)); (try (try simp only [show (k61).sz = 2 from rfl, Nat.mul_one, Nat.add_zero] at hf15_1)); (try (clear hcl15 hcc15 hfr15 hM15)))); refine store_event (t := 3) (p := 44) (v := ?vo_w16) (w1 := (wr.setCell ⟨go13, ((ji9) : Int).toNat * 2 + 1, none⟩ (.int .i64 (wrap64 (((rd_T61 x5_1 (ji9)).f1) + 1))))) ?hg ?ho ?hn ?hr ?_; (case ho => rfl); (case hg => rfl); (case hn => rfl); (case hr => first | (go_simp; done) | (go_simp; rfl)); intro w16 hw; have hg : wr.grownBy w16 (some go13) := (by rw [hw]; exact HP15.2); have hp_ : Kd.R k61 61 w16 w.heap.size (fun _ => True) (.slice (some ⟨go13, 0, none⟩) x5_1.length co14) y276 := (by rw [hw, Ny276.out]; exact HP15.1); clear HP15; have n0_ := Aside0.mk (hp_); have n1_ := Aside0.mk (blk_grown (g := gx1_0) (o := .cells #[.slice A1_0 l1_0.length c1_0] 79 (0, 0)) (bk BK268) hg (Kd.R_ne HO_5.out BK268.out (by decide))); have n2_ := Aside0.mk ((by rw [hw]; exact below_set (HB.out) GB13.out : Below w.heap.size w w16)); clear HO_5; clear BK268; clear HB; have HO_5 := n0_; have BK268 := n1_; have HB := n2_; clear n0_ n1_ n2_; clear hg hw hp_))
         repeat (go_quiet (first | (go_at_call 59; (with_reducible refine (impl_HolesOf_1.calls x10_1 gx1_0 A1_0 c1_0 l1_0 true _ ?side1 ?side2 ?side3 A6.out).mono ?_); (case side1 => exact cb HR1_0 HB); (case side2 => exact HC1_0.out); (case side3 => (with_reducible repeat (first | refine blk_drewN ?_ _ | refine blk_drew ?_ | refine blk_alloc ?_ _)); exact BK268.out); rintro e w' ⟨rfl, ⟨nd, rfl⟩⟩; (try first | exact ⟨rfl, _, World.drewN_drewN _ _ _⟩ | exact ⟨rfl, _, Eq.trans (World.drewN_drewN _ _ _) (congrArg (World.drewN _) (Nat.add_assoc _ _ _))⟩); obtain ⟨Ao14, co14, eo14⟩ := Kd.R_slice HO_5.out; subst eo14; have p273 : 0 ≤ ((ji9) : Int) := of_decide_eq_true (by first | (with_reducible assumption) | assumption); have q273 : (ji9) < (x5_1.length : Int) := of_decide_eq_true (by first | (with_reducible assumption) | assumption); obtain ⟨ad273, e273, hx273_0, hx273_1⟩ := at_T61 (Kd.R_reads' HO_5.out).2.2 (ji9) p273 q273; cases e273; replace p273 := eq_true p273; replace q273 := eq_true q273; have p274 : 0 ≤ ((ji9) : Int) := of_decide_eq_true (by first | (with_reducible assumption) | assumption); have q274 : (ji9) < (x5_1.length : Int) := of_decide_eq_true (by first | (with_reducible assumption) | assumption); obtain ⟨ad274, e274, hx274_0, hx274_1⟩ := at_T61 (Kd.R_reads' HO_5.out).2.2 (ji9) p274 q274; obtain rfl : ad273 = ad274 := (by injection e274); replace p274 := eq_true p274; replace q274 := eq_true q274; have p275 : 0 ≤ ((ji9) : Int) := of_decide_eq_true (by first | (with_reducible assumption) | assumption); have q275 : (ji9) < (x5_1.length : Int) := of_decide_eq_true (by first | (with_reducible assumption) | assumption); obtain ⟨ad275, e275, hx275_0, hx275_1⟩ := at_T61 (Kd.R_reads' HO_5.out).2.2 (ji9) p275 q275; obtain rfl : ad273 = ad275 := (by injection e275); replace p275 := eq_true p275; replace q275 := eq_true q275; have p13 : 0 ≤ ((ji9) : Int) := of_decide_eq_true (by first | (with_reducible assumption) | assumption); have q13 : ((ji9) : Int) < ((x5_1.length : Int) : Int) := of_decide_eq_true (by first | (with_reducible assumption) | assumption); obtain ⟨go13, co13, eo13, gb13, gl13, cl13, HG13⟩ := Kd.R_form HO_5.out (by omega); (first | cases eo13 | (injection eo13 with ea_ en_ ec_; (first | subst ea_ | (injection ea_ with ea_; subst ea_)); subst ec_; clear en_)); have GB13 := Aside0.mk gb13; have GG13 := Aside0.mk HG13; clear gb13 gl13 HG13; (first | simp only [add_plain] at hx273_0 | skip); (first | simp only [add_plain] at hx273_1 | skip); (first | simp only [add_plain] at hx274_0 | skip); (first | simp only [add_plain] at hx274_1 | skip); (first | simp only [add_plain] at hx275_0 | skip); (first | simp only [add_plain] at hx275_1 | skip); obtain ⟨ce13, hcl13, hM13, hcc13, hfr13⟩ := Kd.R_elem HO_5.out z61 ((ji9) : Int) p13 q13; obtain rfl := k61_openM hM13; have hx13_0 : wr.cell? ⟨go13, ((ji9) : Int).toNat * 2, none⟩ = some (.int .i64 ((rd_T61 x5_1 (ji9)).f0)) := hcc13 0 _ rfl; have hx13_1 : wr.cell? ⟨go13, ((ji9) : Int).toNat * 2 + 1, none⟩ = some (.int .i64 ((rd_T61 x5_1 (ji9)).f1)) := hcc13 1 _ rfl; have hf13_0 : wr.frozen? ⟨go13, ((ji9) : Int).toNat * 2, none⟩ = false := hfr13 0; have hf13_1 : wr.frozen? ⟨go13, ((ji9) : Int).toNat * 2 + 1, none⟩ = false := hfr13 1; clear hcl13 hcc13 hfr13 hM13; replace p13 := eq_true p13; replace q13 := eq_true q13; have HX15 := Aside0.mk (show Kd.R k61 61 wr w.heap.size (fun _ => True) (.slice (some ⟨go13, 0, none⟩) x5_1.length co14) x5_1 from (rr HO_5.out)); obtain ⟨ce15, hcl15, hM15, hcc15, hfr15⟩ := Kd.R_elem HX15.out z61 ((ji9) : Int) (of_decide_eq_true (by first | (with_reducible assumption) | assumption)) (by have h_ : ((ji9) : Int) < ((x5_1.length : Int) : Int) := of_decide_eq_true (by first | (with_reducible assumption) | assumption); first | exact h_ | (have e_ := (Kd.R_reads' HO_5.out).1; omega) | simpa using h_); obtain rfl := k61_openM hM15; have HP15 := Kd.R_seg HX15.out ((ji9) : Int) (of_decide_eq_true (by first | (with_reducible assumption) | assumption)) (by have h_ : ((ji9) : Int) < ((x5_1.length : Int) : Int) := of_decide_eq_true (by first | (with_reducible assumption) | assumption); first | exact h_ | (have e_ := (Kd.R_reads' HO_5.out).1; omega) | simpa using h_) (seg := [.int .i64 (wrap64 (((rd_T61 x5_1 (ji9)).f1) + 1))]) (j := 1) hcl15 hcc15 (show 2 ≤ 2 from by decide) (x' := (⟨(rd_T61 x5_1 (ji9)).f0, wrap64 (((rd_T61 x5_1 (ji9)).f1) + 1)⟩ : S61)) (k61_mkM _ _ _ (⟨(rd_T61 x5_1 (ji9)).f0, wrap64 (((rd_T61 x5_1 (ji9)).f1) + 1)⟩ : S61) ) (fun _ hk => hk); have hx15_1 := hcc15 1 _ rfl; (try simp only [show (k61).sz = 2 from rfl, Nat.mul_one, Nat.add_zero] at hx15_1); have hf15_1 := hfr15 1; (try simp only [show (k61).sz = 2 from rfl, Nat.mul_one, Nat.add_zero] at hf15_1); clear hcl15 hcc15 hfr15 hM15) | ((with_reducible refine gate_store (t := 3) (p := 44) rfl ?_); (try (rw [drewN_self wr]; generalize hq_ : World.drewN wr _ = wr; have n0_ := Aside0.mk (Kd.R_at hq_ HO_5.out); have n1_ := Aside0.mk (blk_at hq_ BK268.out); have n2_ := Aside0.mk (below_at hq_ HB.out); clear hq_ HO_5 BK268 HB; have HO_5 := n0_; have BK268 := n1_; have HB := n2_; clear n0_ n1_ n2_; (try (have HX15 := Aside0.mk (show Kd.R k61 61 wr w.heap.size (fun _ => True) (.slice (some ⟨go13, 0, none⟩) x5_1.length co14) x5_1 from (rr HO_5.out)))); (try (obtain ⟨ce15, hcl15, hM15, hcc15, hfr15⟩ := Kd.R_elem HX15.out z61 ((ji9) : Int) (of_decide_eq_true (by first | (with_reducible assumption) | assumption)) (by have h_ : ((ji9) : Int) < ((x5_1.length : Int) : Int) := of_decide_eq_true (by first | (with_reducible assumption) | assumption); first | exact h_ | (have e_ := (Kd.R_reads' HO_5.out).1; omega) | simpa using h_))); (try (obtain rfl := k61_openM hM15)); (try (have HP15 := Kd.R_seg HX15.out ((ji9) : Int) (of_decide_eq_true (by first | (with_reducible assumption) | assumption)) (by have h_ : ((ji9) : Int) < ((x5_1.length : Int) : Int) := of_decide_eq_true (by first | (with_reducible assumption) | assumption); first | exact h_ | (have e_ := (Kd.R_reads' HO_5.out).1; omega) | simpa using h_) (seg := [.int .i64 (wrap64 (((rd_T61 x5_1 (ji9)).f1) + 1))]) (j := 1) hcl15 hcc15 (show 2 ≤ 2 from by decide) (x' := (⟨(rd_T61 x5_1 (ji9)).f0, wrap64 (((rd_T61 x5_1 (ji9)).f1) + 1)⟩ : S61)) (k61_mkM _ _ _ (⟨(rd_T61 x5_1 (ji9)).f0, wrap64 (((rd_T61 x5_1 (ji9)).f1) + 1)⟩ : S61) ) (fun _ hk => hk))); (try (have hx15_1 := hcc15 1 _ rfl)); (try (try simp only [show (k61).sz = 2 from rfl, Nat.mul_one, Nat.add_zero] at hx15_1)); (try (have hf15_1 := hfr15 1)); (try (try simp only [show (k61).sz = 2 from rfl, Nat.mul_one, Nat.add_zero] at hf15_1)); (try (clear hcl15 hcc15 hfr15 hM15)))); refine store_event (t := 3) (p := 44) (v := ?vo_w16) (w1 := (wr.setCell ⟨go13, ((ji9) : Int).toNat * 2 + 1, none⟩ (.int .i64 (wrap64 (((rd_T61 x5_1 (ji9)).f1) + 1))))) ?hg ?ho ?hn ?hr ?_; (case ho => rfl); (case hg => rfl); (case hn => rfl); (case hr => first | (go_simp; done) | (go_simp; rfl)); intro w16 hw; have hg : wr.grownBy w16 (some go13) := (by rw [hw]; exact HP15.2); have hp_ : Kd.R k61 61 w16 w.heap.size (fun _ => True) (.slice (some ⟨go13, 0, none⟩) x5_1.length co14) y276 := (by rw [hw, Ny276.out]; exact HP15.1); clear HP15; have n0_ := Aside0.mk (hp_); have n1_ := Aside0.mk (blk_grown (g := gx1_0) (o := .cells #[.slice A1_0 l1_0.length c1_0] 79 (0, 0)) (bk BK268) hg (Kd.R_ne HO_5.out BK268.out (by decide))); have n2_ := Aside0.mk ((by rw [hw]; exact below_set (HB.out) GB13.out : Below w.heap.size w w16)); clear HO_5; clear BK268; clear HB; have HO_5 := n0_; have BK268 := n1_; have HB := n2_; clear n0_ n1_ n2_; clear hg hw hp_)); try go_wp2_with (first | (go_at_call 59; (with_reducible refine (impl_HolesOf_1.calls x10_1 gx1_0 A1_0 c1_0 l1_0 true _ ?side1 ?side2 ?side3 A6.out).mono ?_); (case side1 => exact cb HR1_0 HB); (case side2 => exact HC1_0.out); (case side3 => (with_reducible repeat (first | refine blk_drewN ?_ _ | refine blk_drew ?_ | refine blk_alloc ?_ _)); exact BK268.out); rintro e w' ⟨rfl, ⟨nd, rfl⟩⟩; (try first | exact ⟨rfl, _, World.drewN_drewN _ _ _⟩ | exact ⟨rfl, _, Eq.trans (World.drewN_drewN _ _ _) (congrArg (World.drewN _) (Nat.add_assoc _ _ _))⟩); obtain ⟨Ao14, co14, eo14⟩ := Kd.R_slice HO_5.out; subst eo14; have p273 : 0 ≤ ((ji9) : Int) := of_decide_eq_true (by first | (with_reducible assumption) | assumption); have q273 : (ji9) < (x5_1.length : Int) := of_decide_eq_true (by first | (with_reducible assumption) | assumption); obtain ⟨ad273, e273, hx273_0, hx273_1⟩ := at_T61 (Kd.R_reads' HO_5.out).2.2 (ji9) p273 q273; cases e273; replace p273 := eq_true p273; replace q273 := eq_true q273; have p274 : 0 ≤ ((ji9) : Int) := of_decide_eq_true (by first | (with_reducible assumption) | assumption); have q274 : (ji9) < (x5_1.length : Int) := of_decide_eq_true (by first | (with_reducible assumption) | assumption); obtain ⟨ad274, e274, hx274_0, hx274_1⟩ := at_T61 (Kd.R_reads' HO_5.out).2.2 (ji9) p274 q274; obtain rfl : ad273 = ad274 := (by injection e274); replace p274 := eq_true p274; replace q274 := eq_true q274; have p275 : 0 ≤ ((ji9) : Int) := of_decide_eq_true (by first | (with_reducible assumption) | assumption); have q275 : (ji9) < (x5_1.length : Int) := of_decide_eq_true (by first | (with_reducible assumption) | assumption); obtain ⟨ad275, e275, hx275_0, hx275_1⟩ := at_T61 (Kd.R_reads' HO_5.out).2.2 (ji9) p275 q275; obtain rfl : ad273 = ad275 := (by injection e275); replace p275 := eq_true p275; replace q275 := eq_true q275; have p13 : 0 ≤ ((ji9) : Int) := of_decide_eq_true (by first | (with_reducible assumption) | assumption); have q13 : ((ji9) : Int) < ((x5_1.length : Int) : Int) := of_decide_eq_true (by first | (with_reducible assumption) | assumption); obtain ⟨go13, co13, eo13, gb13, gl13, cl13, HG13⟩ := Kd.R_form HO_5.out (by omega); (first | cases eo13 | (injection eo13 with ea_ en_ ec_; (first | subst ea_ | (injection ea_ with ea_; subst ea_)); subst ec_; clear en_)); have GB13 := Aside0.mk gb13; have GG13 := Aside0.mk HG13; clear gb13 gl13 HG13; (first | simp only [add_plain] at hx273_0 | skip); (first | simp only [add_plain] at hx273_1 | skip); (first | simp only [add_plain] at hx274_0 | skip); (first | simp only [add_plain] at hx274_1 | skip); (first | simp only [add_plain] at hx275_0 | skip); (first | simp only [add_plain] at hx275_1 | skip); obtain ⟨ce13, hcl13, hM13, hcc13, hfr13⟩ := Kd.R_elem HO_5.out z61 ((ji9) : Int) p13 q13; obtain rfl := k61_openM hM13; have hx13_0 : wr.cell? ⟨go13, ((ji9) : Int).toNat * 2, none⟩ = some (.int .i64 ((rd_T61 x5_1 (ji9)).f0)) := hcc13 0 _ rfl; have hx13_1 : wr.cell? ⟨go13, ((ji9) : Int).toNat * 2 + 1, none⟩ = some (.int .i64 ((rd_T61 x5_1 (ji9)).f1)) := hcc13 1 _ rfl; have hf13_0 : wr.frozen? ⟨go13, ((ji9) : Int).toNat * 2, none⟩ = false := hfr13 0; have hf13_1 : wr.frozen? ⟨go13, ((ji9) : Int).toNat * 2 + 1, none⟩ = false := hfr13 1; clear hcl13 hcc13 hfr13 hM13; replace p13 := eq_true p13; replace q13 := eq_true q13; have HX15 := Aside0.mk (show Kd.R k61 61 wr w.heap.size (fun _ => True) (.slice (some ⟨go13, 0, none⟩) x5_1.length co14) x5_1 from (rr HO_5.out)); obtain ⟨ce15, hcl15, hM15, hcc15, hfr15⟩ := Kd.R_elem HX15.out z61 ((ji9) : Int) (of_decide_eq_true (by first | (with_reducible assumption) | assumption)) (by have h_ : ((ji9) : Int) < ((x5_1.length : Int) : Int) := of_decide_eq_true (by first | (with_reducible assumption) | assumption); first | exact h_ | (have e_ := (Kd.R_reads' HO_5.out).1; omega) | simpa using h_); obtain rfl := k61_openM hM15; have HP15 := Kd.R_seg HX15.out ((ji9) : Int) (of_decide_eq_true (by first | (with_reducible assumption) | assumption)) (by have h_ : ((ji9) : Int) < ((x5_1.length : Int) : Int) := of_decide_eq_true (by first | (with_reducible assumption) | assumption); first | exact h_ | (have e_ := (Kd.R_reads' HO_5.out).1; omega) | simpa using h_) (seg := [.int .i64 (wrap64 (((rd_T61 x5_1 (ji9)).f1) + 1))]) (j := 1) hcl15 hcc15 (show 2 ≤ 2 from by decide) (x' := (⟨(rd_T61 x5_1 (ji9)).f0, wrap64 (((rd_T61 x5_1 (ji9)).f1) + 1)⟩ : S61)) (k61_mkM _ _ _ (⟨(rd_T61 x5_1 (ji9)).f0, wrap64 (((rd_T61 x5_1 (ji9)).f1) + 1)⟩ : S61) ) (fun _ hk => hk); have hx15_1 := hcc15 1 _ rfl; (try simp only [show (k61).sz = 2 from rfl, Nat.mul_one, Nat.add_zero] at hx15_1); have hf15_1 := hfr15 1; (try simp only [show (k61).sz = 2 from rfl, Nat.mul_one, Nat.add_zero] at hf15_1); clear hcl15 hcc15 hfr15 hM15) | ((with_reducible refine gate_store (t := 3) (p := 44) rfl ?_); (try (rw [drewN_self wr]; generalize hq_ : World.drewN wr _ = wr; have n0_ := Aside0.mk (Kd.R_at hq_ HO_5.out); have n1_ := Aside0.mk (blk_at hq_ BK268.out); have n2_ := Aside0.mk (below_at hq_ HB.out); clear hq_ HO_5 BK268 HB; have HO_5 := n0_; have BK268 := n1_; have HB := n2_; clear n0_ n1_ n2_; (try (have HX15 := Aside0.mk (show Kd.R k61 61 wr w.heap.size (fun _ => True) (.slice (some ⟨go13, 0, none⟩) x5_1.length co14) x5_1 from (rr HO_5.out)))); (try (obtain ⟨ce15, hcl15, hM15, hcc15, hfr15⟩ := Kd.R_elem HX15.out z61 ((ji9) : Int) (of_decide_eq_true (by first | (with_reducible assumption) | assumption)) (by have h_ : ((ji9) : Int) < ((x5_1.length : Int) : Int) := of_decide_eq_true (by first | (with_reducible assumption) | assumption); first | exact h_ | (have e_ := (Kd.R_reads' HO_5.out).1; omega) | simpa using h_))); (try (obtain rfl := k61_openM hM15)); (try (have HP15 := Kd.R_seg HX15.out ((ji9) : Int) (of_decide_eq_true (by first | (with_reducible assumption) | assumption)) (by have h_ : ((ji9) : Int) < ((x5_1.length : Int) : Int) := of_decide_eq_true (by first | (with_reducible assumption) | assumption); first | exact h_ | (have e_ := (Kd.R_reads' HO_5.out).1; omega) | simpa using h_) (seg := [.int .i64 (wrap64 (((rd_T61 x5_1 (ji9)).f1) + 1))]) (j := 1) hcl15 hcc15 (show 2 ≤ 2 from by decide) (x' := (⟨(rd_T61 x5_1 (ji9)).f0, wrap64 (((rd_T61 x5_1 (ji9)).f1) + 1)⟩ : S61)) (k61_mkM _ _ _ (⟨(rd_T61 x5_1 (ji9)).f0, wrap64 (((rd_T61 x5_1 (ji9)).f1) + 1)⟩ : S61) ) (fun _ hk => hk))); (try (have hx15_1 := hcc15 1 _ rfl)); (try (try simp only [show (k61).sz = 2 from rfl, Nat.mul_one, Nat.add_zero] at hx15_1)); (try (have hf15_1 := hfr15 1)); (try (try simp only [show (k61).sz = 2 from rfl, Nat.mul_one, Nat.add_zero] at hf15_1)); (try (clear hcl15 hcc15 hfr15 hM15)))); refine store_event (t := 3) (p := 44) (v := ?vo_w16) (w1 := (wr.setCell ⟨go13, ((ji9) : Int).toNat * 2 + 1, none⟩ (.int .i64 (wrap64 (((rd_T61 x5_1 (ji9)).f1) + 1))))) ?hg ?ho ?hn ?hr ?_; (case ho => rfl); (case hg => rfl); (case hn => rfl); (case hr => first | (go_simp; done) | (go_simp; rfl)); intro w16 hw; have hg : wr.grownBy w16 (some go13) := (by rw [hw]; exact HP15.2); have hp_ : Kd.R k61 61 w16 w.heap.size (fun _ => True) (.slice (some ⟨go13, 0, none⟩) x5_1.length co14) y276 := (by rw [hw, Ny276.out]; exact HP15.1); clear HP15; have n0_ := Aside0.mk (hp_); have n1_ := Aside0.mk (blk_grown (g := gx1_0) (o := .cells #[.slice A1_0 l1_0.length c1_0] 79 (0, 0)) (bk BK268) hg (Kd.R_ne HO_5.out BK268.out (by decide))); have n2_ := Aside0.mk ((by rw [hw]; exact below_set (HB.out) GB13.out : Below w.heap.size w w16)); clear HO_5; clear BK268; clear HB; have HO_5 := n0_; have BK268 := n1_; have HB := n2_; clear n0_ n1_ n2_; clear hg hw hp_)))
         go_roundg k1
         case measure => have := HK1.out; omega
         case rel => exact ⟨(y276), (wrap64 (x10_1 + 1)), (by first | rfl | (simp; done) | (simp [*]; done)), H', ⟨by have := HK1.out; omega⟩, ⟨rr HO_5.out⟩, ⟨bk BK268⟩, ⟨bs HB⟩⟩
        ·
         rw [if_neg c12] at H
         have c12b0 : ((wrap64 (((rd_T61 x5_1 (ji9)).f0) + ((rd_T61 x5_1 (ji9)).f1))) == x10_1) = false := beq_eq_false_iff_ne.mpr c12
         have c12b1 : ((wrap64 (((rd_T61 x5_1 (ji9)).f0) + ((rd_T61 x5_1 (ji9)).f1))) != x10_1) = true := bne_iff_ne.mpr c12
         by_cases c17 : x5_1.length < 8796093022208
         ·
          rw [if_pos c17] at H
          have LMc17 := Aside0.mk c17
          clear c17
          obtain ⟨y277, hy277⟩ : ∃ y_ : List (S61), y_ = (x5_1 ++ [(⟨x10_1, 1⟩ : S61)]) := ⟨_, rfl⟩
          replace H : (impl_merged_at_impl_HolesOf_1.l0 k1 y277 a0 (wrap64 (x10_1 + 1)) l1_0) = some r := by first | (rw [hy277]; with_reducible exact H) | (have H2_ := (Option.bind_some _ _).symm.trans H; rw [hy277]; with_reducible exact H2_) | (have H2_ := (Option.bind_some _ _).symm.trans H; with_reducible exact H2_) | with_reducible exact H | (rw [hy277]; exact H) | exact H
          have Ny277 := Aside0.mk hy277
          clear hy277
          have H' := Aside0.mk H
          clear H
          go_wp2_with (first | (go_at_call 59; (with_reducible refine (impl_HolesOf_1.calls x10_1 gx1_0 A1_0 c1_0 l1_0 true _ ?side1 ?side2 ?side3 A6.out).mono ?_); (case side1 => exact cb HR1_0 HB); (case side2 => exact HC1_0.out); (case side3 => (with_reducible repeat (first | refine blk_drewN ?_ _ | refine blk_drew ?_ | refine blk_alloc ?_ _)); exact BK268.out); rintro e w' ⟨rfl, ⟨nd, rfl⟩⟩; (try first | exact ⟨rfl, _, World.drewN_drewN _ _ _⟩ | exact ⟨rfl, _, Eq.trans (World.drewN_drewN _ _ _) (congrArg (World.drewN _) (Nat.add_assoc _ _ _))⟩); obtain ⟨Ao18, co18, eo18⟩ := Kd.R_slice HO_5.out; subst eo18; have p273 : 0 ≤ ((ji9) : Int) := of_decide_eq_true (by first | (with_reducible assumption) | assumption); have q273 : (ji9) < (x5_1.length : Int) := of_decide_eq_true (by first | (with_reducible assumption) | assumption); obtain ⟨ad273, e273, hx273_0, hx273_1⟩ := at_T61 (Kd.R_reads' HO_5.out).2.2 (ji9) p273 q273; cases e273; replace p273 := eq_true p273; replace q273 := eq_true q273; have p274 : 0 ≤ ((ji9) : Int) := of_decide_eq_true (by first | (with_reducible assumption) | assumption); have q274 : (ji9) < (x5_1.length : Int) := of_decide_eq_true (by first | (with_reducible assumption) | assumption); obtain ⟨ad274, e274, hx274_0, hx274_1⟩ := at_T61 (Kd.R_reads' HO_5.out).2.2 (ji9) p274 q274; obtain rfl : ad273 = ad274 := (by injection e274); replace p274 := eq_true p274; replace q274 := eq_true q274) | ((with_reducible refine gate_builtin (b := .append) (xs := #[.tmp 45, .tmp 48]) rfl ?_); at_builtin; refine Kd.R_append k61 (w0 := w) w.heap.size rfl (.tmp 45) (.tmp 48) 38 61 (.agg #[(.int .i64 0), (.int .i64 0)]) 16 rfl Try.underlying38 info61 rfl (by decide) (by omega) (.slice (some ad273) x5_1.length co18) x5_1 (⟨x10_1, 1⟩ : S61) [.int .i64 x10_1, .int .i64 1] (fun _ => True) (fun _ => False) rfl rfl ?aP (fun _ hk => hk.elim) ?aF ?aO ?aB ?aS ?aL ?_; (case aP => exact k61_mkM _ _ _ (⟨x10_1, 1⟩ : S61)); (case aB => exact (bs HB)); (case aF => exact (fun _ _ => trivial)); (case aO => exact (rr HO_5.out)); (case aS => exact (below_size (bs HB))); (case aL => have := LMc17.out; omega); intro v278 w19 ho hb hg hat; rw [← Ny277.out] at ho; have n0_ := Aside0.mk (blk_grown (g := gx1_0) (o := .cells #[.slice A1_0 l1_0.length c1_0] 79 (0, 0)) (bk BK268) hg (Kd.R_ne HO_5.out BK268.out (by decide))); have n1_ := Aside0.mk (hb); have n2_ := Aside0.mk (ho); clear BK268; clear HB; clear HO_5; have BK268 := n0_; have HB := n1_; have HO279 := n2_; clear n0_ n1_ n2_; clear ho hb hg hat))
          repeat (go_quiet (first | (go_at_call 59; (with_reducible refine (impl_HolesOf_1.calls x10_1 gx1_0 A1_0 c1_0 l1_0 true _ ?side1 ?side2 ?side3 A6.out).mono ?_); (case side1 => exact cb HR1_0 HB); (case side2 => exact HC1_0.out); (case side3 => (with_reducible repeat (first | refine blk_drewN ?_ _ | refine blk_drew ?_ | refine blk_alloc ?_ _)); exact BK268.out); rintro e w' ⟨rfl, ⟨nd, rfl⟩⟩; (try first | exact ⟨rfl, _, World.drewN_drewN _ _ _⟩ | exact ⟨rfl, _, Eq.trans (World.drewN_drewN _ _ _) (congrArg (World.drewN _) (Nat.add_assoc _ _ _))⟩); obtain ⟨Ao18, co18, eo18⟩ := Kd.R_slice HO_5.out; subst eo18; have p273 : 0 ≤ ((ji9) : Int) := of_decide_eq_true (by first | (with_reducible assumption) | assumption); have q273 : (ji9) < (x5_1.length : Int) := of_decide_eq_true (by first | (with_reducible assumption) | assumption); obtain ⟨ad273, e273, hx273_0, hx273_1⟩ := at_T61 (Kd.R_reads' HO_5.out).2.2 (ji9) p273 q273; cases e273; replace p273 := eq_true p273; replace q273 := eq_true q273; have p274 : 0 ≤ ((ji9) : Int) := of_decide_eq_true (by first | (with_reducible assumption) | assumption); have q274 : (ji9) < (x5_1.length : Int) := of_decide_eq_true (by first | (with_reducible assumption) | assumption); obtain ⟨ad274, e274, hx274_0, hx274_1⟩ := at_T61 (Kd.R_reads' HO_5.out).2.2 (ji9) p274 q274; obtain rfl : ad273 = ad274 := (by injection e274); replace p274 := eq_true p274; replace q274 := eq_true q274) | ((with_reducible refine gate_builtin (b := .append) (xs := #[.tmp 45, .tmp 48]) rfl ?_); at_builtin; refine Kd.R_append k61 (w0 := w) w.heap.size rfl (.tmp 45) (.tmp 48) 38 61 (.agg #[(.int .i64 0), (.int .i64 0)]) 16 rfl Try.underlying38 info61 rfl (by decide) (by omega) (.slice (some ad273) x5_1.length co18) x5_1 (⟨x10_1, 1⟩ : S61) [.int .i64 x10_1, .int .i64 1] (fun _ => True) (fun _ => False) rfl rfl ?aP (fun _ hk => hk.elim) ?aF ?aO ?aB ?aS ?aL ?_; (case aP => exact k61_mkM _ _ _ (⟨x10_1, 1⟩ : S61)); (case aB => exact (bs HB)); (case aF => exact (fun _ _ => trivial)); (case aO => exact (rr HO_5.out)); (case aS => exact (below_size (bs HB))); (case aL => have := LMc17.out; omega); intro v278 w19 ho hb hg hat; rw [← Ny277.out] at ho; have n0_ := Aside0.mk (blk_grown (g := gx1_0) (o := .cells #[.slice A1_0 l1_0.length c1_0] 79 (0, 0)) (bk BK268) hg (Kd.R_ne HO_5.out BK268.out (by decide))); have n1_ := Aside0.mk (hb); have n2_ := Aside0.mk (ho); clear BK268; clear HB; clear HO_5; have BK268 := n0_; have HB := n1_; have HO279 := n2_; clear n0_ n1_ n2_; clear ho hb hg hat)); try go_wp2_with (first | (go_at_call 59; (with_reducible refine (impl_HolesOf_1.calls x10_1 gx1_0 A1_0 c1_0 l1_0 true _ ?side1 ?side2 ?side3 A6.out).mono ?_); (case side1 => exact cb HR1_0 HB); (case side2 => exact HC1_0.out); (case side3 => (with_reducible repeat (first | refine blk_drewN ?_ _ | refine blk_drew ?_ | refine blk_alloc ?_ _)); exact BK268.out); rintro e w' ⟨rfl, ⟨nd, rfl⟩⟩; (try first | exact ⟨rfl, _, World.drewN_drewN _ _ _⟩ | exact ⟨rfl, _, Eq.trans (World.drewN_drewN _ _ _) (congrArg (World.drewN _) (Nat.add_assoc _ _ _))⟩); obtain ⟨Ao18, co18, eo18⟩ := Kd.R_slice HO_5.out; subst eo18; have p273 : 0 ≤ ((ji9) : Int) := of_decide_eq_true (by first | (with_reducible assumption) | assumption); have q273 : (ji9) < (x5_1.length : Int) := of_decide_eq_true (by first | (with_reducible assumption) | assumption); obtain ⟨ad273, e273, hx273_0, hx273_1⟩ := at_T61 (Kd.R_reads' HO_5.out).2.2 (ji9) p273 q273; cases e273; replace p273 := eq_true p273; replace q273 := eq_true q273; have p274 : 0 ≤ ((ji9) : Int) := of_decide_eq_true (by first | (with_reducible assumption) | assumption); have q274 : (ji9) < (x5_1.length : Int) := of_decide_eq_true (by first | (with_reducible assumption) | assumption); obtain ⟨ad274, e274, hx274_0, hx274_1⟩ := at_T61 (Kd.R_reads' HO_5.out).2.2 (ji9) p274 q274; obtain rfl : ad273 = ad274 := (by injection e274); replace p274 := eq_true p274; replace q274 := eq_true q274) | ((with_reducible refine gate_builtin (b := .append) (xs := #[.tmp 45, .tmp 48]) rfl ?_); at_builtin; refine Kd.R_append k61 (w0 := w) w.heap.size rfl (.tmp 45) (.tmp 48) 38 61 (.agg #[(.int .i64 0), (.int .i64 0)]) 16 rfl Try.underlying38 info61 rfl (by decide) (by omega) (.slice (some ad273) x5_1.length co18) x5_1 (⟨x10_1, 1⟩ : S61) [.int .i64 x10_1, .int .i64 1] (fun _ => True) (fun _ => False) rfl rfl ?aP (fun _ hk => hk.elim) ?aF ?aO ?aB ?aS ?aL ?_; (case aP => exact k61_mkM _ _ _ (⟨x10_1, 1⟩ : S61)); (case aB => exact (bs HB)); (case aF => exact (fun _ _ => trivial)); (case aO => exact (rr HO_5.out)); (case aS => exact (below_size (bs HB))); (case aL => have := LMc17.out; omega); intro v278 w19 ho hb hg hat; rw [← Ny277.out] at ho; have n0_ := Aside0.mk (blk_grown (g := gx1_0) (o := .cells #[.slice A1_0 l1_0.length c1_0] 79 (0, 0)) (bk BK268) hg (Kd.R_ne HO_5.out BK268.out (by decide))); have n1_ := Aside0.mk (hb); have n2_ := Aside0.mk (ho); clear BK268; clear HB; clear HO_5; have BK268 := n0_; have HB := n1_; have HO279 := n2_; clear n0_ n1_ n2_; clear ho hb hg hat)))
          go_roundg k1
          case measure => have := HK1.out; omega
          case rel => exact ⟨(y277), (wrap64 (x10_1 + 1)), (by first | rfl | (simp; done) | (simp [*]; done)), H', ⟨by have := HK1.out; omega⟩, ⟨rr HO279.out⟩, ⟨bk BK268⟩, ⟨bs HB⟩⟩
         ·
          rw [if_neg c17] at H
          exact absurd H (by simp)
       ·
        rw [if_neg c11] at H
        exact absurd H (by simp)
      ·
       rw [if_neg c10] at H
       exact absurd H (by simp)
     ·
      rw [if_neg c8] at H
      have c8b0 : decide (0 ≤ (wrap64 ((x5_1.length : Int) - 1))) = false := decide_eq_false c8
      clear c8
      by_cases c20 : x5_1.length < 8796093022208
      ·
       rw [if_pos c20] at H
       have LMc20 := Aside0.mk c20
       clear c20
       obtain ⟨y280, hy280⟩ : ∃ y_ : List (S61), y_ = (x5_1 ++ [(⟨x10_1, 1⟩ : S61)]) := ⟨_, rfl⟩
       replace H : (impl_merged_at_impl_HolesOf_1.l0 k1 y280 a0 (wrap64 (x10_1 + 1)) l1_0) = some r := by first | (rw [hy280]; with_reducible exact H) | (have H2_ := (Option.bind_some _ _).symm.trans H; rw [hy280]; with_reducible exact H2_) | (have H2_ := (Option.bind_some _ _).symm.trans H; with_reducible exact H2_) | with_reducible exact H | (rw [hy280]; exact H) | exact H
       have Ny280 := Aside0.mk hy280
       clear hy280
       have H' := Aside0.mk H
       clear H
       go_wp2_with (first | (go_at_call 59; (with_reducible refine (impl_HolesOf_1.calls x10_1 gx1_0 A1_0 c1_0 l1_0 true _ ?side1 ?side2 ?side3 A6.out).mono ?_); (case side1 => exact cb HR1_0 HB); (case side2 => exact HC1_0.out); (case side3 => (with_reducible repeat (first | refine blk_drewN ?_ _ | refine blk_drew ?_ | refine blk_alloc ?_ _)); exact BK268.out); rintro e w' ⟨rfl, ⟨nd, rfl⟩⟩; (try first | exact ⟨rfl, _, World.drewN_drewN _ _ _⟩ | exact ⟨rfl, _, Eq.trans (World.drewN_drewN _ _ _) (congrArg (World.drewN _) (Nat.add_assoc _ _ _))⟩); obtain ⟨Ao21, co21, eo21⟩ := Kd.R_slice HO_5.out; subst eo21) | ((with_reducible refine gate_builtin (b := .append) (xs := #[.tmp 45, .tmp 48]) rfl ?_); at_builtin; refine Kd.R_append k61 (w0 := w) w.heap.size rfl (.tmp 45) (.tmp 48) 38 61 (.agg #[(.int .i64 0), (.int .i64 0)]) 16 rfl Try.underlying38 info61 rfl (by decide) (by omega) (.slice Ao21 x5_1.length co21) x5_1 (⟨x10_1, 1⟩ : S61) [.int .i64 x10_1, .int .i64 1] (fun _ => True) (fun _ => False) rfl rfl ?aP (fun _ hk => hk.elim) ?aF ?aO ?aB ?aS ?aL ?_; (case aP => exact k61_mkM _ _ _ (⟨x10_1, 1⟩ : S61)); (case aB => exact (bs HB)); (case aF => exact (fun _ _ => trivial)); (case aO => exact (rr HO_5.out)); (case aS => exact (below_size (bs HB))); (case aL => have := LMc20.out; omega); intro v281 w22 ho hb hg hat; rw [← Ny280.out] at ho; have n0_ := Aside0.mk (blk_grown (g := gx1_0) (o := .cells #[.slice A1_0 l1_0.length c1_0] 79 (0, 0)) (bk BK268) hg (Kd.R_ne HO_5.out BK268.out (by decide))); have n1_ := Aside0.mk (hb); have n2_ := Aside0.mk (ho); clear BK268; clear HB; clear HO_5; have BK268 := n0_; have HB := n1_; have HO282 := n2_; clear n0_ n1_ n2_; clear ho hb hg hat))
       repeat (go_quiet (first | (go_at_call 59; (with_reducible refine (impl_HolesOf_1.calls x10_1 gx1_0 A1_0 c1_0 l1_0 true _ ?side1 ?side2 ?side3 A6.out).mono ?_); (case side1 => exact cb HR1_0 HB); (case side2 => exact HC1_0.out); (case side3 => (with_reducible repeat (first | refine blk_drewN ?_ _ | refine blk_drew ?_ | refine blk_alloc ?_ _)); exact BK268.out); rintro e w' ⟨rfl, ⟨nd, rfl⟩⟩; (try first | exact ⟨rfl, _, World.drewN_drewN _ _ _⟩ | exact ⟨rfl, _, Eq.trans (World.drewN_drewN _ _ _) (congrArg (World.drewN _) (Nat.add_assoc _ _ _))⟩); obtain ⟨Ao21, co21, eo21⟩ := Kd.R_slice HO_5.out; subst eo21) | ((with_reducible refine gate_builtin (b := .append) (xs := #[.tmp 45, .tmp 48]) rfl ?_); at_builtin; refine Kd.R_append k61 (w0 := w) w.heap.size rfl (.tmp 45) (.tmp 48) 38 61 (.agg #[(.int .i64 0), (.int .i64 0)]) 16 rfl Try.underlying38 info61 rfl (by decide) (by omega) (.slice Ao21 x5_1.length co21) x5_1 (⟨x10_1, 1⟩ : S61) [.int .i64 x10_1, .int .i64 1] (fun _ => True) (fun _ => False) rfl rfl ?aP (fun _ hk => hk.elim) ?aF ?aO ?aB ?aS ?aL ?_; (case aP => exact k61_mkM _ _ _ (⟨x10_1, 1⟩ : S61)); (case aB => exact (bs HB)); (case aF => exact (fun _ _ => trivial)); (case aO => exact (rr HO_5.out)); (case aS => exact (below_size (bs HB))); (case aL => have := LMc20.out; omega); intro v281 w22 ho hb hg hat; rw [← Ny280.out] at ho; have n0_ := Aside0.mk (blk_grown (g := gx1_0) (o := .cells #[.slice A1_0 l1_0.length c1_0] 79 (0, 0)) (bk BK268) hg (Kd.R_ne HO_5.out BK268.out (by decide))); have n1_ := Aside0.mk (hb); have n2_ := Aside0.mk (ho); clear BK268; clear HB; clear HO_5; have BK268 := n0_; have HB := n1_; have HO282 := n2_; clear n0_ n1_ n2_; clear ho hb hg hat)); try go_wp2_with (first | (go_at_call 59; (with_reducible refine (impl_HolesOf_1.calls x10_1 gx1_0 A1_0 c1_0 l1_0 true _ ?side1 ?side2 ?side3 A6.out).mono ?_); (case side1 => exact cb HR1_0 HB); (case side2 => exact HC1_0.out); (case side3 => (with_reducible repeat (first | refine blk_drewN ?_ _ | refine blk_drew ?_ | refine blk_alloc ?_ _)); exact BK268.out); rintro e w' ⟨rfl, ⟨nd, rfl⟩⟩; (try first | exact ⟨rfl, _, World.drewN_drewN _ _ _⟩ | exact ⟨rfl, _, Eq.trans (World.drewN_drewN _ _ _) (congrArg (World.drewN _) (Nat.add_assoc _ _ _))⟩); obtain ⟨Ao21, co21, eo21⟩ := Kd.R_slice HO_5.out; subst eo21) | ((with_reducible refine gate_builtin (b := .append) (xs := #[.tmp 45, .tmp 48]) rfl ?_); at_builtin; refine Kd.R_append k61 (w0 := w) w.heap.size rfl (.tmp 45) (.tmp 48) 38 61 (.agg #[(.int .i64 0), (.int .i64 0)]) 16 rfl Try.underlying38 info61 rfl (by decide) (by omega) (.slice Ao21 x5_1.length co21) x5_1 (⟨x10_1, 1⟩ : S61) [.int .i64 x10_1, .int .i64 1] (fun _ => True) (fun _ => False) rfl rfl ?aP (fun _ hk => hk.elim) ?aF ?aO ?aB ?aS ?aL ?_; (case aP => exact k61_mkM _ _ _ (⟨x10_1, 1⟩ : S61)); (case aB => exact (bs HB)); (case aF => exact (fun _ _ => trivial)); (case aO => exact (rr HO_5.out)); (case aS => exact (below_size (bs HB))); (case aL => have := LMc20.out; omega); intro v281 w22 ho hb hg hat; rw [← Ny280.out] at ho; have n0_ := Aside0.mk (blk_grown (g := gx1_0) (o := .cells #[.slice A1_0 l1_0.length c1_0] 79 (0, 0)) (bk BK268) hg (Kd.R_ne HO_5.out BK268.out (by decide))); have n1_ := Aside0.mk (hb); have n2_ := Aside0.mk (ho); clear BK268; clear HB; clear HO_5; have BK268 := n0_; have HB := n1_; have HO282 := n2_; clear n0_ n1_ n2_; clear ho hb hg hat)))
       go_roundg k1
       case measure => have := HK1.out; omega
       case rel => exact ⟨(y280), (wrap64 (x10_1 + 1)), (by first | rfl | (simp; done) | (simp [*]; done)), H', ⟨by have := HK1.out; omega⟩, ⟨rr HO282.out⟩, ⟨bk BK268⟩, ⟨bs HB⟩⟩
      ·
       rw [if_neg c20] at H
       exact absurd H (by simp)
    ·
     replace c7 := Bool.eq_false_iff.mpr c7
     subst c7
     rw [if_neg (show ¬ (false = true) by decide)] at H
     have H' := Aside0.mk H
     clear H
     go_wp2_with (first | (go_at_call 59; (with_reducible refine (impl_HolesOf_1.calls x10_1 gx1_0 A1_0 c1_0 l1_0 false _ ?side1 ?side2 ?side3 A6.out).mono ?_); (case side1 => exact cb HR1_0 HB); (case side2 => exact HC1_0.out); (case side3 => (with_reducible repeat (first | refine blk_drewN ?_ _ | refine blk_drew ?_ | refine blk_alloc ?_ _)); exact BK268.out); rintro e w' ⟨rfl, ⟨nd, rfl⟩⟩; (try first | exact ⟨rfl, _, World.drewN_drewN _ _ _⟩ | exact ⟨rfl, _, Eq.trans (World.drewN_drewN _ _ _) (congrArg (World.drewN _) (Nat.add_assoc _ _ _))⟩)))
     repeat (go_quiet (first | (go_at_call 59; (with_reducible refine (impl_HolesOf_1.calls x10_1 gx1_0 A1_0 c1_0 l1_0 false _ ?side1 ?side2 ?side3 A6.out).mono ?_); (case side1 => exact cb HR1_0 HB); (case side2 => exact HC1_0.out); (case side3 => (with_reducible repeat (first | refine blk_drewN ?_ _ | refine blk_drew ?_ | refine blk_alloc ?_ _)); exact BK268.out); rintro e w' ⟨rfl, ⟨nd, rfl⟩⟩; (try first | exact ⟨rfl, _, World.drewN_drewN _ _ _⟩ | exact ⟨rfl, _, Eq.trans (World.drewN_drewN _ _ _) (congrArg (World.drewN _) (Nat.add_assoc _ _ _))⟩))); try go_wp2_with (first | (go_at_call 59; (with_reducible refine (impl_HolesOf_1.calls x10_1 gx1_0 A1_0 c1_0 l1_0 false _ ?side1 ?side2 ?side3 A6.out).mono ?_); (case side1 => exact cb HR1_0 HB); (case side2 => exact HC1_0.out); (case side3 => (with_reducible repeat (first | refine blk_drewN ?_ _ | refine blk_drew ?_ | refine blk_alloc ?_ _)); exact BK268.out); rintro e w' ⟨rfl, ⟨nd, rfl⟩⟩; (try first | exact ⟨rfl, _, World.drewN_drewN _ _ _⟩ | exact ⟨rfl, _, Eq.trans (World.drewN_drewN _ _ _) (congrArg (World.drewN _) (Nat.add_assoc _ _ _))⟩))))
     go_roundg k1
     case measure => have := HK1.out; omega
     case rel => exact ⟨(x5_1), (wrap64 (x10_1 + 1)), (by first | rfl | (simp; done) | (simp [*]; done)), H', ⟨by have := HK1.out; omega⟩, ⟨rr HO_5.out⟩, ⟨bk BK268⟩, ⟨bs HB⟩⟩
   ·
    rw [if_neg c5] at H
    have c5b0 : decide (x10_1 < a0) = false := decide_eq_false c5
    clear c5
    obtain rfl := Option.some.inj H
    go_wp2
    repeat (go_quiet (fail); try go_wp2)
    go_ret
    exact ⟨_, by first | rfl | (simp [errW_none, errW_some] <;> rfl) | (simp [*, errW_none, errW_some] <;> rfl), by (with_reducible repeat (first | apply Kd.R_alloc | apply Kd.R_drewN | apply Kd.R_drew)); exact HO_5.out, bs HB⟩

/-! ### impl_HolesOf: function 24 -/
def impl_HolesOf.j0 : Nat → Int → Bool → List (S48) → Option ((List (S61)) × Bool)
 | 0, _, _, _ => none
 | k + 1, x1, x14, x284000 => if x14 = true then (some (([] : List (S61)), false)) else ((impl_FileMap_cells.f k x284000).bind fun t286 => ((impl_merged_at_impl_HolesOf_1.f k x1 t286).bind fun t290 => (some (t290, true))))
def impl_HolesOf.f (k : Nat) (l0_0 : List (S48)) (a1 : Int) : Option ((List (S61)) × Bool) := (impl_GoodMap.f k l0_0).bind fun t284 => (if t284 = true then ((impl_within.f a1 0 200).bind fun t285 => (impl_HolesOf.j0 k a1 (!t285) l0_0)) else (impl_HolesOf.j0 k a1 true l0_0))
theorem impl_HolesOf.mono_l : ∀ k, (∀ y0 y1 y2, LeO (impl_HolesOf.j0 k y0 y1 y2) (impl_HolesOf.j0 (k + 1) y0 y1 y2))
 | 0 => fun _ _ _ r h => by simp [impl_HolesOf.j0] at h
 | k + 1 => by
  have ih0 := impl_HolesOf.mono_l k
  ·
   intro y0 y1 y2
   unfold impl_HolesOf.j0
   repeat' first
   | (with_reducible exact ih0 _ _ _)
   | (with_reducible exact impl_FileMap_cells.mono _ _)
   | (with_reducible exact impl_GoodMap.mono _ _)
   | (with_reducible exact impl_merged_at_impl_HolesOf_1.mono _ _ _)
   | (with_reducible exact LeO.refl _)
   | (with_reducible exact LeO.none _)
   | (with_reducible refine LeO.ite ?_ ?_)
   | (with_reducible refine LeO.bind ?_ (fun _ => ?_))
   | exact ih0 _ _ _
   | exact impl_FileMap_cells.mono _ _
   | exact impl_GoodMap.mono _ _
   | exact impl_merged_at_impl_HolesOf_1.mono _ _ _
   | exact LeO.none _
   | refine LeO.ite ?_ ?_
   | refine LeO.bind ?_ (fun _ => ?_)
theorem impl_HolesOf.mono : ∀ a0 a1 k, LeO (impl_HolesOf.f k a0 a1) (impl_HolesOf.f (k + 1) a0 a1) := by
 intro a0 a1 k
 have ih0 := impl_HolesOf.mono_l k
 unfold impl_HolesOf.f
 repeat' first
   | (with_reducible exact ih0 _ _ _)
   | (with_reducible exact impl_FileMap_cells.mono _ _)
   | (with_reducible exact impl_GoodMap.mono _ _)
   | (with_reducible exact impl_merged_at_impl_HolesOf_1.mono _ _ _)
   | (with_reducible exact LeO.refl _)
   | (with_reducible exact LeO.none _)
   | (with_reducible refine LeO.ite ?_ ?_)
   | (with_reducible refine LeO.bind ?_ (fun _ => ?_))
   | exact ih0 _ _ _
   | exact impl_FileMap_cells.mono _ _
   | exact impl_GoodMap.mono _ _
   | exact impl_merged_at_impl_HolesOf_1.mono _ _ _
   | exact LeO.none _
   | refine LeO.ite ?_ ?_
   | refine LeO.bind ?_ (fun _ => ?_)
set_option maxHeartbeats 8000000 in
set_option maxRecDepth 100000 in
theorem impl_HolesOf.calls (k : Nat) (A0_0 : Option Addr) (c0_0 : Nat) (l0_0 : List (S48)) (a1 : Int) (r1 : List (S61)) (r2 : Bool) (w : World) (hr0_0 : Kd.C k48 w A0_0 l0_0.length l0_0) (hc0_0 : l0_0.length ≤ c0_0) (h : impl_HolesOf.f k l0_0 a1 = some (r1, r2)) :
  Calls Try.prog 24 #[.agg #[.slice A0_0 l0_0.length c0_0], .int .i64 a1] w fun e w' => ∃ v0_ : Value, e = .returned (.tuple #[v0_, .bool r2]) ∧ Kd.R k61 61 w' w.heap.size (fun _ => True) v0_ r1 ∧ Below w.heap.size w w' := by
 have hu29 := Try.underlying29
 have HR0_0 := Aside0.mk hr0_0
 have HC0_0 := Aside0.mk hc0_0
 clear hr0_0 hc0_0
 have HB := Aside0.mk (Below.refl w.heap.size w)
 have H : ((impl_GoodMap.f k l0_0).bind fun t284 => (if t284 = true then ((impl_within.f a1 0 200).bind fun t285 => (impl_HolesOf.j0 k a1 (!t285) l0_0)) else (impl_HolesOf.j0 k a1 true l0_0))) = some (r1, r2) := h
 clear h
 have HC3 := Aside0.mk H
 clear H
 go_enter Try.func24, Try.ntmps24
 go_upto_region 1 with (first | ((with_reducible refine gate_dst (N := 2) rfl ?_); refine box_event ?hg (N := 2) ?hd (cs := #[.slice A0_0 l0_0.length c0_0]) (t := 29) ?hr ?_; (case hd => rfl); (case hg => rfl); (case hr => first | (go_simp; done) | (go_simp; rfl)); intro gb283 hg w4 hbox hb; have n0_ := Aside0.mk (below_step (bs HB) hb); have n1_ := Aside0.mk (hbox); have n2_ := Aside0.mk ((by rw [hg]; exact (below_size (bs HB)) : w.heap.size ≤ gb283)); have n3_ := Aside0.mk ((by rw [hg]; exact (below_size (bs HB)) : w.heap.size ≤ gb283)); clear HB; have HB := n0_; have BK283 := n1_; have GW283 := n2_; have GE283 := n3_; clear n0_ n1_ n2_ n3_; clear hb hbox hg))
 (try simp only [Act.put, List.setIfInBounds_toArray, List.set_cons_zero, List.set_cons_succ])
 go_cut [14] (fun v14 wc => ∃ (kq : Nat) (x14_2 : Bool), v14 = .bool x14_2 ∧ Aside0 (impl_HolesOf.j0 kq a1 x14_2 l0_0 = some (r1, r2)) ∧ Aside0 (kq ≤ k) ∧ Aside0 (wc.heap[gb283]? = some (.cells #[(.slice A0_0 l0_0.length c0_0)] 29 (0, 0))) ∧ Aside0 (Below w.heap.size w wc))
 case first =>
  have H := HC3.out
  clear HC3
  replace H := Option.bind_eq_some_iff.mp H
  obtain ⟨t284, A50, H⟩ := H
  replace H : (if t284 = true then ((impl_within.f a1 0 200).bind fun t285 => (impl_HolesOf.j0 k a1 (!t285) l0_0)) else (impl_HolesOf.j0 k a1 true l0_0)) = some (r1, r2) := H
  have A5 := Aside0.mk A50
  clear A50
  by_cases c6 : t284 = true
  ·
   subst c6
   rw [if_pos rfl] at H
   replace H := Option.bind_eq_some_iff.mp H
   obtain ⟨t285, A70, H⟩ := H
   replace H : (impl_HolesOf.j0 k a1 (!t285) l0_0) = some (r1, r2) := H
   have A7 := Aside0.mk A70
   clear A70
   have H' := Aside0.mk H
   clear H
   have hcz8_0 : w4.cell? ⟨gb283, 0, none⟩ = some (.slice A0_0 l0_0.length c0_0) := (blk_cell BK283.out 0).trans rfl
   have hfz8_0 := blk_frozen BK283.out 0
   go_wp2_with (first | ((with_reducible refine gate_callee (f := 17) rfl ?_); refine goesL_ (some 8) rfl rfl Try.func17 (by kernel_rfl) rfl #[.agg #[.slice A0_0 l0_0.length c0_0]] rfl (by (try simp only [List.map_toArray, List.map_cons, List.map_nil]); first | done | rfl | (simp only [List.length_drop, List.length_take]; rfl)) ?_; (with_reducible refine (impl_GoodMap.calls k _ _ l0_0 true _ ?side1 ?side2 A5.out).mono ?_); (case side1 => exact cb HR0_0 HB); (case side2 => exact HC0_0.out); rintro e w9 ⟨rfl, hb⟩; refine ⟨_, rfl, ?_⟩; have n0_ := Aside0.mk (bb BK283 hb); have n1_ := Aside0.mk (below_step (bs1 HB GE283) hb); clear BK283; clear HB; have BK283 := n0_; have HB := n1_; clear n0_ n1_; (try clear hb); (try clear hb2); (try clear hk); (try clear hi)) | (go_at_call 56; (with_reducible refine (impl_within.calls a1 0 200 t285 _ A7.out).mono ?_); rintro e w' ⟨rfl, ⟨nd, rfl⟩⟩))
   go_meet
   case rel => exact ⟨_, (!t285), (by first | rfl | (simp; done) | (simp [*]; done)), H', ⟨by first | omega | exact Nat.le_refl _⟩, ⟨bk BK283⟩, ⟨bs1 HB GE283⟩⟩
  ·
   replace c6 := Bool.eq_false_iff.mpr c6
   subst c6
   rw [if_neg (show ¬ (false = true) by decide)] at H
   have H' := Aside0.mk H
   clear H
   have hcz10_0 : w4.cell? ⟨gb283, 0, none⟩ = some (.slice A0_0 l0_0.length c0_0) := (blk_cell BK283.out 0).trans rfl
   have hfz10_0 := blk_frozen BK283.out 0
   go_wp2_with (first | ((with_reducible refine gate_callee (f := 17) rfl ?_); refine goesL_ (some 8) rfl rfl Try.func17 (by kernel_rfl) rfl #[.agg #[.slice A0_0 l0_0.length c0_0]] rfl (by (try simp only [List.map_toArray, List.map_cons, List.map_nil]); first | done | rfl | (simp only [List.length_drop, List.length_take]; rfl)) ?_; (with_reducible refine (impl_GoodMap.calls k _ _ l0_0 false _ ?side1 ?side2 A5.out).mono ?_); (case side1 => exact cb HR0_0 HB); (case side2 => exact HC0_0.out); rintro e w11 ⟨rfl, hb⟩; refine ⟨_, rfl, ?_⟩; have n0_ := Aside0.mk (bb BK283 hb); have n1_ := Aside0.mk (below_step (bs1 HB GE283) hb); clear BK283; clear HB; have BK283 := n0_; have HB := n1_; clear n0_ n1_; (try clear hb); (try clear hb2); (try clear hk); (try clear hi)))
   go_meet
   case rel => exact ⟨_, (true), (by first | rfl | (simp; done) | (simp [*]; done)), H', ⟨by first | omega | exact Nat.le_refl _⟩, ⟨bk BK283⟩, ⟨bs1 HB GE283⟩⟩
 case rest =>
  clear HC3
  try clear c1
  try clear c2
  try clear p2
  try clear c6
  try clear hcz10_0
  try clear hcz8_0
  try clear hfz10_0
  try clear hfz8_0
  obtain ⟨kq, x14_2, rfl, HA, HJ2, BK283, HB⟩ := hcut
  cases kq with
  | zero => exact absurd HA.out (by simp [impl_HolesOf.j0])
  | succ kj2 =>
   have H := HA.out
   clear HA
   simp only [impl_HolesOf.j0] at H
   by_cases c12 : x14_2 = true
   ·
    subst c12
    rw [if_pos rfl] at H
    simp only [Option.some.injEq, Prod.mk.injEq] at H
    obtain ⟨rfl, rfl⟩ := H
    go_wp2
    go_ret2
    exact ⟨_, by first | rfl | (simp [errW_none, errW_some] <;> rfl) | (simp [*, errW_none, errW_some] <;> rfl), by first | exact Kd.R_nil _ _ _ _ _ | exact Kd.N_nil _ _ _ _ _ | exact Kd.V_nil _ _ _ _ _ | exact Kd.Q_nil _ _ _ _ _ | exact Kd.S_nil _ _ _ _ _, bs1 HB GE283⟩
   ·
    replace c12 := Bool.eq_false_iff.mpr c12
    subst c12
    rw [if_neg (show ¬ (false = true) by decide)] at H
    replace H := Option.bind_eq_some_iff.mp H
    obtain ⟨t286, A130, H⟩ := H
    replace H : ((impl_merged_at_impl_HolesOf_1.f kj2 a1 t286).bind fun t290 => (some (t290, true))) = some (r1, r2) := H
    have A13 := Aside0.mk A130
    clear A130
    replace H := Option.bind_eq_some_iff.mp H
    obtain ⟨t290, A140, H⟩ := H
    replace H : (some (t290, true)) = some (r1, r2) := H
    have A14 := Aside0.mk A140
    clear A140
    simp only [Option.some.injEq, Prod.mk.injEq] at H
    obtain ⟨rfl, rfl⟩ := H
    have hcz15_0 : wc.cell? ⟨gb283, 0, none⟩ = some (.slice A0_0 l0_0.length c0_0) := (blk_cell BK283.out 0).trans rfl
    have hfz15_0 := blk_frozen BK283.out 0
    go_wp2_with (first | ((with_reducible refine gate_callee (f := 57) rfl ?_); refine goesL_ (some 16) rfl rfl Try.func57 (by kernel_rfl) rfl #[.agg #[.slice A0_0 l0_0.length c0_0]] rfl (by (try simp only [List.map_toArray, List.map_cons, List.map_nil]); first | done | rfl | (simp only [List.length_drop, List.length_take]; rfl)) ?_; (with_reducible refine (impl_FileMap_cells.calls kj2 _ _ l0_0 t286 _ ?side1 ?side2 A13.out).mono ?_); (case side1 => exact cb HR0_0 HB); (case side2 => exact HC0_0.out); rintro e w16 ⟨v287, rfl, ho0, hb⟩; refine ⟨_, rfl, ?_⟩; have n0_ := Aside0.mk (Kd.R_lower ho0 (below_size (bs1 HB GE283))); have n1_ := Aside0.mk (bb BK283 hb); have n2_ := Aside0.mk (below_step (bs1 HB GE283) hb); clear BK283; clear HB; have HO288 := n0_; have BK283 := n1_; have HB := n2_; clear n0_ n1_ n2_; (try clear hb); (try clear hb2); (try clear hk); (try clear hi); (try clear ho0)) | ((with_reducible refine gate_dst (N := 6) rfl ?_); refine box_event ?hg (N := 6) ?hd (cs := #[.slice none 0 0]) (t := 79) ?hr ?_; (case hd => rfl); (case hg => rfl); (case hr => first | (go_simp; done) | (go_simp; rfl)); intro gb289 hg w17 hbox hb; have n0_ := Aside0.mk (Kd.R_below (rr HO288.out) hb); have n1_ := Aside0.mk (bb BK283 hb); have n2_ := Aside0.mk (below_step (bs1 HB GE283) hb); have n3_ := Aside0.mk (hbox); have n4_ := Aside0.mk ((by rw [hg]; exact (below_size (bs1 HB GE283)) : w.heap.size ≤ gb289)); have n5_ := Aside0.mk ((by rw [hg]; exact (below_size (bs1 HB GE283)) : w.heap.size ≤ gb289)); have n6_ := Aside0.mk ((bn BK283 hg : gb283 ≠ gb289)); have n7_ := Aside0.mk ((bm BK283 hg : gb289 ≠ gb283)); clear HO288; clear BK283; clear HB; have HO288 := n0_; have BK283 := n1_; have HB := n2_; have BK289 := n3_; have GW289 := n4_; have GE289 := n5_; have NB283_289 := n6_; have NB289_283 := n7_; clear n0_ n1_ n2_ n3_ n4_ n5_ n6_ n7_; clear hb hbox hg; obtain ⟨Ao18, co18, eo18⟩ := Kd.R_slice HO288.out; subst eo18; have hnb19 := NB289_283.out; have hnc19 := NB283_289.out; have hcz20_0 : w17.cell? ⟨gb289, 0, none⟩ = some (.slice none 0 0) := (blk_cell BK289.out 0).trans rfl; have hfz20_0 := blk_frozen BK289.out 0) | ((with_reducible refine gate_callee (f := 58) rfl ?_); refine goesL_ (some 19) rfl rfl Try.func58 (by kernel_rfl) rfl #[.int .i64 a1, .func (.func 59) #[] #[.pointer (some ⟨gb289, 0, none⟩)]] rfl (by (try simp only [List.map_toArray, List.map_cons, List.map_nil]); first | done | rfl | (simp only [List.length_drop, List.length_take]; rfl)) ?_; (with_reducible refine (impl_merged_at_impl_HolesOf_1.calls kj2 a1 gb289 Ao18 co18 t286 t290 _ ?side1 ?side2 ?side3 A14.out).mono ?_); (case side1 => exact rc HO288 BK289); (case side2 => exact (Kd.R_reads' HO288.out).2.1); (case side3 => (with_reducible repeat (first | refine blk_drewN ?_ _ | refine blk_drew ?_ | refine blk_alloc ?_ _)); refine blk_put (cs := #[.slice none 0 0]) ?_ 0 _ rfl; (with_reducible repeat (first | refine blk_drewN ?_ _ | refine blk_drew ?_ | refine blk_alloc ?_ _)); exact BK289.out); rintro e w21 ⟨v291, rfl, ho0, hb⟩; refine ⟨_, rfl, ?_⟩; have n0_ := Aside0.mk (Kd.R_below (rf HO288 BK289) hb); have n1_ := Aside0.mk (Kd.R_lower ho0 (below_size (bs2 HB GE283 GE289))); have n2_ := Aside0.mk (blk_below (bf BK283 NB283_289) hb); have n3_ := Aside0.mk (blk_below (g := gb289) (o := .cells #[.slice Ao18 t286.length co18] 79 (0, 0)) (by (with_reducible repeat (first | refine blk_drewN ?_ _ | refine blk_drew ?_ | refine blk_alloc ?_ _)); refine blk_put (cs := #[.slice none 0 0]) ?_ 0 _ rfl; (with_reducible repeat (first | refine blk_drewN ?_ _ | refine blk_drew ?_ | refine blk_alloc ?_ _)); exact BK289.out) hb); have n4_ := Aside0.mk (below_step (bs2 HB GE283 GE289) hb); clear HO288; clear BK283; clear BK289; clear HB; have HO288 := n0_; have HO292 := n1_; have BK283 := n2_; have BK289 := n3_; have HB := n4_; clear n0_ n1_ n2_ n3_ n4_; (try clear hb); (try clear hb2); (try clear hk); (try clear hi); (try clear ho0)))
    go_ret2
    exact ⟨_, by first | rfl | (simp [errW_none, errW_some] <;> rfl) | (simp [*, errW_none, errW_some] <;> rfl), by (with_reducible repeat (first | apply Kd.R_alloc | apply Kd.R_drewN | apply Kd.R_drew)); exact HO292.out, bs2 HB GE283 GE289⟩

end Go.Proofs.Ytojdlcbmbpgplaa.G
