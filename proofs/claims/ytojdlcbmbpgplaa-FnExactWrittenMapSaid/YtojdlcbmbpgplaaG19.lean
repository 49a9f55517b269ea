-- Printed by a program of this session (drive.py, by way of the kit's print). Not trusted: Lean checks it.
import Derived.Test.YtojdlcbmbpgplaaG0
import Derived.Test.YtojdlcbmbpgplaaG3
import Derived.Test.YtojdlcbmbpgplaaG4
import Derived.Test.YtojdlcbmbpgplaaG5
import Derived.Test.YtojdlcbmbpgplaaG6
import Derived.Test.YtojdlcbmbpgplaaG8
import Derived.Test.YtojdlcbmbpgplaaG9
import Derived.Test.YtojdlcbmbpgplaaG11
namespace Go.Proofs.Ytojdlcbmbpgplaa.G
open Go.RowKit Go.Proofs.YtojdlcbmbpgplaaW.PrintWords Go.Proofs.YtojdlcbmbpgplaaW.PrintLast Go.Proofs.YtojdlcbmbpgplaaW.PrintMore
attribute [local go_sem] max2_int min2_int max_two min_two max_three min_three max_four min_four   -- for this text's walks alone
set_option linter.unusedVariables false
set_option linter.unusedSimpArgs false

/-! ### spec_WrittenMap: function 35 -/
mutual
def spec_WrittenMap.j0 : Nat → Int → Int → Bool → List (S48) → Option ((List (S48)) × Bool)
 | 0, _, _, _, _ => none
 | k + 1, x1, x2, x22, x649000 => if x22 = true then (some (([] : List (S48)), false)) else ((spec_l9Cut.f k x649000 x1 x2).bind fun bt652 => (spec_WrittenMap.l0 k x2 bt652.1 0 bt652.2 (bt652.2.length : Int) 0))
def spec_WrittenMap.l0 : Nat → Int → List (S48) → Int → List (S48) → Int → Int → Option ((List (S48)) × Bool)
 | 0, _, _, _, _, _, _ => none
 | k + 1, x2, x8, x10, x32, x33, x34 => if x34 < x33 then (if 0 ≤ x34 then (if x34 < (x32.length : Int) then ((spec_l9Put.f k x8 ((rd_T48 x32 x34).f0) ((rd_T48 x32 x34).f1) ((rd_T48 x32 x34).f2) false).bind fun t660 => (spec_WrittenMap.l0 k x2 t660 (wrap64 (x10 + ((rd_T48 x32 x34).f1))) x32 x33 (wrap64 (x34 + 1)))) else (none)) else (none)) else ((spec_l9Joined.f k x8).bind fun t663 => (if x10 = x2 then ((spec_GoodMap.f k t663).bind fun t667 => (if t667 = true then (some (t663, true)) else (some (([] : List (S48)), false)))) else (some (([] : List (S48)), false))))
end
def spec_WrittenMap.f (k : Nat) (l0_0 : List (S48)) (a1 : Int) (a2 : Int) : Option ((List (S48)) × Bool) := (spec_GoodMap.f k l0_0).bind fun t650 => (if t650 = true then ((spec_l9Stretch.f a1 a2).bind fun t651 => (spec_WrittenMap.j0 k a1 a2 (!t651) l0_0)) else (spec_WrittenMap.j0 k a1 a2 true l0_0))
theorem spec_WrittenMap.mono_l : ∀ k, (∀ y0 y1 y2 y3, LeO (spec_WrittenMap.j0 k y0 y1 y2 y3) (spec_WrittenMap.j0 (k + 1) y0 y1 y2 y3)) ∧ (∀ y0 y1 y2 y3 y4 y5, LeO (spec_WrittenMap.l0 k y0 y1 y2 y3 y4 y5) (spec_WrittenMap.l0 (k + 1) y0 y1 y2 y3 y4 y5))
 | 0 => ⟨fun _ _ _ _ r h => by simp [spec_WrittenMap.j0] at h, fun _ _ _ _ _ _ r h => by simp [spec_WrittenMap.l0] at h⟩
 | k + 1 => by
  obtain ⟨ih0, ih1⟩ := spec_WrittenMap.mono_l k
  refine ⟨?_, ?_⟩
  ·
   intro y0 y1 y2 y3
   unfold spec_WrittenMap.j0
   repeat' first
   | (with_reducible exact ih0 _ _ _ _)
   | (with_reducible exact ih1 _ _ _ _ _ _)
   | (with_reducible exact spec_GoodMap.mono _ _)
   | (with_reducible exact spec_l9Cut.mono _ _ _ _)
   | (with_reducible exact spec_l9Joined.mono _ _)
   | (with_reducible exact spec_l9Put.mono _ _ _ _ _ _)
   | (with_reducible exact LeO.refl _)
   | (with_reducible exact LeO.none _)
   | (with_reducible refine LeO.ite ?_ ?_)
   | (with_reducible refine LeO.bind ?_ (fun _ => ?_))
   | exact ih0 _ _ _ _
   | exact ih1 _ _ _ _ _ _
   | exact spec_GoodMap.mono _ _
   | exact spec_l9Cut.mono _ _ _ _
   | exact spec_l9Joined.mono _ _
   | exact spec_l9Put.mono _ _ _ _ _ _
   | exact LeO.none _
   | refine LeO.ite ?_ ?_
   | refine LeO.bind ?_ (fun _ => ?_)
  ·
   intro y0 y1 y2 y3 y4 y5
   unfold spec_WrittenMap.l0
   repeat' first
   | (with_reducible exact ih0 _ _ _ _)
   | (with_reducible exact ih1 _ _ _ _ _ _)
   | (with_reducible exact spec_GoodMap.mono _ _)
   | (with_reducible exact spec_l9Cut.mono _ _ _ _)
   | (with_reducible exact spec_l9Joined.mono _ _)
   | (with_reducible exact spec_l9Put.mono _ _ _ _ _ _)
   | (with_reducible exact LeO.refl _)
   | (with_reducible exact LeO.none _)
   | (with_reducible refine LeO.ite ?_ ?_)
   | (with_reducible refine LeO.bind ?_ (fun _ => ?_))
   | exact ih0 _ _ _ _
   | exact ih1 _ _ _ _ _ _
   | exact spec_GoodMap.mono _ _
   | exact spec_l9Cut.mono _ _ _ _
   | exact spec_l9Joined.mono _ _
   | exact spec_l9Put.mono _ _ _ _ _ _
   | exact LeO.none _
   | refine LeO.ite ?_ ?_
   | refine LeO.bind ?_ (fun _ => ?_)
theorem spec_WrittenMap.mono : ∀ a0 a1 a2 k, LeO (spec_WrittenMap.f k a0 a1 a2) (spec_WrittenMap.f (k + 1) a0 a1 a2) := by
 intro a0 a1 a2 k
 obtain ⟨ih0, ih1⟩ := spec_WrittenMap.mono_l k
 unfold spec_WrittenMap.f
 repeat' first
   | (with_reducible exact ih0 _ _ _ _)
   | (with_reducible exact ih1 _ _ _ _ _ _)
   | (with_reducible exact spec_GoodMap.mono _ _)
   | (with_reducible exact spec_l9Cut.mono _ _ _ _)
   | (with_reducible exact spec_l9Joined.mono _ _)
   | (with_reducible exact spec_l9Put.mono _ _ _ _ _ _)
   | (with_reducible exact LeO.refl _)
   | (with_reducible exact LeO.none _)
   | (with_reducible refine LeO.ite ?_ ?_)
   | (with_reducible refine LeO.bind ?_ (fun _ => ?_))
   | exact ih0 _ _ _ _
   | exact ih1 _ _ _ _ _ _
   | exact spec_GoodMap.mono _ _
   | exact spec_l9Cut.mono _ _ _ _
   | exact spec_l9Joined.mono _ _
   | exact spec_l9Put.mono _ _ _ _ _ _
   | exact LeO.none _
   | refine LeO.ite ?_ ?_
   | refine LeO.bind ?_ (fun _ => ?_)
set_option maxHeartbeats 8000000 in
set_option maxRecDepth 100000 in
theorem spec_WrittenMap.calls (k : Nat) (A0_0 : Option Addr) (c0_0 : Nat) (l0_0 : List (S48)) (a1 : Int) (a2 : Int) (r1 : List (S48)) (r2 : Bool) (w : World) (hr0_0 : Kd.C k48 w A0_0 l0_0.length l0_0) (hc0_0 : l0_0.length ≤ c0_0) (h : spec_WrittenMap.f k l0_0 a1 a2 = some (r1, r2)) :
  Calls Try.prog 35 #[.agg #[.slice A0_0 l0_0.length c0_0], .int .i64 a1, .int .i64 a2] w fun e w' => ∃ v0_ : Value, e = .returned (.tuple #[.agg #[v0_], .bool r2]) ∧ Kd.R k48 48 w' w.heap.size (fun _ => True) v0_ r1 ∧ Below w.heap.size w w' := by
 have hu29 := Try.underlying29
 have hu48 := Try.underlying48
 have HR0_0 := Aside0.mk hr0_0
 have HC0_0 := Aside0.mk hc0_0
 clear hr0_0 hc0_0
 have HB := Aside0.mk (Below.refl w.heap.size w)
 have H : ((spec_GoodMap.f k l0_0).bind fun t650 => (if t650 = true then ((spec_l9Stretch.f a1 a2).bind fun t651 => (spec_WrittenMap.j0 k a1 a2 (!t651) l0_0)) else (spec_WrittenMap.j0 k a1 a2 true l0_0))) = some (r1, r2) := h
 clear h
 have HC4 := Aside0.mk H
 clear H
 go_enter Try.func35, Try.ntmps35
 go_upto_region 1 with (first | ((with_reducible refine gate_dst (N := 3) rfl ?_); refine box_event ?hg (N := 3) ?hd (cs := #[.slice A0_0 l0_0.length c0_0]) (t := 29) ?hr ?_; (case hd => rfl); (case hg => rfl); (case hr => first | (go_simp; done) | (go_simp; rfl)); intro gb648 hg w5 hbox hb; have BK648 := Aside0.mk (hbox); have GW648 := Aside0.mk ((by rw [hg]; exact (below_size (bs HB)) : w.heap.size ≤ gb648)); have GE648 := Aside0.mk ((by rw [hg]; exact (below_size (bs HB)) : w.heap.size ≤ gb648)); replace HB := Aside0.mk (below_step (bs HB) hb); clear hb hbox hg) | ((with_reducible refine gate_dst (N := 6) rfl ?_); refine box_event ?hg (N := 6) ?hd (cs := #[.slice none 0 0]) (t := 29) ?hr ?_; (case hd => rfl); (case hg => rfl); (case hr => first | (go_simp; done) | (go_simp; rfl)); intro gb649 hg w6 hbox hb; have BK649 := Aside0.mk (hbox); have GW649 := Aside0.mk ((by rw [hg]; exact (below_size (bs1 HB GE648)) : w.heap.size ≤ gb649)); have GE649 := Aside0.mk ((by rw [hg]; exact (below_size (bs1 HB GE648)) : w.heap.size ≤ gb649)); replace HB := Aside0.mk (below_step (bs1 HB GE648) hb); have NB648_649 := Aside0.mk ((bn BK648 hg : gb648 ≠ gb649)); have NB649_648 := Aside0.mk ((bm BK648 hg : gb649 ≠ gb648)); replace BK648 := nb BK648 hb; clear hb hbox hg))
 (try simp only [Act.put, List.setIfInBounds_toArray, List.set_cons_zero, List.set_cons_succ])
 go_cut [22] (fun v22 wc => ∃ (kq : Nat) (x22_3 : Bool), v22 = .bool x22_3 ∧ Aside0 (spec_WrittenMap.j0 kq a1 a2 x22_3 l0_0 = some (r1, r2)) ∧ Aside0 (kq ≤ k) ∧ Aside0 (wc.heap[gb648]? = some (.cells #[(.slice A0_0 l0_0.length c0_0)] 29 (0, 0))) ∧ Aside0 (wc.heap[gb649]? = some (.cells #[(.slice none 0 0)] 29 (0, 0))) ∧ Aside0 (Below w.heap.size w wc))
 case first =>
  have H := HC4.out
  clear HC4
  replace H := Option.bind_eq_some_iff.mp H
  obtain ⟨t650, A70, H⟩ := H
  replace H : (if t650 = true then ((spec_l9Stretch.f a1 a2).bind fun t651 => (spec_WrittenMap.j0 k a1 a2 (!t651) l0_0)) else (spec_WrittenMap.j0 k a1 a2 true l0_0)) = some (r1, r2) := H
  have A7 := Aside0.mk A70
  clear A70
  by_cases c8 : t650 = true
  ·
   subst c8
   rw [if_pos rfl] at H
   replace H := Option.bind_eq_some_iff.mp H
   obtain ⟨t651, A90, H⟩ := H
   replace H : (spec_WrittenMap.j0 k a1 a2 (!t651) l0_0) = some (r1, r2) := H
   have A9 := Aside0.mk A90
   clear A90
   have H' := Aside0.mk H
   clear H
   have hnb10 := NB648_649.out
   have hnc10 := NB649_648.out
   have hcz11_0 := cz1 BK648
   have hfz11_0 := fz1 BK648
   go_wp2_with (first | ((with_reducible refine gate_callee (f := 15) rfl ?_); refine gL (some 15) rfl rfl Try.func15 (by kernel_rfl) rfl #[.agg #[.slice A0_0 l0_0.length c0_0]] rfl ?_; (with_reducible refine (spec_GoodMap.calls k _ _ l0_0 true _ ?side1 ?side2 A7.out).mono ?_); (case side1 => exact cb HR0_0 HB); (case side2 => exact HC0_0.out); rintro e w12 ⟨rfl, hb⟩; refine ⟨_, rfl, ?_⟩; replace BK648 := nb BK648 hb; replace BK649 := nb BK649 hb; replace HB := Aside0.mk (below_step (bs2 HB GE648 GE649) hb); (try clear hb); (try clear hb2); (try clear hk); (try clear hi)) | (go_at_call 68; (with_reducible refine (spec_l9Stretch.calls a1 a2 t651 _ A9.out).mono ?_); rintro e w' ⟨rfl, ⟨nd, rfl⟩⟩))
   go_meet
   case rel => exact ⟨_, (!t651), (by first | rfl | (simp; done) | (simp [*]; done)), H', ⟨by first | omega | exact Nat.le_refl _⟩, ⟨bk BK648⟩, ⟨bk BK649⟩, ⟨bs2 HB GE648 GE649⟩⟩
  ·
   replace c8 := Bool.eq_false_iff.mpr c8
   subst c8
   rw [if_neg (show ¬ (false = true) by decide)] at H
   have H' := Aside0.mk H
   clear H
   have hnb13 := NB648_649.out
   have hnc13 := NB649_648.out
   have hcz14_0 := cz1 BK648
   have hfz14_0 := fz1 BK648
   go_wp2_with (first | ((with_reducible refine gate_callee (f := 15) rfl ?_); refine gL (some 15) rfl rfl Try.func15 (by kernel_rfl) rfl #[.agg #[.slice A0_0 l0_0.length c0_0]] rfl ?_; (with_reducible refine (spec_GoodMap.calls k _ _ l0_0 false _ ?side1 ?side2 A7.out).mono ?_); (case side1 => exact cb HR0_0 HB); (case side2 => exact HC0_0.out); rintro e w15 ⟨rfl, hb⟩; refine ⟨_, rfl, ?_⟩; replace BK648 := nb BK648 hb; replace BK649 := nb BK649 hb; replace HB := Aside0.mk (below_step (bs2 HB GE648 GE649) hb); (try clear hb); (try clear hb2); (try clear hk); (try clear hi)))
   go_meet
   case rel => exact ⟨_, (true), (by first | rfl | (simp; done) | (simp [*]; done)), H', ⟨by first | omega | exact Nat.le_refl _⟩, ⟨bk BK648⟩, ⟨bk BK649⟩, ⟨bs2 HB GE648 GE649⟩⟩
 case rest =>
  clear HC4
  try clear c1
  try clear p2
  try clear c3
  try clear c8
  try clear c10
  try clear c13
  try clear c15
  try clear hcz11_0
  try clear hcz14_0
  try clear hfz11_0
  try clear hfz14_0
  obtain ⟨kq, x22_3, rfl, HA, HJ3, BK648, BK649, HB⟩ := hcut
  cases kq with
  | zero => exact absurd HA.out (by simp [spec_WrittenMap.j0])
  | succ kj3 =>
   have H := HA.out
   clear HA
   simp only [spec_WrittenMap.j0] at H
   by_cases c16 : x22_3 = true
   ·
    subst c16
    rw [if_pos rfl] at H
    simp only [Option.some.injEq, Prod.mk.injEq] at H
    obtain ⟨rfl, rfl⟩ := H
    have hnb17 := NB649_648.out
    have hnc17 := NB648_649.out
    have hcz18_0 := cz1 BK649
    have hfz18_0 := fz1 BK649
    go_wp2
    refine bodyPost_ret (results_ct rfl _ _ gb649 29 #[.slice none 0 0] (0, 0) _ rfl (by (with_reducible repeat (first | refine blk_drewN ?_ _ | refine blk_drew ?_ | refine blk_alloc ?_ _)); refine blk_put (cs := #[.slice none 0 0]) ?_ 0 _ rfl; (with_reducible repeat (first | refine blk_drewN ?_ _ | refine blk_drew ?_ | refine blk_alloc ?_ _)); exact BK649.out) Try.underlying29 rfl (by kernel_rfl)) rfl ?_
    exact ⟨_, by first | rfl | (simp [errW_none, errW_some] <;> rfl) | (simp [*, errW_none, errW_some] <;> rfl), by first | exact Kd.R_nil _ _ _ _ _ | exact Kd.N_nil _ _ _ _ _ | exact Kd.V_nil _ _ _ _ _ | exact Kd.Q_nil _ _ _ _ _ | exact Kd.S_nil _ _ _ _ _, bs2 HB GE648 GE649⟩
   ·
    replace c16 := Bool.eq_false_iff.mpr c16
    subst c16
    rw [if_neg (show ¬ (false = true) by decide)] at H
    replace H := Option.bind_eq_some_iff.mp H
    obtain ⟨⟨t652, t653⟩, A190, H⟩ := H
    replace H : (spec_WrittenMap.l0 kj3 a2 t652 0 t653 (t653.length : Int) 0) = some (r1, r2) := H
    have A19 := Aside0.mk A190
    clear A190
    have H' := Aside0.mk H
    clear H
    have hnb20 := NB648_649.out
    have hnc20 := NB649_648.out
    have hcz21_0 := cz1 BK648
    have hfz21_0 := fz1 BK648
    go_wp2_with (first | ((with_reducible refine gate_callee (f := 69) rfl ?_); refine gL (some 29) rfl rfl Try.func69 (by kernel_rfl) rfl #[.slice A0_0 l0_0.length c0_0, .int .i64 a1, .int .i64 a2] rfl ?_; (with_reducible refine (spec_l9Cut.calls kj3 _ _ l0_0 a1 a2 t652 t653 _ ?side1 ?side2 A19.out).mono ?_); (case side1 => exact cb HR0_0 HB); (case side2 => exact HC0_0.out); rintro e w22 ⟨v654, v656, rfl, ho0, ho1, hb⟩; refine ⟨_, rfl, ?_⟩; have HO655 := Aside0.mk (Kd.R_lower ho0 (below_size (bs2 HB GE648 GE649))); have HO657 := Aside0.mk (Kd.R_lower ho1 (below_size (bs2 HB GE648 GE649))); replace BK648 := nb BK648 hb; replace BK649 := nb BK649 hb; replace HB := Aside0.mk (below_step (bs2 HB GE648 GE649) hb); (try clear hb); (try clear hb2); (try clear hk); (try clear hi); (try clear ho0); (try clear ho1); obtain ⟨Ao23, co23, eo23⟩ := Kd.R_slice HO657.out; subst eo23))
    go_loopg [8, 10, 34] kj3 (fun kq v8 v10 v34 w' => ∃ (x8_2 : List (S48)) (x10_2 : Int) (x34_2 : Int), v10 = .int .i64 x10_2 ∧ v34 = .int .i64 x34_2 ∧ Aside0 (spec_WrittenMap.l0 kq a2 x8_2 x10_2 t653 (t653.length : Int) x34_2 = some (r1, r2)) ∧ Aside0 (kq ≤ kj3) ∧ Aside0 (Kd.R k48 48 w' w.heap.size (fun k_ => some k_ ≠ ((.slice Ao23 t653.length co23) : Value).ownBlock) v8 x8_2) ∧ Aside0 (Kd.R k48 48 w' w.heap.size (fun k_ => some k_ ≠ (v8 : Value).ownBlock) (.slice Ao23 t653.length co23) t653) ∧ Aside0 (w'.heap[gb648]? = some (.cells #[(.slice A0_0 l0_0.length c0_0)] 29 (0, 0))) ∧ Aside0 (w'.heap[gb649]? = some (.cells #[(.slice none 0 0)] 29 (0, 0))) ∧ Aside0 (Below w.heap.size w w'))
    case atStart => exact ⟨(t652), (0), (0), (by first | rfl | (simp; done) | (simp [*]; done)), (by first | rfl | (simp; done) | (simp [*]; done)), H', ⟨Nat.le_refl _⟩, ⟨rr HO655.out⟩, ⟨rr HO657.out⟩, ⟨bk BK648⟩, ⟨bk BK649⟩, ⟨bs2 HB GE648 GE649⟩⟩
    case round =>
     clear H'
     try clear c1
     try clear c2
     try clear p2
     try clear c3
     try clear c6
     try clear c8
     try clear c10
     try clear c13
     try clear c15
     try clear c16
     try clear c17
     try clear c20
     try clear hcz11_0
     try clear hcz14_0
     try clear hcz18_0
     try clear hcz21_0
     try clear hfz11_0
     try clear hfz14_0
     try clear hfz18_0
     try clear hfz21_0
     try clear p2
     obtain ⟨x8_2, x10_2, x34_2, rfl, rfl, HA, HK2, HO_8, HO_32, BK648, BK649, HB⟩ := hrel
     cases gk with
     | zero => exact absurd HA.out (by simp [spec_WrittenMap.l0])
     | succ k2 =>
      have H := HA.out
      clear HA
      simp only [spec_WrittenMap.l0] at H
      by_cases c24 : x34_2 < (t653.length : Int)
      ·
       rw [if_pos c24] at H
       have c24b0 : decide (x34_2 < (t653.length : Int)) = true := decide_eq_true c24
       clear c24
       by_cases c25 : 0 ≤ x34_2
       ·
        rw [if_pos c25] at H
        have c25b0 : decide (0 ≤ x34_2) = true := decide_eq_true c25
        clear c25
        by_cases c26 : x34_2 < (t653.length : Int)
        ·
         rw [if_pos c26] at H
         have c26b0 : decide (x34_2 < (t653.length : Int)) = true := decide_eq_true c26
         clear c26
         replace H := Option.bind_eq_some_iff.mp H
         obtain ⟨t660, A270, H⟩ := H
         replace H : (spec_WrittenMap.l0 k2 a2 t660 (wrap64 (x10_2 + ((rd_T48 t653 x34_2).f1))) t653 (t653.length : Int) (wrap64 (x34_2 + 1))) = some (r1, r2) := H
         have A27 := Aside0.mk A270
         clear A270
         have H' := Aside0.mk H
         clear H
         have p658 : 0 ≤ (x34_2 : Int) := of_decide_eq_true (by first | (with_reducible assumption) | assumption)
         have q658 : x34_2 < (t653.length : Int) := of_decide_eq_true (by first | (with_reducible assumption) | assumption)
         obtain ⟨ad658, e658, hx658_0, hx658_1, hx658_2, hx658_3⟩ := at_T48 (Kd.R_reads' HO_32.out).2.2 x34_2 p658 q658
         cases e658
         replace p658 := eq_true p658
         replace q658 := eq_true q658
         go_wp2_with (first | ((with_reducible refine gate_dst (N := 12) rfl ?_); refine box_event ?hg (N := 12) ?hd (cs := #[.int .i64 0, .int .i64 0, .int .i64 0, .bool false]) (t := 48) ?hr ?_; (case hd => rfl); (case hg => rfl); (case hr => first | (go_simp; done) | (go_simp; rfl)); intro gb659 hg w28 hbox hb; replace HO_8 := Aside0.mk (Kd.R_below (Kd.R_elderB (rr HO_8.out) gb659 (Nat.le_of_eq hg.symm)) hb); replace HO_32 := Aside0.mk (Kd.R_below (Kd.R_elderB (rr HO_32.out) gb659 (Nat.le_of_eq hg.symm)) hb); have BK659 := Aside0.mk (hbox); have GW659 := Aside0.mk ((by rw [hg]; exact (below_size (bs2 HB GE648 GE649)) : w.heap.size ≤ gb659)); have GE659 := Aside0.mk ((by rw [hg]; exact (below_size (bs2 HB GE648 GE649)) : w.heap.size ≤ gb659)); replace HB := Aside0.mk (below_step (bs2 HB GE648 GE649) hb); have NB648_659 := Aside0.mk ((bn BK648 hg : gb648 ≠ gb659)); have NB659_648 := Aside0.mk ((bm BK648 hg : gb659 ≠ gb648)); replace BK648 := nb BK648 hb; have NB649_659 := Aside0.mk ((bn BK649 hg : gb649 ≠ gb659)); have NB659_649 := Aside0.mk ((bm BK649 hg : gb659 ≠ gb649)); replace BK649 := nb BK649 hb; clear hb hbox hg; have hnb29 := NB659_648.out; have hnc29 := NB648_659.out; have hnb30 := NB659_649.out; have hnc30 := NB649_659.out; obtain ⟨hcz31_0, hcz31_1, hcz31_2, hcz31_3⟩ := cz4 BK659; obtain ⟨hfz31_0, hfz31_1, hfz31_2, hfz31_3⟩ := fz4 BK659; obtain ⟨Ao32, co32, eo32⟩ := Kd.R_slice HO_8.out; subst eo32) | ((with_reducible refine gate_callee (f := 63) rfl ?_); refine gL (some 45) rfl rfl Try.func63 (by kernel_rfl) rfl #[.slice Ao32 x8_2.length co32, .agg #[.int .i64 ((rd_T48 t653 x34_2).f0), .int .i64 ((rd_T48 t653 x34_2).f1), .int .i64 ((rd_T48 t653 x34_2).f2), .bool false]] rfl ?_; (with_reducible refine (spec_l9Put.calls k2 _ _ x8_2 ((rd_T48 t653 x34_2).f0) ((rd_T48 t653 x34_2).f1) ((rd_T48 t653 x34_2).f2) false t660 _ ?side1 ?side2 A27.out).mono ?_); (case side1 => refine (Kd.R_reads' (e := 48) (base := w.heap.size) (ok := fun k_ => (some k_ ≠ (.slice (some ad658) t653.length co23 : Value).ownBlock ∧ k_ ≠ gb659)) (n := x8_2.length) (c := co32) ?_).2.2; exact (by (with_reducible repeat (first | apply Kd.R_alloc | apply Kd.R_drewN | apply Kd.R_drew)); exact (Kd.R_mono (Kd.R_far (p := ⟨gb659, 3, none⟩) (Kd.R_far (p := ⟨gb659, 3, none⟩) (Kd.R_far (p := ⟨gb659, 2, none⟩) (Kd.R_far (p := ⟨gb659, 1, none⟩) (Kd.R_far (p := ⟨gb659, 0, none⟩) (Kd.R_mono HO_8.out (fun k_ hk => (⟨hk, hk.2⟩ : _ ∧ k_ ≠ gb659))) (fun _ hk => hk.2) (.int .i64 ((rd_T48 t653 x34_2).f0))) (fun _ hk => hk.2) (.int .i64 ((rd_T48 t653 x34_2).f1))) (fun _ hk => hk.2) (.int .i64 ((rd_T48 t653 x34_2).f2))) (fun _ hk => hk.2) (.bool ((rd_T48 t653 x34_2).f3))) (fun _ hk => hk.2) (.bool false)) (fun _ h_ => h_.1)))); (case side2 => exact (Kd.R_reads' HO_8.out).2.1); rintro e w33 ⟨v661, rfl, ho0, hb⟩; refine ⟨_, rfl, ?_⟩; have HO662 := Aside0.mk (Kd.R_lower (Kd.R_newB (Kd.R_new' (Kd.R_new' ho0 (Kd.R_lt (by (with_reducible repeat (first | apply Kd.R_alloc | apply Kd.R_drewN | apply Kd.R_drew)); exact (Kd.R_mono (Kd.R_far (p := ⟨gb659, 3, none⟩) (Kd.R_far (p := ⟨gb659, 3, none⟩) (Kd.R_far (p := ⟨gb659, 2, none⟩) (Kd.R_far (p := ⟨gb659, 1, none⟩) (Kd.R_far (p := ⟨gb659, 0, none⟩) (Kd.R_mono HO_8.out (fun k_ hk => (⟨hk, hk.2⟩ : _ ∧ k_ ≠ gb659))) (fun _ hk => hk.2) (.int .i64 ((rd_T48 t653 x34_2).f0))) (fun _ hk => hk.2) (.int .i64 ((rd_T48 t653 x34_2).f1))) (fun _ hk => hk.2) (.int .i64 ((rd_T48 t653 x34_2).f2))) (fun _ hk => hk.2) (.bool ((rd_T48 t653 x34_2).f3))) (fun _ hk => hk.2) (.bool false)) (fun _ h_ => h_.1))))) (Kd.R_lt (by (with_reducible repeat (first | apply Kd.R_alloc | apply Kd.R_drewN | apply Kd.R_drew)); exact (Kd.R_mono (Kd.R_far (p := ⟨gb659, 3, none⟩) (Kd.R_far (p := ⟨gb659, 3, none⟩) (Kd.R_far (p := ⟨gb659, 2, none⟩) (Kd.R_far (p := ⟨gb659, 1, none⟩) (Kd.R_far (p := ⟨gb659, 0, none⟩) (Kd.R_mono HO_32.out (fun k_ hk => (⟨hk, hk.2⟩ : _ ∧ k_ ≠ gb659))) (fun _ hk => hk.2) (.int .i64 ((rd_T48 t653 x34_2).f0))) (fun _ hk => hk.2) (.int .i64 ((rd_T48 t653 x34_2).f1))) (fun _ hk => hk.2) (.int .i64 ((rd_T48 t653 x34_2).f2))) (fun _ hk => hk.2) (.bool ((rd_T48 t653 x34_2).f3))) (fun _ hk => hk.2) (.bool false)) (fun _ h_ => h_.1))))) (g := gb659) (o := .cells #[.int .i64 ((rd_T48 t653 x34_2).f0), .int .i64 ((rd_T48 t653 x34_2).f1), .int .i64 ((rd_T48 t653 x34_2).f2), .bool false] 48 (0, 0)) (by (with_reducible repeat (first | refine blk_drewN ?_ _ | refine blk_drew ?_ | refine blk_alloc ?_ _)); refine blk_put (cs := #[.int .i64 ((rd_T48 t653 x34_2).f0), .int .i64 ((rd_T48 t653 x34_2).f1), .int .i64 ((rd_T48 t653 x34_2).f2), .bool ((rd_T48 t653 x34_2).f3)]) ?_ 3 _ rfl; (with_reducible repeat (first | refine blk_drewN ?_ _ | refine blk_drew ?_ | refine blk_alloc ?_ _)); refine blk_put (cs := #[.int .i64 ((rd_T48 t653 x34_2).f0), .int .i64 ((rd_T48 t653 x34_2).f1), .int .i64 ((rd_T48 t653 x34_2).f2), .bool false]) ?_ 3 _ rfl; (with_reducible repeat (first | refine blk_drewN ?_ _ | refine blk_drew ?_ | refine blk_alloc ?_ _)); refine blk_put (cs := #[.int .i64 ((rd_T48 t653 x34_2).f0), .int .i64 ((rd_T48 t653 x34_2).f1), .int .i64 0, .bool false]) ?_ 2 _ rfl; (with_reducible repeat (first | refine blk_drewN ?_ _ | refine blk_drew ?_ | refine blk_alloc ?_ _)); refine blk_put (cs := #[.int .i64 ((rd_T48 t653 x34_2).f0), .int .i64 0, .int .i64 0, .bool false]) ?_ 1 _ rfl; (with_reducible repeat (first | refine blk_drewN ?_ _ | refine blk_drew ?_ | refine blk_alloc ?_ _)); refine blk_put (cs := #[.int .i64 0, .int .i64 0, .int .i64 0, .bool false]) ?_ 0 _ rfl; (with_reducible repeat (first | refine blk_drewN ?_ _ | refine blk_drew ?_ | refine blk_alloc ?_ _)); exact BK659.out)) (below_size (bs3 HB GE648 GE649 GE659))); replace HO_8 := Aside0.mk (Kd.R_elder' (by (with_reducible repeat (first | apply Kd.R_alloc | apply Kd.R_drewN | apply Kd.R_drew)); exact (Kd.R_mono (Kd.R_far (p := ⟨gb659, 3, none⟩) (Kd.R_far (p := ⟨gb659, 3, none⟩) (Kd.R_far (p := ⟨gb659, 2, none⟩) (Kd.R_far (p := ⟨gb659, 1, none⟩) (Kd.R_far (p := ⟨gb659, 0, none⟩) (Kd.R_mono HO_8.out (fun k_ hk => (⟨hk, hk.2⟩ : _ ∧ k_ ≠ gb659))) (fun _ hk => hk.2) (.int .i64 ((rd_T48 t653 x34_2).f0))) (fun _ hk => hk.2) (.int .i64 ((rd_T48 t653 x34_2).f1))) (fun _ hk => hk.2) (.int .i64 ((rd_T48 t653 x34_2).f2))) (fun _ hk => hk.2) (.bool ((rd_T48 t653 x34_2).f3))) (fun _ hk => hk.2) (.bool false)) (fun _ h_ => h_.1))) (Kd.R_base ho0) hb); replace HO_32 := Aside0.mk (Kd.R_elder' (by (with_reducible repeat (first | apply Kd.R_alloc | apply Kd.R_drewN | apply Kd.R_drew)); exact (Kd.R_mono (Kd.R_far (p := ⟨gb659, 3, none⟩) (Kd.R_far (p := ⟨gb659, 3, none⟩) (Kd.R_far (p := ⟨gb659, 2, none⟩) (Kd.R_far (p := ⟨gb659, 1, none⟩) (Kd.R_far (p := ⟨gb659, 0, none⟩) (Kd.R_mono HO_32.out (fun k_ hk => (⟨hk, hk.2⟩ : _ ∧ k_ ≠ gb659))) (fun _ hk => hk.2) (.int .i64 ((rd_T48 t653 x34_2).f0))) (fun _ hk => hk.2) (.int .i64 ((rd_T48 t653 x34_2).f1))) (fun _ hk => hk.2) (.int .i64 ((rd_T48 t653 x34_2).f2))) (fun _ hk => hk.2) (.bool ((rd_T48 t653 x34_2).f3))) (fun _ hk => hk.2) (.bool false)) (fun _ h_ => h_.1))) (Kd.R_base ho0) hb); replace BK648 := Aside0.mk (blk_below (bf BK648 NB648_659) hb); replace BK649 := Aside0.mk (blk_below (bf BK649 NB649_659) hb); replace BK659 := Aside0.mk (blk_below (g := gb659) (o := .cells #[.int .i64 ((rd_T48 t653 x34_2).f0), .int .i64 ((rd_T48 t653 x34_2).f1), .int .i64 ((rd_T48 t653 x34_2).f2), .bool false] 48 (0, 0)) (by (with_reducible repeat (first | refine blk_drewN ?_ _ | refine blk_drew ?_ | refine blk_alloc ?_ _)); refine blk_put (cs := #[.int .i64 ((rd_T48 t653 x34_2).f0), .int .i64 ((rd_T48 t653 x34_2).f1), .int .i64 ((rd_T48 t653 x34_2).f2), .bool ((rd_T48 t653 x34_2).f3)]) ?_ 3 _ rfl; (with_reducible repeat (first | refine blk_drewN ?_ _ | refine blk_drew ?_ | refine blk_alloc ?_ _)); refine blk_put (cs := #[.int .i64 ((rd_T48 t653 x34_2).f0), .int .i64 ((rd_T48 t653 x34_2).f1), .int .i64 ((rd_T48 t653 x34_2).f2), .bool false]) ?_ 3 _ rfl; (with_reducible repeat (first | refine blk_drewN ?_ _ | refine blk_drew ?_ | refine blk_alloc ?_ _)); refine blk_put (cs := #[.int .i64 ((rd_T48 t653 x34_2).f0), .int .i64 ((rd_T48 t653 x34_2).f1), .int .i64 0, .bool false]) ?_ 2 _ rfl; (with_reducible repeat (first | refine blk_drewN ?_ _ | refine blk_drew ?_ | refine blk_alloc ?_ _)); refine blk_put (cs := #[.int .i64 ((rd_T48 t653 x34_2).f0), .int .i64 0, .int .i64 0, .bool false]) ?_ 1 _ rfl; (with_reducible repeat (first | refine blk_drewN ?_ _ | refine blk_drew ?_ | refine blk_alloc ?_ _)); refine blk_put (cs := #[.int .i64 0, .int .i64 0, .int .i64 0, .bool false]) ?_ 0 _ rfl; (with_reducible repeat (first | refine blk_drewN ?_ _ | refine blk_drew ?_ | refine blk_alloc ?_ _)); exact BK659.out) hb); replace HB := Aside0.mk (below_step (bs3 HB GE648 GE649 GE659) hb); (try clear hb); (try clear hb2); (try clear hk); (try clear hi); (try clear ho0)))
         go_roundg k2
         case measure => have := HJ3.out; have := HK2.out; omega
         case rel => exact ⟨(t660), (wrap64 (x10_2 + ((rd_T48 t653 x34_2).f1))), (wrap64 (x34_2 + 1)), (by first | rfl | (simp; done) | (simp [*]; done)), (by first | rfl | (simp; done) | (simp [*]; done)), H', ⟨by have := HJ3.out; have := HK2.out; omega⟩, rm HO662 (fun _ hk => hk.1.2), rm HO_32 (fun _ hk => hk.2), ⟨bk BK648⟩, ⟨bk BK649⟩, ⟨bs3 HB GE648 GE649 GE659⟩⟩
        ·
         rw [if_neg c26] at H
         exact absurd H (by simp)
       ·
        rw [if_neg c25] at H
        exact absurd H (by simp)
      ·
       rw [if_neg c24] at H
       have c24b0 : decide (x34_2 < (t653.length : Int)) = false := decide_eq_false c24
       clear c24
       replace H := Option.bind_eq_some_iff.mp H
       obtain ⟨t663, A340, H⟩ := H
       replace H : (if x10_2 = a2 then ((spec_GoodMap.f k2 t663).bind fun t667 => (if t667 = true then (some (t663, true)) else (some (([] : List (S48)), false)))) else (some (([] : List (S48)), false))) = some (r1, r2) := H
       have A34 := Aside0.mk A340
       clear A340
       by_cases c35 : x10_2 = a2
       ·
        rw [if_pos c35] at H
        have c35b0 : (x10_2 == a2) = true := beq_iff_eq.mpr c35
        have c35b1 : (x10_2 != a2) = false := bne_eq_false_iff_eq.mpr c35
        clear c35
        replace H := Option.bind_eq_some_iff.mp H
        obtain ⟨t667, A360, H⟩ := H
        replace H : (if t667 = true then (some (t663, true)) else (some (([] : List (S48)), false))) = some (r1, r2) := H
        have A36 := Aside0.mk A360
        clear A360
        by_cases c37 : t667 = true
        ·
         subst c37
         rw [if_pos rfl] at H
         simp only [Option.some.injEq, Prod.mk.injEq] at H
         obtain ⟨rfl, rfl⟩ := H
         obtain ⟨Ao38, co38, eo38⟩ := Kd.R_slice HO_8.out
         subst eo38
         go_wp2_with (first | ((with_reducible refine gate_callee (f := 62) rfl ?_); refine gL (some 48) rfl rfl Try.func62 (by kernel_rfl) rfl #[.slice Ao38 x8_2.length co38] rfl ?_; (with_reducible refine (spec_l9Joined.calls k2 _ _ x8_2 t663 _ ?side1 ?side2 A34.out).mono ?_); (case side1 => exact rc0 HO_8); (case side2 => exact (Kd.R_reads' HO_8.out).2.1); rintro e w39 ⟨v664, rfl, ho0, hb⟩; refine ⟨_, rfl, ?_⟩; have HO665 := Aside0.mk (Kd.R_lower (Kd.R_new' (Kd.R_new' ho0 (Kd.R_lt (rr HO_8.out))) (Kd.R_lt (rr HO_32.out))) (below_size (bs2 HB GE648 GE649))); replace HO_8 := Aside0.mk (Kd.R_elder' (rr HO_8.out) (Kd.R_base ho0) hb); replace HO_32 := Aside0.mk (Kd.R_elder' (rr HO_32.out) (Kd.R_base ho0) hb); replace BK648 := nb BK648 hb; replace BK649 := nb BK649 hb; replace HB := Aside0.mk (below_step (bs2 HB GE648 GE649) hb); (try clear hb); (try clear hb2); (try clear hk); (try clear hi); (try clear ho0)) | ((with_reducible refine gate_dst (N := 13) rfl ?_); refine box_event ?hg (N := 13) ?hd (cs := #[.slice none 0 0]) (t := 29) ?hr ?_; (case hd => rfl); (case hg => rfl); (case hr => first | (go_simp; done) | (go_simp; rfl)); intro gb666 hg w40 hbox hb; replace HO_8 := nr HO_8 hb; replace HO_32 := nr HO_32 hb; replace HO665 := nr HO665 hb; have BK666 := Aside0.mk (hbox); have GW666 := Aside0.mk ((by rw [hg]; exact (below_size (bs2 HB GE648 GE649)) : w.heap.size ≤ gb666)); have GE666 := Aside0.mk ((by rw [hg]; exact (below_size (bs2 HB GE648 GE649)) : w.heap.size ≤ gb666)); replace HB := Aside0.mk (below_step (bs2 HB GE648 GE649) hb); have NB648_666 := Aside0.mk ((bn BK648 hg : gb648 ≠ gb666)); have NB666_648 := Aside0.mk ((bm BK648 hg : gb666 ≠ gb648)); replace BK648 := nb BK648 hb; have NB649_666 := Aside0.mk ((bn BK649 hg : gb649 ≠ gb666)); have NB666_649 := Aside0.mk ((bm BK649 hg : gb666 ≠ gb649)); replace BK649 := nb BK649 hb; clear hb hbox hg; obtain ⟨Ao41, co41, eo41⟩ := Kd.R_slice HO665.out; subst eo41; have hnb42 := NB666_648.out; have hnc42 := NB648_666.out; have hnb43 := NB666_649.out; have hnc43 := NB649_666.out; have hcz44_0 := cz1 BK666; have hfz44_0 := fz1 BK666) | (go_at_call 15; (with_reducible refine (spec_GoodMap.calls k2 _ _ t663 true _ ?side1 ?side2 A36.out).mono ?_); (case side1 => exact rc HO665 BK666); (case side2 => exact (Kd.R_reads' HO665.out).2.1); rintro e w45 ⟨rfl, hb⟩; replace HO_8 := nf HO_8 BK666 hb; replace HO_32 := nf HO_32 BK666 hb; replace HO665 := nf HO665 BK666 hb; replace BK648 := Aside0.mk (blk_below (bf BK648 NB648_666) hb); replace BK649 := Aside0.mk (blk_below (bf BK649 NB649_666) hb); replace BK666 := Aside0.mk (blk_below (g := gb666) (o := .cells #[.slice Ao41 t663.length co41] 29 (0, 0)) (by (with_reducible repeat (first | refine blk_drewN ?_ _ | refine blk_drew ?_ | refine blk_alloc ?_ _)); refine blk_put (cs := #[.slice none 0 0]) ?_ 0 _ rfl; (with_reducible repeat (first | refine blk_drewN ?_ _ | refine blk_drew ?_ | refine blk_alloc ?_ _)); exact BK666.out) hb); replace HB := Aside0.mk (below_step (bs3 HB GE648 GE649 GE666) hb); (try clear hb); (try clear hb2); (try clear hk); (try clear hi); have hcz46_0 := cz1 BK666; have hfz46_0 := fz1 BK666; have hnb47 := NB649_648.out; have hnc47 := NB648_649.out; have hcz48_0 := cz1 BK649; have hfz48_0 := fz1 BK649))
         refine bodyPost_ret (results_ct rfl _ _ gb649 29 #[.slice Ao41 t663.length co41] (0, 0) _ rfl (by (with_reducible repeat (first | refine blk_drewN ?_ _ | refine blk_drew ?_ | refine blk_alloc ?_ _)); refine blk_put (cs := #[.slice none 0 0]) ?_ 0 _ rfl; (with_reducible repeat (first | refine blk_drewN ?_ _ | refine blk_drew ?_ | refine blk_alloc ?_ _)); exact BK649.out) Try.underlying29 rfl (by kernel_rfl)) rfl ?_
         exact ⟨_, by first | rfl | (simp [errW_none, errW_some] <;> rfl) | (simp [*, errW_none, errW_some] <;> rfl), by (with_reducible repeat (first | apply Kd.R_alloc | apply Kd.R_drewN | apply Kd.R_drew)); exact Kd.R_mono (Kd.R_far (p := ⟨gb649, 0, none⟩) (Kd.R_types HO665.out BK649.out (by decide)) (fun _ hk => hk.2) (.slice Ao41 t663.length co41)) (fun _ hk => trivial), bs3 HB GE648 GE649 GE666⟩
        ·
         replace c37 := Bool.eq_false_iff.mpr c37
         subst c37
         rw [if_neg (show ¬ (false = true) by decide)] at H
         simp only [Option.some.injEq, Prod.mk.injEq] at H
         obtain ⟨rfl, rfl⟩ := H
         obtain ⟨Ao49, co49, eo49⟩ := Kd.R_slice HO_8.out
         subst eo49
         go_wp2_with (first | ((with_reducible refine gate_callee (f := 62) rfl ?_); refine gL (some 48) rfl rfl Try.func62 (by kernel_rfl) rfl #[.slice Ao49 x8_2.length co49] rfl ?_; (with_reducible refine (spec_l9Joined.calls k2 _ _ x8_2 t663 _ ?side1 ?side2 A34.out).mono ?_); (case side1 => exact rc0 HO_8); (case side2 => exact (Kd.R_reads' HO_8.out).2.1); rintro e w50 ⟨v664, rfl, ho0, hb⟩; refine ⟨_, rfl, ?_⟩; have HO665 := Aside0.mk (Kd.R_lower (Kd.R_new' (Kd.R_new' ho0 (Kd.R_lt (rr HO_8.out))) (Kd.R_lt (rr HO_32.out))) (below_size (bs2 HB GE648 GE649))); replace HO_8 := Aside0.mk (Kd.R_elder' (rr HO_8.out) (Kd.R_base ho0) hb); replace HO_32 := Aside0.mk (Kd.R_elder' (rr HO_32.out) (Kd.R_base ho0) hb); replace BK648 := nb BK648 hb; replace BK649 := nb BK649 hb; replace HB := Aside0.mk (below_step (bs2 HB GE648 GE649) hb); (try clear hb); (try clear hb2); (try clear hk); (try clear hi); (try clear ho0)) | ((with_reducible refine gate_dst (N := 13) rfl ?_); refine box_event ?hg (N := 13) ?hd (cs := #[.slice none 0 0]) (t := 29) ?hr ?_; (case hd => rfl); (case hg => rfl); (case hr => first | (go_simp; done) | (go_simp; rfl)); intro gb666 hg w51 hbox hb; replace HO_8 := nr HO_8 hb; replace HO_32 := nr HO_32 hb; replace HO665 := nr HO665 hb; have BK666 := Aside0.mk (hbox); have GW666 := Aside0.mk ((by rw [hg]; exact (below_size (bs2 HB GE648 GE649)) : w.heap.size ≤ gb666)); have GE666 := Aside0.mk ((by rw [hg]; exact (below_size (bs2 HB GE648 GE649)) : w.heap.size ≤ gb666)); replace HB := Aside0.mk (below_step (bs2 HB GE648 GE649) hb); have NB648_666 := Aside0.mk ((bn BK648 hg : gb648 ≠ gb666)); have NB666_648 := Aside0.mk ((bm BK648 hg : gb666 ≠ gb648)); replace BK648 := nb BK648 hb; have NB649_666 := Aside0.mk ((bn BK649 hg : gb649 ≠ gb666)); have NB666_649 := Aside0.mk ((bm BK649 hg : gb666 ≠ gb649)); replace BK649 := nb BK649 hb; clear hb hbox hg; obtain ⟨Ao52, co52, eo52⟩ := Kd.R_slice HO665.out; subst eo52; have hnb53 := NB666_648.out; have hnc53 := NB648_666.out; have hnb54 := NB666_649.out; have hnc54 := NB649_666.out; have hcz55_0 := cz1 BK666; have hfz55_0 := fz1 BK666) | (go_at_call 15; (with_reducible refine (spec_GoodMap.calls k2 _ _ t663 false _ ?side1 ?side2 A36.out).mono ?_); (case side1 => exact rc HO665 BK666); (case side2 => exact (Kd.R_reads' HO665.out).2.1); rintro e w56 ⟨rfl, hb⟩; replace HO_8 := nf HO_8 BK666 hb; replace HO_32 := nf HO_32 BK666 hb; replace HO665 := nf HO665 BK666 hb; replace BK648 := Aside0.mk (blk_below (bf BK648 NB648_666) hb); replace BK649 := Aside0.mk (blk_below (bf BK649 NB649_666) hb); replace BK666 := Aside0.mk (blk_below (g := gb666) (o := .cells #[.slice Ao52 t663.length co52] 29 (0, 0)) (by (with_reducible repeat (first | refine blk_drewN ?_ _ | refine blk_drew ?_ | refine blk_alloc ?_ _)); refine blk_put (cs := #[.slice none 0 0]) ?_ 0 _ rfl; (with_reducible repeat (first | refine blk_drewN ?_ _ | refine blk_drew ?_ | refine blk_alloc ?_ _)); exact BK666.out) hb); replace HB := Aside0.mk (below_step (bs3 HB GE648 GE649 GE666) hb); (try clear hb); (try clear hb2); (try clear hk); (try clear hi); have hnb57 := NB649_648.out; have hnc57 := NB648_649.out; have hcz58_0 := cz1 BK649; have hfz58_0 := fz1 BK649))
         refine bodyPost_ret (results_ct rfl _ _ gb649 29 #[.slice none 0 0] (0, 0) _ rfl (by (with_reducible repeat (first | refine blk_drewN ?_ _ | refine blk_drew ?_ | refine blk_alloc ?_ _)); refine blk_put (cs := #[.slice none 0 0]) ?_ 0 _ rfl; (with_reducible repeat (first | refine blk_drewN ?_ _ | refine blk_drew ?_ | refine blk_alloc ?_ _)); exact BK649.out) Try.underlying29 rfl (by kernel_rfl)) rfl ?_
         exact ⟨_, by first | rfl | (simp [errW_none, errW_some] <;> rfl) | (simp [*, errW_none, errW_some] <;> rfl), by first | exact Kd.R_nil _ _ _ _ _ | exact Kd.N_nil _ _ _ _ _ | exact Kd.V_nil _ _ _ _ _ | exact Kd.Q_nil _ _ _ _ _ | exact Kd.S_nil _ _ _ _ _, bs3 HB GE648 GE649 GE666⟩
       ·
        rw [if_neg c35] at H
        have c35b0 : (x10_2 == a2) = false := beq_eq_false_iff_ne.mpr c35
        have c35b1 : (x10_2 != a2) = true := bne_iff_ne.mpr c35
        simp only [Option.some.injEq, Prod.mk.injEq] at H
        obtain ⟨rfl, rfl⟩ := H
        obtain ⟨Ao59, co59, eo59⟩ := Kd.R_slice HO_8.out
        subst eo59
        go_wp2_with (first | ((with_reducible refine gate_callee (f := 62) rfl ?_); refine gL (some 48) rfl rfl Try.func62 (by kernel_rfl) rfl #[.slice Ao59 x8_2.length co59] rfl ?_; (with_reducible refine (spec_l9Joined.calls k2 _ _ x8_2 t663 _ ?side1 ?side2 A34.out).mono ?_); (case side1 => exact rc0 HO_8); (case side2 => exact (Kd.R_reads' HO_8.out).2.1); rintro e w60 ⟨v664, rfl, ho0, hb⟩; refine ⟨_, rfl, ?_⟩; have HO665 := Aside0.mk (Kd.R_lower (Kd.R_new' (Kd.R_new' ho0 (Kd.R_lt (rr HO_8.out))) (Kd.R_lt (rr HO_32.out))) (below_size (bs2 HB GE648 GE649))); replace HO_8 := Aside0.mk (Kd.R_elder' (rr HO_8.out) (Kd.R_base ho0) hb); replace HO_32 := Aside0.mk (Kd.R_elder' (rr HO_32.out) (Kd.R_base ho0) hb); replace BK648 := nb BK648 hb; replace BK649 := nb BK649 hb; replace HB := Aside0.mk (below_step (bs2 HB GE648 GE649) hb); (try clear hb); (try clear hb2); (try clear hk); (try clear hi); (try clear ho0)) | ((with_reducible refine gate_dst (N := 13) rfl ?_); refine box_event ?hg (N := 13) ?hd (cs := #[.slice none 0 0]) (t := 29) ?hr ?_; (case hd => rfl); (case hg => rfl); (case hr => first | (go_simp; done) | (go_simp; rfl)); intro gb666 hg w61 hbox hb; replace HO_8 := nr HO_8 hb; replace HO_32 := nr HO_32 hb; replace HO665 := nr HO665 hb; have BK666 := Aside0.mk (hbox); have GW666 := Aside0.mk ((by rw [hg]; exact (below_size (bs2 HB GE648 GE649)) : w.heap.size ≤ gb666)); have GE666 := Aside0.mk ((by rw [hg]; exact (below_size (bs2 HB GE648 GE649)) : w.heap.size ≤ gb666)); replace HB := Aside0.mk (below_step (bs2 HB GE648 GE649) hb); have NB648_666 := Aside0.mk ((bn BK648 hg : gb648 ≠ gb666)); have NB666_648 := Aside0.mk ((bm BK648 hg : gb666 ≠ gb648)); replace BK648 := nb BK648 hb; have NB649_666 := Aside0.mk ((bn BK649 hg : gb649 ≠ gb666)); have NB666_649 := Aside0.mk ((bm BK649 hg : gb666 ≠ gb649)); replace BK649 := nb BK649 hb; clear hb hbox hg; obtain ⟨Ao62, co62, eo62⟩ := Kd.R_slice HO665.out; subst eo62; have hnb63 := NB666_648.out; have hnc63 := NB648_666.out; have hnb64 := NB666_649.out; have hnc64 := NB649_666.out; have hcz65_0 := cz1 BK666; have hfz65_0 := fz1 BK666; have hnb66 := NB649_648.out; have hnc66 := NB648_649.out; have hcz67_0 := cz1 BK649; have hfz67_0 := fz1 BK649))
        refine bodyPost_ret (results_ct rfl _ _ gb649 29 #[.slice none 0 0] (0, 0) _ rfl (by (with_reducible repeat (first | refine blk_drewN ?_ _ | refine blk_drew ?_ | refine blk_alloc ?_ _)); refine blk_put (cs := #[.slice none 0 0]) ?_ 0 _ rfl; (with_reducible repeat (first | refine blk_drewN ?_ _ | refine blk_drew ?_ | refine blk_alloc ?_ _)); refine blk_far ?_ NB649_666.out _; (with_reducible repeat (first | refine blk_drewN ?_ _ | refine blk_drew ?_ | refine blk_alloc ?_ _)); exact BK649.out) Try.underlying29 rfl (by kernel_rfl)) rfl ?_
        exact ⟨_, by first | rfl | (simp [errW_none, errW_some] <;> rfl) | (simp [*, errW_none, errW_some] <;> rfl), by first | exact Kd.R_nil _ _ _ _ _ | exact Kd.N_nil _ _ _ _ _ | exact Kd.V_nil _ _ _ _ _ | exact Kd.Q_nil _ _ _ _ _ | exact Kd.S_nil _ _ _ _ _, bs3 HB GE648 GE649 GE666⟩

/-! ### impl_isRange: function 70 -/
def impl_isRange.f (k : Nat) (l0_0 : List (S48)) (a1 : Int) (a2 : Int) : Option (Bool) := (impl_GoodMap.f k l0_0).bind fun t669 => (if t669 = true then ((impl_within.f a1 0 200).bind fun t670 => (if t670 = true then ((impl_within.f a2 0 (wrap64 (200 - a1))).bind fun t671 => (some t671)) else (some false))) else (some false))
theorem impl_isRange.mono : ∀ a0 a1 a2 k, LeO (impl_isRange.f k a0 a1 a2) (impl_isRange.f (k + 1) a0 a1 a2) := by
 intro a0 a1 a2 k
 unfold impl_isRange.f
 repeat' first
   | (with_reducible exact impl_GoodMap.mono _ _)
   | (with_reducible exact LeO.refl _)
   | (with_reducible exact LeO.none _)
   | (with_reducible refine LeO.ite ?_ ?_)
   | (with_reducible refine LeO.bind ?_ (fun _ => ?_))
   | exact impl_GoodMap.mono _ _
   | exact LeO.none _
   | refine LeO.ite ?_ ?_
   | refine LeO.bind ?_ (fun _ => ?_)
set_option maxHeartbeats 8000000 in
set_option maxRecDepth 100000 in
theorem impl_isRange.calls (k : Nat) (A0_0 : Option Addr) (c0_0 : Nat) (l0_0 : List (S48)) (a1 : Int) (a2 : Int) (r : Bool) (w : World) (hr0_0 : Kd.C k48 w A0_0 l0_0.length l0_0) (hc0_0 : l0_0.length ≤ c0_0) (h : impl_isRange.f k l0_0 a1 a2 = some r) :
  Calls Try.prog 70 #[.agg #[.slice A0_0 l0_0.length c0_0], .int .i64 a1, .int .i64 a2] w fun e w' => e = .returned (.bool r) ∧ Below w.heap.size w w' := by
 have hu29 := Try.underlying29
 have HR0_0 := Aside0.mk hr0_0
 have HC0_0 := Aside0.mk hc0_0
 clear hr0_0 hc0_0
 have HB := Aside0.mk (Below.refl w.heap.size w)
 have H : ((impl_GoodMap.f k l0_0).bind fun t669 => (if t669 = true then ((impl_within.f a1 0 200).bind fun t670 => (if t670 = true then ((impl_within.f a2 0 (wrap64 (200 - a1))).bind fun t671 => (some t671)) else (some false))) else (some false))) = some r := h
 clear h
 replace H := Option.bind_eq_some_iff.mp H
 obtain ⟨t669, A40, H⟩ := H
 replace H : (if t669 = true then ((impl_within.f a1 0 200).bind fun t670 => (if t670 = true then ((impl_within.f a2 0 (wrap64 (200 - a1))).bind fun t671 => (some t671)) else (some false))) else (some false)) = some r := H
 have A4 := Aside0.mk A40
 clear A40
 by_cases c5 : t669 = true
 ·
  subst c5
  rw [if_pos rfl] at H
  replace H := Option.bind_eq_some_iff.mp H
  obtain ⟨t670, A60, H⟩ := H
  replace H : (if t670 = true then ((impl_within.f a2 0 (wrap64 (200 - a1))).bind fun t671 => (some t671)) else (some false)) = some r := H
  have A6 := Aside0.mk A60
  clear A60
  by_cases c7 : t670 = true
  ·
   subst c7
   rw [if_pos rfl] at H
   replace H := Option.bind_eq_some_iff.mp H
   obtain ⟨t671, A80, H⟩ := H
   replace H : (some t671) = some r := H
   have A8 := Aside0.mk A80
   clear A80
   obtain rfl := Option.some.inj H
   go_enter Try.func70, Try.ntmps70
   go_wp2_with (first | ((with_reducible refine gate_dst (N := 3) rfl ?_); refine box_event ?hg (N := 3) ?hd (cs := #[.slice A0_0 l0_0.length c0_0]) (t := 29) ?hr ?_; (case hd => rfl); (case hg => rfl); (case hr => first | (go_simp; done) | (go_simp; rfl)); intro gb668 hg w9 hbox hb; have BK668 := Aside0.mk (hbox); have GW668 := Aside0.mk ((by rw [hg]; exact (below_size (bs HB)) : w.heap.size ≤ gb668)); have GE668 := Aside0.mk ((by rw [hg]; exact (below_size (bs HB)) : w.heap.size ≤ gb668)); replace HB := Aside0.mk (below_step (bs HB) hb); clear hb hbox hg; have hcz10_0 := cz1 BK668; have hfz10_0 := fz1 BK668) | ((with_reducible refine gate_callee (f := 17) rfl ?_); refine gL (some 8) rfl rfl Try.func17 (by kernel_rfl) rfl #[.agg #[.slice A0_0 l0_0.length c0_0]] rfl ?_; (with_reducible refine (impl_GoodMap.calls k _ _ l0_0 true _ ?side1 ?side2 A4.out).mono ?_); (case side1 => exact cb HR0_0 HB); (case side2 => exact HC0_0.out); rintro e w11 ⟨rfl, hb⟩; refine ⟨_, rfl, ?_⟩; replace BK668 := nb BK668 hb; replace HB := Aside0.mk (below_step (bs1 HB GE668) hb); (try clear hb); (try clear hb2); (try clear hk); (try clear hi)) | (go_at_call 56; (with_reducible refine (impl_within.calls a1 0 200 true _ A6.out).mono ?_); rintro e w' ⟨rfl, ⟨nd, rfl⟩⟩) | (go_at_call 56; (with_reducible refine (impl_within.calls a2 0 (wrap64 (200 - a1)) t671 _ A8.out).mono ?_); rintro e w' ⟨rfl, ⟨nd, rfl⟩⟩))
   go_ret
   exact ⟨by first | rfl | (simp [errW_none, errW_some] <;> rfl) | (simp [*, errW_none, errW_some] <;> rfl), bs1 HB GE668⟩
  ·
   replace c7 := Bool.eq_false_iff.mpr c7
   subst c7
   rw [if_neg (show ¬ (false = true) by decide)] at H
   obtain rfl := Option.some.inj H
   go_enter Try.func70, Try.ntmps70
   go_wp2_with (first | ((with_reducible refine gate_dst (N := 3) rfl ?_); refine box_event ?hg (N := 3) ?hd (cs := #[.slice A0_0 l0_0.length c0_0]) (t := 29) ?hr ?_; (case hd => rfl); (case hg => rfl); (case hr => first | (go_simp; done) | (go_simp; rfl)); intro gb668 hg w12 hbox hb; have BK668 := Aside0.mk (hbox); have GW668 := Aside0.mk ((by rw [hg]; exact (below_size (bs HB)) : w.heap.size ≤ gb668)); have GE668 := Aside0.mk ((by rw [hg]; exact (below_size (bs HB)) : w.heap.size ≤ gb668)); replace HB := Aside0.mk (below_step (bs HB) hb); clear hb hbox hg; have hcz13_0 := cz1 BK668; have hfz13_0 := fz1 BK668) | ((with_reducible refine gate_callee (f := 17) rfl ?_); refine gL (some 8) rfl rfl Try.func17 (by kernel_rfl) rfl #[.agg #[.slice A0_0 l0_0.length c0_0]] rfl ?_; (with_reducible refine (impl_GoodMap.calls k _ _ l0_0 true _ ?side1 ?side2 A4.out).mono ?_); (case side1 => exact cb HR0_0 HB); (case side2 => exact HC0_0.out); rintro e w14 ⟨rfl, hb⟩; refine ⟨_, rfl, ?_⟩; replace BK668 := nb BK668 hb; replace HB := Aside0.mk (below_step (bs1 HB GE668) hb); (try clear hb); (try clear hb2); (try clear hk); (try clear hi)) | (go_at_call 56; (with_reducible refine (impl_within.calls a1 0 200 false _ A6.out).mono ?_); rintro e w' ⟨rfl, ⟨nd, rfl⟩⟩))
   go_ret
   exact ⟨by first | rfl | (simp [errW_none, errW_some] <;> rfl) | (simp [*, errW_none, errW_some] <;> rfl), bs1 HB GE668⟩
 ·
  replace c5 := Bool.eq_false_iff.mpr c5
  subst c5
  rw [if_neg (show ¬ (false = true) by decide)] at H
  obtain rfl := Option.some.inj H
  go_enter Try.func70, Try.ntmps70
  go_wp2_with (first | ((with_reducible refine gate_dst (N := 3) rfl ?_); refine box_event ?hg (N := 3) ?hd (cs := #[.slice A0_0 l0_0.length c0_0]) (t := 29) ?hr ?_; (case hd => rfl); (case hg => rfl); (case hr => first | (go_simp; done) | (go_simp; rfl)); intro gb668 hg w15 hbox hb; have BK668 := Aside0.mk (hbox); have GW668 := Aside0.mk ((by rw [hg]; exact (below_size (bs HB)) : w.heap.size ≤ gb668)); have GE668 := Aside0.mk ((by rw [hg]; exact (below_size (bs HB)) : w.heap.size ≤ gb668)); replace HB := Aside0.mk (below_step (bs HB) hb); clear hb hbox hg; have hcz16_0 := cz1 BK668; have hfz16_0 := fz1 BK668) | ((with_reducible refine gate_callee (f := 17) rfl ?_); refine gL (some 8) rfl rfl Try.func17 (by kernel_rfl) rfl #[.agg #[.slice A0_0 l0_0.length c0_0]] rfl ?_; (with_reducible refine (impl_GoodMap.calls k _ _ l0_0 false _ ?side1 ?side2 A4.out).mono ?_); (case side1 => exact cb HR0_0 HB); (case side2 => exact HC0_0.out); rintro e w17 ⟨rfl, hb⟩; refine ⟨_, rfl, ?_⟩; replace BK668 := nb BK668 hb; replace HB := Aside0.mk (below_step (bs1 HB GE668) hb); (try clear hb); (try clear hb2); (try clear hk); (try clear hi)))
  go_ret
  exact ⟨by first | rfl | (simp [errW_none, errW_some] <;> rfl) | (simp [*, errW_none, errW_some] <;> rfl), bs1 HB GE668⟩

/-! ### impl_WrittenMap: function 36 -/
def impl_WrittenMap.l0 : Nat → Int → Int → List (S78) → Int → Option ((List (S48)) × Bool)
 | 0, _, _, _, _ => none
 | k + 1, x1, x2, x8, x9 => if x9 < (wrap64 (x1 + x2)) then (if 0 ≤ x9 then (if x9 < (x8.length : Int) then (if ((rd_T78 x8 x9).f0 = true) then (impl_WrittenMap.l0 k x1 x2 (x8.set (x9 : Int).toNat (⟨(rd_T78 x8 x9).f0, (rd_T78 x8 x9).f1, false⟩ : S78)) (wrap64 (x9 + 1))) else (some (([] : List (S48)), false))) else (none)) else (none)) else ((impl_mapOf.f k x8).bind fun bt680 => (some (bt680.1, bt680.2)))
def impl_WrittenMap.f (k : Nat) (l0_0 : List (S48)) (a1 : Int) (a2 : Int) : Option ((List (S48)) × Bool) := (impl_isRange.f k l0_0 a1 a2).bind fun t674 => (if t674 = true then ((impl_FileMap_cells.f k l0_0).bind fun t675 => (impl_WrittenMap.l0 k a1 a2 t675 a1)) else (some (([] : List (S48)), false)))
theorem impl_WrittenMap.mono_l : ∀ k, (∀ y0 y1 y2 y3, LeO (impl_WrittenMap.l0 k y0 y1 y2 y3) (impl_WrittenMap.l0 (k + 1) y0 y1 y2 y3))
 | 0 => fun _ _ _ _ r h => by simp [impl_WrittenMap.l0] at h
 | k + 1 => by
  have ih0 := impl_WrittenMap.mono_l k
  ·
   intro y0 y1 y2 y3
   unfold impl_WrittenMap.l0
   repeat' first
   | (with_reducible exact ih0 _ _ _ _)
   | (with_reducible exact impl_FileMap_cells.mono _ _)
   | (with_reducible exact impl_isRange.mono _ _ _ _)
   | (with_reducible exact impl_mapOf.mono _ _)
   | (with_reducible exact LeO.refl _)
   | (with_reducible exact LeO.none _)
   | (with_reducible refine LeO.ite ?_ ?_)
   | (with_reducible refine LeO.bind ?_ (fun _ => ?_))
   | exact ih0 _ _ _ _
   | exact impl_FileMap_cells.mono _ _
   | exact impl_isRange.mono _ _ _ _
   | exact impl_mapOf.mono _ _
   | exact LeO.none _
   | refine LeO.ite ?_ ?_
   | refine LeO.bind ?_ (fun _ => ?_)
theorem impl_WrittenMap.mono : ∀ a0 a1 a2 k, LeO (impl_WrittenMap.f k a0 a1 a2) (impl_WrittenMap.f (k + 1) a0 a1 a2) := by
 intro a0 a1 a2 k
 have ih0 := impl_WrittenMap.mono_l k
 unfold impl_WrittenMap.f
 repeat' first
   | (with_reducible exact ih0 _ _ _ _)
   | (with_reducible exact impl_FileMap_cells.mono _ _)
   | (with_reducible exact impl_isRange.mono _ _ _ _)
   | (with_reducible exact impl_mapOf.mono _ _)
   | (with_reducible exact LeO.refl _)
   | (with_reducible exact LeO.none _)
   | (with_reducible refine LeO.ite ?_ ?_)
   | (with_reducible refine LeO.bind ?_ (fun _ => ?_))
   | exact ih0 _ _ _ _
   | exact impl_FileMap_cells.mono _ _
   | exact impl_isRange.mono _ _ _ _
   | exact impl_mapOf.mono _ _
   | exact LeO.none _
   | refine LeO.ite ?_ ?_
   | refine LeO.bind ?_ (fun _ => ?_)
set_option maxHeartbeats 8000000 in
set_option maxRecDepth 100000 in
theorem impl_WrittenMap.calls (k : Nat) (A0_0 : Option Addr) (c0_0 : Nat) (l0_0 : List (S48)) (a1 : Int) (a2 : Int) (r1 : List (S48)) (r2 : Bool) (w : World) (hr0_0 : Kd.C k48 w A0_0 l0_0.length l0_0) (hc0_0 : l0_0.length ≤ c0_0) (h : impl_WrittenMap.f k l0_0 a1 a2 = some (r1, r2)) :
  Calls Try.prog 36 #[.agg #[.slice A0_0 l0_0.length c0_0], .int .i64 a1, .int .i64 a2] w fun e w' => ∃ v0_ : Value, e = .returned (.tuple #[.agg #[v0_], .bool r2]) ∧ Kd.R k48 48 w' w.heap.size (fun _ => True) v0_ r1 ∧ Below w.heap.size w w' := by
 have hu29 := Try.underlying29
 have HR0_0 := Aside0.mk hr0_0
 have HC0_0 := Aside0.mk hc0_0
 clear hr0_0 hc0_0
 have HB := Aside0.mk (Below.refl w.heap.size w)
 have H : ((impl_isRange.f k l0_0 a1 a2).bind fun t674 => (if t674 = true then ((impl_FileMap_cells.f k l0_0).bind fun t675 => (impl_WrittenMap.l0 k a1 a2 t675 a1)) else (some (([] : List (S48)), false)))) = some (r1, r2) := h
 clear h
 replace H := Option.bind_eq_some_iff.mp H
 obtain ⟨t674, A40, H⟩ := H
 replace H : (if t674 = true then ((impl_FileMap_cells.f k l0_0).bind fun t675 => (impl_WrittenMap.l0 k a1 a2 t675 a1)) else (some (([] : List (S48)), false))) = some (r1, r2) := H
 have A4 := Aside0.mk A40
 clear A40
 by_cases c5 : t674 = true
 ·
  subst c5
  rw [if_pos rfl] at H
  replace H := Option.bind_eq_some_iff.mp H
  obtain ⟨t675, A60, H⟩ := H
  replace H : (impl_WrittenMap.l0 k a1 a2 t675 a1) = some (r1, r2) := H
  have A6 := Aside0.mk A60
  clear A60
  have H' := Aside0.mk H
  clear H
  go_enter Try.func36, Try.ntmps36
  go_wp2_with (first | ((with_reducible refine gate_dst (N := 3) rfl ?_); refine box_event ?hg (N := 3) ?hd (cs := #[.slice A0_0 l0_0.length c0_0]) (t := 29) ?hr ?_; (case hd => rfl); (case hg => rfl); (case hr => first | (go_simp; done) | (go_simp; rfl)); intro gb672 hg w7 hbox hb; have BK672 := Aside0.mk (hbox); have GW672 := Aside0.mk ((by rw [hg]; exact (below_size (bs HB)) : w.heap.size ≤ gb672)); have GE672 := Aside0.mk ((by rw [hg]; exact (below_size (bs HB)) : w.heap.size ≤ gb672)); replace HB := Aside0.mk (below_step (bs HB) hb); clear hb hbox hg) | ((with_reducible refine gate_dst (N := 6) rfl ?_); refine box_event ?hg (N := 6) ?hd (cs := #[.slice none 0 0]) (t := 29) ?hr ?_; (case hd => rfl); (case hg => rfl); (case hr => first | (go_simp; done) | (go_simp; rfl)); intro gb673 hg w8 hbox hb; have BK673 := Aside0.mk (hbox); have GW673 := Aside0.mk ((by rw [hg]; exact (below_size (bs1 HB GE672)) : w.heap.size ≤ gb673)); have GE673 := Aside0.mk ((by rw [hg]; exact (below_size (bs1 HB GE672)) : w.heap.size ≤ gb673)); replace HB := Aside0.mk (below_step (bs1 HB GE672) hb); have NB672_673 := Aside0.mk ((bn BK672 hg : gb672 ≠ gb673)); have NB673_672 := Aside0.mk ((bm BK672 hg : gb673 ≠ gb672)); replace BK672 := nb BK672 hb; clear hb hbox hg; have hnb9 := NB672_673.out; have hnc9 := NB673_672.out; have hcz10_0 := cz1 BK672; have hfz10_0 := fz1 BK672) | ((with_reducible refine gate_callee (f := 70) rfl ?_); refine gL (some 13) rfl rfl Try.func70 (by kernel_rfl) rfl #[.agg #[.slice A0_0 l0_0.length c0_0], .int .i64 a1, .int .i64 a2] rfl ?_; (with_reducible refine (impl_isRange.calls k _ _ l0_0 a1 a2 true _ ?side1 ?side2 A4.out).mono ?_); (case side1 => exact cb HR0_0 HB); (case side2 => exact HC0_0.out); rintro e w11 ⟨rfl, hb⟩; refine ⟨_, rfl, ?_⟩; replace BK672 := nb BK672 hb; replace BK673 := nb BK673 hb; replace HB := Aside0.mk (below_step (bs2 HB GE672 GE673) hb); (try clear hb); (try clear hb2); (try clear hk); (try clear hi); have hcz12_0 := cz1 BK672; have hfz12_0 := fz1 BK672) | ((with_reducible refine gate_callee (f := 57) rfl ?_); refine gL (some 17) rfl rfl Try.func57 (by kernel_rfl) rfl #[.agg #[.slice A0_0 l0_0.length c0_0]] rfl ?_; (with_reducible refine (impl_FileMap_cells.calls k _ _ l0_0 t675 _ ?side1 ?side2 A6.out).mono ?_); (case side1 => exact cb HR0_0 HB); (case side2 => exact HC0_0.out); rintro e w13 ⟨v676, rfl, ho0, hb⟩; refine ⟨_, rfl, ?_⟩; have HO677 := Aside0.mk (Kd.R_lower ho0 (below_size (bs2 HB GE672 GE673))); replace BK672 := nb BK672 hb; replace BK673 := nb BK673 hb; replace HB := Aside0.mk (below_step (bs2 HB GE672 GE673) hb); (try clear hb); (try clear hb2); (try clear hk); (try clear hi); (try clear ho0)))
  go_loopg [9] k (fun kq v9 w' => ∃ (x8_1 : List (S78)) (x9_1 : Int), v9 = .int .i64 x9_1 ∧ Aside0 (impl_WrittenMap.l0 kq a1 a2 x8_1 x9_1 = some (r1, r2)) ∧ Aside0 (kq ≤ k) ∧ Aside0 (Kd.R k78 78 w' w.heap.size (fun _ => True) v676 x8_1) ∧ Aside0 (w'.heap[gb672]? = some (.cells #[(.slice A0_0 l0_0.length c0_0)] 29 (0, 0))) ∧ Aside0 (w'.heap[gb673]? = some (.cells #[(.slice none 0 0)] 29 (0, 0))) ∧ Aside0 (Below w.heap.size w w'))
  case atStart => exact ⟨(t675), (a1), (by first | rfl | (simp; done) | (simp [*]; done)), H', ⟨Nat.le_refl _⟩, ⟨rr HO677.out⟩, ⟨bk BK672⟩, ⟨bk BK673⟩, ⟨bs2 HB GE672 GE673⟩⟩
  case round =>
   clear H'
   try clear p2
   try clear c3
   try clear c5
   try clear c7
   try clear c9
   try clear hcz10_0
   try clear hcz12_0
   try clear hfz10_0
   try clear hfz12_0
   obtain ⟨x8_1, x9_1, rfl, HA, HK1, HO_8, BK672, BK673, HB⟩ := hrel
   cases gk with
   | zero => exact absurd HA.out (by simp [impl_WrittenMap.l0])
   | succ k1 =>
    have H := HA.out
    clear HA
    simp only [impl_WrittenMap.l0] at H
    by_cases c14 : x9_1 < (wrap64 (a1 + a2))
    ·
     rw [if_pos c14] at H
     have c14b0 : decide (x9_1 < (wrap64 (a1 + a2))) = true := decide_eq_true c14
     clear c14
     by_cases c15 : 0 ≤ x9_1
     ·
      rw [if_pos c15] at H
      have c15b0 : decide (0 ≤ x9_1) = true := decide_eq_true c15
      clear c15
      by_cases c16 : x9_1 < (x8_1.length : Int)
      ·
       rw [if_pos c16] at H
       have c16b0 : decide (x9_1 < (x8_1.length : Int)) = true := decide_eq_true c16
       clear c16
       obtain ⟨bq17, hbq17⟩ : ∃ b_ : Bool, b_ = ((rd_T78 x8_1 x9_1).f0) := ⟨_, rfl⟩
       replace H : (if (bq17 = true) then (impl_WrittenMap.l0 k1 a1 a2 (x8_1.set (x9_1 : Int).toNat (⟨bq17, (rd_T78 x8_1 x9_1).f1, false⟩ : S78)) (wrap64 (x9_1 + 1))) else (some (([] : List (S48)), false))) = some (r1, r2) := by rw [← hbq17] at H; exact H
       have Nbq17 := Aside0.mk hbq17
       clear hbq17
       by_cases c18 : (bq17 = true)
       ·
        subst c18
        rw [if_pos rfl] at H
        obtain ⟨y679, hy679⟩ : ∃ y_ : List (S78), y_ = (x8_1.set (x9_1 : Int).toNat (⟨true, (rd_T78 x8_1 x9_1).f1, false⟩ : S78)) := ⟨_, rfl⟩
        replace H : (impl_WrittenMap.l0 k1 a1 a2 y679 (wrap64 (x9_1 + 1))) = some (r1, r2) := by first | (rw [hy679]; with_reducible exact H) | (have H2_ := (Option.bind_some _ _).symm.trans H; rw [hy679]; with_reducible exact H2_) | (have H2_ := (Option.bind_some _ _).symm.trans H; with_reducible exact H2_) | with_reducible exact H | (rw [hy679]; exact H) | exact H
        have Ny679 := Aside0.mk hy679
        clear hy679
        have H' := Aside0.mk H
        clear H
        obtain ⟨Ao20, co20, eo20⟩ := Kd.R_slice HO_8.out
        subst eo20
        have p678 : 0 ≤ (x9_1 : Int) := of_decide_eq_true (by first | (with_reducible assumption) | assumption)
        have q678 : x9_1 < (x8_1.length : Int) := of_decide_eq_true (by first | (with_reducible assumption) | assumption)
        obtain ⟨ad678, e678, hx678_0, hx678_1, hx678_2⟩ := at_T78 (Kd.R_reads' HO_8.out).2.2 x9_1 p678 q678
        (try rw [← Nbq17.out] at hx678_0)
        (try rw [← Nbq17.out] at hx678_2)
        cases e678
        replace p678 := eq_true p678
        replace q678 := eq_true q678
        have p19 : 0 ≤ (x9_1 : Int) := of_decide_eq_true (by first | (with_reducible assumption) | assumption)
        have q19 : (x9_1 : Int) < ((x8_1.length : Int) : Int) := of_decide_eq_true (by first | (with_reducible assumption) | assumption)
        obtain ⟨go19, co19, eo19, gb19, gl19, cl19, HG19⟩ := Kd.R_form HO_8.out (by omega)
        (first | cases eo19 | (injection eo19 with ea_ en_ ec_; (first | subst ea_ | (injection ea_ with ea_; subst ea_)); subst ec_; clear en_))
        have GB19 := Aside0.mk gb19
        have GG19 := Aside0.mk HG19
        clear gb19 gl19 HG19
        (first | simp only [add_plain] at hx678_0 | skip)
        (first | simp only [add_plain] at hx678_1 | skip)
        (first | simp only [add_plain] at hx678_2 | skip)
        obtain ⟨ce19, hcl19, hM19, hcc19, hfr19⟩ := Kd.R_elem HO_8.out z78 (x9_1 : Int) p19 q19
        obtain rfl := k78_openM hM19
        have hx19_0 : wr.cell? ⟨go19, (x9_1 : Int).toNat * 3, none⟩ = some (.bool ((rd_T78 x8_1 x9_1).f0)) := hcc19 0 _ rfl
        have hx19_1 : wr.cell? ⟨go19, (x9_1 : Int).toNat * 3 + 1, none⟩ = some (.int .i64 ((rd_T78 x8_1 x9_1).f1)) := hcc19 1 _ rfl
        have hx19_2 : wr.cell? ⟨go19, (x9_1 : Int).toNat * 3 + 2, none⟩ = some (.bool ((rd_T78 x8_1 x9_1).f2)) := hcc19 2 _ rfl
        have hf19_0 : wr.frozen? ⟨go19, (x9_1 : Int).toNat * 3, none⟩ = false := hfr19 0
        have hf19_1 : wr.frozen? ⟨go19, (x9_1 : Int).toNat * 3 + 1, none⟩ = false := hfr19 1
        have hf19_2 : wr.frozen? ⟨go19, (x9_1 : Int).toNat * 3 + 2, none⟩ = false := hfr19 2
        clear hcl19 hcc19 hfr19 hM19
        replace p19 := eq_true p19
        replace q19 := eq_true q19
        have HX21 := Aside0.mk (show Kd.R k78 78 wr w.heap.size (fun _ => True) (.slice (some ⟨go19, 0, none⟩) x8_1.length co20) x8_1 from (rr HO_8.out))
        obtain ⟨ce21, hcl21, hM21, hcc21, hfr21⟩ := Kd.R_elem HX21.out z78 (x9_1 : Int) (of_decide_eq_true (by first | (with_reducible assumption) | assumption)) (by have h_ : (x9_1 : Int) < ((x8_1.length : Int) : Int) := of_decide_eq_true (by first | (with_reducible assumption) | assumption); first | exact h_ | (have e_ := (Kd.R_reads' HO_8.out).1; omega) | simpa using h_)
        obtain rfl := k78_openM hM21
        have HP21 := Kd.R_seg HX21.out (x9_1 : Int) (of_decide_eq_true (by first | (with_reducible assumption) | assumption)) (by have h_ : (x9_1 : Int) < ((x8_1.length : Int) : Int) := of_decide_eq_true (by first | (with_reducible assumption) | assumption); first | exact h_ | (have e_ := (Kd.R_reads' HO_8.out).1; omega) | simpa using h_) (seg := [.bool false]) (j := 2) hcl21 hcc21 (show 3 ≤ 3 from by decide) (x' := (⟨(rd_T78 x8_1 x9_1).f0, (rd_T78 x8_1 x9_1).f1, false⟩ : S78)) (k78_mkM _ _ _ (⟨(rd_T78 x8_1 x9_1).f0, (rd_T78 x8_1 x9_1).f1, false⟩ : S78) ) (fun _ hk => hk)
        rw [← Nbq17.out] at HP21
        have hx21_2 := hcc21 2 _ rfl
        (try simp only [show (k78).sz = 3 from rfl, Nat.mul_one, Nat.add_zero] at hx21_2)
        have hf21_2 := hfr21 2
        (try simp only [show (k78).sz = 3 from rfl, Nat.mul_one, Nat.add_zero] at hf21_2)
        clear hcl21 hcc21 hfr21 hM21
        go_wp2_with (first | ((with_reducible refine gate_store (t := 4) (p := 36) rfl ?_); refine store_event (t := 4) (p := 36) (v := ?vo_w22) (w1 := (wr.setCell ⟨go19, (x9_1 : Int).toNat * 3 + 2, none⟩ (.bool false))) ?hg ?ho ?hn ?hr ?_; (case ho => rfl); (case hg => rfl); (case hn => rfl); (case hr => first | (go_simp; done) | (go_simp; rfl)); intro w22 hw; have hg : wr.grownBy w22 (some go19) := (by rw [hw]; exact HP21.2); have hp_ : Kd.R k78 78 w22 w.heap.size (fun _ => True) (.slice (some ⟨go19, 0, none⟩) x8_1.length co20) y679 := (by rw [hw, Ny679.out]; exact HP21.1); clear HP21; replace BK672 := Aside0.mk (blk_grown (g := gb672) (o := .cells #[.slice A0_0 l0_0.length c0_0] 29 (0, 0)) (bk BK672) hg (Kd.R_ne HO_8.out BK672.out (by decide))); replace BK673 := Aside0.mk (blk_grown (g := gb673) (o := .cells #[.slice none 0 0] 29 (0, 0)) (bk BK673) hg (Kd.R_ne HO_8.out BK673.out (by decide))); replace HO_8 := Aside0.mk (hp_); replace HB := Aside0.mk ((by rw [hw]; exact below_set (HB.out) GB19.out : Below w.heap.size w w22)); clear hg hw hp_))
        go_roundg k1
        case measure => have := HK1.out; omega
        case rel => exact ⟨(y679), (wrap64 (x9_1 + 1)), (by first | rfl | (simp; done) | (simp [*]; done)), H', ⟨by have := HK1.out; omega⟩, ⟨rr HO_8.out⟩, ⟨bk BK672⟩, ⟨bk BK673⟩, ⟨bs2 HB GE672 GE673⟩⟩
       ·
        replace c18 := Bool.eq_false_iff.mpr c18
        subst c18
        rw [if_neg (show ¬ (false = true) by decide)] at H
        simp only [Option.some.injEq, Prod.mk.injEq] at H
        obtain ⟨rfl, rfl⟩ := H
        obtain ⟨Ao23, co23, eo23⟩ := Kd.R_slice HO_8.out
        subst eo23
        have p678 : 0 ≤ (x9_1 : Int) := of_decide_eq_true (by first | (with_reducible assumption) | assumption)
        have q678 : x9_1 < (x8_1.length : Int) := of_decide_eq_true (by first | (with_reducible assumption) | assumption)
        obtain ⟨ad678, e678, hx678_0, hx678_1, hx678_2⟩ := at_T78 (Kd.R_reads' HO_8.out).2.2 x9_1 p678 q678
        (try rw [← Nbq17.out] at hx678_0)
        (try rw [← Nbq17.out] at hx678_2)
        cases e678
        replace p678 := eq_true p678
        replace q678 := eq_true q678
        have hnb24 := NB673_672.out
        have hnc24 := NB672_673.out
        have hcz25_0 := cz1 BK673
        have hfz25_0 := fz1 BK673
        go_wp2
        refine bodyPost_ret (results_ct rfl _ _ gb673 29 #[.slice none 0 0] (0, 0) _ rfl (by (with_reducible repeat (first | refine blk_drewN ?_ _ | refine blk_drew ?_ | refine blk_alloc ?_ _)); refine blk_put (cs := #[.slice none 0 0]) ?_ 0 _ rfl; (with_reducible repeat (first | refine blk_drewN ?_ _ | refine blk_drew ?_ | refine blk_alloc ?_ _)); exact BK673.out) Try.underlying29 rfl (by kernel_rfl)) rfl ?_
        exact ⟨_, by first | rfl | (simp [errW_none, errW_some] <;> rfl) | (simp [*, errW_none, errW_some] <;> rfl), by first | exact Kd.R_nil _ _ _ _ _ | exact Kd.N_nil _ _ _ _ _ | exact Kd.V_nil _ _ _ _ _ | exact Kd.Q_nil _ _ _ _ _ | exact Kd.S_nil _ _ _ _ _, bs2 HB GE672 GE673⟩
      ·
       rw [if_neg c16] at H
       exact absurd H (by simp)
     ·
      rw [if_neg c15] at H
      exact absurd H (by simp)
    ·
     rw [if_neg c14] at H
     have c14b0 : decide (x9_1 < (wrap64 (a1 + a2))) = false := decide_eq_false c14
     clear c14
     replace H := Option.bind_eq_some_iff.mp H
     obtain ⟨⟨t680, t683⟩, A260, H⟩ := H
     replace H : (some (t680, t683)) = some (r1, r2) := H
     have A26 := Aside0.mk A260
     clear A260
     simp only [Option.some.injEq, Prod.mk.injEq] at H
     obtain ⟨rfl, rfl⟩ := H
     obtain ⟨Ao27, co27, eo27⟩ := Kd.R_slice HO_8.out
     subst eo27
     go_wp2_with (first | ((with_reducible refine gate_callee (f := 64) rfl ?_); refine gL (some 38) rfl rfl Try.func64 (by kernel_rfl) rfl #[.slice Ao27 x8_1.length co27] rfl ?_; (with_reducible refine (impl_mapOf.calls k1 _ _ x8_1 t680 t683 _ ?side1 ?side2 A26.out).mono ?_); (case side1 => exact rc0 HO_8); (case side2 => exact (Kd.R_reads' HO_8.out).2.1); rintro e w28 ⟨v681, rfl, ho0, hb⟩; refine ⟨_, rfl, ?_⟩; replace HO_8 := nr HO_8 hb; have HO682 := Aside0.mk (Kd.R_lower ho0 (below_size (bs2 HB GE672 GE673))); replace BK672 := nb BK672 hb; replace BK673 := nb BK673 hb; replace HB := Aside0.mk (below_step (bs2 HB GE672 GE673) hb); (try clear hb); (try clear hb2); (try clear hk); (try clear hi); (try clear ho0); obtain ⟨Ao29, co29, eo29⟩ := Kd.R_slice HO682.out; subst eo29; have hnb30 := NB673_672.out; have hnc30 := NB672_673.out; have hcz31_0 := cz1 BK673; have hfz31_0 := fz1 BK673))
     refine bodyPost_ret (results_ct rfl _ _ gb673 29 #[.slice Ao29 t680.length co29] (0, 0) _ rfl (by (with_reducible repeat (first | refine blk_drewN ?_ _ | refine blk_drew ?_ | refine blk_alloc ?_ _)); refine blk_put (cs := #[.slice none 0 0]) ?_ 0 _ rfl; (with_reducible repeat (first | refine blk_drewN ?_ _ | refine blk_drew ?_ | refine blk_alloc ?_ _)); exact BK673.out) Try.underlying29 rfl (by kernel_rfl)) rfl ?_
     exact ⟨_, by first | rfl | (simp [errW_none, errW_some] <;> rfl) | (simp [*, errW_none, errW_some] <;> rfl), by (with_reducible repeat (first | apply Kd.R_alloc | apply Kd.R_drewN | apply Kd.R_drew)); exact Kd.R_mono (Kd.R_far (p := ⟨gb673, 0, none⟩) (Kd.R_types HO682.out BK673.out (by decide)) (fun _ hk => hk.2) (.slice Ao29 t680.length co29)) (fun _ hk => trivial), bs2 HB GE672 GE673⟩
 ·
  replace c5 := Bool.eq_false_iff.mpr c5
  subst c5
  rw [if_neg (show ¬ (false = true) by decide)] at H
  simp only [Option.some.injEq, Prod.mk.injEq] at H
  obtain ⟨rfl, rfl⟩ := H
  go_enter Try.func36, Try.ntmps36
  go_wp2_with (first | ((with_reducible refine gate_dst (N := 3) rfl ?_); refine box_event ?hg (N := 3) ?hd (cs := #[.slice A0_0 l0_0.length c0_0]) (t := 29) ?hr ?_; (case hd => rfl); (case hg => rfl); (case hr => first | (go_simp; done) | (go_simp; rfl)); intro gb672 hg w32 hbox hb; have BK672 := Aside0.mk (hbox); have GW672 := Aside0.mk ((by rw [hg]; exact (below_size (bs HB)) : w.heap.size ≤ gb672)); have GE672 := Aside0.mk ((by rw [hg]; exact (below_size (bs HB)) : w.heap.size ≤ gb672)); replace HB := Aside0.mk (below_step (bs HB) hb); clear hb hbox hg) | ((with_reducible refine gate_dst (N := 6) rfl ?_); refine box_event ?hg (N := 6) ?hd (cs := #[.slice none 0 0]) (t := 29) ?hr ?_; (case hd => rfl); (case hg => rfl); (case hr => first | (go_simp; done) | (go_simp; rfl)); intro gb673 hg w33 hbox hb; have BK673 := Aside0.mk (hbox); have GW673 := Aside0.mk ((by rw [hg]; exact (below_size (bs1 HB GE672)) : w.heap.size ≤ gb673)); have GE673 := Aside0.mk ((by rw [hg]; exact (below_size (bs1 HB GE672)) : w.heap.size ≤ gb673)); replace HB := Aside0.mk (below_step (bs1 HB GE672) hb); have NB672_673 := Aside0.mk ((bn BK672 hg : gb672 ≠ gb673)); have NB673_672 := Aside0.mk ((bm BK672 hg : gb673 ≠ gb672)); replace BK672 := nb BK672 hb; clear hb hbox hg; have hnb34 := NB672_673.out; have hnc34 := NB673_672.out; have hcz35_0 := cz1 BK672; have hfz35_0 := fz1 BK672) | ((with_reducible refine gate_callee (f := 70) rfl ?_); refine gL (some 13) rfl rfl Try.func70 (by kernel_rfl) rfl #[.agg #[.slice A0_0 l0_0.length c0_0], .int .i64 a1, .int .i64 a2] rfl ?_; (with_reducible refine (impl_isRange.calls k _ _ l0_0 a1 a2 false _ ?side1 ?side2 A4.out).mono ?_); (case side1 => exact cb HR0_0 HB); (case side2 => exact HC0_0.out); rintro e w36 ⟨rfl, hb⟩; refine ⟨_, rfl, ?_⟩; replace BK672 := nb BK672 hb; replace BK673 := nb BK673 hb; replace HB := Aside0.mk (below_step (bs2 HB GE672 GE673) hb); (try clear hb); (try clear hb2); (try clear hk); (try clear hi); have hcz37_0 := cz1 BK673; have hfz37_0 := fz1 BK673))
  refine bodyPost_ret (results_ct rfl _ _ gb673 29 #[.slice none 0 0] (0, 0) _ rfl (by (with_reducible repeat (first | refine blk_drewN ?_ _ | refine blk_drew ?_ | refine blk_alloc ?_ _)); refine blk_put (cs := #[.slice none 0 0]) ?_ 0 _ rfl; (with_reducible repeat (first | refine blk_drewN ?_ _ | refine blk_drew ?_ | refine blk_alloc ?_ _)); exact BK673.out) Try.underlying29 rfl (by kernel_rfl)) rfl ?_
  exact ⟨_, by first | rfl | (simp [errW_none, errW_some] <;> rfl) | (simp [*, errW_none, errW_some] <;> rfl), by first | exact Kd.R_nil _ _ _ _ _ | exact Kd.N_nil _ _ _ _ _ | exact Kd.V_nil _ _ _ _ _ | exact Kd.Q_nil _ _ _ _ _ | exact Kd.S_nil _ _ _ _ _, bs2 HB GE672 GE673⟩

/-! ### laws_FnExactWrittenMap: function 9 -/
mutual
def laws_FnExactWrittenMap.j0 : Nat → Int → Int → Bool → Bool → Bool → List (S45) → List (S48) → List (S48) → List (S48) → Option (Bool)
 | 0, _, _, _, _, _, _, _, _, _ => none
 | k + 1, x1, x2, x9, x12, x48, x685000, x694000, x698000, x703000 => if x48 = true then (some false) else ((laws_toFileMap.f k x685000).bind fun t704 => ((laws_eqFileMap.f k x698000 t704).bind fun t707 => (if t707 = true then ((laws_markFileMap.f k x698000 1).bind fun bt708 => (if bt708.1 < 0 then (laws_FnExactWrittenMap.j1 k x1 x2 x9 true x685000 x694000 x703000) else ((laws_eqFileMap.f k x703000 x694000).bind fun t710 => (if t710 = true then (laws_FnExactWrittenMap.j1 k x1 x2 x9 (x12 != x9) x685000 x694000 x703000) else (laws_FnExactWrittenMap.j1 k x1 x2 x9 true x685000 x694000 x703000))))) else (some false))))
def laws_FnExactWrittenMap.j1 : Nat → Int → Int → Bool → Bool → List (S45) → List (S48) → List (S48) → Option (Bool)
 | 0, _, _, _, _, _, _, _ => none
 | k + 1, x1, x2, x9, x69, x685000, x694000, x703000 => if x69 = true then (some false) else ((laws_markFileMap.f k x703000 1).bind fun bt711 => ((laws_heldFileMap.f k bt711.2 1).bind fun t713 => (if t713 < 0 then (some false) else (if t713 = bt711.1 then ((laws_toFileMap.f k x685000).bind fun t714 => ((impl_WrittenMap.f k t714 x1 x2).bind fun bt717 => ((laws_eqFileMap.f k bt717.1 x694000).bind fun t722 => (if t722 = true then (laws_FnExactWrittenMap.j2 k bt711.1 (bt717.2 != x9) bt711.2) else (laws_FnExactWrittenMap.j2 k bt711.1 true bt711.2))))) else (some false)))))
def laws_FnExactWrittenMap.j2 : Nat → Int → Bool → List (S48) → Option (Bool)
 | 0, _, _, _ => none
 | k + 1, x14, x97, x703000 => if x97 = true then (some false) else ((laws_heldFileMap.f k x703000 1).bind fun t723 => (if t723 < 0 then (some false) else (if t723 = x14 then (some true) else (some false))))
end
def laws_FnExactWrittenMap.f (k : Nat) (l0_0 : List (S45)) (a1 : Int) (a2 : Int) : Option (Bool) := (laws_szFileMap.f l0_0 1048576).bind fun t685 => (if t685 < 0 then (some true) else ((laws_toFileMap.f k l0_0).bind fun t686 => ((spec_WrittenMap.f k t686 a1 a2).bind fun bt689 => ((laws_toFileMap.f k l0_0).bind fun t694 => ((impl_WrittenMap.f k t694 a1 a2).bind fun bt698 => ((laws_eqFileMap.f k bt698.1 bt689.1).bind fun t703 => (if t703 = true then (laws_FnExactWrittenMap.j0 k a1 a2 bt689.2 bt698.2 (bt698.2 != bt689.2) l0_0 bt689.1 t694 bt698.1) else (laws_FnExactWrittenMap.j0 k a1 a2 bt689.2 bt698.2 true l0_0 bt689.1 t694 bt698.1))))))))
theorem laws_FnExactWrittenMap.mono_l : ∀ k, (∀ y0 y1 y2 y3 y4 y5 y6 y7 y8, LeO (laws_FnExactWrittenMap.j0 k y0 y1 y2 y3 y4 y5 y6 y7 y8) (laws_FnExactWrittenMap.j0 (k + 1) y0 y1 y2 y3 y4 y5 y6 y7 y8)) ∧ (∀ y0 y1 y2 y3 y4 y5 y6, LeO (laws_FnExactWrittenMap.j1 k y0 y1 y2 y3 y4 y5 y6) (laws_FnExactWrittenMap.j1 (k + 1) y0 y1 y2 y3 y4 y5 y6)) ∧ (∀ y0 y1 y2, LeO (laws_FnExactWrittenMap.j2 k y0 y1 y2) (laws_FnExactWrittenMap.j2 (k + 1) y0 y1 y2))
 | 0 => ⟨fun _ _ _ _ _ _ _ _ _ r h => by simp [laws_FnExactWrittenMap.j0] at h, fun _ _ _ _ _ _ _ r h => by simp [laws_FnExactWrittenMap.j1] at h, fun _ _ _ r h => by simp [laws_FnExactWrittenMap.j2] at h⟩
 | k + 1 => by
  obtain ⟨ih0, ih1, ih2⟩ := laws_FnExactWrittenMap.mono_l k
  refine ⟨?_, ?_, ?_⟩
  ·
   intro y0 y1 y2 y3 y4 y5 y6 y7 y8
   unfold laws_FnExactWrittenMap.j0
   repeat' first
   | (with_reducible exact ih0 _ _ _ _ _ _ _ _ _)
   | (with_reducible exact ih1 _ _ _ _ _ _ _)
   | (with_reducible exact ih2 _ _ _)
   | (with_reducible exact impl_WrittenMap.mono _ _ _ _)
   | (with_reducible exact laws_eqFileMap.mono _ _ _)
   | (with_reducible exact laws_heldFileMap.mono _ _ _)
   | (with_reducible exact laws_markFileMap.mono _ _ _)
   | (with_reducible exact laws_toFileMap.mono _ _)
   | (with_reducible exact spec_WrittenMap.mono _ _ _ _)
   | (with_reducible exact LeO.refl _)
   | (with_reducible exact LeO.none _)
   | (with_reducible refine LeO.ite ?_ ?_)
   | (with_reducible refine LeO.bind ?_ (fun _ => ?_))
   | exact ih0 _ _ _ _ _ _ _ _ _
   | exact ih1 _ _ _ _ _ _ _
   | exact ih2 _ _ _
   | exact impl_WrittenMap.mono _ _ _ _
   | exact laws_eqFileMap.mono _ _ _
   | exact laws_heldFileMap.mono _ _ _
   | exact laws_markFileMap.mono _ _ _
   | exact laws_toFileMap.mono _ _
   | exact spec_WrittenMap.mono _ _ _ _
   | exact LeO.none _
   | refine LeO.ite ?_ ?_
   | refine LeO.bind ?_ (fun _ => ?_)
  ·
   intro y0 y1 y2 y3 y4 y5 y6
   unfold laws_FnExactWrittenMap.j1
   repeat' first
   | (with_reducible exact ih0 _ _ _ _ _ _ _ _ _)
   | (with_reducible exact ih1 _ _ _ _ _ _ _)
   | (with_reducible exact ih2 _ _ _)
   | (with_reducible exact impl_WrittenMap.mono _ _ _ _)
   | (with_reducible exact laws_eqFileMap.mono _ _ _)
   | (with_reducible exact laws_heldFileMap.mono _ _ _)
   | (with_reducible exact laws_markFileMap.mono _ _ _)
   | (with_reducible exact laws_toFileMap.mono _ _)
   | (with_reducible exact spec_WrittenMap.mono _ _ _ _)
   | (with_reducible exact LeO.refl _)
   | (with_reducible exact LeO.none _)
   | (with_reducible refine LeO.ite ?_ ?_)
   | (with_reducible refine LeO.bind ?_ (fun _ => ?_))
   | exact ih0 _ _ _ _ _ _ _ _ _
   | exact ih1 _ _ _ _ _ _ _
   | exact ih2 _ _ _
   | exact impl_WrittenMap.mono _ _ _ _
   | exact laws_eqFileMap.mono _ _ _
   | exact laws_heldFileMap.mono _ _ _
   | exact laws_markFileMap.mono _ _ _
   | exact laws_toFileMap.mono _ _
   | exact spec_WrittenMap.mono _ _ _ _
   | exact LeO.none _
   | refine LeO.ite ?_ ?_
   | refine LeO.bind ?_ (fun _ => ?_)
  ·
   intro y0 y1 y2
   unfold laws_FnExactWrittenMap.j2
   repeat' first
   | (with_reducible exact ih0 _ _ _ _ _ _ _ _ _)
   | (with_reducible exact ih1 _ _ _ _ _ _ _)
   | (with_reducible exact ih2 _ _ _)
   | (with_reducible exact impl_WrittenMap.mono _ _ _ _)
   | (with_reducible exact laws_eqFileMap.mono _ _ _)
   | (with_reducible exact laws_heldFileMap.mono _ _ _)
   | (with_reducible exact laws_markFileMap.mono _ _ _)
   | (with_reducible exact laws_toFileMap.mono _ _)
   | (with_reducible exact spec_WrittenMap.mono _ _ _ _)
   | (with_reducible exact LeO.refl _)
   | (with_reducible exact LeO.none _)
   | (with_reducible refine LeO.ite ?_ ?_)
   | (with_reducible refine LeO.bind ?_ (fun _ => ?_))
   | exact ih0 _ _ _ _ _ _ _ _ _
   | exact ih1 _ _ _ _ _ _ _
   | exact ih2 _ _ _
   | exact impl_WrittenMap.mono _ _ _ _
   | exact laws_eqFileMap.mono _ _ _
   | exact laws_heldFileMap.mono _ _ _
   | exact laws_markFileMap.mono _ _ _
   | exact laws_toFileMap.mono _ _
   | exact spec_WrittenMap.mono _ _ _ _
   | exact LeO.none _
   | refine LeO.ite ?_ ?_
   | refine LeO.bind ?_ (fun _ => ?_)
theorem laws_FnExactWrittenMap.mono : ∀ a0 a1 a2 k, LeO (laws_FnExactWrittenMap.f k a0 a1 a2) (laws_FnExactWrittenMap.f (k + 1) a0 a1 a2) := by
 intro a0 a1 a2 k
 obtain ⟨ih0, ih1, ih2⟩ := laws_FnExactWrittenMap.mono_l k
 unfold laws_FnExactWrittenMap.f
 repeat' first
   | (with_reducible exact ih0 _ _ _ _ _ _ _ _ _)
   | (with_reducible exact ih1 _ _ _ _ _ _ _)
   | (with_reducible exact ih2 _ _ _)
   | (with_reducible exact impl_WrittenMap.mono _ _ _ _)
   | (with_reducible exact laws_eqFileMap.mono _ _ _)
   | (with_reducible exact laws_heldFileMap.mono _ _ _)
   | (with_reducible exact laws_markFileMap.mono _ _ _)
   | (with_reducible exact laws_toFileMap.mono _ _)
   | (with_reducible exact spec_WrittenMap.mono _ _ _ _)
   | (with_reducible exact LeO.refl _)
   | (with_reducible exact LeO.none _)
   | (with_reducible refine LeO.ite ?_ ?_)
   | (with_reducible refine LeO.bind ?_ (fun _ => ?_))
   | exact ih0 _ _ _ _ _ _ _ _ _
   | exact ih1 _ _ _ _ _ _ _
   | exact ih2 _ _ _
   | exact impl_WrittenMap.mono _ _ _ _
   | exact laws_eqFileMap.mono _ _ _
   | exact laws_heldFileMap.mono _ _ _
   | exact laws_markFileMap.mono _ _ _
   | exact laws_toFileMap.mono _ _
   | exact spec_WrittenMap.mono _ _ _ _
   | exact LeO.none _
   | refine LeO.ite ?_ ?_
   | refine LeO.bind ?_ (fun _ => ?_)
set_option maxHeartbeats 8000000 in
set_option maxRecDepth 100000 in
theorem laws_FnExactWrittenMap.calls (k : Nat) (A0_0 : Option Addr) (c0_0 : Nat) (l0_0 : List (S45)) (a1 : Int) (a2 : Int) (r : Bool) (w : World) (hr0_0 : Kd.C k45 w A0_0 l0_0.length l0_0) (hc0_0 : l0_0.length ≤ c0_0) (h : laws_FnExactWrittenMap.f k l0_0 a1 a2 = some r) :
  Calls Try.prog 9 #[.agg #[.slice A0_0 l0_0.length c0_0], .int .i64 a1, .int .i64 a2] w fun e w' => e = .returned (.bool r) ∧ Below w.heap.size w w' := by
 have hu24 := Try.underlying24
 have hu29 := Try.underlying29
 have HR0_0 := Aside0.mk hr0_0
 have HC0_0 := Aside0.mk hc0_0
 clear hr0_0 hc0_0
 have HB := Aside0.mk (Below.refl w.heap.size w)
 have H : ((laws_szFileMap.f l0_0 1048576).bind fun t685 => (if t685 < 0 then (some true) else ((laws_toFileMap.f k l0_0).bind fun t686 => ((spec_WrittenMap.f k t686 a1 a2).bind fun bt689 => ((laws_toFileMap.f k l0_0).bind fun t694 => ((impl_WrittenMap.f k t694 a1 a2).bind fun bt698 => ((laws_eqFileMap.f k bt698.1 bt689.1).bind fun t703 => (if t703 = true then (laws_FnExactWrittenMap.j0 k a1 a2 bt689.2 bt698.2 (bt698.2 != bt689.2) l0_0 bt689.1 t694 bt698.1) else (laws_FnExactWrittenMap.j0 k a1 a2 bt689.2 bt698.2 true l0_0 bt689.1 t694 bt698.1))))))))) = some r := h
 clear h
 replace H := Option.bind_eq_some_iff.mp H
 obtain ⟨t685, A40, H⟩ := H
 replace H : (if t685 < 0 then (some true) else ((laws_toFileMap.f k l0_0).bind fun t686 => ((spec_WrittenMap.f k t686 a1 a2).bind fun bt689 => ((laws_toFileMap.f k l0_0).bind fun t694 => ((impl_WrittenMap.f k t694 a1 a2).bind fun bt698 => ((laws_eqFileMap.f k bt698.1 bt689.1).bind fun t703 => (if t703 = true then (laws_FnExactWrittenMap.j0 k a1 a2 bt689.2 bt698.2 (bt698.2 != bt689.2) l0_0 bt689.1 t694 bt698.1) else (laws_FnExactWrittenMap.j0 k a1 a2 bt689.2 bt698.2 true l0_0 bt689.1 t694 bt698.1)))))))) = some r := H
 have A4 := Aside0.mk A40
 clear A40
 by_cases c5 : t685 < 0
 ·
  rw [if_pos c5] at H
  have c5b0 : decide (t685 < 0) = true := decide_eq_true c5
  clear c5
  obtain rfl := Option.some.inj H
  go_enter Try.func9, Try.ntmps9
  go_wp2_with (first | ((with_reducible refine gate_dst (N := 3) rfl ?_); refine box_event ?hg (N := 3) ?hd (cs := #[.slice A0_0 l0_0.length c0_0]) (t := 24) ?hr ?_; (case hd => rfl); (case hg => rfl); (case hr => first | (go_simp; done) | (go_simp; rfl)); intro gb684 hg w6 hbox hb; have BK684 := Aside0.mk (hbox); have GW684 := Aside0.mk ((by rw [hg]; exact (below_size (bs HB)) : w.heap.size ≤ gb684)); have GE684 := Aside0.mk ((by rw [hg]; exact (below_size (bs HB)) : w.heap.size ≤ gb684)); replace HB := Aside0.mk (below_step (bs HB) hb); clear hb hbox hg; have hcz7_0 := cz1 BK684; have hfz7_0 := fz1 BK684) | ((with_reducible refine gate_callee (f := 14) rfl ?_); refine gL (some 20) rfl rfl Try.func14 (by kernel_rfl) rfl #[.agg #[.slice A0_0 l0_0.length c0_0], .int .i64 1048576] rfl ?_; (with_reducible refine (laws_szFileMap.calls _ _ l0_0 1048576 t685 _ ?side1 ?side2 A4.out).mono ?_); (case side1 => exact cb HR0_0 HB); (case side2 => exact HC0_0.out); rintro e w8 ⟨rfl, hb⟩; refine ⟨_, rfl, ?_⟩; replace BK684 := nb BK684 hb; replace HB := Aside0.mk (below_step (bs1 HB GE684) hb); (try clear hb); (try clear hb2); (try clear hk); (try clear hi)))
  go_ret
  exact ⟨by first | rfl | (simp [errW_none, errW_some] <;> rfl) | (simp [*, errW_none, errW_some] <;> rfl), bs1 HB GE684⟩
 ·
  rw [if_neg c5] at H
  have c5b0 : decide (t685 < 0) = false := decide_eq_false c5
  clear c5
  replace H := Option.bind_eq_some_iff.mp H
  obtain ⟨t686, A90, H⟩ := H
  replace H : ((spec_WrittenMap.f k t686 a1 a2).bind fun bt689 => ((laws_toFileMap.f k l0_0).bind fun t694 => ((impl_WrittenMap.f k t694 a1 a2).bind fun bt698 => ((laws_eqFileMap.f k bt698.1 bt689.1).bind fun t703 => (if t703 = true then (laws_FnExactWrittenMap.j0 k a1 a2 bt689.2 bt698.2 (bt698.2 != bt689.2) l0_0 bt689.1 t694 bt698.1) else (laws_FnExactWrittenMap.j0 k a1 a2 bt689.2 bt698.2 true l0_0 bt689.1 t694 bt698.1)))))) = some r := H
  have A9 := Aside0.mk A90
  clear A90
  replace H := Option.bind_eq_some_iff.mp H
  obtain ⟨⟨t689, t692⟩, A100, H⟩ := H
  replace H : ((laws_toFileMap.f k l0_0).bind fun t694 => ((impl_WrittenMap.f k t694 a1 a2).bind fun bt698 => ((laws_eqFileMap.f k bt698.1 t689).bind fun t703 => (if t703 = true then (laws_FnExactWrittenMap.j0 k a1 a2 t692 bt698.2 (bt698.2 != t692) l0_0 t689 t694 bt698.1) else (laws_FnExactWrittenMap.j0 k a1 a2 t692 bt698.2 true l0_0 t689 t694 bt698.1))))) = some r := H
  have A10 := Aside0.mk A100
  clear A100
  replace H := Option.bind_eq_some_iff.mp H
  obtain ⟨t694, A110, H⟩ := H
  replace H : ((impl_WrittenMap.f k t694 a1 a2).bind fun bt698 => ((laws_eqFileMap.f k bt698.1 t689).bind fun t703 => (if t703 = true then (laws_FnExactWrittenMap.j0 k a1 a2 t692 bt698.2 (bt698.2 != t692) l0_0 t689 t694 bt698.1) else (laws_FnExactWrittenMap.j0 k a1 a2 t692 bt698.2 true l0_0 t689 t694 bt698.1)))) = some r := H
  have A11 := Aside0.mk A110
  clear A110
  replace H := Option.bind_eq_some_iff.mp H
  obtain ⟨⟨t698, t701⟩, A120, H⟩ := H
  replace H : ((laws_eqFileMap.f k t698 t689).bind fun t703 => (if t703 = true then (laws_FnExactWrittenMap.j0 k a1 a2 t692 t701 (t701 != t692) l0_0 t689 t694 t698) else (laws_FnExactWrittenMap.j0 k a1 a2 t692 t701 true l0_0 t689 t694 t698))) = some r := H
  have A12 := Aside0.mk A120
  clear A120
  have HC13 := Aside0.mk H
  clear H
  go_enter Try.func9, Try.ntmps9
  go_upto_region 8 with (first | ((with_reducible refine gate_dst (N := 3) rfl ?_); refine box_event ?hg (N := 3) ?hd (cs := #[.slice A0_0 l0_0.length c0_0]) (t := 24) ?hr ?_; (case hd => rfl); (case hg => rfl); (case hr => first | (go_simp; done) | (go_simp; rfl)); intro gb684 hg w14 hbox hb; have BK684 := Aside0.mk (hbox); have GW684 := Aside0.mk ((by rw [hg]; exact (below_size (bs HB)) : w.heap.size ≤ gb684)); have GE684 := Aside0.mk ((by rw [hg]; exact (below_size (bs HB)) : w.heap.size ≤ gb684)); replace HB := Aside0.mk (below_step (bs HB) hb); clear hb hbox hg; have hcz15_0 := cz1 BK684; have hfz15_0 := fz1 BK684) | ((with_reducible refine gate_callee (f := 14) rfl ?_); refine gL (some 20) rfl rfl Try.func14 (by kernel_rfl) rfl #[.agg #[.slice A0_0 l0_0.length c0_0], .int .i64 1048576] rfl ?_; (with_reducible refine (laws_szFileMap.calls _ _ l0_0 1048576 t685 _ ?side1 ?side2 A4.out).mono ?_); (case side1 => exact cb HR0_0 HB); (case side2 => exact HC0_0.out); rintro e w16 ⟨rfl, hb⟩; refine ⟨_, rfl, ?_⟩; replace BK684 := nb BK684 hb; replace HB := Aside0.mk (below_step (bs1 HB GE684) hb); (try clear hb); (try clear hb2); (try clear hk); (try clear hi); have hcz17_0 := cz1 BK684; have hfz17_0 := fz1 BK684) | ((with_reducible refine gate_callee (f := 16) rfl ?_); refine gL (some 25) rfl rfl Try.func16 (by kernel_rfl) rfl #[.agg #[.slice A0_0 l0_0.length c0_0]] rfl ?_; (with_reducible refine (laws_toFileMap.calls k _ _ l0_0 t686 _ ?side1 ?side2 A9.out).mono ?_); (case side1 => exact cb HR0_0 HB); (case side2 => exact HC0_0.out); rintro e w18 ⟨v687, rfl, ho0, hb⟩; refine ⟨_, rfl, ?_⟩; have HO688 := Aside0.mk (Kd.R_lower ho0 (below_size (bs1 HB GE684))); replace BK684 := nb BK684 hb; replace HB := Aside0.mk (below_step (bs1 HB GE684) hb); (try clear hb); (try clear hb2); (try clear hk); (try clear hi); (try clear ho0); obtain ⟨Ao19, co19, eo19⟩ := Kd.R_slice HO688.out; subst eo19) | ((with_reducible refine gate_callee (f := 35) rfl ?_); refine gL (some 28) rfl rfl Try.func35 (by kernel_rfl) rfl #[.agg #[.slice Ao19 t686.length co19], .int .i64 a1, .int .i64 a2] rfl ?_; (with_reducible refine (spec_WrittenMap.calls k _ _ t686 a1 a2 t689 t692 _ ?side1 ?side2 A10.out).mono ?_); (case side1 => exact rc0 HO688); (case side2 => exact (Kd.R_reads' HO688.out).2.1); rintro e w20 ⟨v690, rfl, ho0, hb⟩; refine ⟨_, rfl, ?_⟩; have HO691 := Aside0.mk (Kd.R_lower (Kd.R_new' ho0 (Kd.R_lt (rr HO688.out))) (below_size (bs1 HB GE684))); replace HO688 := Aside0.mk (Kd.R_elder' (rr HO688.out) (Kd.R_base ho0) hb); replace BK684 := nb BK684 hb; replace HB := Aside0.mk (below_step (bs1 HB GE684) hb); (try clear hb); (try clear hb2); (try clear hk); (try clear hi); (try clear ho0)) | ((with_reducible refine gate_dst (N := 8) rfl ?_); refine box_event ?hg (N := 8) ?hd (cs := #[.slice none 0 0]) (t := 29) ?hr ?_; (case hd => rfl); (case hg => rfl); (case hr => first | (go_simp; done) | (go_simp; rfl)); intro gb693 hg w21 hbox hb; replace HO688 := nr HO688 hb; replace HO691 := nr HO691 hb; have BK693 := Aside0.mk (hbox); have GW693 := Aside0.mk ((by rw [hg]; exact (below_size (bs1 HB GE684)) : w.heap.size ≤ gb693)); have GE693 := Aside0.mk ((by rw [hg]; exact (below_size (bs1 HB GE684)) : w.heap.size ≤ gb693)); replace HB := Aside0.mk (below_step (bs1 HB GE684) hb); have NB684_693 := Aside0.mk ((bn BK684 hg : gb684 ≠ gb693)); have NB693_684 := Aside0.mk ((bm BK684 hg : gb693 ≠ gb684)); replace BK684 := nb BK684 hb; clear hb hbox hg; obtain ⟨Ao22, co22, eo22⟩ := Kd.R_slice HO691.out; subst eo22; have hnb23 := NB693_684.out; have hnc23 := NB684_693.out; have hcz24_0 := cz1 BK693; have hfz24_0 := fz1 BK693; have hcz25_0 := cz1 BK684; have hfz25_0 := fz1 BK684) | ((with_reducible refine gate_callee (f := 16) rfl ?_); refine gL (some 32) rfl rfl Try.func16 (by kernel_rfl) rfl #[.agg #[.slice A0_0 l0_0.length c0_0]] rfl ?_; (with_reducible refine (laws_toFileMap.calls k _ _ l0_0 t694 _ ?side1 ?side2 A11.out).mono ?_); (case side1 => exact Kd.C_below HR0_0.out (bs2 HB GE684 GE693)); (case side2 => exact HC0_0.out); rintro e w26 ⟨v695, rfl, ho0, hb⟩; refine ⟨_, rfl, ?_⟩; have HO696 := Aside0.mk (Kd.R_lower (Kd.R_new' (Kd.R_new' ho0 (Kd.R_lt (rf HO688 BK693))) (Kd.R_lt (rf HO691 BK693))) (below_size (bs2 HB GE684 GE693))); replace HO688 := Aside0.mk (Kd.R_elder' (rf HO688 BK693) (Kd.R_base ho0) hb); replace HO691 := Aside0.mk (Kd.R_elder' (rf HO691 BK693) (Kd.R_base ho0) hb); replace BK684 := Aside0.mk (blk_below (bf BK684 NB684_693) hb); replace BK693 := Aside0.mk (blk_below (g := gb693) (o := .cells #[.slice Ao22 t689.length co22] 29 (0, 0)) (by (with_reducible repeat (first | refine blk_drewN ?_ _ | refine blk_drew ?_ | refine blk_alloc ?_ _)); refine blk_put (cs := #[.slice none 0 0]) ?_ 0 _ rfl; (with_reducible repeat (first | refine blk_drewN ?_ _ | refine blk_drew ?_ | refine blk_alloc ?_ _)); exact BK693.out) hb); replace HB := Aside0.mk (below_step (bs2 HB GE684 GE693) hb); (try clear hb); (try clear hb2); (try clear hk); (try clear hi); (try clear ho0)) | ((with_reducible refine gate_dst (N := 10) rfl ?_); refine box_event ?hg (N := 10) ?hd (cs := #[.slice none 0 0]) (t := 29) ?hr ?_; (case hd => rfl); (case hg => rfl); (case hr => first | (go_simp; done) | (go_simp; rfl)); intro gb697 hg w27 hbox hb; replace HO688 := nr HO688 hb; replace HO691 := nr HO691 hb; replace HO696 := nr HO696 hb; have BK697 := Aside0.mk (hbox); have GW697 := Aside0.mk ((by rw [hg]; exact (below_size (bs2 HB GE684 GE693)) : w.heap.size ≤ gb697)); have GE697 := Aside0.mk ((by rw [hg]; exact (below_size (bs2 HB GE684 GE693)) : w.heap.size ≤ gb697)); replace HB := Aside0.mk (below_step (bs2 HB GE684 GE693) hb); have NB684_697 := Aside0.mk ((bn BK684 hg : gb684 ≠ gb697)); have NB697_684 := Aside0.mk ((bm BK684 hg : gb697 ≠ gb684)); replace BK684 := nb BK684 hb; have NB693_697 := Aside0.mk ((bn BK693 hg : gb693 ≠ gb697)); have NB697_693 := Aside0.mk ((bm BK693 hg : gb697 ≠ gb693)); replace BK693 := nb BK693 hb; clear hb hbox hg; obtain ⟨Ao28, co28, eo28⟩ := Kd.R_slice HO696.out; subst eo28; have hnb29 := NB697_684.out; have hnc29 := NB684_697.out; have hnb30 := NB697_693.out; have hnc30 := NB693_697.out; have hcz31_0 := cz1 BK697; have hfz31_0 := fz1 BK697) | ((with_reducible refine gate_callee (f := 36) rfl ?_); refine gL (some 37) rfl rfl Try.func36 (by kernel_rfl) rfl #[.agg #[.slice Ao28 t694.length co28], .int .i64 a1, .int .i64 a2] rfl ?_; (with_reducible refine (impl_WrittenMap.calls k _ _ t694 a1 a2 t698 t701 _ ?side1 ?side2 A12.out).mono ?_); (case side1 => exact rc HO696 BK697); (case side2 => exact (Kd.R_reads' HO696.out).2.1); rintro e w32 ⟨v699, rfl, ho0, hb⟩; refine ⟨_, rfl, ?_⟩; have HO700 := Aside0.mk (Kd.R_lower (Kd.R_new' (Kd.R_new' (Kd.R_new' ho0 (Kd.R_lt (rf HO688 BK697))) (Kd.R_lt (rf HO691 BK697))) (Kd.R_lt (rf HO696 BK697))) (below_size (bs3 HB GE684 GE693 GE697))); replace HO688 := Aside0.mk (Kd.R_elder' (rf HO688 BK697) (Kd.R_base ho0) hb); replace HO691 := Aside0.mk (Kd.R_elder' (rf HO691 BK697) (Kd.R_base ho0) hb); replace HO696 := Aside0.mk (Kd.R_elder' (rf HO696 BK697) (Kd.R_base ho0) hb); replace BK684 := Aside0.mk (blk_below (bf BK684 NB684_697) hb); replace BK693 := Aside0.mk (blk_below (bf BK693 NB693_697) hb); replace BK697 := Aside0.mk (blk_below (g := gb697) (o := .cells #[.slice Ao28 t694.length co28] 29 (0, 0)) (by (with_reducible repeat (first | refine blk_drewN ?_ _ | refine blk_drew ?_ | refine blk_alloc ?_ _)); refine blk_put (cs := #[.slice none 0 0]) ?_ 0 _ rfl; (with_reducible repeat (first | refine blk_drewN ?_ _ | refine blk_drew ?_ | refine blk_alloc ?_ _)); exact BK697.out) hb); replace HB := Aside0.mk (below_step (bs3 HB GE684 GE693 GE697) hb); (try clear hb); (try clear hb2); (try clear hk); (try clear hi); (try clear ho0)) | ((with_reducible refine gate_dst (N := 11) rfl ?_); refine box_event ?hg (N := 11) ?hd (cs := #[.slice none 0 0]) (t := 29) ?hr ?_; (case hd => rfl); (case hg => rfl); (case hr => first | (go_simp; done) | (go_simp; rfl)); intro gb702 hg w33 hbox hb; replace HO688 := nr HO688 hb; replace HO691 := nr HO691 hb; replace HO696 := nr HO696 hb; replace HO700 := nr HO700 hb; have BK702 := Aside0.mk (hbox); have GW702 := Aside0.mk ((by rw [hg]; exact (below_size (bs3 HB GE684 GE693 GE697)) : w.heap.size ≤ gb702)); have GE702 := Aside0.mk ((by rw [hg]; exact (below_size (bs3 HB GE684 GE693 GE697)) : w.heap.size ≤ gb702)); replace HB := Aside0.mk (below_step (bs3 HB GE684 GE693 GE697) hb); have NB684_702 := Aside0.mk ((bn BK684 hg : gb684 ≠ gb702)); have NB702_684 := Aside0.mk ((bm BK684 hg : gb702 ≠ gb684)); replace BK684 := nb BK684 hb; have NB693_702 := Aside0.mk ((bn BK693 hg : gb693 ≠ gb702)); have NB702_693 := Aside0.mk ((bm BK693 hg : gb702 ≠ gb693)); replace BK693 := nb BK693 hb; have NB697_702 := Aside0.mk ((bn BK697 hg : gb697 ≠ gb702)); have NB702_697 := Aside0.mk ((bm BK697 hg : gb702 ≠ gb697)); replace BK697 := nb BK697 hb; clear hb hbox hg; obtain ⟨Ao34, co34, eo34⟩ := Kd.R_slice HO700.out; subst eo34; have hnb35 := NB702_684.out; have hnc35 := NB684_702.out; have hnb36 := NB702_693.out; have hnc36 := NB693_702.out; have hnb37 := NB702_697.out; have hnc37 := NB697_702.out; have hcz38_0 := cz1 BK702; have hfz38_0 := fz1 BK702))
  (try simp only [Act.put, List.setIfInBounds_toArray, List.set_cons_zero, List.set_cons_succ])
  go_cut [48] (fun v48 wc => ∃ (kq : Nat) (x48_12 : Bool), v48 = .bool x48_12 ∧ Aside0 (laws_FnExactWrittenMap.j0 kq a1 a2 t692 t701 x48_12 l0_0 t689 t694 t698 = some r) ∧ Aside0 (kq ≤ k) ∧ Aside0 (Kd.R k48 48 wc w.heap.size (fun k_ => some k_ ≠ ((.slice Ao28 t694.length co28) : Value).ownBlock ∧ some k_ ≠ ((.slice Ao34 t698.length co34) : Value).ownBlock) (.slice Ao22 t689.length co22) t689) ∧ Aside0 (Kd.R k48 48 wc w.heap.size (fun k_ => some k_ ≠ ((.slice Ao22 t689.length co22) : Value).ownBlock ∧ some k_ ≠ ((.slice Ao34 t698.length co34) : Value).ownBlock) (.slice Ao28 t694.length co28) t694) ∧ Aside0 (Kd.R k48 48 wc w.heap.size (fun k_ => some k_ ≠ ((.slice Ao22 t689.length co22) : Value).ownBlock ∧ some k_ ≠ ((.slice Ao28 t694.length co28) : Value).ownBlock) (.slice Ao34 t698.length co34) t698) ∧ Aside0 (wc.heap[gb684]? = some (.cells #[(.slice A0_0 l0_0.length c0_0)] 24 (0, 0))) ∧ Aside0 (wc.heap[gb693]? = some (.cells #[(.slice Ao22 t689.length co22)] 29 (0, 0))) ∧ Aside0 (wc.heap[gb697]? = some (.cells #[(.slice Ao28 t694.length co28)] 29 (0, 0))) ∧ Aside0 (wc.heap[gb702]? = some (.cells #[(.slice Ao34 t698.length co34)] 29 (0, 0))) ∧ Aside0 (Below w.heap.size w wc))
  case first =>
   have H := HC13.out
   clear HC13
   replace H := Option.bind_eq_some_iff.mp H
   obtain ⟨t703, A390, H⟩ := H
   replace H : (if t703 = true then (laws_FnExactWrittenMap.j0 k a1 a2 t692 t701 (t701 != t692) l0_0 t689 t694 t698) else (laws_FnExactWrittenMap.j0 k a1 a2 t692 t701 true l0_0 t689 t694 t698)) = some r := H
   have A39 := Aside0.mk A390
   clear A390
   by_cases c40 : t703 = true
   ·
    subst c40
    rw [if_pos rfl] at H
    have H' := Aside0.mk H
    clear H
    have hnb41 := NB702_684.out
    have hnc41 := NB684_702.out
    have hnb42 := NB702_693.out
    have hnc42 := NB693_702.out
    have hnb43 := NB702_697.out
    have hnc43 := NB697_702.out
    have hcz44_0 := cz1 BK702
    have hfz44_0 := fz1 BK702
    have hnb45 := NB693_684.out
    have hnc45 := NB684_693.out
    have hnb46 := NB693_697.out
    have hnc46 := NB697_693.out
    have hcz47_0 := cz1 BK693
    have hfz47_0 := fz1 BK693
    go_wp2_with (first | ((with_reducible refine gate_callee (f := 18) rfl ?_); refine gL (some 42) rfl rfl Try.func18 (by kernel_rfl) rfl #[.agg #[.slice Ao34 t698.length co34], .agg #[.slice Ao22 t689.length co22]] rfl ?_; (with_reducible refine (laws_eqFileMap.calls k _ _ t698 _ _ t689 true _ ?side1 ?side2 ?side3 ?side4 A39.out).mono ?_); (case side1 => exact rc HO700 BK702); (case side2 => exact (Kd.R_reads' HO700.out).2.1); (case side3 => exact rc HO691 BK702); (case side4 => exact (Kd.R_reads' HO691.out).2.1); rintro e w48 ⟨rfl, hb⟩; refine ⟨_, rfl, ?_⟩; replace HO688 := nf HO688 BK702 hb; replace HO691 := nf HO691 BK702 hb; replace HO696 := nf HO696 BK702 hb; replace HO700 := nf HO700 BK702 hb; replace BK684 := Aside0.mk (blk_below (bf BK684 NB684_702) hb); replace BK693 := Aside0.mk (blk_below (bf BK693 NB693_702) hb); replace BK697 := Aside0.mk (blk_below (bf BK697 NB697_702) hb); replace BK702 := Aside0.mk (blk_below (g := gb702) (o := .cells #[.slice Ao34 t698.length co34] 29 (0, 0)) (by (with_reducible repeat (first | refine blk_drewN ?_ _ | refine blk_drew ?_ | refine blk_alloc ?_ _)); refine blk_put (cs := #[.slice none 0 0]) ?_ 0 _ rfl; (with_reducible repeat (first | refine blk_drewN ?_ _ | refine blk_drew ?_ | refine blk_alloc ?_ _)); exact BK702.out) hb); replace HB := Aside0.mk (below_step (bs4 HB GE684 GE693 GE697 GE702) hb); (try clear hb); (try clear hb2); (try clear hk); (try clear hi)))
    go_meet
    case rel => exact ⟨_, ((t701 != t692)), (by first | rfl | (simp; done) | (simp [*]; done)), H', ⟨by first | omega | exact Nat.le_refl _⟩, rm HO691 (fun _ hk => ⟨hk.1.2, hk.2⟩), rm HO696 (fun _ hk => ⟨hk.1.2, hk.2⟩), rm HO700 (fun _ hk => ⟨hk.1.2, hk.2⟩), ⟨bk BK684⟩, ⟨bk BK693⟩, ⟨bk BK697⟩, ⟨bk BK702⟩, ⟨bs4 HB GE684 GE693 GE697 GE702⟩⟩
   ·
    replace c40 := Bool.eq_false_iff.mpr c40
    subst c40
    rw [if_neg (show ¬ (false = true) by decide)] at H
    have H' := Aside0.mk H
    clear H
    have hnb49 := NB702_684.out
    have hnc49 := NB684_702.out
    have hnb50 := NB702_693.out
    have hnc50 := NB693_702.out
    have hnb51 := NB702_697.out
    have hnc51 := NB697_702.out
    have hcz52_0 := cz1 BK702
    have hfz52_0 := fz1 BK702
    have hnb53 := NB693_684.out
    have hnc53 := NB684_693.out
    have hnb54 := NB693_697.out
    have hnc54 := NB697_693.out
    have hcz55_0 := cz1 BK693
    have hfz55_0 := fz1 BK693
    go_wp2_with (first | ((with_reducible refine gate_callee (f := 18) rfl ?_); refine gL (some 42) rfl rfl Try.func18 (by kernel_rfl) rfl #[.agg #[.slice Ao34 t698.length co34], .agg #[.slice Ao22 t689.length co22]] rfl ?_; (with_reducible refine (laws_eqFileMap.calls k _ _ t698 _ _ t689 false _ ?side1 ?side2 ?side3 ?side4 A39.out).mono ?_); (case side1 => exact rc HO700 BK702); (case side2 => exact (Kd.R_reads' HO700.out).2.1); (case side3 => exact rc HO691 BK702); (case side4 => exact (Kd.R_reads' HO691.out).2.1); rintro e w56 ⟨rfl, hb⟩; refine ⟨_, rfl, ?_⟩; replace HO688 := nf HO688 BK702 hb; replace HO691 := nf HO691 BK702 hb; replace HO696 := nf HO696 BK702 hb; replace HO700 := nf HO700 BK702 hb; replace BK684 := Aside0.mk (blk_below (bf BK684 NB684_702) hb); replace BK693 := Aside0.mk (blk_below (bf BK693 NB693_702) hb); replace BK697 := Aside0.mk (blk_below (bf BK697 NB697_702) hb); replace BK702 := Aside0.mk (blk_below (g := gb702) (o := .cells #[.slice Ao34 t698.length co34] 29 (0, 0)) (by (with_reducible repeat (first | refine blk_drewN ?_ _ | refine blk_drew ?_ | refine blk_alloc ?_ _)); refine blk_put (cs := #[.slice none 0 0]) ?_ 0 _ rfl; (with_reducible repeat (first | refine blk_drewN ?_ _ | refine blk_drew ?_ | refine blk_alloc ?_ _)); exact BK702.out) hb); replace HB := Aside0.mk (below_step (bs4 HB GE684 GE693 GE697 GE702) hb); (try clear hb); (try clear hb2); (try clear hk); (try clear hi)))
    go_meet
    case rel => exact ⟨_, (true), (by first | rfl | (simp; done) | (simp [*]; done)), H', ⟨by first | omega | exact Nat.le_refl _⟩, rm HO691 (fun _ hk => ⟨hk.1.2, hk.2⟩), rm HO696 (fun _ hk => ⟨hk.1.2, hk.2⟩), rm HO700 (fun _ hk => ⟨hk.1.2, hk.2⟩), ⟨bk BK684⟩, ⟨bk BK693⟩, ⟨bk BK697⟩, ⟨bk BK702⟩, ⟨bs4 HB GE684 GE693 GE697 GE702⟩⟩
  case rest =>
   clear HC13
   try clear c1
   try clear c2
   try clear p2
   try clear c3
   try clear c4
   try clear c5
   try clear c5b0
   try clear c9
   try clear c14
   try clear c16
   try clear c18
   try clear c23
   try clear c29
   try clear c30
   try clear c35
   try clear c36
   try clear c37
   try clear c40
   try clear c41
   try clear c42
   try clear c43
   try clear c45
   try clear c46
   try clear c49
   try clear c50
   try clear c51
   try clear c53
   try clear c54
   try clear hcz15_0
   try clear hcz17_0
   try clear hcz24_0
   try clear hcz25_0
   try clear hcz31_0
   try clear hcz38_0
   try clear hcz44_0
   try clear hcz47_0
   try clear hcz52_0
   try clear hcz55_0
   try clear hcz7_0
   try clear hfz15_0
   try clear hfz17_0
   try clear hfz24_0
   try clear hfz25_0
   try clear hfz31_0
   try clear hfz38_0
   try clear hfz44_0
   try clear hfz47_0
   try clear hfz52_0
   try clear hfz55_0
   try clear hfz7_0
   obtain ⟨kq, x48_12, rfl, HA, HJ12, HO_694000, HO_698000, HO_703000, BK684, BK693, BK697, BK702, HB⟩ := hcut
   cases kq with
   | zero => exact absurd HA.out (by simp [laws_FnExactWrittenMap.j0])
   | succ kj12 =>
    have H := HA.out
    clear HA
    simp only [laws_FnExactWrittenMap.j0] at H
    by_cases c57 : x48_12 = true
    ·
     subst c57
     rw [if_pos rfl] at H
     obtain rfl := Option.some.inj H
     go_wp2
     go_ret
     exact ⟨by first | rfl | (simp [errW_none, errW_some] <;> rfl) | (simp [*, errW_none, errW_some] <;> rfl), bs4 HB GE684 GE693 GE697 GE702⟩
    ·
     replace c57 := Bool.eq_false_iff.mpr c57
     subst c57
     rw [if_neg (show ¬ (false = true) by decide)] at H
     replace H := Option.bind_eq_some_iff.mp H
     obtain ⟨t704, A580, H⟩ := H
     replace H : ((laws_eqFileMap.f kj12 t694 t704).bind fun t707 => (if t707 = true then ((laws_markFileMap.f kj12 t694 1).bind fun bt708 => (if bt708.1 < 0 then (laws_FnExactWrittenMap.j1 kj12 a1 a2 t692 true l0_0 t689 t698) else ((laws_eqFileMap.f kj12 t698 t689).bind fun t710 => (if t710 = true then (laws_FnExactWrittenMap.j1 kj12 a1 a2 t692 (t701 != t692) l0_0 t689 t698) else (laws_FnExactWrittenMap.j1 kj12 a1 a2 t692 true l0_0 t689 t698))))) else (some false))) = some r := H
     have A58 := Aside0.mk A580
     clear A580
     replace H := Option.bind_eq_some_iff.mp H
     obtain ⟨t707, A590, H⟩ := H
     replace H : (if t707 = true then ((laws_markFileMap.f kj12 t694 1).bind fun bt708 => (if bt708.1 < 0 then (laws_FnExactWrittenMap.j1 kj12 a1 a2 t692 true l0_0 t689 t698) else ((laws_eqFileMap.f kj12 t698 t689).bind fun t710 => (if t710 = true then (laws_FnExactWrittenMap.j1 kj12 a1 a2 t692 (t701 != t692) l0_0 t689 t698) else (laws_FnExactWrittenMap.j1 kj12 a1 a2 t692 true l0_0 t689 t698))))) else (some false)) = some r := H
     have A59 := Aside0.mk A590
     clear A590
     by_cases c60 : t707 = true
     ·
      subst c60
      rw [if_pos rfl] at H
      replace H := Option.bind_eq_some_iff.mp H
      obtain ⟨⟨t708, t709⟩, A610, H⟩ := H
      replace H : (if t708 < 0 then (laws_FnExactWrittenMap.j1 kj12 a1 a2 t692 true l0_0 t689 t698) else ((laws_eqFileMap.f kj12 t698 t689).bind fun t710 => (if t710 = true then (laws_FnExactWrittenMap.j1 kj12 a1 a2 t692 (t701 != t692) l0_0 t689 t698) else (laws_FnExactWrittenMap.j1 kj12 a1 a2 t692 true l0_0 t689 t698)))) = some r := H
      have A61 := Aside0.mk A610
      clear A610
      have HC62 := Aside0.mk H
      clear H
      try go_wp2
      have n0_ := Aside0.mk (Kd.R_drew HO_694000.out)
      have n1_ := Aside0.mk (Kd.R_drew HO_698000.out)
      have n2_ := Aside0.mk (Kd.R_drew HO_703000.out)
      have n3_ := Aside0.mk (blk_drew BK684.out)
      have n4_ := Aside0.mk (blk_drew BK693.out)
      have n5_ := Aside0.mk (blk_drew BK697.out)
      have n6_ := Aside0.mk (blk_drew BK702.out)
      have n7_ := Aside0.mk (below_drew1 HB.out)
      clear HO_694000
      clear HO_698000
      clear HO_703000
      clear BK684
      clear BK693
      clear BK697
      clear BK702
      clear HB
      have HO_694000 := n0_
      have HO_698000 := n1_
      have HO_703000 := n2_
      have BK684 := n3_
      have BK693 := n4_
      have BK697 := n5_
      have BK702 := n6_
      have HB := n7_
      clear n0_ n1_ n2_ n3_ n4_ n5_ n6_ n7_
      refine start_ (n := 5) (S := fun w' => w'.cell? ⟨gb697, 0, none⟩ = some (.slice Ao28 t694.length co28) ∧ w'.cell? ⟨gb684, 0, none⟩ = some (.slice A0_0 l0_0.length c0_0)) (ds := []) #[false, false, false, false, false] (by kernel_rfl) rfl rfl ⟨(blk_cell BK697.out 0).trans rfl, (blk_cell BK684.out 0).trans rfl⟩ (fun hHeld => ?_)
      generalize wc.drew = w63 at HO_694000 HO_698000 HO_703000 BK684 BK693 BK697 BK702 HB hHeld ⊢
      refine take_ (i := 0) (N := some 49) (v := ?_) (a' := ?_) #[true, false, false, false, false] rfl rfl (by kernel_rfl) (fun _ _ _ h => h) (Or.inl ⟨by rfl, ?_⟩) hHeld ?_ ?_
      rotate_left
      ·
       rintro w' ⟨s0, s1⟩
       go_simp
       with_reducible rfl
      rotate_left
      ·
       simp only [Act.put, List.setIfInBounds_toArray, List.set_cons_zero, List.set_cons_succ, i64_w, i32_w]
       rfl
      refine take_ (i := 1) (N := some 50) (v := ?_) (a' := ?_) #[true, true, false, false, false] rfl rfl (by kernel_rfl) (fun _ _ _ h => h) (Or.inl ⟨by rfl, ?_⟩) hHeld ?_ ?_
      rotate_left
      ·
       rintro w' ⟨s0, s1⟩
       go_simp
       with_reducible rfl
      rotate_left
      ·
       simp only [Act.put, List.setIfInBounds_toArray, List.set_cons_zero, List.set_cons_succ, i64_w, i32_w]
       rfl
      refine one_ (i := 2) (N := some 51) #[true, true, true, false, false] rfl rfl (by kernel_rfl) (by decide) (fun K hK => ?_)
      refine goes_ Try.func16 (by kernel_rfl) rfl #[.agg #[.slice A0_0 l0_0.length c0_0]] (by rfl) rfl rfl (by (try simp only [List.map_toArray, List.map_cons, List.map_nil]); first | done | rfl | (simp only [List.length_drop, List.length_take]; rfl)) ?_
      with_reducible refine (laws_toFileMap.calls kj12 _ _ l0_0 t704 _ ?side1 ?side2 A58.out).mono ?_
      (case side1 => exact cb HR0_0 HB)
      (case side2 => exact HC0_0.out)
      rintro e w64 ⟨v705, rfl, ho0, hb⟩
      refine ⟨_, rfl, ?_⟩
      have n0_ := Aside0.mk (Kd.R_elder' (rr HO_694000.out) (Kd.R_base ho0) hb)
      have n1_ := Aside0.mk (Kd.R_elder' (rr HO_698000.out) (Kd.R_base ho0) hb)
      have n2_ := Aside0.mk (Kd.R_elder' (rr HO_703000.out) (Kd.R_base ho0) hb)
      have n3_ := Aside0.mk (Kd.R_lower (Kd.R_new' (Kd.R_new' (Kd.R_new' ho0 (Kd.R_lt (rr HO_694000.out))) (Kd.R_lt (rr HO_698000.out))) (Kd.R_lt (rr HO_703000.out))) (below_size (bs4 HB GE684 GE693 GE697 GE702)))
      have n4_ := Aside0.mk (bb BK684 hb)
      have n5_ := Aside0.mk (bb BK693 hb)
      have n6_ := Aside0.mk (bb BK697 hb)
      have n7_ := Aside0.mk (bb BK702 hb)
      have n8_ := Aside0.mk (below_step (bs4 HB GE684 GE693 GE697 GE702) hb)
      clear HO_694000
      clear HO_698000
      clear HO_703000
      clear BK684
      clear BK693
      clear BK697
      clear BK702
      clear HB
      have HO_694000 := n0_
      have HO_698000 := n1_
      have HO_703000 := n2_
      have HO706 := n3_
      have BK684 := n4_
      have BK693 := n5_
      have BK697 := n6_
      have BK702 := n7_
      have HB := n8_
      clear n0_ n1_ n2_ n3_ n4_ n5_ n6_ n7_ n8_
      (try clear hb)
      (try clear hb2)
      (try clear hk)
      (try clear hi)
      (try clear ho0)
      obtain ⟨Ao65, co65, eo65⟩ := Kd.R_slice HO706.out
      (first | subst eo65 | (injection eo65 with f1_ f2_ f3_; have f4_ := f1_.symm; have f5_ := f3_.symm; clear f1_ f2_ f3_; subst f4_; subst f5_))
      refine hK.out _ _ ⟨(blk_cell BK697.out 0).trans rfl, (blk_cell BK684.out 0).trans rfl⟩ (fun hHeld => ?_)
      clear hK K
      refine norm_ (a' := ?_) ?_ ?_
      rotate_left
      ·
       show Act.put _ (some 51) _ = _
       simp only [Act.put, List.setIfInBounds_toArray, List.set_cons_zero, List.set_cons_succ, i64_w, i32_w]
       rfl
      refine one_ (i := 3) (N := some 52) #[true, true, true, true, false] rfl rfl (by kernel_rfl) (by decide) (fun K hK => ?_)
      refine goes_ Try.func18 (by kernel_rfl) rfl #[.agg #[.slice Ao28 t694.length co28], .agg #[.slice Ao65 t704.length co65]] (by rfl) rfl rfl (by (try simp only [List.map_toArray, List.map_cons, List.map_nil]); first | done | rfl | (simp only [List.length_drop, List.length_take]; rfl)) ?_
      with_reducible refine (laws_eqFileMap.calls kj12 _ _ t694 _ _ t704 true _ ?side1 ?side2 ?side3 ?side4 A59.out).mono ?_
      (case side1 => exact rc0 HO_698000)
      (case side2 => exact (Kd.R_reads' HO_698000.out).2.1)
      (case side3 => exact rc0 HO706)
      (case side4 => exact (Kd.R_reads' HO706.out).2.1)
      rintro e w66 ⟨rfl, hb⟩
      refine ⟨_, rfl, ?_⟩
      have n0_ := Aside0.mk (Kd.R_below (rr HO_694000.out) hb)
      have n1_ := Aside0.mk (Kd.R_below (rr HO_698000.out) hb)
      have n2_ := Aside0.mk (Kd.R_below (rr HO_703000.out) hb)
      have n3_ := Aside0.mk (Kd.R_below (rr HO706.out) hb)
      have n4_ := Aside0.mk (bb BK684 hb)
      have n5_ := Aside0.mk (bb BK693 hb)
      have n6_ := Aside0.mk (bb BK697 hb)
      have n7_ := Aside0.mk (bb BK702 hb)
      have n8_ := Aside0.mk (below_step (bs4 HB GE684 GE693 GE697 GE702) hb)
      clear HO_694000
      clear HO_698000
      clear HO_703000
      clear HO706
      clear BK684
      clear BK693
      clear BK697
      clear BK702
      clear HB
      have HO_694000 := n0_
      have HO_698000 := n1_
      have HO_703000 := n2_
      have HO706 := n3_
      have BK684 := n4_
      have BK693 := n5_
      have BK697 := n6_
      have BK702 := n7_
      have HB := n8_
      clear n0_ n1_ n2_ n3_ n4_ n5_ n6_ n7_ n8_
      (try clear hb)
      (try clear hb2)
      (try clear hk)
      (try clear hi)
      refine hK.out _ _ ⟨(blk_cell BK697.out 0).trans rfl, (blk_cell BK684.out 0).trans rfl⟩ (fun hHeld => ?_)
      clear hK K
      refine norm_ (a' := ?_) ?_ ?_
      rotate_left
      ·
       show Act.put _ (some 52) _ = _
       simp only [Act.put, List.setIfInBounds_toArray, List.set_cons_zero, List.set_cons_succ, i64_w, i32_w]
       rfl
      refine pure_ (i := 4) (N := some 53) (v := ?_) (a' := ?_) #[true, true, true, true, true] rfl rfl (by kernel_rfl) (fun _ _ _ h => h) (Or.inl ⟨by rfl, ?_⟩) ?_ ?_
      rotate_left
      ·
       intro w'
       go_simp
       with_reducible rfl
      rotate_left
      ·
       simp only [Act.put, List.setIfInBounds_toArray, List.set_cons_zero, List.set_cons_succ, i64_w, i32_w]
       rfl
      refine done_ (by kernel_rfl) ?_
      have hnb67 := NB697_684.out
      have hnc67 := NB684_697.out
      have hnb68 := NB697_693.out
      have hnc68 := NB693_697.out
      have hnb69 := NB697_702.out
      have hnc69 := NB702_697.out
      have hcz70_0 := cz1 BK697
      have hfz70_0 := fz1 BK697
      go_upto_region 14 with (first | ((with_reducible refine gate_callee (f := 26) rfl ?_); refine gL (some 56) rfl rfl Try.func26 (by kernel_rfl) rfl #[.agg #[.slice Ao28 t694.length co28], .int .i64 1] rfl ?_; (with_reducible refine (laws_markFileMap.calls kj12 (fun k_ => some k_ = (.slice Ao28 t694.length co28 : Value).ownBlock) (.slice Ao28 t694.length co28) t694 1 t708 t709 w _ ?side1 ?side2 A61.out).mono ?_); (case side1 => repeat (first | (with_reducible first | exact HB.out | apply below_alloc | apply pw_below_drewN | apply below_drew1 | refine below_set ?_ GE684.out | refine below_set ?_ GE693.out | refine below_set ?_ GE697.out | refine below_set ?_ GE702.out) | exact HB.out)); (case side2 => exact Kd.R_tight rfl HO_698000.out); rintro e w71 ⟨rfl, hy0, hb, hkp⟩; refine ⟨_, rfl, ?_⟩; replace HO_694000 := Aside0.mk (Kd.R_mono (ok' := fun k_ => some k_ ≠ (.slice Ao28 t694.length co28 : Value).ownBlock ∧ some k_ ≠ (.slice Ao34 t698.length co34 : Value).ownBlock ∧ some k_ ≠ (.slice Ao65 t704.length co65 : Value).ownBlock) (Kd.R_keptB (HO_694000.out) hkp (fun k_ hk_ hs_ => (hk_.1.1) hs_)) (fun k_ hk_ => ⟨hk_.1.1.1, hk_.1.1.2, hk_.1.2⟩)); replace HO_703000 := Aside0.mk (Kd.R_mono (ok' := fun k_ => some k_ ≠ (.slice Ao22 t689.length co22 : Value).ownBlock ∧ some k_ ≠ (.slice Ao28 t694.length co28 : Value).ownBlock ∧ some k_ ≠ (.slice Ao65 t704.length co65 : Value).ownBlock) (Kd.R_keptB (HO_703000.out) hkp (fun k_ hk_ hs_ => (hk_.1.2) hs_)) (fun k_ hk_ => ⟨hk_.1.1.1, hk_.1.1.2, hk_.1.2⟩)); replace BK684 := Aside0.mk (blk_kept (bk BK684) hkp (fun hs_ => (fun e_ => (Kd.R_ne HO_698000.out BK684.out (by decide)) e_) hs_)); replace BK693 := Aside0.mk (blk_kept (bk BK693) hkp (fun hs_ => (fun e_ => (Kd.R_ne HO_698000.out BK693.out (by decide)) e_) hs_)); replace BK697 := Aside0.mk (blk_kept (bk BK697) hkp (fun hs_ => (fun e_ => (Kd.R_ne HO_698000.out BK697.out (by decide)) e_) hs_)); replace BK702 := Aside0.mk (blk_kept (bk BK702) hkp (fun hs_ => (fun e_ => (Kd.R_ne HO_698000.out BK702.out (by decide)) e_) hs_)); replace HO_698000 := Aside0.mk (Kd.R_reok rfl hy0 (fun k_ e_ => HO_698000.out.1 k_ e_)); replace HO706 := Aside0.mk (Kd.R_mono (ok' := fun k_ => some k_ ≠ (.slice Ao22 t689.length co22 : Value).ownBlock ∧ some k_ ≠ (.slice Ao28 t694.length co28 : Value).ownBlock ∧ some k_ ≠ (.slice Ao34 t698.length co34 : Value).ownBlock) (Kd.R_keptB (HO706.out) hkp (fun k_ hk_ hs_ => (hk_.1.2) hs_)) (fun k_ hk_ => ⟨hk_.1.1.1.2, hk_.1.1.2, hk_.1.2⟩)); replace HB := Aside0.mk (hb); (try clear hb); (try clear hkp); (try clear hy0)))
      (try simp only [Act.put, List.setIfInBounds_toArray, List.set_cons_zero, List.set_cons_succ])
      go_cut [69] (fun v69 wc => ∃ (kq : Nat) (x69_61 : Bool), v69 = .bool x69_61 ∧ Aside0 (laws_FnExactWrittenMap.j1 kq a1 a2 t692 x69_61 l0_0 t689 t698 = some r) ∧ Aside0 (kq ≤ kj12) ∧ Aside0 (Kd.R k48 48 wc w.heap.size (fun k_ => some k_ ≠ ((.slice Ao28 t694.length co28) : Value).ownBlock ∧ some k_ ≠ ((.slice Ao34 t698.length co34) : Value).ownBlock) (.slice Ao22 t689.length co22) t689) ∧ Aside0 (Kd.R k48 48 wc w.heap.size (fun k_ => some k_ ≠ ((.slice Ao22 t689.length co22) : Value).ownBlock ∧ some k_ ≠ ((.slice Ao34 t698.length co34) : Value).ownBlock) (.slice Ao28 t694.length co28) t709) ∧ Aside0 (Kd.R k48 48 wc w.heap.size (fun k_ => some k_ ≠ ((.slice Ao22 t689.length co22) : Value).ownBlock ∧ some k_ ≠ ((.slice Ao28 t694.length co28) : Value).ownBlock) (.slice Ao34 t698.length co34) t698) ∧ Aside0 (wc.heap[gb684]? = some (.cells #[(.slice A0_0 l0_0.length c0_0)] 24 (0, 0))) ∧ Aside0 (wc.heap[gb693]? = some (.cells #[(.slice Ao22 t689.length co22)] 29 (0, 0))) ∧ Aside0 (wc.heap[gb697]? = some (.cells #[(.slice Ao28 t694.length co28)] 29 (0, 0))) ∧ Aside0 (wc.heap[gb702]? = some (.cells #[(.slice Ao34 t698.length co34)] 29 (0, 0))) ∧ Aside0 (Below w.heap.size w wc))
      case first =>
       have H := HC62.out
       clear HC62
       by_cases c72 : t708 < 0
       ·
        rw [if_pos c72] at H
        have c72b0 : decide (t708 < 0) = true := decide_eq_true c72
        clear c72
        (first | rw [c72b0] | (simp only [i64_w, i32_w]; rw [c72b0]) | (simp only [c72b2, Bool.not_false, Bool.not_true]) | skip)
        have H' := Aside0.mk H
        clear H
        go_wp2
        go_meet
        case rel => exact ⟨_, (true), (by first | rfl | (simp; done) | (simp [*]; done)), H', ⟨by have := HJ12.out; first | omega | exact Nat.le_refl _⟩, rm HO_694000 (fun _ hk => ⟨hk.1, hk.2.1⟩), rm HO_698000 (fun _ hk => ⟨hk.1.1, hk.1.2⟩), rm HO_703000 (fun _ hk => ⟨hk.1, hk.2.1⟩), ⟨bk BK684⟩, ⟨bk BK693⟩, ⟨bk BK697⟩, ⟨bk BK702⟩, ⟨bs4 HB GE684 GE693 GE697 GE702⟩⟩
       ·
        rw [if_neg c72] at H
        have c72b0 : decide (t708 < 0) = false := decide_eq_false c72
        clear c72
        (first | rw [c72b0] | (simp only [i64_w, i32_w]; rw [c72b0]) | (simp only [c72b2, Bool.not_false, Bool.not_true]) | skip)
        replace H := Option.bind_eq_some_iff.mp H
        obtain ⟨t710, A730, H⟩ := H
        replace H : (if t710 = true then (laws_FnExactWrittenMap.j1 kj12 a1 a2 t692 (t701 != t692) l0_0 t689 t698) else (laws_FnExactWrittenMap.j1 kj12 a1 a2 t692 true l0_0 t689 t698)) = some r := H
        have A73 := Aside0.mk A730
        clear A730
        by_cases c74 : t710 = true
        ·
         subst c74
         rw [if_pos rfl] at H
         have H' := Aside0.mk H
         clear H
         have hnb75 := NB702_684.out
         have hnc75 := NB684_702.out
         have hnb76 := NB702_693.out
         have hnc76 := NB693_702.out
         have hnb77 := NB702_697.out
         have hnc77 := NB697_702.out
         have hcz78_0 := cz1 BK702
         have hfz78_0 := fz1 BK702
         have hnb79 := NB693_684.out
         have hnc79 := NB684_693.out
         have hnb80 := NB693_697.out
         have hnc80 := NB697_693.out
         have hcz81_0 := cz1 BK693
         have hfz81_0 := fz1 BK693
         go_wp2_with (first | (go_at_call 18; (with_reducible refine (laws_eqFileMap.calls kj12 _ _ t698 _ _ t689 true _ ?side1 ?side2 ?side3 ?side4 A73.out).mono ?_); (case side1 => exact rc0 HO_703000); (case side2 => exact (Kd.R_reads' HO_703000.out).2.1); (case side3 => exact rc0 HO_694000); (case side4 => exact (Kd.R_reads' HO_694000.out).2.1); rintro e w82 ⟨rfl, hb⟩; replace HO_694000 := nr HO_694000 hb; replace HO_698000 := nr HO_698000 hb; replace HO_703000 := nr HO_703000 hb; replace HO706 := nr HO706 hb; replace BK684 := nb BK684 hb; replace BK693 := nb BK693 hb; replace BK697 := nb BK697 hb; replace BK702 := nb BK702 hb; replace HB := Aside0.mk (below_step (bs4 HB GE684 GE693 GE697 GE702) hb); (try clear hb); (try clear hb2); (try clear hk); (try clear hi)))
         go_meet
         case rel => exact ⟨_, ((t701 != t692)), (by first | rfl | (simp; done) | (simp [*]; done)), H', ⟨by have := HJ12.out; first | omega | exact Nat.le_refl _⟩, rm HO_694000 (fun _ hk => ⟨hk.1, hk.2.1⟩), rm HO_698000 (fun _ hk => ⟨hk.1.1, hk.1.2⟩), rm HO_703000 (fun _ hk => ⟨hk.1, hk.2.1⟩), ⟨bk BK684⟩, ⟨bk BK693⟩, ⟨bk BK697⟩, ⟨bk BK702⟩, ⟨bs4 HB GE684 GE693 GE697 GE702⟩⟩
        ·
         replace c74 := Bool.eq_false_iff.mpr c74
         subst c74
         rw [if_neg (show ¬ (false = true) by decide)] at H
         have H' := Aside0.mk H
         clear H
         have hnb83 := NB702_684.out
         have hnc83 := NB684_702.out
         have hnb84 := NB702_693.out
         have hnc84 := NB693_702.out
         have hnb85 := NB702_697.out
         have hnc85 := NB697_702.out
         have hcz86_0 := cz1 BK702
         have hfz86_0 := fz1 BK702
         have hnb87 := NB693_684.out
         have hnc87 := NB684_693.out
         have hnb88 := NB693_697.out
         have hnc88 := NB697_693.out
         have hcz89_0 := cz1 BK693
         have hfz89_0 := fz1 BK693
         go_wp2_with (first | (go_at_call 18; (with_reducible refine (laws_eqFileMap.calls kj12 _ _ t698 _ _ t689 false _ ?side1 ?side2 ?side3 ?side4 A73.out).mono ?_); (case side1 => exact rc0 HO_703000); (case side2 => exact (Kd.R_reads' HO_703000.out).2.1); (case side3 => exact rc0 HO_694000); (case side4 => exact (Kd.R_reads' HO_694000.out).2.1); rintro e w90 ⟨rfl, hb⟩; replace HO_694000 := nr HO_694000 hb; replace HO_698000 := nr HO_698000 hb; replace HO_703000 := nr HO_703000 hb; replace HO706 := nr HO706 hb; replace BK684 := nb BK684 hb; replace BK693 := nb BK693 hb; replace BK697 := nb BK697 hb; replace BK702 := nb BK702 hb; replace HB := Aside0.mk (below_step (bs4 HB GE684 GE693 GE697 GE702) hb); (try clear hb); (try clear hb2); (try clear hk); (try clear hi)))
         go_meet
         case rel => exact ⟨_, (true), (by first | rfl | (simp; done) | (simp [*]; done)), H', ⟨by have := HJ12.out; first | omega | exact Nat.le_refl _⟩, rm HO_694000 (fun _ hk => ⟨hk.1, hk.2.1⟩), rm HO_698000 (fun _ hk => ⟨hk.1.1, hk.1.2⟩), rm HO_703000 (fun _ hk => ⟨hk.1, hk.2.1⟩), ⟨bk BK684⟩, ⟨bk BK693⟩, ⟨bk BK697⟩, ⟨bk BK702⟩, ⟨bs4 HB GE684 GE693 GE697 GE702⟩⟩
      case rest =>
       clear HC62
       try clear c1
       try clear c2
       try clear p2
       try clear c3
       try clear c4
       try clear c5
       try clear c5b0
       try clear c6
       try clear c7
       try clear c8
       try clear c9
       try clear c14
       try clear c16
       try clear c18
       try clear c23
       try clear c26
       try clear c29
       try clear c30
       try clear c35
       try clear c36
       try clear c37
       try clear c40
       try clear c41
       try clear c42
       try clear c43
       try clear c45
       try clear c46
       try clear c49
       try clear c50
       try clear c51
       try clear c53
       try clear c54
       try clear c57
       try clear c60
       try clear c67
       try clear c68
       try clear c69
       try clear c72
       try clear c72b0
       try clear c74
       try clear c75
       try clear c76
       try clear c77
       try clear c79
       try clear c80
       try clear c83
       try clear c84
       try clear c85
       try clear c87
       try clear c88
       try clear hcz15_0
       try clear hcz17_0
       try clear hcz24_0
       try clear hcz25_0
       try clear hcz31_0
       try clear hcz38_0
       try clear hcz44_0
       try clear hcz47_0
       try clear hcz52_0
       try clear hcz55_0
       try clear hcz70_0
       try clear hcz78_0
       try clear hcz7_0
       try clear hcz81_0
       try clear hcz86_0
       try clear hcz89_0
       try clear hfz15_0
       try clear hfz17_0
       try clear hfz24_0
       try clear hfz25_0
       try clear hfz31_0
       try clear hfz38_0
       try clear hfz44_0
       try clear hfz47_0
       try clear hfz52_0
       try clear hfz55_0
       try clear hfz70_0
       try clear hfz78_0
       try clear hfz7_0
       try clear hfz81_0
       try clear hfz86_0
       try clear hfz89_0
       try clear p2
       obtain ⟨kq, x69_61, rfl, HA, HJ61, HO_694000, HO_698000, HO_703000, BK684, BK693, BK697, BK702, HB⟩ := hcut
       have hl698000_61 := (Kd.R_reads' HO_698000.out).1
       rw [hl698000_61] at HO_698000
       (try simp only [hl698000_61])
       (try simp only [hl698000_61] at BK684)
       (try simp only [hl698000_61] at BK693)
       (try simp only [hl698000_61] at BK697)
       (try simp only [hl698000_61] at BK702)
       (try simp only [hl698000_61] at HO_694000)
       (try simp only [hl698000_61] at HO_703000)
       cases kq with
       | zero => exact absurd HA.out (by simp [laws_FnExactWrittenMap.j1])
       | succ kj61 =>
        have H := HA.out
        clear HA
        simp only [laws_FnExactWrittenMap.j1] at H
        by_cases c91 : x69_61 = true
        ·
         subst c91
         rw [if_pos rfl] at H
         obtain rfl := Option.some.inj H
         go_wp2
         go_ret
         exact ⟨by first | rfl | (simp [errW_none, errW_some] <;> rfl) | (simp [*, errW_none, errW_some] <;> rfl), bs4 HB GE684 GE693 GE697 GE702⟩
        ·
         replace c91 := Bool.eq_false_iff.mpr c91
         subst c91
         rw [if_neg (show ¬ (false = true) by decide)] at H
         replace H := Option.bind_eq_some_iff.mp H
         obtain ⟨⟨t711, t712⟩, A920, H⟩ := H
         replace H : ((laws_heldFileMap.f kj61 t712 1).bind fun t713 => (if t713 < 0 then (some false) else (if t713 = t711 then ((laws_toFileMap.f kj61 l0_0).bind fun t714 => ((impl_WrittenMap.f kj61 t714 a1 a2).bind fun bt717 => ((laws_eqFileMap.f kj61 bt717.1 t689).bind fun t722 => (if t722 = true then (laws_FnExactWrittenMap.j2 kj61 t711 (bt717.2 != t692) t712) else (laws_FnExactWrittenMap.j2 kj61 t711 true t712))))) else (some false)))) = some r := H
         have A92 := Aside0.mk A920
         clear A920
         replace H := Option.bind_eq_some_iff.mp H
         obtain ⟨t713, A930, H⟩ := H
         replace H : (if t713 < 0 then (some false) else (if t713 = t711 then ((laws_toFileMap.f kj61 l0_0).bind fun t714 => ((impl_WrittenMap.f kj61 t714 a1 a2).bind fun bt717 => ((laws_eqFileMap.f kj61 bt717.1 t689).bind fun t722 => (if t722 = true then (laws_FnExactWrittenMap.j2 kj61 t711 (bt717.2 != t692) t712) else (laws_FnExactWrittenMap.j2 kj61 t711 true t712))))) else (some false))) = some r := H
         have A93 := Aside0.mk A930
         clear A930
         by_cases c94 : t713 < 0
         ·
          rw [if_pos c94] at H
          have c94b0 : decide (t713 < 0) = true := decide_eq_true c94
          clear c94
          obtain rfl := Option.some.inj H
          have hnb95 := NB702_684.out
          have hnc95 := NB684_702.out
          have hnb96 := NB702_693.out
          have hnc96 := NB693_702.out
          have hnb97 := NB702_697.out
          have hnc97 := NB697_702.out
          have hcz98_0 := cz1 BK702
          have hfz98_0 := fz1 BK702
          go_wp2_with (first | ((with_reducible refine gate_callee (f := 26) rfl ?_); refine gL (some 72) rfl rfl Try.func26 (by kernel_rfl) rfl #[.agg #[.slice Ao34 t698.length co34], .int .i64 1] rfl ?_; (with_reducible refine (laws_markFileMap.calls kj61 (fun k_ => some k_ = (.slice Ao34 t698.length co34 : Value).ownBlock) (.slice Ao34 t698.length co34) t698 1 t711 t712 w _ ?side1 ?side2 A92.out).mono ?_); (case side1 => repeat (first | (with_reducible first | exact HB.out | apply below_alloc | apply pw_below_drewN | apply below_drew1 | refine below_set ?_ GE684.out | refine below_set ?_ GE693.out | refine below_set ?_ GE697.out | refine below_set ?_ GE702.out) | exact HB.out)); (case side2 => exact Kd.R_tight rfl HO_703000.out); rintro e w99 ⟨rfl, hy0, hb, hkp⟩; refine ⟨_, rfl, ?_⟩; replace HO_694000 := Aside0.mk (Kd.R_mono (ok' := fun k_ => some k_ ≠ (.slice Ao28 t709.length co28 : Value).ownBlock ∧ some k_ ≠ (.slice Ao34 t698.length co34 : Value).ownBlock) (Kd.R_keptB (HO_694000.out) hkp (fun k_ hk_ hs_ => (hk_.2) hs_)) (fun k_ hk_ => ⟨hk_.1.1, hk_.1.2⟩)); replace HO_698000 := Aside0.mk (Kd.R_mono (ok' := fun k_ => some k_ ≠ (.slice Ao22 t689.length co22 : Value).ownBlock ∧ some k_ ≠ (.slice Ao34 t698.length co34 : Value).ownBlock) (Kd.R_keptB (HO_698000.out) hkp (fun k_ hk_ hs_ => (hk_.2) hs_)) (fun k_ hk_ => ⟨hk_.1.1, hk_.1.2⟩)); replace BK684 := Aside0.mk (blk_kept (bk BK684) hkp (fun hs_ => (fun e_ => (Kd.R_ne HO_703000.out BK684.out (by decide)) e_) hs_)); replace BK693 := Aside0.mk (blk_kept (bk BK693) hkp (fun hs_ => (fun e_ => (Kd.R_ne HO_703000.out BK693.out (by decide)) e_) hs_)); replace BK697 := Aside0.mk (blk_kept (bk BK697) hkp (fun hs_ => (fun e_ => (Kd.R_ne HO_703000.out BK697.out (by decide)) e_) hs_)); replace BK702 := Aside0.mk (blk_kept (bk BK702) hkp (fun hs_ => (fun e_ => (Kd.R_ne HO_703000.out BK702.out (by decide)) e_) hs_)); replace HO_703000 := Aside0.mk (Kd.R_reok rfl hy0 (fun k_ e_ => HO_703000.out.1 k_ e_)); replace HB := Aside0.mk (hb); (try clear hb); (try clear hkp); (try clear hy0); have hcz100_0 := cz1 BK702; have hfz100_0 := fz1 BK702) | ((with_reducible refine gate_callee (f := 32) rfl ?_); refine goesL_ (some 75) rfl rfl Try.func32 (by kernel_rfl) rfl #[.agg #[.slice Ao34 t712.length co34], .int .i64 1] rfl (by (try simp only [List.map_toArray, List.map_cons, List.map_nil]); first | done | (rw [show t712.length = t698.length from (Kd.R_reads' HO_703000.out).1.symm] <;> rfl) | rfl | (simp only [List.length_drop, List.length_take]; rfl)) ?_; (with_reducible refine (laws_heldFileMap.calls kj61 _ _ t712 1 t713 _ ?side1 ?side2 A93.out).mono ?_); (case side1 => exact rc0 HO_703000); (case side2 => rw [show t712.length = t698.length from (Kd.R_reads' HO_703000.out).1.symm]; exact (Kd.R_reads' HO_703000.out).2.1); rintro e w101 ⟨rfl, hb⟩; refine ⟨_, rfl, ?_⟩; replace HO_694000 := nr HO_694000 hb; replace HO_698000 := nr HO_698000 hb; replace HO_703000 := nr HO_703000 hb; replace BK684 := nb BK684 hb; replace BK693 := nb BK693 hb; replace BK697 := nb BK697 hb; replace BK702 := nb BK702 hb; replace HB := Aside0.mk (below_step (bs4 HB GE684 GE693 GE697 GE702) hb); (try clear hb); (try clear hb2); (try clear hk); (try clear hi)))
          go_ret
          exact ⟨by first | rfl | (simp [errW_none, errW_some] <;> rfl) | (simp [*, errW_none, errW_some] <;> rfl), bs4 HB GE684 GE693 GE697 GE702⟩
         ·
          rw [if_neg c94] at H
          have c94b0 : decide (t713 < 0) = false := decide_eq_false c94
          clear c94
          by_cases c102 : t713 = t711
          ·
           rw [if_pos c102] at H
           have c102b0 : (t713 == t711) = true := beq_iff_eq.mpr c102
           have c102b1 : (t713 != t711) = false := bne_eq_false_iff_eq.mpr c102
           clear c102
           replace H := Option.bind_eq_some_iff.mp H
           obtain ⟨t714, A1030, H⟩ := H
           replace H : ((impl_WrittenMap.f kj61 t714 a1 a2).bind fun bt717 => ((laws_eqFileMap.f kj61 bt717.1 t689).bind fun t722 => (if t722 = true then (laws_FnExactWrittenMap.j2 kj61 t711 (bt717.2 != t692) t712) else (laws_FnExactWrittenMap.j2 kj61 t711 true t712)))) = some r := H
           have A103 := Aside0.mk A1030
           clear A1030
           replace H := Option.bind_eq_some_iff.mp H
           obtain ⟨⟨t717, t720⟩, A1040, H⟩ := H
           replace H : ((laws_eqFileMap.f kj61 t717 t689).bind fun t722 => (if t722 = true then (laws_FnExactWrittenMap.j2 kj61 t711 (t720 != t692) t712) else (laws_FnExactWrittenMap.j2 kj61 t711 true t712))) = some r := H
           have A104 := Aside0.mk A1040
           clear A1040
           have HC105 := Aside0.mk H
           clear H
           have hnb106 := NB702_684.out
           have hnc106 := NB684_702.out
           have hnb107 := NB702_693.out
           have hnc107 := NB693_702.out
           have hnb108 := NB702_697.out
           have hnc108 := NB697_702.out
           have hcz109_0 := cz1 BK702
           have hfz109_0 := fz1 BK702
           go_upto_region 25 with (first | ((with_reducible refine gate_callee (f := 26) rfl ?_); refine gL (some 72) rfl rfl Try.func26 (by kernel_rfl) rfl #[.agg #[.slice Ao34 t698.length co34], .int .i64 1] rfl ?_; (with_reducible refine (laws_markFileMap.calls kj61 (fun k_ => some k_ = (.slice Ao34 t698.length co34 : Value).ownBlock) (.slice Ao34 t698.length co34) t698 1 t711 t712 w _ ?side1 ?side2 A92.out).mono ?_); (case side1 => repeat (first | (with_reducible first | exact HB.out | apply below_alloc | apply pw_below_drewN | apply below_drew1 | refine below_set ?_ GE684.out | refine below_set ?_ GE693.out | refine below_set ?_ GE697.out | refine below_set ?_ GE702.out) | exact HB.out)); (case side2 => exact Kd.R_tight rfl HO_703000.out); rintro e w110 ⟨rfl, hy0, hb, hkp⟩; refine ⟨_, rfl, ?_⟩; replace HO_694000 := Aside0.mk (Kd.R_mono (ok' := fun k_ => some k_ ≠ (.slice Ao28 t709.length co28 : Value).ownBlock ∧ some k_ ≠ (.slice Ao34 t698.length co34 : Value).ownBlock) (Kd.R_keptB (HO_694000.out) hkp (fun k_ hk_ hs_ => (hk_.2) hs_)) (fun k_ hk_ => ⟨hk_.1.1, hk_.1.2⟩)); replace HO_698000 := Aside0.mk (Kd.R_mono (ok' := fun k_ => some k_ ≠ (.slice Ao22 t689.length co22 : Value).ownBlock ∧ some k_ ≠ (.slice Ao34 t698.length co34 : Value).ownBlock) (Kd.R_keptB (HO_698000.out) hkp (fun k_ hk_ hs_ => (hk_.2) hs_)) (fun k_ hk_ => ⟨hk_.1.1, hk_.1.2⟩)); replace BK684 := Aside0.mk (blk_kept (bk BK684) hkp (fun hs_ => (fun e_ => (Kd.R_ne HO_703000.out BK684.out (by decide)) e_) hs_)); replace BK693 := Aside0.mk (blk_kept (bk BK693) hkp (fun hs_ => (fun e_ => (Kd.R_ne HO_703000.out BK693.out (by decide)) e_) hs_)); replace BK697 := Aside0.mk (blk_kept (bk BK697) hkp (fun hs_ => (fun e_ => (Kd.R_ne HO_703000.out BK697.out (by decide)) e_) hs_)); replace BK702 := Aside0.mk (blk_kept (bk BK702) hkp (fun hs_ => (fun e_ => (Kd.R_ne HO_703000.out BK702.out (by decide)) e_) hs_)); replace HO_703000 := Aside0.mk (Kd.R_reok rfl hy0 (fun k_ e_ => HO_703000.out.1 k_ e_)); replace HB := Aside0.mk (hb); (try clear hb); (try clear hkp); (try clear hy0); have hcz111_0 := cz1 BK702; have hfz111_0 := fz1 BK702) | ((with_reducible refine gate_callee (f := 32) rfl ?_); refine goesL_ (some 75) rfl rfl Try.func32 (by kernel_rfl) rfl #[.agg #[.slice Ao34 t712.length co34], .int .i64 1] rfl (by (try simp only [List.map_toArray, List.map_cons, List.map_nil]); first | done | (rw [show t712.length = t698.length from (Kd.R_reads' HO_703000.out).1.symm] <;> rfl) | rfl | (simp only [List.length_drop, List.length_take]; rfl)) ?_; (with_reducible refine (laws_heldFileMap.calls kj61 _ _ t712 1 t713 _ ?side1 ?side2 A93.out).mono ?_); (case side1 => exact rc0 HO_703000); (case side2 => rw [show t712.length = t698.length from (Kd.R_reads' HO_703000.out).1.symm]; exact (Kd.R_reads' HO_703000.out).2.1); rintro e w112 ⟨rfl, hb⟩; refine ⟨_, rfl, ?_⟩; replace HO_694000 := nr HO_694000 hb; replace HO_698000 := nr HO_698000 hb; replace HO_703000 := nr HO_703000 hb; replace BK684 := nb BK684 hb; replace BK693 := nb BK693 hb; replace BK697 := nb BK697 hb; replace BK702 := nb BK702 hb; replace HB := Aside0.mk (below_step (bs4 HB GE684 GE693 GE697 GE702) hb); (try clear hb); (try clear hb2); (try clear hk); (try clear hi); have hnb113 := NB684_693.out; have hnc113 := NB693_684.out; have hnb114 := NB684_697.out; have hnc114 := NB697_684.out; have hcz115_0 := cz1 BK684; have hfz115_0 := fz1 BK684) | ((with_reducible refine gate_callee (f := 16) rfl ?_); refine gL (some 83) rfl rfl Try.func16 (by kernel_rfl) rfl #[.agg #[.slice A0_0 l0_0.length c0_0]] rfl ?_; (with_reducible refine (laws_toFileMap.calls kj61 _ _ l0_0 t714 _ ?side1 ?side2 A103.out).mono ?_); (case side1 => exact cb HR0_0 HB); (case side2 => exact HC0_0.out); rintro e w116 ⟨v715, rfl, ho0, hb⟩; refine ⟨_, rfl, ?_⟩; have HO716 := Aside0.mk (Kd.R_lower (Kd.R_new' (Kd.R_new' (Kd.R_new' ho0 (Kd.R_lt (rr HO_694000.out))) (Kd.R_lt (rr HO_698000.out))) (Kd.R_lt (rr HO_703000.out))) (below_size (bs4 HB GE684 GE693 GE697 GE702))); replace HO_694000 := Aside0.mk (Kd.R_elder' (rr HO_694000.out) (Kd.R_base ho0) hb); replace HO_698000 := Aside0.mk (Kd.R_elder' (rr HO_698000.out) (Kd.R_base ho0) hb); replace HO_703000 := Aside0.mk (Kd.R_elder' (rr HO_703000.out) (Kd.R_base ho0) hb); replace BK684 := nb BK684 hb; replace BK693 := nb BK693 hb; replace BK697 := nb BK697 hb; replace BK702 := nb BK702 hb; replace HB := Aside0.mk (below_step (bs4 HB GE684 GE693 GE697 GE702) hb); (try clear hb); (try clear hb2); (try clear hk); (try clear hi); (try clear ho0); obtain ⟨Ao117, co117, eo117⟩ := Kd.R_slice HO716.out; subst eo117) | ((with_reducible refine gate_callee (f := 36) rfl ?_); refine gL (some 86) rfl rfl Try.func36 (by kernel_rfl) rfl #[.agg #[.slice Ao117 t714.length co117], .int .i64 a1, .int .i64 a2] rfl ?_; (with_reducible refine (impl_WrittenMap.calls kj61 _ _ t714 a1 a2 t717 t720 _ ?side1 ?side2 A104.out).mono ?_); (case side1 => exact rc0 HO716); (case side2 => exact (Kd.R_reads' HO716.out).2.1); rintro e w118 ⟨v718, rfl, ho0, hb⟩; refine ⟨_, rfl, ?_⟩; have HO719 := Aside0.mk (Kd.R_lower (Kd.R_new' (Kd.R_new' (Kd.R_new' (Kd.R_new' ho0 (Kd.R_lt (rr HO_694000.out))) (Kd.R_lt (rr HO_698000.out))) (Kd.R_lt (rr HO_703000.out))) (Kd.R_lt (rr HO716.out))) (below_size (bs4 HB GE684 GE693 GE697 GE702))); replace HO_694000 := Aside0.mk (Kd.R_elder' (rr HO_694000.out) (Kd.R_base ho0) hb); replace HO_698000 := Aside0.mk (Kd.R_elder' (rr HO_698000.out) (Kd.R_base ho0) hb); replace HO_703000 := Aside0.mk (Kd.R_elder' (rr HO_703000.out) (Kd.R_base ho0) hb); replace HO716 := Aside0.mk (Kd.R_elder' (rr HO716.out) (Kd.R_base ho0) hb); replace BK684 := nb BK684 hb; replace BK693 := nb BK693 hb; replace BK697 := nb BK697 hb; replace BK702 := nb BK702 hb; replace HB := Aside0.mk (below_step (bs4 HB GE684 GE693 GE697 GE702) hb); (try clear hb); (try clear hb2); (try clear hk); (try clear hi); (try clear ho0)) | ((with_reducible refine gate_dst (N := 16) rfl ?_); refine box_event ?hg (N := 16) ?hd (cs := #[.slice none 0 0]) (t := 29) ?hr ?_; (case hd => rfl); (case hg => rfl); (case hr => first | (go_simp; done) | (go_simp; rfl)); intro gb721 hg w119 hbox hb; replace HO_694000 := nr HO_694000 hb; replace HO_698000 := nr HO_698000 hb; replace HO_703000 := nr HO_703000 hb; replace HO716 := nr HO716 hb; replace HO719 := nr HO719 hb; have BK721 := Aside0.mk (hbox); have GW721 := Aside0.mk ((by rw [hg]; exact (below_size (bs4 HB GE684 GE693 GE697 GE702)) : w.heap.size ≤ gb721)); have GE721 := Aside0.mk ((by rw [hg]; exact (below_size (bs4 HB GE684 GE693 GE697 GE702)) : w.heap.size ≤ gb721)); replace HB := Aside0.mk (below_step (bs4 HB GE684 GE693 GE697 GE702) hb); have NB684_721 := Aside0.mk ((bn BK684 hg : gb684 ≠ gb721)); have NB721_684 := Aside0.mk ((bm BK684 hg : gb721 ≠ gb684)); replace BK684 := nb BK684 hb; have NB693_721 := Aside0.mk ((bn BK693 hg : gb693 ≠ gb721)); have NB721_693 := Aside0.mk ((bm BK693 hg : gb721 ≠ gb693)); replace BK693 := nb BK693 hb; have NB697_721 := Aside0.mk ((bn BK697 hg : gb697 ≠ gb721)); have NB721_697 := Aside0.mk ((bm BK697 hg : gb721 ≠ gb697)); replace BK697 := nb BK697 hb; have NB702_721 := Aside0.mk ((bn BK702 hg : gb702 ≠ gb721)); have NB721_702 := Aside0.mk ((bm BK702 hg : gb721 ≠ gb702)); replace BK702 := nb BK702 hb; clear hb hbox hg; obtain ⟨Ao120, co120, eo120⟩ := Kd.R_slice HO719.out; subst eo120; have hnb121 := NB721_684.out; have hnc121 := NB684_721.out; have hnb122 := NB721_693.out; have hnc122 := NB693_721.out; have hnb123 := NB721_697.out; have hnc123 := NB697_721.out; have hnb124 := NB721_702.out; have hnc124 := NB702_721.out; have hcz125_0 := cz1 BK721; have hfz125_0 := fz1 BK721))
           (try simp only [Act.put, List.setIfInBounds_toArray, List.set_cons_zero, List.set_cons_succ])
           go_cut [97] (fun v97 wc => ∃ (kq : Nat) (x97_104 : Bool), v97 = .bool x97_104 ∧ Aside0 (laws_FnExactWrittenMap.j2 kq t711 x97_104 t712 = some r) ∧ Aside0 (kq ≤ kj61) ∧ Aside0 (Kd.R k48 48 wc w.heap.size (fun k_ => some k_ ≠ ((.slice Ao28 t709.length co28) : Value).ownBlock ∧ some k_ ≠ ((.slice Ao34 t698.length co34) : Value).ownBlock ∧ some k_ ≠ ((.slice Ao120 t717.length co120) : Value).ownBlock) (.slice Ao22 t689.length co22) t689) ∧ Aside0 (Kd.R k48 48 wc w.heap.size (fun k_ => some k_ ≠ ((.slice Ao22 t689.length co22) : Value).ownBlock ∧ some k_ ≠ ((.slice Ao34 t698.length co34) : Value).ownBlock ∧ some k_ ≠ ((.slice Ao120 t717.length co120) : Value).ownBlock) (.slice Ao28 t709.length co28) t709) ∧ Aside0 (Kd.R k48 48 wc w.heap.size (fun k_ => some k_ ≠ ((.slice Ao22 t689.length co22) : Value).ownBlock ∧ some k_ ≠ ((.slice Ao28 t709.length co28) : Value).ownBlock ∧ some k_ ≠ ((.slice Ao120 t717.length co120) : Value).ownBlock) (.slice Ao34 t698.length co34) t712) ∧ Aside0 (Kd.R k48 48 wc w.heap.size (fun k_ => some k_ ≠ ((.slice Ao22 t689.length co22) : Value).ownBlock ∧ some k_ ≠ ((.slice Ao28 t709.length co28) : Value).ownBlock ∧ some k_ ≠ ((.slice Ao34 t698.length co34) : Value).ownBlock) (.slice Ao120 t717.length co120) t717) ∧ Aside0 (wc.heap[gb684]? = some (.cells #[(.slice A0_0 l0_0.length c0_0)] 24 (0, 0))) ∧ Aside0 (wc.heap[gb693]? = some (.cells #[(.slice Ao22 t689.length co22)] 29 (0, 0))) ∧ Aside0 (wc.heap[gb697]? = some (.cells #[(.slice Ao28 t709.length co28)] 29 (0, 0))) ∧ Aside0 (wc.heap[gb702]? = some (.cells #[(.slice Ao34 t698.length co34)] 29 (0, 0))) ∧ Aside0 (wc.heap[gb721]? = some (.cells #[(.slice Ao120 t717.length co120)] 29 (0, 0))) ∧ Aside0 (Below w.heap.size w wc))
           case first =>
            have H := HC105.out
            clear HC105
            replace H := Option.bind_eq_some_iff.mp H
            obtain ⟨t722, A1260, H⟩ := H
            replace H : (if t722 = true then (laws_FnExactWrittenMap.j2 kj61 t711 (t720 != t692) t712) else (laws_FnExactWrittenMap.j2 kj61 t711 true t712)) = some r := H
            have A126 := Aside0.mk A1260
            clear A1260
            by_cases c127 : t722 = true
            ·
             subst c127
             rw [if_pos rfl] at H
             have H' := Aside0.mk H
             clear H
             have hnb128 := NB721_684.out
             have hnc128 := NB684_721.out
             have hnb129 := NB721_693.out
             have hnc129 := NB693_721.out
             have hnb130 := NB721_697.out
             have hnc130 := NB697_721.out
             have hnb131 := NB721_702.out
             have hnc131 := NB702_721.out
             have hcz132_0 := cz1 BK721
             have hfz132_0 := fz1 BK721
             have hnb133 := NB693_684.out
             have hnc133 := NB684_693.out
             have hnb134 := NB693_697.out
             have hnc134 := NB697_693.out
             have hnb135 := NB693_702.out
             have hnc135 := NB702_693.out
             have hcz136_0 := cz1 BK693
             have hfz136_0 := fz1 BK693
             go_wp2_with (first | ((with_reducible refine gate_callee (f := 18) rfl ?_); refine gL (some 91) rfl rfl Try.func18 (by kernel_rfl) rfl #[.agg #[.slice Ao120 t717.length co120], .agg #[.slice Ao22 t689.length co22]] rfl ?_; (with_reducible refine (laws_eqFileMap.calls kj61 _ _ t717 _ _ t689 true _ ?side1 ?side2 ?side3 ?side4 A126.out).mono ?_); (case side1 => exact rc HO719 BK721); (case side2 => exact (Kd.R_reads' HO719.out).2.1); (case side3 => exact rc HO_694000 BK721); (case side4 => exact (Kd.R_reads' HO_694000.out).2.1); rintro e w137 ⟨rfl, hb⟩; refine ⟨_, rfl, ?_⟩; replace HO_694000 := nf HO_694000 BK721 hb; replace HO_698000 := nf HO_698000 BK721 hb; replace HO_703000 := nf HO_703000 BK721 hb; replace HO716 := nf HO716 BK721 hb; replace HO719 := nf HO719 BK721 hb; replace BK684 := Aside0.mk (blk_below (bf BK684 NB684_721) hb); replace BK693 := Aside0.mk (blk_below (bf BK693 NB693_721) hb); replace BK697 := Aside0.mk (blk_below (bf BK697 NB697_721) hb); replace BK702 := Aside0.mk (blk_below (bf BK702 NB702_721) hb); replace BK721 := Aside0.mk (blk_below (g := gb721) (o := .cells #[.slice Ao120 t717.length co120] 29 (0, 0)) (by (with_reducible repeat (first | refine blk_drewN ?_ _ | refine blk_drew ?_ | refine blk_alloc ?_ _)); refine blk_put (cs := #[.slice none 0 0]) ?_ 0 _ rfl; (with_reducible repeat (first | refine blk_drewN ?_ _ | refine blk_drew ?_ | refine blk_alloc ?_ _)); exact BK721.out) hb); replace HB := Aside0.mk (below_step (bs5 HB GE684 GE693 GE697 GE702 GE721) hb); (try clear hb); (try clear hb2); (try clear hk); (try clear hi)))
             go_meet
             case rel => exact ⟨_, ((t720 != t692)), (by first | rfl | (simp; done) | (simp [*]; done)), H', ⟨by have := HJ12.out; have := HJ61.out; first | omega | exact Nat.le_refl _⟩, ⟨by (try simp only [hl698000_61]); (with_reducible repeat (first | apply Kd.R_alloc | apply Kd.R_drewN | apply Kd.R_drew)); exact Kd.R_mono HO_694000.out (fun _ hk => ⟨hk.1.1.1, ⟨hk.1.1.2, hk.2⟩⟩)⟩, ⟨by (try simp only [hl698000_61]); (with_reducible repeat (first | apply Kd.R_alloc | apply Kd.R_drewN | apply Kd.R_drew)); exact Kd.R_mono HO_698000.out (fun _ hk => ⟨hk.1.1.1, ⟨hk.1.1.2, hk.2⟩⟩)⟩, ⟨by (try simp only [hl698000_61]); (with_reducible repeat (first | apply Kd.R_alloc | apply Kd.R_drewN | apply Kd.R_drew)); exact Kd.R_mono HO_703000.out (fun _ hk => ⟨hk.1.1.1, ⟨hk.1.1.2, hk.2⟩⟩)⟩, ⟨by (try simp only [hl698000_61]); (with_reducible repeat (first | apply Kd.R_alloc | apply Kd.R_drewN | apply Kd.R_drew)); exact Kd.R_mono HO719.out (fun _ hk => ⟨hk.1.1.1.2, ⟨hk.1.1.2, hk.1.2⟩⟩)⟩, ⟨by (try simp only [hl698000_61]); (with_reducible repeat (first | refine blk_drewN ?_ _ | refine blk_drew ?_ | refine blk_alloc ?_ _)); exact BK684.out⟩, ⟨by (try simp only [hl698000_61]); (with_reducible repeat (first | refine blk_drewN ?_ _ | refine blk_drew ?_ | refine blk_alloc ?_ _)); exact BK693.out⟩, ⟨by (try simp only [hl698000_61]); (with_reducible repeat (first | refine blk_drewN ?_ _ | refine blk_drew ?_ | refine blk_alloc ?_ _)); exact BK697.out⟩, ⟨by (try simp only [hl698000_61]); (with_reducible repeat (first | refine blk_drewN ?_ _ | refine blk_drew ?_ | refine blk_alloc ?_ _)); exact BK702.out⟩, ⟨by (try simp only [hl698000_61]); (with_reducible repeat (first | refine blk_drewN ?_ _ | refine blk_drew ?_ | refine blk_alloc ?_ _)); exact BK721.out⟩, ⟨bs5 HB GE684 GE693 GE697 GE702 GE721⟩⟩
            ·
             replace c127 := Bool.eq_false_iff.mpr c127
             subst c127
             rw [if_neg (show ¬ (false = true) by decide)] at H
             have H' := Aside0.mk H
             clear H
             have hnb138 := NB721_684.out
             have hnc138 := NB684_721.out
             have hnb139 := NB721_693.out
             have hnc139 := NB693_721.out
             have hnb140 := NB721_697.out
             have hnc140 := NB697_721.out
             have hnb141 := NB721_702.out
             have hnc141 := NB702_721.out
             have hcz142_0 := cz1 BK721
             have hfz142_0 := fz1 BK721
             have hnb143 := NB693_684.out
             have hnc143 := NB684_693.out
             have hnb144 := NB693_697.out
             have hnc144 := NB697_693.out
             have hnb145 := NB693_702.out
             have hnc145 := NB702_693.out
             have hcz146_0 := cz1 BK693
             have hfz146_0 := fz1 BK693
             go_wp2_with (first | ((with_reducible refine gate_callee (f := 18) rfl ?_); refine gL (some 91) rfl rfl Try.func18 (by kernel_rfl) rfl #[.agg #[.slice Ao120 t717.length co120], .agg #[.slice Ao22 t689.length co22]] rfl ?_; (with_reducible refine (laws_eqFileMap.calls kj61 _ _ t717 _ _ t689 false _ ?side1 ?side2 ?side3 ?side4 A126.out).mono ?_); (case side1 => exact rc HO719 BK721); (case side2 => exact (Kd.R_reads' HO719.out).2.1); (case side3 => exact rc HO_694000 BK721); (case side4 => exact (Kd.R_reads' HO_694000.out).2.1); rintro e w147 ⟨rfl, hb⟩; refine ⟨_, rfl, ?_⟩; replace HO_694000 := nf HO_694000 BK721 hb; replace HO_698000 := nf HO_698000 BK721 hb; replace HO_703000 := nf HO_703000 BK721 hb; replace HO716 := nf HO716 BK721 hb; replace HO719 := nf HO719 BK721 hb; replace BK684 := Aside0.mk (blk_below (bf BK684 NB684_721) hb); replace BK693 := Aside0.mk (blk_below (bf BK693 NB693_721) hb); replace BK697 := Aside0.mk (blk_below (bf BK697 NB697_721) hb); replace BK702 := Aside0.mk (blk_below (bf BK702 NB702_721) hb); replace BK721 := Aside0.mk (blk_below (g := gb721) (o := .cells #[.slice Ao120 t717.length co120] 29 (0, 0)) (by (with_reducible repeat (first | refine blk_drewN ?_ _ | refine blk_drew ?_ | refine blk_alloc ?_ _)); refine blk_put (cs := #[.slice none 0 0]) ?_ 0 _ rfl; (with_reducible repeat (first | refine blk_drewN ?_ _ | refine blk_drew ?_ | refine blk_alloc ?_ _)); exact BK721.out) hb); replace HB := Aside0.mk (below_step (bs5 HB GE684 GE693 GE697 GE702 GE721) hb); (try clear hb); (try clear hb2); (try clear hk); (try clear hi)))
             go_meet
             case rel => exact ⟨_, (true), (by first | rfl | (simp; done) | (simp [*]; done)), H', ⟨by have := HJ12.out; have := HJ61.out; first | omega | exact Nat.le_refl _⟩, ⟨by (try simp only [hl698000_61]); (with_reducible repeat (first | apply Kd.R_alloc | apply Kd.R_drewN | apply Kd.R_drew)); exact Kd.R_mono HO_694000.out (fun _ hk => ⟨hk.1.1.1, ⟨hk.1.1.2, hk.2⟩⟩)⟩, ⟨by (try simp only [hl698000_61]); (with_reducible repeat (first | apply Kd.R_alloc | apply Kd.R_drewN | apply Kd.R_drew)); exact Kd.R_mono HO_698000.out (fun _ hk => ⟨hk.1.1.1, ⟨hk.1.1.2, hk.2⟩⟩)⟩, ⟨by (try simp only [hl698000_61]); (with_reducible repeat (first | apply Kd.R_alloc | apply Kd.R_drewN | apply Kd.R_drew)); exact Kd.R_mono HO_703000.out (fun _ hk => ⟨hk.1.1.1, ⟨hk.1.1.2, hk.2⟩⟩)⟩, ⟨by (try simp only [hl698000_61]); (with_reducible repeat (first | apply Kd.R_alloc | apply Kd.R_drewN | apply Kd.R_drew)); exact Kd.R_mono HO719.out (fun _ hk => ⟨hk.1.1.1.2, ⟨hk.1.1.2, hk.1.2⟩⟩)⟩, ⟨by (try simp only [hl698000_61]); (with_reducible repeat (first | refine blk_drewN ?_ _ | refine blk_drew ?_ | refine blk_alloc ?_ _)); exact BK684.out⟩, ⟨by (try simp only [hl698000_61]); (with_reducible repeat (first | refine blk_drewN ?_ _ | refine blk_drew ?_ | refine blk_alloc ?_ _)); exact BK693.out⟩, ⟨by (try simp only [hl698000_61]); (with_reducible repeat (first | refine blk_drewN ?_ _ | refine blk_drew ?_ | refine blk_alloc ?_ _)); exact BK697.out⟩, ⟨by (try simp only [hl698000_61]); (with_reducible repeat (first | refine blk_drewN ?_ _ | refine blk_drew ?_ | refine blk_alloc ?_ _)); exact BK702.out⟩, ⟨by (try simp only [hl698000_61]); (with_reducible repeat (first | refine blk_drewN ?_ _ | refine blk_drew ?_ | refine blk_alloc ?_ _)); exact BK721.out⟩, ⟨bs5 HB GE684 GE693 GE697 GE702 GE721⟩⟩
           case rest =>
            clear HC105
            try clear c1
            try clear c2
            try clear p2
            try clear c3
            try clear c4
            try clear c5
            try clear c5b0
            try clear c6
            try clear c7
            try clear c8
            try clear c9
            try clear c10
            try clear c11
            try clear c12
            try clear c13
            try clear c14
            try clear c16
            try clear c18
            try clear c23
            try clear c26
            try clear c29
            try clear c30
            try clear c32
            try clear c35
            try clear c36
            try clear c37
            try clear c40
            try clear c41
            try clear c42
            try clear c43
            try clear c45
            try clear c46
            try clear c49
            try clear c50
            try clear c51
            try clear c53
            try clear c54
            try clear c57
            try clear c60
            try clear c67
            try clear c68
            try clear c69
            try clear c72
            try clear c72b0
            try clear c74
            try clear c75
            try clear c76
            try clear c77
            try clear c79
            try clear c80
            try clear c83
            try clear c84
            try clear c85
            try clear c87
            try clear c88
            try clear c91
            try clear c94
            try clear c94b0
            try clear c95
            try clear c96
            try clear c97
            try clear c102
            try clear c102b0
            try clear c102b1
            try clear c106
            try clear c107
            try clear c108
            try clear c113
            try clear c114
            try clear c121
            try clear c122
            try clear c123
            try clear c124
            try clear c127
            try clear c128
            try clear c129
            try clear c130
            try clear c131
            try clear c133
            try clear c134
            try clear c135
            try clear c138
            try clear c139
            try clear c140
            try clear c141
            try clear c143
            try clear c144
            try clear c145
            try clear hcz100_0
            try clear hcz109_0
            try clear hcz111_0
            try clear hcz115_0
            try clear hcz125_0
            try clear hcz132_0
            try clear hcz136_0
            try clear hcz142_0
            try clear hcz146_0
            try clear hcz15_0
            try clear hcz17_0
            try clear hcz24_0
            try clear hcz25_0
            try clear hcz31_0
            try clear hcz38_0
            try clear hcz44_0
            try clear hcz47_0
            try clear hcz52_0
            try clear hcz55_0
            try clear hcz70_0
            try clear hcz78_0
            try clear hcz7_0
            try clear hcz81_0
            try clear hcz86_0
            try clear hcz89_0
            try clear hcz98_0
            try clear hfz100_0
            try clear hfz109_0
            try clear hfz111_0
            try clear hfz115_0
            try clear hfz125_0
            try clear hfz132_0
            try clear hfz136_0
            try clear hfz142_0
            try clear hfz146_0
            try clear hfz15_0
            try clear hfz17_0
            try clear hfz24_0
            try clear hfz25_0
            try clear hfz31_0
            try clear hfz38_0
            try clear hfz44_0
            try clear hfz47_0
            try clear hfz52_0
            try clear hfz55_0
            try clear hfz70_0
            try clear hfz78_0
            try clear hfz7_0
            try clear hfz81_0
            try clear hfz86_0
            try clear hfz89_0
            try clear hfz98_0
            try clear p2
            obtain ⟨kq, x97_104, rfl, HA, HJ104, HO_694000, HO_698000, HO_703000, HO_722000, BK684, BK693, BK697, BK702, BK721, HB⟩ := hcut
            have hl703000_104 := (Kd.R_reads' HO_703000.out).1
            rw [hl703000_104] at HO_703000
            (try simp only [hl703000_104])
            (try simp only [hl703000_104] at BK684)
            (try simp only [hl703000_104] at BK693)
            (try simp only [hl703000_104] at BK697)
            (try simp only [hl703000_104] at BK702)
            (try simp only [hl703000_104] at BK721)
            (try simp only [hl703000_104] at HO_694000)
            (try simp only [hl703000_104] at HO_698000)
            (try simp only [hl703000_104] at HO_722000)
            cases kq with
            | zero => exact absurd HA.out (by simp [laws_FnExactWrittenMap.j2])
            | succ kj104 =>
             have H := HA.out
             clear HA
             simp only [laws_FnExactWrittenMap.j2] at H
             by_cases c148 : x97_104 = true
             ·
              subst c148
              rw [if_pos rfl] at H
              obtain rfl := Option.some.inj H
              go_wp2
              go_ret
              exact ⟨by first | rfl | (simp [errW_none, errW_some] <;> rfl) | (simp [*, errW_none, errW_some] <;> rfl), bs5 HB GE684 GE693 GE697 GE702 GE721⟩
             ·
              replace c148 := Bool.eq_false_iff.mpr c148
              subst c148
              rw [if_neg (show ¬ (false = true) by decide)] at H
              replace H := Option.bind_eq_some_iff.mp H
              obtain ⟨t723, A1490, H⟩ := H
              replace H : (if t723 < 0 then (some false) else (if t723 = t711 then (some true) else (some false))) = some r := H
              have A149 := Aside0.mk A1490
              clear A1490
              by_cases c150 : t723 < 0
              ·
               rw [if_pos c150] at H
               have c150b0 : decide (t723 < 0) = true := decide_eq_true c150
               clear c150
               obtain rfl := Option.some.inj H
               have hnb151 := NB702_684.out
               have hnc151 := NB684_702.out
               have hnb152 := NB702_693.out
               have hnc152 := NB693_702.out
               have hnb153 := NB702_697.out
               have hnc153 := NB697_702.out
               have hnb154 := NB702_721.out
               have hnc154 := NB721_702.out
               have hcz155_0 := cz1 BK702
               have hfz155_0 := fz1 BK702
               go_wp2_with (first | ((with_reducible refine gate_callee (f := 32) rfl ?_); refine gL (some 100) rfl rfl Try.func32 (by kernel_rfl) rfl #[.agg #[.slice Ao34 t712.length co34], .int .i64 1] rfl ?_; (with_reducible refine (laws_heldFileMap.calls kj104 _ _ t712 1 t723 _ ?side1 ?side2 A149.out).mono ?_); (case side1 => exact rc0 HO_703000); (case side2 => exact (Kd.R_reads' HO_703000.out).2.1); rintro e w156 ⟨rfl, hb⟩; refine ⟨_, rfl, ?_⟩; replace HO_694000 := nr HO_694000 hb; replace HO_698000 := nr HO_698000 hb; replace HO_703000 := nr HO_703000 hb; replace HO_722000 := nr HO_722000 hb; replace BK684 := nb BK684 hb; replace BK693 := nb BK693 hb; replace BK697 := nb BK697 hb; replace BK702 := nb BK702 hb; replace BK721 := nb BK721 hb; replace HB := Aside0.mk (below_step (bs5 HB GE684 GE693 GE697 GE702 GE721) hb); (try clear hb); (try clear hb2); (try clear hk); (try clear hi)))
               go_ret
               exact ⟨by first | rfl | (simp [errW_none, errW_some] <;> rfl) | (simp [*, errW_none, errW_some] <;> rfl), bs5 HB GE684 GE693 GE697 GE702 GE721⟩
              ·
               rw [if_neg c150] at H
               have c150b0 : decide (t723 < 0) = false := decide_eq_false c150
               clear c150
               by_cases c157 : t723 = t711
               ·
                rw [if_pos c157] at H
                have c157b0 : (t723 == t711) = true := beq_iff_eq.mpr c157
                have c157b1 : (t723 != t711) = false := bne_eq_false_iff_eq.mpr c157
                clear c157
                obtain rfl := Option.some.inj H
                have hnb158 := NB702_684.out
                have hnc158 := NB684_702.out
                have hnb159 := NB702_693.out
                have hnc159 := NB693_702.out
                have hnb160 := NB702_697.out
                have hnc160 := NB697_702.out
                have hnb161 := NB702_721.out
                have hnc161 := NB721_702.out
                have hcz162_0 := cz1 BK702
                have hfz162_0 := fz1 BK702
                go_wp2_with (first | ((with_reducible refine gate_callee (f := 32) rfl ?_); refine gL (some 100) rfl rfl Try.func32 (by kernel_rfl) rfl #[.agg #[.slice Ao34 t712.length co34], .int .i64 1] rfl ?_; (with_reducible refine (laws_heldFileMap.calls kj104 _ _ t712 1 t723 _ ?side1 ?side2 A149.out).mono ?_); (case side1 => exact rc0 HO_703000); (case side2 => exact (Kd.R_reads' HO_703000.out).2.1); rintro e w163 ⟨rfl, hb⟩; refine ⟨_, rfl, ?_⟩; replace HO_694000 := nr HO_694000 hb; replace HO_698000 := nr HO_698000 hb; replace HO_703000 := nr HO_703000 hb; replace HO_722000 := nr HO_722000 hb; replace BK684 := nb BK684 hb; replace BK693 := nb BK693 hb; replace BK697 := nb BK697 hb; replace BK702 := nb BK702 hb; replace BK721 := nb BK721 hb; replace HB := Aside0.mk (below_step (bs5 HB GE684 GE693 GE697 GE702 GE721) hb); (try clear hb); (try clear hb2); (try clear hk); (try clear hi)))
                go_ret
                exact ⟨by first | rfl | (simp [errW_none, errW_some] <;> rfl) | (simp [*, errW_none, errW_some] <;> rfl), bs5 HB GE684 GE693 GE697 GE702 GE721⟩
               ·
                rw [if_neg c157] at H
                have c157b0 : (t723 == t711) = false := beq_eq_false_iff_ne.mpr c157
                have c157b1 : (t723 != t711) = true := bne_iff_ne.mpr c157
                obtain rfl := Option.some.inj H
                have hnb164 := NB702_684.out
                have hnc164 := NB684_702.out
                have hnb165 := NB702_693.out
                have hnc165 := NB693_702.out
                have hnb166 := NB702_697.out
                have hnc166 := NB697_702.out
                have hnb167 := NB702_721.out
                have hnc167 := NB721_702.out
                have hcz168_0 := cz1 BK702
                have hfz168_0 := fz1 BK702
                go_wp2_with (first | ((with_reducible refine gate_callee (f := 32) rfl ?_); refine gL (some 100) rfl rfl Try.func32 (by kernel_rfl) rfl #[.agg #[.slice Ao34 t712.length co34], .int .i64 1] rfl ?_; (with_reducible refine (laws_heldFileMap.calls kj104 _ _ t712 1 t723 _ ?side1 ?side2 A149.out).mono ?_); (case side1 => exact rc0 HO_703000); (case side2 => exact (Kd.R_reads' HO_703000.out).2.1); rintro e w169 ⟨rfl, hb⟩; refine ⟨_, rfl, ?_⟩; replace HO_694000 := nr HO_694000 hb; replace HO_698000 := nr HO_698000 hb; replace HO_703000 := nr HO_703000 hb; replace HO_722000 := nr HO_722000 hb; replace BK684 := nb BK684 hb; replace BK693 := nb BK693 hb; replace BK697 := nb BK697 hb; replace BK702 := nb BK702 hb; replace BK721 := nb BK721 hb; replace HB := Aside0.mk (below_step (bs5 HB GE684 GE693 GE697 GE702 GE721) hb); (try clear hb); (try clear hb2); (try clear hk); (try clear hi)))
                go_ret
                exact ⟨by first | rfl | (simp [errW_none, errW_some] <;> rfl) | (simp [*, errW_none, errW_some] <;> rfl), bs5 HB GE684 GE693 GE697 GE702 GE721⟩
          ·
           rw [if_neg c102] at H
           have c102b0 : (t713 == t711) = false := beq_eq_false_iff_ne.mpr c102
           have c102b1 : (t713 != t711) = true := bne_iff_ne.mpr c102
           obtain rfl := Option.some.inj H
           have hnb170 := NB702_684.out
           have hnc170 := NB684_702.out
           have hnb171 := NB702_693.out
           have hnc171 := NB693_702.out
           have hnb172 := NB702_697.out
           have hnc172 := NB697_702.out
           have hcz173_0 := cz1 BK702
           have hfz173_0 := fz1 BK702
           go_wp2_with (first | ((with_reducible refine gate_callee (f := 26) rfl ?_); refine gL (some 72) rfl rfl Try.func26 (by kernel_rfl) rfl #[.agg #[.slice Ao34 t698.length co34], .int .i64 1] rfl ?_; (with_reducible refine (laws_markFileMap.calls kj61 (fun k_ => some k_ = (.slice Ao34 t698.length co34 : Value).ownBlock) (.slice Ao34 t698.length co34) t698 1 t711 t712 w _ ?side1 ?side2 A92.out).mono ?_); (case side1 => repeat (first | (with_reducible first | exact HB.out | apply below_alloc | apply pw_below_drewN | apply below_drew1 | refine below_set ?_ GE684.out | refine below_set ?_ GE693.out | refine below_set ?_ GE697.out | refine below_set ?_ GE702.out) | exact HB.out)); (case side2 => exact Kd.R_tight rfl HO_703000.out); rintro e w174 ⟨rfl, hy0, hb, hkp⟩; refine ⟨_, rfl, ?_⟩; replace HO_694000 := Aside0.mk (Kd.R_mono (ok' := fun k_ => some k_ ≠ (.slice Ao28 t709.length co28 : Value).ownBlock ∧ some k_ ≠ (.slice Ao34 t698.length co34 : Value).ownBlock) (Kd.R_keptB (HO_694000.out) hkp (fun k_ hk_ hs_ => (hk_.2) hs_)) (fun k_ hk_ => ⟨hk_.1.1, hk_.1.2⟩)); replace HO_698000 := Aside0.mk (Kd.R_mono (ok' := fun k_ => some k_ ≠ (.slice Ao22 t689.length co22 : Value).ownBlock ∧ some k_ ≠ (.slice Ao34 t698.length co34 : Value).ownBlock) (Kd.R_keptB (HO_698000.out) hkp (fun k_ hk_ hs_ => (hk_.2) hs_)) (fun k_ hk_ => ⟨hk_.1.1, hk_.1.2⟩)); replace BK684 := Aside0.mk (blk_kept (bk BK684) hkp (fun hs_ => (fun e_ => (Kd.R_ne HO_703000.out BK684.out (by decide)) e_) hs_)); replace BK693 := Aside0.mk (blk_kept (bk BK693) hkp (fun hs_ => (fun e_ => (Kd.R_ne HO_703000.out BK693.out (by decide)) e_) hs_)); replace BK697 := Aside0.mk (blk_kept (bk BK697) hkp (fun hs_ => (fun e_ => (Kd.R_ne HO_703000.out BK697.out (by decide)) e_) hs_)); replace BK702 := Aside0.mk (blk_kept (bk BK702) hkp (fun hs_ => (fun e_ => (Kd.R_ne HO_703000.out BK702.out (by decide)) e_) hs_)); replace HO_703000 := Aside0.mk (Kd.R_reok rfl hy0 (fun k_ e_ => HO_703000.out.1 k_ e_)); replace HB := Aside0.mk (hb); (try clear hb); (try clear hkp); (try clear hy0); have hcz175_0 := cz1 BK702; have hfz175_0 := fz1 BK702) | ((with_reducible refine gate_callee (f := 32) rfl ?_); refine goesL_ (some 75) rfl rfl Try.func32 (by kernel_rfl) rfl #[.agg #[.slice Ao34 t712.length co34], .int .i64 1] rfl (by (try simp only [List.map_toArray, List.map_cons, List.map_nil]); first | done | (rw [show t712.length = t698.length from (Kd.R_reads' HO_703000.out).1.symm] <;> rfl) | rfl | (simp only [List.length_drop, List.length_take]; rfl)) ?_; (with_reducible refine (laws_heldFileMap.calls kj61 _ _ t712 1 t713 _ ?side1 ?side2 A93.out).mono ?_); (case side1 => exact rc0 HO_703000); (case side2 => rw [show t712.length = t698.length from (Kd.R_reads' HO_703000.out).1.symm]; exact (Kd.R_reads' HO_703000.out).2.1); rintro e w176 ⟨rfl, hb⟩; refine ⟨_, rfl, ?_⟩; replace HO_694000 := nr HO_694000 hb; replace HO_698000 := nr HO_698000 hb; replace HO_703000 := nr HO_703000 hb; replace BK684 := nb BK684 hb; replace BK693 := nb BK693 hb; replace BK697 := nb BK697 hb; replace BK702 := nb BK702 hb; replace HB := Aside0.mk (below_step (bs4 HB GE684 GE693 GE697 GE702) hb); (try clear hb); (try clear hb2); (try clear hk); (try clear hi)))
           go_ret
           exact ⟨by first | rfl | (simp [errW_none, errW_some] <;> rfl) | (simp [*, errW_none, errW_some] <;> rfl), bs4 HB GE684 GE693 GE697 GE702⟩
     ·
      replace c60 := Bool.eq_false_iff.mpr c60
      subst c60
      rw [if_neg (show ¬ (false = true) by decide)] at H
      obtain rfl := Option.some.inj H
      try go_wp2
      have n0_ := Aside0.mk (Kd.R_drew HO_694000.out)
      have n1_ := Aside0.mk (Kd.R_drew HO_698000.out)
      have n2_ := Aside0.mk (Kd.R_drew HO_703000.out)
      have n3_ := Aside0.mk (blk_drew BK684.out)
      have n4_ := Aside0.mk (blk_drew BK693.out)
      have n5_ := Aside0.mk (blk_drew BK697.out)
      have n6_ := Aside0.mk (blk_drew BK702.out)
      have n7_ := Aside0.mk (below_drew1 HB.out)
      clear HO_694000
      clear HO_698000
      clear HO_703000
      clear BK684
      clear BK693
      clear BK697
      clear BK702
      clear HB
      have HO_694000 := n0_
      have HO_698000 := n1_
      have HO_703000 := n2_
      have BK684 := n3_
      have BK693 := n4_
      have BK697 := n5_
      have BK702 := n6_
      have HB := n7_
      clear n0_ n1_ n2_ n3_ n4_ n5_ n6_ n7_
      refine start_ (n := 5) (S := fun w' => w'.cell? ⟨gb697, 0, none⟩ = some (.slice Ao28 t694.length co28) ∧ w'.cell? ⟨gb684, 0, none⟩ = some (.slice A0_0 l0_0.length c0_0)) (ds := []) #[false, false, false, false, false] (by kernel_rfl) rfl rfl ⟨(blk_cell BK697.out 0).trans rfl, (blk_cell BK684.out 0).trans rfl⟩ (fun hHeld => ?_)
      generalize wc.drew = w177 at HO_694000 HO_698000 HO_703000 BK684 BK693 BK697 BK702 HB hHeld ⊢
      refine take_ (i := 0) (N := some 49) (v := ?_) (a' := ?_) #[true, false, false, false, false] rfl rfl (by kernel_rfl) (fun _ _ _ h => h) (Or.inl ⟨by rfl, ?_⟩) hHeld ?_ ?_
      rotate_left
      ·
       rintro w' ⟨s0, s1⟩
       go_simp
       with_reducible rfl
      rotate_left
      ·
       simp only [Act.put, List.setIfInBounds_toArray, List.set_cons_zero, List.set_cons_succ, i64_w, i32_w]
       rfl
      refine take_ (i := 1) (N := some 50) (v := ?_) (a' := ?_) #[true, true, false, false, false] rfl rfl (by kernel_rfl) (fun _ _ _ h => h) (Or.inl ⟨by rfl, ?_⟩) hHeld ?_ ?_
      rotate_left
      ·
       rintro w' ⟨s0, s1⟩
       go_simp
       with_reducible rfl
      rotate_left
      ·
       simp only [Act.put, List.setIfInBounds_toArray, List.set_cons_zero, List.set_cons_succ, i64_w, i32_w]
       rfl
      refine one_ (i := 2) (N := some 51) #[true, true, true, false, false] rfl rfl (by kernel_rfl) (by decide) (fun K hK => ?_)
      refine goes_ Try.func16 (by kernel_rfl) rfl #[.agg #[.slice A0_0 l0_0.length c0_0]] (by rfl) rfl rfl (by (try simp only [List.map_toArray, List.map_cons, List.map_nil]); first | done | rfl | (simp only [List.length_drop, List.length_take]; rfl)) ?_
      with_reducible refine (laws_toFileMap.calls kj12 _ _ l0_0 t704 _ ?side1 ?side2 A58.out).mono ?_
      (case side1 => exact cb HR0_0 HB)
      (case side2 => exact HC0_0.out)
      rintro e w178 ⟨v705, rfl, ho0, hb⟩
      refine ⟨_, rfl, ?_⟩
      have n0_ := Aside0.mk (Kd.R_elder' (rr HO_694000.out) (Kd.R_base ho0) hb)
      have n1_ := Aside0.mk (Kd.R_elder' (rr HO_698000.out) (Kd.R_base ho0) hb)
      have n2_ := Aside0.mk (Kd.R_elder' (rr HO_703000.out) (Kd.R_base ho0) hb)
      have n3_ := Aside0.mk (Kd.R_lower (Kd.R_new' (Kd.R_new' (Kd.R_new' ho0 (Kd.R_lt (rr HO_694000.out))) (Kd.R_lt (rr HO_698000.out))) (Kd.R_lt (rr HO_703000.out))) (below_size (bs4 HB GE684 GE693 GE697 GE702)))
      have n4_ := Aside0.mk (bb BK684 hb)
      have n5_ := Aside0.mk (bb BK693 hb)
      have n6_ := Aside0.mk (bb BK697 hb)
      have n7_ := Aside0.mk (bb BK702 hb)
      have n8_ := Aside0.mk (below_step (bs4 HB GE684 GE693 GE697 GE702) hb)
      clear HO_694000
      clear HO_698000
      clear HO_703000
      clear BK684
      clear BK693
      clear BK697
      clear BK702
      clear HB
      have HO_694000 := n0_
      have HO_698000 := n1_
      have HO_703000 := n2_
      have HO706 := n3_
      have BK684 := n4_
      have BK693 := n5_
      have BK697 := n6_
      have BK702 := n7_
      have HB := n8_
      clear n0_ n1_ n2_ n3_ n4_ n5_ n6_ n7_ n8_
      (try clear hb)
      (try clear hb2)
      (try clear hk)
      (try clear hi)
      (try clear ho0)
      obtain ⟨Ao179, co179, eo179⟩ := Kd.R_slice HO706.out
      (first | subst eo179 | (injection eo179 with f1_ f2_ f3_; have f4_ := f1_.symm; have f5_ := f3_.symm; clear f1_ f2_ f3_; subst f4_; subst f5_))
      refine hK.out _ _ ⟨(blk_cell BK697.out 0).trans rfl, (blk_cell BK684.out 0).trans rfl⟩ (fun hHeld => ?_)
      clear hK K
      refine norm_ (a' := ?_) ?_ ?_
      rotate_left
      ·
       show Act.put _ (some 51) _ = _
       simp only [Act.put, List.setIfInBounds_toArray, List.set_cons_zero, List.set_cons_succ, i64_w, i32_w]
       rfl
      refine one_ (i := 3) (N := some 52) #[true, true, true, true, false] rfl rfl (by kernel_rfl) (by decide) (fun K hK => ?_)
      refine goes_ Try.func18 (by kernel_rfl) rfl #[.agg #[.slice Ao28 t694.length co28], .agg #[.slice Ao179 t704.length co179]] (by rfl) rfl rfl (by (try simp only [List.map_toArray, List.map_cons, List.map_nil]); first | done | rfl | (simp only [List.length_drop, List.length_take]; rfl)) ?_
      with_reducible refine (laws_eqFileMap.calls kj12 _ _ t694 _ _ t704 false _ ?side1 ?side2 ?side3 ?side4 A59.out).mono ?_
      (case side1 => exact rc0 HO_698000)
      (case side2 => exact (Kd.R_reads' HO_698000.out).2.1)
      (case side3 => exact rc0 HO706)
      (case side4 => exact (Kd.R_reads' HO706.out).2.1)
      rintro e w180 ⟨rfl, hb⟩
      refine ⟨_, rfl, ?_⟩
      have n0_ := Aside0.mk (Kd.R_below (rr HO_694000.out) hb)
      have n1_ := Aside0.mk (Kd.R_below (rr HO_698000.out) hb)
      have n2_ := Aside0.mk (Kd.R_below (rr HO_703000.out) hb)
      have n3_ := Aside0.mk (Kd.R_below (rr HO706.out) hb)
      have n4_ := Aside0.mk (bb BK684 hb)
      have n5_ := Aside0.mk (bb BK693 hb)
      have n6_ := Aside0.mk (bb BK697 hb)
      have n7_ := Aside0.mk (bb BK702 hb)
      have n8_ := Aside0.mk (below_step (bs4 HB GE684 GE693 GE697 GE702) hb)
      clear HO_694000
      clear HO_698000
      clear HO_703000
      clear HO706
      clear BK684
      clear BK693
      clear BK697
      clear BK702
      clear HB
      have HO_694000 := n0_
      have HO_698000 := n1_
      have HO_703000 := n2_
      have HO706 := n3_
      have BK684 := n4_
      have BK693 := n5_
      have BK697 := n6_
      have BK702 := n7_
      have HB := n8_
      clear n0_ n1_ n2_ n3_ n4_ n5_ n6_ n7_ n8_
      (try clear hb)
      (try clear hb2)
      (try clear hk)
      (try clear hi)
      refine hK.out _ _ ⟨(blk_cell BK697.out 0).trans rfl, (blk_cell BK684.out 0).trans rfl⟩ (fun hHeld => ?_)
      clear hK K
      refine norm_ (a' := ?_) ?_ ?_
      rotate_left
      ·
       show Act.put _ (some 52) _ = _
       simp only [Act.put, List.setIfInBounds_toArray, List.set_cons_zero, List.set_cons_succ, i64_w, i32_w]
       rfl
      refine pure_ (i := 4) (N := some 53) (v := ?_) (a' := ?_) #[true, true, true, true, true] rfl rfl (by kernel_rfl) (fun _ _ _ h => h) (Or.inl ⟨by rfl, ?_⟩) ?_ ?_
      rotate_left
      ·
       intro w'
       go_simp
       with_reducible rfl
      rotate_left
      ·
       simp only [Act.put, List.setIfInBounds_toArray, List.set_cons_zero, List.set_cons_succ, i64_w, i32_w]
       rfl
      refine done_ (by kernel_rfl) ?_
      try go_wp2
      go_ret
      exact ⟨by first | rfl | (simp [errW_none, errW_some] <;> rfl) | (simp [*, errW_none, errW_some] <;> rfl), bs4 HB GE684 GE693 GE697 GE702⟩

/-- THE ONE PURE STATEMENT of laws_FnExactWrittenMap. -/
def laws_FnExactWrittenMap.Pure : Prop := ∀ (l0_0 : List (S45)) (a1 : Int) (a2 : Int), ok24 (⟨l0_0⟩ : S24) → (Lit.int .i64 a1).wf = true → (Lit.int .i64 a2).wf = true → ∃ k, laws_FnExactWrittenMap.f k l0_0 a1 a2 = some true

end Go.Proofs.Ytojdlcbmbpgplaa.G
