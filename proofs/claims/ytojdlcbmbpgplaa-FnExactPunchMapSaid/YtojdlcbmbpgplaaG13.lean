-- Printed by a program of this session (drive.py, by way of the kit's print). Not trusted: Lean checks it.
import Derived.Test.YtojdlcbmbpgplaaG0
import Derived.Test.YtojdlcbmbpgplaaG3
import Derived.Test.YtojdlcbmbpgplaaG9
import Derived.Test.YtojdlcbmbpgplaaG10
namespace Go.Proofs.Ytojdlcbmbpgplaa.G
open Go.RowKit Go.Proofs.YtojdlcbmbpgplaaW.PrintWords Go.Proofs.YtojdlcbmbpgplaaW.PrintLast Go.Proofs.YtojdlcbmbpgplaaW.PrintMore
attribute [local go_sem] max2_int min2_int max_two min_two max_three min_three max_four min_four   -- for this text's walks alone
set_option linter.unusedVariables false
set_option linter.unusedSimpArgs false

/-! ### spec_PunchMap: function 39 -/
def spec_PunchMap.j0 : Nat → Int → Int → Bool → List (S48) → Option ((List (S48)) × (List (S61)) × Bool)
 | 0, _, _, _, _ => none
 | k + 1, x1, x2, x20, x725000 => if x20 = true then (some (([] : List (S48)), ([] : List (S61)), false)) else ((spec_l9Cut.f k x725000 x1 x2).bind fun bt728 => ((spec_GoodMap.f k bt728.1).bind fun t735 => (if t735 = true then ((spec_l9Extents.f k bt728.2).bind fun t736 => (some (bt728.1, t736, true))) else (some (([] : List (S48)), ([] : List (S61)), false)))))
def spec_PunchMap.f (k : Nat) (l0_0 : List (S48)) (a1 : Int) (a2 : Int) : Option ((List (S48)) × (List (S61)) × Bool) := (spec_GoodMap.f k l0_0).bind fun t726 => (if t726 = true then ((spec_l9Stretch.f a1 a2).bind fun t727 => (spec_PunchMap.j0 k a1 a2 (!t727) l0_0)) else (spec_PunchMap.j0 k a1 a2 true l0_0))
theorem spec_PunchMap.mono_l : ∀ k, (∀ y0 y1 y2 y3, LeO (spec_PunchMap.j0 k y0 y1 y2 y3) (spec_PunchMap.j0 (k + 1) y0 y1 y2 y3))
 | 0 => fun _ _ _ _ r h => by simp [spec_PunchMap.j0] at h
 | k + 1 => by
  have ih0 := spec_PunchMap.mono_l k
  ·
   intro y0 y1 y2 y3
   unfold spec_PunchMap.j0
   repeat' first
   | (with_reducible exact ih0 _ _ _ _)
   | (with_reducible exact spec_GoodMap.mono _ _)
   | (with_reducible exact spec_l9Cut.mono _ _ _ _)
   | (with_reducible exact spec_l9Extents.mono _ _)
   | (with_reducible exact LeO.refl _)
   | (with_reducible exact LeO.none _)
   | (with_reducible refine LeO.ite ?_ ?_)
   | (with_reducible refine LeO.bind ?_ (fun _ => ?_))
   | exact ih0 _ _ _ _
   | exact spec_GoodMap.mono _ _
   | exact spec_l9Cut.mono _ _ _ _
   | exact spec_l9Extents.mono _ _
   | exact LeO.none _
   | refine LeO.ite ?_ ?_
   | refine LeO.bind ?_ (fun _ => ?_)
theorem spec_PunchMap.mono : ∀ a0 a1 a2 k, LeO (spec_PunchMap.f k a0 a1 a2) (spec_PunchMap.f (k + 1) a0 a1 a2) := by
 intro a0 a1 a2 k
 have ih0 := spec_PunchMap.mono_l k
 unfold spec_PunchMap.f
 repeat' first
   | (with_reducible exact ih0 _ _ _ _)
   | (with_reducible exact spec_GoodMap.mono _ _)
   | (with_reducible exact spec_l9Cut.mono _ _ _ _)
   | (with_reducible exact spec_l9Extents.mono _ _)
   | (with_reducible exact LeO.refl _)
   | (with_reducible exact LeO.none _)
   | (with_reducible refine LeO.ite ?_ ?_)
   | (with_reducible refine LeO.bind ?_ (fun _ => ?_))
   | exact ih0 _ _ _ _
   | exact spec_GoodMap.mono _ _
   | exact spec_l9Cut.mono _ _ _ _
   | exact spec_l9Extents.mono _ _
   | exact LeO.none _
   | refine LeO.ite ?_ ?_
   | refine LeO.bind ?_ (fun _ => ?_)
set_option maxHeartbeats 8000000 in
set_option maxRecDepth 100000 in
theorem spec_PunchMap.calls (k : Nat) (A0_0 : Option Addr) (c0_0 : Nat) (l0_0 : List (S48)) (a1 : Int) (a2 : Int) (r1 : List (S48)) (r2 : List (S61)) (r3 : Bool) (w : World) (hr0_0 : Kd.C k48 w A0_0 l0_0.length l0_0) (hc0_0 : l0_0.length ≤ c0_0) (h : spec_PunchMap.f k l0_0 a1 a2 = some (r1, r2, r3)) :
  Calls Try.prog 39 #[.agg #[.slice A0_0 l0_0.length c0_0], .int .i64 a1, .int .i64 a2] w fun e w' => ∃ v0_ v1_ : Value, e = .returned (.tuple #[.agg #[v0_], v1_, .bool r3]) ∧ Kd.R k48 48 w' w.heap.size (fun _ => True) v0_ r1 ∧ Kd.R k61 61 w' w.heap.size (fun _ => True) v1_ r2 ∧ Below w.heap.size w w' := by
 have hu29 := Try.underlying29
 have HR0_0 := Aside0.mk hr0_0
 have HC0_0 := Aside0.mk hc0_0
 clear hr0_0 hc0_0
 have HB := Aside0.mk (Below.refl w.heap.size w)
 have H : ((spec_GoodMap.f k l0_0).bind fun t726 => (if t726 = true then ((spec_l9Stretch.f a1 a2).bind fun t727 => (spec_PunchMap.j0 k a1 a2 (!t727) l0_0)) else (spec_PunchMap.j0 k a1 a2 true l0_0))) = some (r1, r2, r3) := h
 clear h
 have HC4 := Aside0.mk H
 clear H
 go_enter Try.func39, Try.ntmps39
 go_upto_region 1 with (first | ((with_reducible refine gate_dst (N := 3) rfl ?_); refine box_event ?hg (N := 3) ?hd (cs := #[.slice A0_0 l0_0.length c0_0]) (t := 29) ?hr ?_; (case hd => rfl); (case hg => rfl); (case hr => first | (go_simp; done) | (go_simp; rfl)); intro gb724 hg w5 hbox hb; have BK724 := Aside0.mk (hbox); have GW724 := Aside0.mk ((by rw [hg]; exact (below_size (bs HB)) : w.heap.size ≤ gb724)); have GE724 := Aside0.mk ((by rw [hg]; exact (below_size (bs HB)) : w.heap.size ≤ gb724)); replace HB := Aside0.mk (below_step (bs HB) hb); clear hb hbox hg) | ((with_reducible refine gate_dst (N := 6) rfl ?_); refine box_event ?hg (N := 6) ?hd (cs := #[.slice none 0 0]) (t := 29) ?hr ?_; (case hd => rfl); (case hg => rfl); (case hr => first | (go_simp; done) | (go_simp; rfl)); intro gb725 hg w6 hbox hb; have BK725 := Aside0.mk (hbox); have GW725 := Aside0.mk ((by rw [hg]; exact (below_size (bs1 HB GE724)) : w.heap.size ≤ gb725)); have GE725 := Aside0.mk ((by rw [hg]; exact (below_size (bs1 HB GE724)) : w.heap.size ≤ gb725)); replace HB := Aside0.mk (below_step (bs1 HB GE724) hb); have NB724_725 := Aside0.mk ((bn BK724 hg : gb724 ≠ gb725)); have NB725_724 := Aside0.mk ((bm BK724 hg : gb725 ≠ gb724)); replace BK724 := nb BK724 hb; clear hb hbox hg))
 (try simp only [Act.put, List.setIfInBounds_toArray, List.set_cons_zero, List.set_cons_succ])
 go_cut [20] (fun v20 wc => ∃ (kq : Nat) (x20_3 : Bool), v20 = .bool x20_3 ∧ Aside0 (spec_PunchMap.j0 kq a1 a2 x20_3 l0_0 = some (r1, r2, r3)) ∧ Aside0 (kq ≤ k) ∧ Aside0 (wc.heap[gb724]? = some (.cells #[(.slice A0_0 l0_0.length c0_0)] 29 (0, 0))) ∧ Aside0 (wc.heap[gb725]? = some (.cells #[(.slice none 0 0)] 29 (0, 0))) ∧ Aside0 (Below w.heap.size w wc))
 case first =>
  have H := HC4.out
  clear HC4
  replace H := Option.bind_eq_some_iff.mp H
  obtain ⟨t726, A70, H⟩ := H
  replace H : (if t726 = true then ((spec_l9Stretch.f a1 a2).bind fun t727 => (spec_PunchMap.j0 k a1 a2 (!t727) l0_0)) else (spec_PunchMap.j0 k a1 a2 true l0_0)) = some (r1, r2, r3) := H
  have A7 := Aside0.mk A70
  clear A70
  by_cases c8 : t726 = true
  ·
   subst c8
   rw [if_pos rfl] at H
   replace H := Option.bind_eq_some_iff.mp H
   obtain ⟨t727, A90, H⟩ := H
   replace H : (spec_PunchMap.j0 k a1 a2 (!t727) l0_0) = some (r1, r2, r3) := H
   have A9 := Aside0.mk A90
   clear A90
   have H' := Aside0.mk H
   clear H
   have hnb10 := NB724_725.out
   have hnc10 := NB725_724.out
   have hcz11_0 := cz1 BK724
   have hfz11_0 := fz1 BK724
   go_wp2_with (first | ((with_reducible refine gate_callee (f := 15) rfl ?_); refine gL (some 13) rfl rfl Try.func15 (by kernel_rfl) rfl #[.agg #[.slice A0_0 l0_0.length c0_0]] rfl ?_; (with_reducible refine (spec_GoodMap.calls k _ _ l0_0 true _ ?side1 ?side2 A7.out).mono ?_); (case side1 => exact cb HR0_0 HB); (case side2 => exact HC0_0.out); rintro e w12 ⟨rfl, hb⟩; refine ⟨_, rfl, ?_⟩; replace BK724 := nb BK724 hb; replace BK725 := nb BK725 hb; replace HB := Aside0.mk (below_step (bs2 HB GE724 GE725) hb); (try clear hb); (try clear hb2); (try clear hk); (try clear hi)) | (go_at_call 68; (with_reducible refine (spec_l9Stretch.calls a1 a2 t727 _ A9.out).mono ?_); rintro e w' ⟨rfl, ⟨nd, rfl⟩⟩))
   go_meet
   case rel => exact ⟨_, (!t727), (by first | rfl | (simp; done) | (simp [*]; done)), H', ⟨by first | omega | exact Nat.le_refl _⟩, ⟨bk BK724⟩, ⟨bk BK725⟩, ⟨bs2 HB GE724 GE725⟩⟩
  ·
   replace c8 := Bool.eq_false_iff.mpr c8
   subst c8
   rw [if_neg (show ¬ (false = true) by decide)] at H
   have H' := Aside0.mk H
   clear H
   have hnb13 := NB724_725.out
   have hnc13 := NB725_724.out
   have hcz14_0 := cz1 BK724
   have hfz14_0 := fz1 BK724
   go_wp2_with (first | ((with_reducible refine gate_callee (f := 15) rfl ?_); refine gL (some 13) rfl rfl Try.func15 (by kernel_rfl) rfl #[.agg #[.slice A0_0 l0_0.length c0_0]] rfl ?_; (with_reducible refine (spec_GoodMap.calls k _ _ l0_0 false _ ?side1 ?side2 A7.out).mono ?_); (case side1 => exact cb HR0_0 HB); (case side2 => exact HC0_0.out); rintro e w15 ⟨rfl, hb⟩; refine ⟨_, rfl, ?_⟩; replace BK724 := nb BK724 hb; replace BK725 := nb BK725 hb; replace HB := Aside0.mk (below_step (bs2 HB GE724 GE725) hb); (try clear hb); (try clear hb2); (try clear hk); (try clear hi)))
   go_meet
   case rel => exact ⟨_, (true), (by first | rfl | (simp; done) | (simp [*]; done)), H', ⟨by first | omega | exact Nat.le_refl _⟩, ⟨bk BK724⟩, ⟨bk BK725⟩, ⟨bs2 HB GE724 GE725⟩⟩
 case rest =>
  clear HC4
  try clear c1
  try clear p2
  try clear c3
  try clear c8
  try clear c10
  try clear c13
  try clear c15
  try clear hcz11_0
  try clear hcz14_0
  try clear hfz11_0
  try clear hfz14_0
  obtain ⟨kq, x20_3, rfl, HA, HJ3, BK724, BK725, HB⟩ := hcut
  cases kq with
  | zero => exact absurd HA.out (by simp [spec_PunchMap.j0])
  | succ kj3 =>
   have H := HA.out
   clear HA
   simp only [spec_PunchMap.j0] at H
   by_cases c16 : x20_3 = true
   ·
    subst c16
    rw [if_pos rfl] at H
    simp only [Option.some.injEq, Prod.mk.injEq] at H
    obtain ⟨rfl, rfl, rfl⟩ := H
    have hnb17 := NB725_724.out
    have hnc17 := NB724_725.out
    have hcz18_0 := cz1 BK725
    have hfz18_0 := fz1 BK725
    go_wp2
    refine bodyPost_ret (results_ctt rfl _ _ gb725 29 #[.slice none 0 0] (0, 0) _ rfl (by (with_reducible repeat (first | refine blk_drewN ?_ _ | refine blk_drew ?_ | refine blk_alloc ?_ _)); refine blk_put (cs := #[.slice none 0 0]) ?_ 0 _ rfl; (with_reducible repeat (first | refine blk_drewN ?_ _ | refine blk_drew ?_ | refine blk_alloc ?_ _)); exact BK725.out) Try.underlying29 rfl (by kernel_rfl)) rfl ?_
    exact ⟨_, _, by first | rfl | (simp [errW_none, errW_some] <;> rfl) | (simp [*, errW_none, errW_some] <;> rfl), by first | exact Kd.R_nil _ _ _ _ _ | exact Kd.N_nil _ _ _ _ _ | exact Kd.V_nil _ _ _ _ _ | exact Kd.Q_nil _ _ _ _ _ | exact Kd.S_nil _ _ _ _ _, by first | exact Kd.R_nil _ _ _ _ _ | exact Kd.N_nil _ _ _ _ _ | exact Kd.V_nil _ _ _ _ _ | exact Kd.Q_nil _ _ _ _ _ | exact Kd.S_nil _ _ _ _ _, bs2 HB GE724 GE725⟩
   ·
    replace c16 := Bool.eq_false_iff.mpr c16
    subst c16
    rw [if_neg (show ¬ (false = true) by decide)] at H
    replace H := Option.bind_eq_some_iff.mp H
    obtain ⟨⟨t728, t729⟩, A190, H⟩ := H
    replace H : ((spec_GoodMap.f kj3 t728).bind fun t735 => (if t735 = true then ((spec_l9Extents.f kj3 t729).bind fun t736 => (some (t728, t736, true))) else (some (([] : List (S48)), ([] : List (S61)), false)))) = some (r1, r2, r3) := H
    have A19 := Aside0.mk A190
    clear A190
    replace H := Option.bind_eq_some_iff.mp H
    obtain ⟨t735, A200, H⟩ := H
    replace H : (if t735 = true then ((spec_l9Extents.f kj3 t729).bind fun t736 => (some (t728, t736, true))) else (some (([] : List (S48)), ([] : List (S61)), false))) = some (r1, r2, r3) := H
    have A20 := Aside0.mk A200
    clear A200
    by_cases c21 : t735 = true
    ·
     subst c21
     rw [if_pos rfl] at H
     replace H := Option.bind_eq_some_iff.mp H
     obtain ⟨t736, A220, H⟩ := H
     replace H : (some (t728, t736, true)) = some (r1, r2, r3) := H
     have A22 := Aside0.mk A220
     clear A220
     simp only [Option.some.injEq, Prod.mk.injEq] at H
     obtain ⟨rfl, rfl, rfl⟩ := H
     have hnb23 := NB724_725.out
     have hnc23 := NB725_724.out
     have hcz24_0 := cz1 BK724
     have hfz24_0 := fz1 BK724
     try go_wp2_with (first | ((with_reducible refine gate_callee (f := 69) rfl ?_); refine gL (some 27) rfl rfl Try.func69 (by kernel_rfl) rfl #[.slice A0_0 l0_0.length c0_0, .int .i64 a1, .int .i64 a2] rfl ?_; (with_reducible refine (spec_l9Cut.calls kj3 _ _ l0_0 a1 a2 t728 t729 _ ?side1 ?side2 A19.out).mono ?_); (case side1 => exact cb HR0_0 HB); (case side2 => exact HC0_0.out); rintro e w25 ⟨v730, v732, rfl, ho0, ho1, hb⟩; refine ⟨_, rfl, ?_⟩; have HO731 := Aside0.mk (Kd.R_lower ho0 (below_size (bs2 HB GE724 GE725))); have HO733 := Aside0.mk (Kd.R_lower ho1 (below_size (bs2 HB GE724 GE725))); replace BK724 := nb BK724 hb; replace BK725 := nb BK725 hb; replace HB := Aside0.mk (below_step (bs2 HB GE724 GE725) hb); (try clear hb); (try clear hb2); (try clear hk); (try clear hi); (try clear ho0); (try clear ho1); obtain ⟨Ao26, co26, eo26⟩ := Kd.R_slice HO731.out; subst eo26) | ((with_reducible refine gate_dst (N := 11) rfl ?_); refine box_event ?hg (N := 11) ?hd (cs := #[.slice none 0 0]) (t := 29) ?hr ?_; (case hd => rfl); (case hg => rfl); (case hr => first | (go_simp; done) | (go_simp; rfl)); intro gb734 hg w27 hbox hb; replace HO731 := nr HO731 hb; replace HO733 := nr HO733 hb; have BK734 := Aside0.mk (hbox); have GW734 := Aside0.mk ((by rw [hg]; exact (below_size (bs2 HB GE724 GE725)) : w.heap.size ≤ gb734)); have GE734 := Aside0.mk ((by rw [hg]; exact (below_size (bs2 HB GE724 GE725)) : w.heap.size ≤ gb734)); replace HB := Aside0.mk (below_step (bs2 HB GE724 GE725) hb); have NB724_734 := Aside0.mk ((bn BK724 hg : gb724 ≠ gb734)); have NB734_724 := Aside0.mk ((bm BK724 hg : gb734 ≠ gb724)); replace BK724 := nb BK724 hb; have NB725_734 := Aside0.mk ((bn BK725 hg : gb725 ≠ gb734)); have NB734_725 := Aside0.mk ((bm BK725 hg : gb734 ≠ gb725)); replace BK725 := nb BK725 hb; clear hb hbox hg; have hnb28 := NB734_724.out; have hnc28 := NB724_734.out; have hnb29 := NB734_725.out; have hnc29 := NB725_734.out; have hcz30_0 := cz1 BK734; have hfz30_0 := fz1 BK734) | ((with_reducible refine gate_callee (f := 15) rfl ?_); refine gL (some 33) rfl rfl Try.func15 (by kernel_rfl) rfl #[.agg #[.slice Ao26 t728.length co26]] rfl ?_; (with_reducible refine (spec_GoodMap.calls kj3 _ _ t728 true _ ?side1 ?side2 A20.out).mono ?_); (case side1 => exact rc HO731 BK734); (case side2 => exact (Kd.R_reads' HO731.out).2.1); rintro e w31 ⟨rfl, hb⟩; refine ⟨_, rfl, ?_⟩; replace HO731 := nf HO731 BK734 hb; replace HO733 := nf HO733 BK734 hb; replace BK724 := Aside0.mk (blk_below (bf BK724 NB724_734) hb); replace BK725 := Aside0.mk (blk_below (bf BK725 NB725_734) hb); replace BK734 := Aside0.mk (blk_below (g := gb734) (o := .cells #[.slice Ao26 t728.length co26] 29 (0, 0)) (by (with_reducible repeat (first | refine blk_drewN ?_ _ | refine blk_drew ?_ | refine blk_alloc ?_ _)); refine blk_put (cs := #[.slice none 0 0]) ?_ 0 _ rfl; (with_reducible repeat (first | refine blk_drewN ?_ _ | refine blk_drew ?_ | refine blk_alloc ?_ _)); exact BK734.out) hb); replace HB := Aside0.mk (below_step (bs3 HB GE724 GE725 GE734) hb); (try clear hb); (try clear hb2); (try clear hk); (try clear hi)))
     have n0_ := Aside0.mk (Kd.R_drew HO731.out)
     have n1_ := Aside0.mk (Kd.R_drew HO733.out)
     have n2_ := Aside0.mk (blk_drew BK724.out)
     have n3_ := Aside0.mk (blk_drew BK725.out)
     have n4_ := Aside0.mk (blk_drew BK734.out)
     have n5_ := Aside0.mk (below_drew1 HB.out)
     clear HO731
     clear HO733
     clear BK724
     clear BK725
     clear BK734
     clear HB
     have HO731 := n0_
     have HO733 := n1_
     have BK724 := n2_
     have BK725 := n3_
     have BK734 := n4_
     have HB := n5_
     clear n0_ n1_ n2_ n3_ n4_ n5_
     obtain ⟨Ao33, co33, eo33⟩ := Kd.R_slice HO733.out
     (first | subst eo33 | (injection eo33 with f1_ f2_ f3_; have f4_ := f1_.symm; have f5_ := f3_.symm; clear f1_ f2_ f3_; subst f4_; subst f5_))
     refine start_ (n := 6) (S := fun w' => w'.cell? ⟨gb734, 0, none⟩ = some (.slice Ao26 t728.length co26)) (ds := []) #[false, false, false, false, false, false] (by kernel_rfl) rfl rfl ((blk_cell BK734.out 0).trans rfl) (fun hHeld => ?_)
     generalize w31.drew = w32 at HO731 HO733 BK724 BK725 BK734 HB hHeld ⊢
     refine pure_ (i := 1) (N := some 37) (v := ?_) (a' := ?_) #[false, true, false, false, false, false] rfl rfl (by kernel_rfl) (fun _ _ _ h => h) (Or.inl ⟨by rfl, ?_⟩) ?_ ?_
     rotate_left
     ·
      intro w'
      go_simp
      with_reducible rfl
     rotate_left
     ·
      simp only [Act.put, List.setIfInBounds_toArray, List.set_cons_zero, List.set_cons_succ, i64_w, i32_w]
      rfl
     refine take_ (i := 0) (N := some 36) (v := ?_) (a' := ?_) #[true, true, false, false, false, false] rfl rfl (by kernel_rfl) (fun _ _ _ h => h) (Or.inl ⟨by rfl, ?_⟩) hHeld ?_ ?_
     rotate_left
     ·
      intro w' s0
      go_simp
      with_reducible rfl
     rotate_left
     ·
      simp only [Act.put, List.setIfInBounds_toArray, List.set_cons_zero, List.set_cons_succ, i64_w, i32_w]
      rfl
     refine one_ (i := 2) (N := some 38) #[true, true, true, false, false, false] rfl rfl (by kernel_rfl) (by decide) (fun K hK => ?_)
     refine goes_ Try.func66 (by kernel_rfl) rfl #[.slice Ao33 t729.length co33] (by rfl) rfl rfl (by (try simp only [List.map_toArray, List.map_cons, List.map_nil]); first | done | rfl | (simp only [List.length_drop, List.length_take]; rfl)) ?_
     with_reducible refine (spec_l9Extents.calls kj3 _ _ t729 t736 _ ?side1 ?side2 A22.out).mono ?_
     (case side1 => exact rc0 HO733)
     (case side2 => exact (Kd.R_reads' HO733.out).2.1)
     rintro e w34 ⟨v737, rfl, ho0, hb⟩
     refine ⟨_, rfl, ?_⟩
     have n0_ := Aside0.mk (Kd.R_below (rr HO731.out) hb)
     have n1_ := Aside0.mk (Kd.R_below (rr HO733.out) hb)
     have n2_ := Aside0.mk (Kd.R_lower ho0 (below_size (bs3 HB GE724 GE725 GE734)))
     have n3_ := Aside0.mk (bb BK724 hb)
     have n4_ := Aside0.mk (bb BK725 hb)
     have n5_ := Aside0.mk (bb BK734 hb)
     have n6_ := Aside0.mk (below_step (bs3 HB GE724 GE725 GE734) hb)
     clear HO731
     clear HO733
     clear BK724
     clear BK725
     clear BK734
     clear HB
     have HO731 := n0_
     have HO733 := n1_
     have HO738 := n2_
     have BK724 := n3_
     have BK725 := n4_
     have BK734 := n5_
     have HB := n6_
     clear n0_ n1_ n2_ n3_ n4_ n5_ n6_
     (try clear hb)
     (try clear hb2)
     (try clear hk)
     (try clear hi)
     (try clear ho0)
     refine hK.out _ _ ((blk_cell BK734.out 0).trans rfl) (fun hHeld => ?_)
     clear hK K
     refine norm_ (a' := ?_) ?_ ?_
     rotate_left
     ·
      show Act.put _ (some 38) _ = _
      simp only [Act.put, List.setIfInBounds_toArray, List.set_cons_zero, List.set_cons_succ, i64_w, i32_w]
      rfl
     refine one_ (i := 3) (N := none) #[true, true, true, true, false, false] rfl rfl (by kernel_rfl) (by decide) (fun K hK => ?_)
     have hs35 : w34.cell? ⟨gb725, 0, none⟩ = some (.slice none 0 0) := (blk_cell BK725.out 0).trans rfl
     have hfs35 := blk_frozen BK725.out 0
     have hns35_0 := NB724_725.out
     have hns35_2 := NB734_725.out
     have hms35_0 := NB725_724.out
     have hms35_2 := NB725_734.out
     refine skip_ (w1 := ?_) (by rfl) rfl ?_ ?_
     rotate_left
     ·
      go_simp
      rfl
     refine hK.out _ _ (((cell_far (p := ⟨gb725, _, none⟩) NB734_725.out _).trans (hHeld))) (fun hHeld => ?_)
     clear hK K
     refine pure_ (i := 4) (N := some 7) (v := ?_) (a' := ?_) #[true, true, true, true, true, false] rfl rfl (by kernel_rfl) (fun _ _ _ h => h) (Or.inl ⟨by rfl, ?_⟩) ?_ ?_
     rotate_left
     ·
      intro w'
      go_simp
      with_reducible rfl
     rotate_left
     ·
      simp only [Act.put, List.setIfInBounds_toArray, List.set_cons_zero, List.set_cons_succ, i64_w, i32_w]
      rfl
     refine pure_ (i := 5) (N := some 8) (v := ?_) (a' := ?_) #[true, true, true, true, true, true] rfl rfl (by kernel_rfl) (fun _ _ _ h => h) (Or.inl ⟨by rfl, ?_⟩) ?_ ?_
     rotate_left
     ·
      intro w'
      go_simp
      with_reducible rfl
     rotate_left
     ·
      simp only [Act.put, List.setIfInBounds_toArray, List.set_cons_zero, List.set_cons_succ, i64_w, i32_w]
      rfl
     refine done_ (by kernel_rfl) ?_
     try go_wp2
     refine bodyPost_ret (results_ctt rfl _ _ gb725 29 #[.slice Ao26 t728.length co26] (0, 0) _ rfl (by (with_reducible repeat (first | refine blk_drewN ?_ _ | refine blk_drew ?_ | refine blk_alloc ?_ _)); refine blk_put (cs := #[.slice none 0 0]) ?_ 0 _ rfl; (with_reducible repeat (first | refine blk_drewN ?_ _ | refine blk_drew ?_ | refine blk_alloc ?_ _)); exact BK725.out) Try.underlying29 rfl (by kernel_rfl)) rfl ?_
     exact ⟨_, _, by first | rfl | (simp [errW_none, errW_some] <;> rfl) | (simp [*, errW_none, errW_some] <;> rfl), by (with_reducible repeat (first | apply Kd.R_alloc | apply Kd.R_drewN | apply Kd.R_drew)); exact Kd.R_mono (Kd.R_far (p := ⟨gb725, 0, none⟩) (Kd.R_types HO731.out BK725.out (by decide)) (fun _ hk => hk.2) (.slice Ao26 t728.length co26)) (fun _ hk => trivial), by (with_reducible repeat (first | apply Kd.R_alloc | apply Kd.R_drewN | apply Kd.R_drew)); exact Kd.R_mono (Kd.R_far (p := ⟨gb725, 0, none⟩) (Kd.R_types HO738.out BK725.out (by decide)) (fun _ hk => hk.2) (.slice Ao26 t728.length co26)) (fun _ hk => trivial), bs3 HB GE724 GE725 GE734⟩
    ·
     replace c21 := Bool.eq_false_iff.mpr c21
     subst c21
     rw [if_neg (show ¬ (false = true) by decide)] at H
     simp only [Option.some.injEq, Prod.mk.injEq] at H
     obtain ⟨rfl, rfl, rfl⟩ := H
     have hnb36 := NB724_725.out
     have hnc36 := NB725_724.out
     have hcz37_0 := cz1 BK724
     have hfz37_0 := fz1 BK724
     go_wp2_with (first | ((with_reducible refine gate_callee (f := 69) rfl ?_); refine gL (some 27) rfl rfl Try.func69 (by kernel_rfl) rfl #[.slice A0_0 l0_0.length c0_0, .int .i64 a1, .int .i64 a2] rfl ?_; (with_reducible refine (spec_l9Cut.calls kj3 _ _ l0_0 a1 a2 t728 t729 _ ?side1 ?side2 A19.out).mono ?_); (case side1 => exact cb HR0_0 HB); (case side2 => exact HC0_0.out); rintro e w38 ⟨v730, v732, rfl, ho0, ho1, hb⟩; refine ⟨_, rfl, ?_⟩; have HO731 := Aside0.mk (Kd.R_lower ho0 (below_size (bs2 HB GE724 GE725))); have HO733 := Aside0.mk (Kd.R_lower ho1 (below_size (bs2 HB GE724 GE725))); replace BK724 := nb BK724 hb; replace BK725 := nb BK725 hb; replace HB := Aside0.mk (below_step (bs2 HB GE724 GE725) hb); (try clear hb); (try clear hb2); (try clear hk); (try clear hi); (try clear ho0); (try clear ho1); obtain ⟨Ao39, co39, eo39⟩ := Kd.R_slice HO731.out; subst eo39) | ((with_reducible refine gate_dst (N := 11) rfl ?_); refine box_event ?hg (N := 11) ?hd (cs := #[.slice none 0 0]) (t := 29) ?hr ?_; (case hd => rfl); (case hg => rfl); (case hr => first | (go_simp; done) | (go_simp; rfl)); intro gb734 hg w40 hbox hb; replace HO731 := nr HO731 hb; replace HO733 := nr HO733 hb; have BK734 := Aside0.mk (hbox); have GW734 := Aside0.mk ((by rw [hg]; exact (below_size (bs2 HB GE724 GE725)) : w.heap.size ≤ gb734)); have GE734 := Aside0.mk ((by rw [hg]; exact (below_size (bs2 HB GE724 GE725)) : w.heap.size ≤ gb734)); replace HB := Aside0.mk (below_step (bs2 HB GE724 GE725) hb); have NB724_734 := Aside0.mk ((bn BK724 hg : gb724 ≠ gb734)); have NB734_724 := Aside0.mk ((bm BK724 hg : gb734 ≠ gb724)); replace BK724 := nb BK724 hb; have NB725_734 := Aside0.mk ((bn BK725 hg : gb725 ≠ gb734)); have NB734_725 := Aside0.mk ((bm BK725 hg : gb734 ≠ gb725)); replace BK725 := nb BK725 hb; clear hb hbox hg; have hnb41 := NB734_724.out; have hnc41 := NB724_734.out; have hnb42 := NB734_725.out; have hnc42 := NB725_734.out; have hcz43_0 := cz1 BK734; have hfz43_0 := fz1 BK734) | ((with_reducible refine gate_callee (f := 15) rfl ?_); refine gL (some 33) rfl rfl Try.func15 (by kernel_rfl) rfl #[.agg #[.slice Ao39 t728.length co39]] rfl ?_; (with_reducible refine (spec_GoodMap.calls kj3 _ _ t728 false _ ?side1 ?side2 A20.out).mono ?_); (case side1 => exact rc HO731 BK734); (case side2 => exact (Kd.R_reads' HO731.out).2.1); rintro e w44 ⟨rfl, hb⟩; refine ⟨_, rfl, ?_⟩; replace HO731 := nf HO731 BK734 hb; replace HO733 := nf HO733 BK734 hb; replace BK724 := Aside0.mk (blk_below (bf BK724 NB724_734) hb); replace BK725 := Aside0.mk (blk_below (bf BK725 NB725_734) hb); replace BK734 := Aside0.mk (blk_below (g := gb734) (o := .cells #[.slice Ao39 t728.length co39] 29 (0, 0)) (by (with_reducible repeat (first | refine blk_drewN ?_ _ | refine blk_drew ?_ | refine blk_alloc ?_ _)); refine blk_put (cs := #[.slice none 0 0]) ?_ 0 _ rfl; (with_reducible repeat (first | refine blk_drewN ?_ _ | refine blk_drew ?_ | refine blk_alloc ?_ _)); exact BK734.out) hb); replace HB := Aside0.mk (below_step (bs3 HB GE724 GE725 GE734) hb); (try clear hb); (try clear hb2); (try clear hk); (try clear hi); have hcz45_0 := cz1 BK725; have hfz45_0 := fz1 BK725))
     refine bodyPost_ret (results_ctt rfl _ _ gb725 29 #[.slice none 0 0] (0, 0) _ rfl (by (with_reducible repeat (first | refine blk_drewN ?_ _ | refine blk_drew ?_ | refine blk_alloc ?_ _)); refine blk_put (cs := #[.slice none 0 0]) ?_ 0 _ rfl; (with_reducible repeat (first | refine blk_drewN ?_ _ | refine blk_drew ?_ | refine blk_alloc ?_ _)); exact BK725.out) Try.underlying29 rfl (by kernel_rfl)) rfl ?_
     exact ⟨_, _, by first | rfl | (simp [errW_none, errW_some] <;> rfl) | (simp [*, errW_none, errW_some] <;> rfl), by first | exact Kd.R_nil _ _ _ _ _ | exact Kd.N_nil _ _ _ _ _ | exact Kd.V_nil _ _ _ _ _ | exact Kd.Q_nil _ _ _ _ _ | exact Kd.S_nil _ _ _ _ _, by first | exact Kd.R_nil _ _ _ _ _ | exact Kd.N_nil _ _ _ _ _ | exact Kd.V_nil _ _ _ _ _ | exact Kd.Q_nil _ _ _ _ _ | exact Kd.S_nil _ _ _ _ _, bs3 HB GE724 GE725 GE734⟩

end Go.Proofs.Ytojdlcbmbpgplaa.G
