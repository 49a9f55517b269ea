-- Printed by a program of this session (drive.py, by way of the kit's print). Not trusted: Lean checks it.
import Derived.Test.YtojdlcbmbpgplaaG0
import Derived.Test.YtojdlcbmbpgplaaG3
import Derived.Test.YtojdlcbmbpgplaaG4
import Derived.Test.YtojdlcbmbpgplaaG5
import Derived.Test.YtojdlcbmbpgplaaG6
import Derived.Test.YtojdlcbmbpgplaaG7
import Derived.Test.YtojdlcbmbpgplaaG8
import Derived.Test.YtojdlcbmbpgplaaG10
import Derived.Test.YtojdlcbmbpgplaaG11
namespace Go.Proofs.Ytojdlcbmbpgplaa.G
open Go.RowKit Go.Proofs.YtojdlcbmbpgplaaW.PrintWords Go.Proofs.YtojdlcbmbpgplaaW.PrintLast Go.Proofs.YtojdlcbmbpgplaaW.PrintMore
attribute [local go_sem] max2_int min2_int max_two min_two max_three min_three max_four min_four   -- for this text's walks alone
set_option linter.unusedVariables false
set_option linter.unusedSimpArgs false

/-! ### spec_PunchMap: function 39 -/
def spec_PunchMap.j0 : Nat → Int → Int → Bool → List (S48) → Option ((List (S48)) × (List (S61)) × Bool)
 | 0, _, _, _, _ => none
 | k + 1, x1, x2, x20, x725000 => if x20 = true then (some (([] : List (S48)), ([] : List (S61)), false)) else ((spec_l9Cut.f k x725000 x1 x2).bind fun bt728 => ((spec_GoodMap.f k bt728.1).bind fun t735 => (if t735 = true then ((spec_l9Extents.f k bt728.2).bind fun t736 => (some (bt728.1, t736, true))) else (some (([] : List (S48)), ([] : List (S61)), false)))))
def spec_PunchMap.f (k : Nat) (l0_0 : List (S48)) (a1 : Int) (a2 : Int) : Option ((List (S48)) × (List (S61)) × Bool) := (spec_GoodMap.f k l0_0).bind fun t726 => (if t726 = true then ((spec_l9Stretch.f a1 a2).bind fun t727 => (spec_PunchMap.j0 k a1 a2 (!t727) l0_0)) else (spec_PunchMap.j0 k a1 a2 true l0_0))
theorem spec_PunchMap.mono_l : ∀ k, (∀ y0 y1 y2 y3, LeO (spec_PunchMap.j0 k y0 y1 y2 y3) (spec_PunchMap.j0 (k + 1) y0 y1 y2 y3))
 | 0 => fun _ _ _ _ r h => by simp [spec_PunchMap.j0] at h
 | k + 1 => by
  have ih0 := spec_PunchMap.mono_l k
  ·
   intro y0 y1 y2 y3
   unfold spec_PunchMap.j0
   repeat' first
   | (with_reducible exact ih0 _ _ _ _)
   | (with_reducible exact spec_GoodMap.mono _ _)
   | (with_reducible exact spec_l9Cut.mono _ _ _ _)
   | (with_reducible exact spec_l9Extents.mono _ _)
   | (with_reducible exact LeO.refl _)
   | (with_reducible exact LeO.none _)
   | (with_reducible refine LeO.ite ?_ ?_)
   | (with_reducible refine LeO.bind ?_ (fun _ => ?_))
   | exact ih0 _ _ _ _
   | exact spec_GoodMap.mono _ _
   | exact spec_l9Cut.mono _ _ _ _
   | exact spec_l9Extents.mono _ _
   | exact LeO.none _
   | refine LeO.ite ?_ ?_
   | refine LeO.bind ?_ (fun _ => ?_)
theorem spec_PunchMap.mono : ∀ a0 a1 a2 k, LeO (spec_PunchMap.f k a0 a1 a2) (spec_PunchMap.f (k + 1) a0 a1 a2) := by
 intro a0 a1 a2 k
 have ih0 := spec_PunchMap.mono_l k
 unfold spec_PunchMap.f
 repeat' first
   | (with_reducible exact ih0 _ _ _ _)
   | (with_reducible exact spec_GoodMap.mono _ _)
   | (with_reducible exact spec_l9Cut.mono _ _ _ _)
   | (with_reducible exact spec_l9Extents.mono _ _)
   | (with_reducible exact LeO.refl _)
   | (with_reducible exact LeO.none _)
   | (with_reducible refine LeO.ite ?_ ?_)
   | (with_reducible refine LeO.bind ?_ (fun _ => ?_))
   | exact ih0 _ _ _ _
   | exact spec_GoodMap.mono _ _
   | exact spec_l9Cut.mono _ _ _ _
   | exact spec_l9Extents.mono _ _
   | exact LeO.none _
   | refine LeO.ite ?_ ?_
   | refine LeO.bind ?_ (fun _ => ?_)
set_option maxHeartbeats 8000000 in
set_option maxRecDepth 100000 in
theorem spec_PunchMap.calls (k : Nat) (A0_0 : Option Addr) (c0_0 : Nat) (l0_0 : List (S48)) (a1 : Int) (a2 : Int) (r1 : List (S48)) (r2 : List (S61)) (r3 : Bool) (w : World) (hr0_0 : Kd.C k48 w A0_0 l0_0.length l0_0) (hc0_0 : l0_0.length ≤ c0_0) (h : spec_PunchMap.f k l0_0 a1 a2 = some (r1, r2, r3)) :
  Calls Try.prog 39 #[.agg #[.slice A0_0 l0_0.length c0_0], .int .i64 a1, .int .i64 a2] w fun e w' => ∃ v0_ v1_ : Value, e = .returned (.tuple #[.agg #[v0_], v1_, .bool r3]) ∧ Kd.R k48 48 w' w.heap.size (fun _ => True) v0_ r1 ∧ Kd.R k61 61 w' w.heap.size (fun _ => True) v1_ r2 ∧ Below w.heap.size w w' := by
 have hu29 := Try.underlying29
 have HR0_0 := Aside0.mk hr0_0
 have HC0_0 := Aside0.mk hc0_0
 clear hr0_0 hc0_0
 have HB := Aside0.mk (Below.refl w.heap.size w)
 have H : ((spec_GoodMap.f k l0_0).bind fun t726 => (if t726 = true then ((spec_l9Stretch.f a1 a2).bind fun t727 => (spec_PunchMap.j0 k a1 a2 (!t727) l0_0)) else (spec_PunchMap.j0 k a1 a2 true l0_0))) = some (r1, r2, r3) := h
 clear h
 have HC4 := Aside0.mk H
 clear H
 go_enter Try.func39, Try.ntmps39
 go_upto_region 1 with (first | ((with_reducible refine gate_dst (N := 3) rfl ?_); refine box_event ?hg (N := 3) ?hd (cs := #[.slice A0_0 l0_0.length c0_0]) (t := 29) ?hr ?_; (case hd => rfl); (case hg => rfl); (case hr => first | (go_simp; done) | (go_simp; rfl)); intro gb724 hg w5 hbox hb; have BK724 := Aside0.mk (hbox); have GW724 := Aside0.mk ((by rw [hg]; exact (below_size (bs HB)) : w.heap.size ≤ gb724)); have GE724 := Aside0.mk ((by rw [hg]; exact (below_size (bs HB)) : w.heap.size ≤ gb724)); replace HB := Aside0.mk (below_step (bs HB) hb); clear hb hbox hg) | ((with_reducible refine gate_dst (N := 6) rfl ?_); refine box_event ?hg (N := 6) ?hd (cs := #[.slice none 0 0]) (t := 29) ?hr ?_; (case hd => rfl); (case hg => rfl); (case hr => first | (go_simp; done) | (go_simp; rfl)); intro gb725 hg w6 hbox hb; have BK725 := Aside0.mk (hbox); have GW725 := Aside0.mk ((by rw [hg]; exact (below_size (bs1 HB GE724)) : w.heap.size ≤ gb725)); have GE725 := Aside0.mk ((by rw [hg]; exact (below_size (bs1 HB GE724)) : w.heap.size ≤ gb725)); replace HB := Aside0.mk (below_step (bs1 HB GE724) hb); have NB724_725 := Aside0.mk ((bn BK724 hg : gb724 ≠ gb725)); have NB725_724 := Aside0.mk ((bm BK724 hg : gb725 ≠ gb724)); replace BK724 := nb BK724 hb; clear hb hbox hg))
 (try simp only [Act.put, List.setIfInBounds_toArray, List.set_cons_zero, List.set_cons_succ])
 go_cut [20] (fun v20 wc => ∃ (kq : Nat) (x20_3 : Bool), v20 = .bool x20_3 ∧ Aside0 (spec_PunchMap.j0 kq a1 a2 x20_3 l0_0 = some (r1, r2, r3)) ∧ Aside0 (kq ≤ k) ∧ Aside0 (wc.heap[gb724]? = some (.cells #[(.slice A0_0 l0_0.length c0_0)] 29 (0, 0))) ∧ Aside0 (wc.heap[gb725]? = some (.cells #[(.slice none 0 0)] 29 (0, 0))) ∧ Aside0 (Below w.heap.size w wc))
 case first =>
  have H := HC4.out
  clear HC4
  replace H := Option.bind_eq_some_iff.mp H
  obtain ⟨t726, A70, H⟩ := H
  replace H : (if t726 = true then ((spec_l9Stretch.f a1 a2).bind fun t727 => (spec_PunchMap.j0 k a1 a2 (!t727) l0_0)) else (spec_PunchMap.j0 k a1 a2 true l0_0)) = some (r1, r2, r3) := H
  have A7 := Aside0.mk A70
  clear A70
  by_cases c8 : t726 = true
  ·
   subst c8
   rw [if_pos rfl] at H
   replace H := Option.bind_eq_some_iff.mp H
   obtain ⟨t727, A90, H⟩ := H
   replace H : (spec_PunchMap.j0 k a1 a2 (!t727) l0_0) = some (r1, r2, r3) := H
   have A9 := Aside0.mk A90
   clear A90
   have H' := Aside0.mk H
   clear H
   have hnb10 := NB724_725.out
   have hnc10 := NB725_724.out
   have hcz11_0 := cz1 BK724
   have hfz11_0 := fz1 BK724
   go_wp2_with (first | ((with_reducible refine gate_callee (f := 15) rfl ?_); refine gL (some 13) rfl rfl Try.func15 (by kernel_rfl) rfl #[.agg #[.slice A0_0 l0_0.length c0_0]] rfl ?_; (with_reducible refine (spec_GoodMap.calls k _ _ l0_0 true _ ?side1 ?side2 A7.out).mono ?_); (case side1 => exact cb HR0_0 HB); (case side2 => exact HC0_0.out); rintro e w12 ⟨rfl, hb⟩; refine ⟨_, rfl, ?_⟩; replace BK724 := nb BK724 hb; replace BK725 := nb BK725 hb; replace HB := Aside0.mk (below_step (bs2 HB GE724 GE725) hb); (try clear hb); (try clear hb2); (try clear hk); (try clear hi)) | (go_at_call 68; (with_reducible refine (spec_l9Stretch.calls a1 a2 t727 _ A9.out).mono ?_); rintro e w' ⟨rfl, ⟨nd, rfl⟩⟩))
   go_meet
   case rel => exact ⟨_, (!t727), (by first | rfl | (simp; done) | (simp [*]; done)), H', ⟨by first | omega | exact Nat.le_refl _⟩, ⟨bk BK724⟩, ⟨bk BK725⟩, ⟨bs2 HB GE724 GE725⟩⟩
  ·
   replace c8 := Bool.eq_false_iff.mpr c8
   subst c8
   rw [if_neg (show ¬ (false = true) by decide)] at H
   have H' := Aside0.mk H
   clear H
   have hnb13 := NB724_725.out
   have hnc13 := NB725_724.out
   have hcz14_0 := cz1 BK724
   have hfz14_0 := fz1 BK724
   go_wp2_with (first | ((with_reducible refine gate_callee (f := 15) rfl ?_); refine gL (some 13) rfl rfl Try.func15 (by kernel_rfl) rfl #[.agg #[.slice A0_0 l0_0.length c0_0]] rfl ?_; (with_reducible refine (spec_GoodMap.calls k _ _ l0_0 false _ ?side1 ?side2 A7.out).mono ?_); (case side1 => exact cb HR0_0 HB); (case side2 => exact HC0_0.out); rintro e w15 ⟨rfl, hb⟩; refine ⟨_, rfl, ?_⟩; replace BK724 := nb BK724 hb; replace BK725 := nb BK725 hb; replace HB := Aside0.mk (below_step (bs2 HB GE724 GE725) hb); (try clear hb); (try clear hb2); (try clear hk); (try clear hi)))
   go_meet
   case rel => exact ⟨_, (true), (by first | rfl | (simp; done) | (simp [*]; done)), H', ⟨by first | omega | exact Nat.le_refl _⟩, ⟨bk BK724⟩, ⟨bk BK725⟩, ⟨bs2 HB GE724 GE725⟩⟩
 case rest =>
  clear HC4
  try clear c1
  try clear p2
  try clear c3
  try clear c8
  try clear c10
  try clear c13
  try clear c15
  try clear hcz11_0
  try clear hcz14_0
  try clear hfz11_0
  try clear hfz14_0
  obtain ⟨kq, x20_3, rfl, HA, HJ3, BK724, BK725, HB⟩ := hcut
  cases kq with
  | zero => exact absurd HA.out (by simp [spec_PunchMap.j0])
  | succ kj3 =>
   have H := HA.out
   clear HA
   simp only [spec_PunchMap.j0] at H
   by_cases c16 : x20_3 = true
   ·
    subst c16
    rw [if_pos rfl] at H
    simp only [Option.some.injEq, Prod.mk.injEq] at H
    obtain ⟨rfl, rfl, rfl⟩ := H
    have hnb17 := NB725_724.out
    have hnc17 := NB724_725.out
    have hcz18_0 := cz1 BK725
    have hfz18_0 := fz1 BK725
    go_wp2
    refine bodyPost_ret (results_ctt rfl _ _ gb725 29 #[.slice none 0 0] (0, 0) _ rfl (by (with_reducible repeat (first | refine blk_drewN ?_ _ | refine blk_drew ?_ | refine blk_alloc ?_ _)); refine blk_put (cs := #[.slice none 0 0]) ?_ 0 _ rfl; (with_reducible repeat (first | refine blk_drewN ?_ _ | refine blk_drew ?_ | refine blk_alloc ?_ _)); exact BK725.out) Try.underlying29 rfl (by kernel_rfl)) rfl ?_
    exact ⟨_, _, by first | rfl | (simp [errW_none, errW_some] <;> rfl) | (simp [*, errW_none, errW_some] <;> rfl), by first | exact Kd.R_nil _ _ _ _ _ | exact Kd.N_nil _ _ _ _ _ | exact Kd.V_nil _ _ _ _ _ | exact Kd.Q_nil _ _ _ _ _ | exact Kd.S_nil _ _ _ _ _, by first | exact Kd.R_nil _ _ _ _ _ | exact Kd.N_nil _ _ _ _ _ | exact Kd.V_nil _ _ _ _ _ | exact Kd.Q_nil _ _ _ _ _ | exact Kd.S_nil _ _ _ _ _, bs2 HB GE724 GE725⟩
   ·
    replace c16 := Bool.eq_false_iff.mpr c16
    subst c16
    rw [if_neg (show ¬ (false = true) by decide)] at H
    replace H := Option.bind_eq_some_iff.mp H
    obtain ⟨⟨t728, t729⟩, A190, H⟩ := H
    replace H : ((spec_GoodMap.f kj3 t728).bind fun t735 => (if t735 = true then ((spec_l9Extents.f kj3 t729).bind fun t736 => (some (t728, t736, true))) else (some (([] : List (S48)), ([] : List (S61)), false)))) = some (r1, r2, r3) := H
    have A19 := Aside0.mk A190
    clear A190
    replace H := Option.bind_eq_some_iff.mp H
    obtain ⟨t735, A200, H⟩ := H
    replace H : (if t735 = true then ((spec_l9Extents.f kj3 t729).bind fun t736 => (some (t728, t736, true))) else (some (([] : List (S48)), ([] : List (S61)), false))) = some (r1, r2, r3) := H
    have A20 := Aside0.mk A200
    clear A200
    by_cases c21 : t735 = true
    ·
     subst c21
     rw [if_pos rfl] at H
     replace H := Option.bind_eq_some_iff.mp H
     obtain ⟨t736, A220, H⟩ := H
     replace H : (some (t728, t736, true)) = some (r1, r2, r3) := H
     have A22 := Aside0.mk A220
     clear A220
     simp only [Option.some.injEq, Prod.mk.injEq] at H
     obtain ⟨rfl, rfl, rfl⟩ := H
     have hnb23 := NB724_725.out
     have hnc23 := NB725_724.out
     have hcz24_0 := cz1 BK724
     have hfz24_0 := fz1 BK724
     try go_wp2_with (first | ((with_reducible refine gate_callee (f := 69) rfl ?_); refine gL (some 27) rfl rfl Try.func69 (by kernel_rfl) rfl #[.slice A0_0 l0_0.length c0_0, .int .i64 a1, .int .i64 a2] rfl ?_; (with_reducible refine (spec_l9Cut.calls kj3 _ _ l0_0 a1 a2 t728 t729 _ ?side1 ?side2 A19.out).mono ?_); (case side1 => exact cb HR0_0 HB); (case side2 => exact HC0_0.out); rintro e w25 ⟨v730, v732, rfl, ho0, ho1, hb⟩; refine ⟨_, rfl, ?_⟩; have HO731 := Aside0.mk (Kd.R_lower ho0 (below_size (bs2 HB GE724 GE725))); have HO733 := Aside0.mk (Kd.R_lower ho1 (below_size (bs2 HB GE724 GE725))); replace BK724 := nb BK724 hb; replace BK725 := nb BK725 hb; replace HB := Aside0.mk (below_step (bs2 HB GE724 GE725) hb); (try clear hb); (try clear hb2); (try clear hk); (try clear hi); (try clear ho0); (try clear ho1); obtain ⟨Ao26, co26, eo26⟩ := Kd.R_slice HO731.out; subst eo26) | ((with_reducible refine gate_dst (N := 11) rfl ?_); refine box_event ?hg (N := 11) ?hd (cs := #[.slice none 0 0]) (t := 29) ?hr ?_; (case hd => rfl); (case hg => rfl); (case hr => first | (go_simp; done) | (go_simp; rfl)); intro gb734 hg w27 hbox hb; replace HO731 := nr HO731 hb; replace HO733 := nr HO733 hb; have BK734 := Aside0.mk (hbox); have GW734 := Aside0.mk ((by rw [hg]; exact (below_size (bs2 HB GE724 GE725)) : w.heap.size ≤ gb734)); have GE734 := Aside0.mk ((by rw [hg]; exact (below_size (bs2 HB GE724 GE725)) : w.heap.size ≤ gb734)); replace HB := Aside0.mk (below_step (bs2 HB GE724 GE725) hb); have NB724_734 := Aside0.mk ((bn BK724 hg : gb724 ≠ gb734)); have NB734_724 := Aside0.mk ((bm BK724 hg : gb734 ≠ gb724)); replace BK724 := nb BK724 hb; have NB725_734 := Aside0.mk ((bn BK725 hg : gb725 ≠ gb734)); have NB734_725 := Aside0.mk ((bm BK725 hg : gb734 ≠ gb725)); replace BK725 := nb BK725 hb; clear hb hbox hg; have hnb28 := NB734_724.out; have hnc28 := NB724_734.out; have hnb29 := NB734_725.out; have hnc29 := NB725_734.out; have hcz30_0 := cz1 BK734; have hfz30_0 := fz1 BK734) | ((with_reducible refine gate_callee (f := 15) rfl ?_); refine gL (some 33) rfl rfl Try.func15 (by kernel_rfl) rfl #[.agg #[.slice Ao26 t728.length co26]] rfl ?_; (with_reducible refine (spec_GoodMap.calls kj3 _ _ t728 true _ ?side1 ?side2 A20.out).mono ?_); (case side1 => exact rc HO731 BK734); (case side2 => exact (Kd.R_reads' HO731.out).2.1); rintro e w31 ⟨rfl, hb⟩; refine ⟨_, rfl, ?_⟩; replace HO731 := nf HO731 BK734 hb; replace HO733 := nf HO733 BK734 hb; replace BK724 := Aside0.mk (blk_below (bf BK724 NB724_734) hb); replace BK725 := Aside0.mk (blk_below (bf BK725 NB725_734) hb); replace BK734 := Aside0.mk (blk_below (g := gb734) (o := .cells #[.slice Ao26 t728.length co26] 29 (0, 0)) (by (with_reducible repeat (first | refine blk_drewN ?_ _ | refine blk_drew ?_ | refine blk_alloc ?_ _)); refine blk_put (cs := #[.slice none 0 0]) ?_ 0 _ rfl; (with_reducible repeat (first | refine blk_drewN ?_ _ | refine blk_drew ?_ | refine blk_alloc ?_ _)); exact BK734.out) hb); replace HB := Aside0.mk (below_step (bs3 HB GE724 GE725 GE734) hb); (try clear hb); (try clear hb2); (try clear hk); (try clear hi)))
     have n0_ := Aside0.mk (Kd.R_drew HO731.out)
     have n1_ := Aside0.mk (Kd.R_drew HO733.out)
     have n2_ := Aside0.mk (blk_drew BK724.out)
     have n3_ := Aside0.mk (blk_drew BK725.out)
     have n4_ := Aside0.mk (blk_drew BK734.out)
     have n5_ := Aside0.mk (below_drew1 HB.out)
     clear HO731
     clear HO733
     clear BK724
     clear BK725
     clear BK734
     clear HB
     have HO731 := n0_
     have HO733 := n1_
     have BK724 := n2_
     have BK725 := n3_
     have BK734 := n4_
     have HB := n5_
     clear n0_ n1_ n2_ n3_ n4_ n5_
     obtain ⟨Ao33, co33, eo33⟩ := Kd.R_slice HO733.out
     (first | subst eo33 | (injection eo33 with f1_ f2_ f3_; have f4_ := f1_.symm; have f5_ := f3_.symm; clear f1_ f2_ f3_; subst f4_; subst f5_))
     refine start_ (n := 6) (S := fun w' => w'.cell? ⟨gb734, 0, none⟩ = some (.slice Ao26 t728.length co26)) (ds := []) #[false, false, false, false, false, false] (by kernel_rfl) rfl rfl ((blk_cell BK734.out 0).trans rfl) (fun hHeld => ?_)
     generalize w31.drew = w32 at HO731 HO733 BK724 BK725 BK734 HB hHeld ⊢
     refine pure_ (i := 1) (N := some 37) (v := ?_) (a' := ?_) #[false, true, false, false, false, false] rfl rfl (by kernel_rfl) (fun _ _ _ h => h) (Or.inl ⟨by rfl, ?_⟩) ?_ ?_
     rotate_left
     ·
      intro w'
      go_simp
      with_reducible rfl
     rotate_left
     ·
      simp only [Act.put, List.setIfInBounds_toArray, List.set_cons_zero, List.set_cons_succ, i64_w, i32_w]
      rfl
     refine take_ (i := 0) (N := some 36) (v := ?_) (a' := ?_) #[true, true, false, false, false, false] rfl rfl (by kernel_rfl) (fun _ _ _ h => h) (Or.inl ⟨by rfl, ?_⟩) hHeld ?_ ?_
     rotate_left
     ·
      intro w' s0
      go_simp
      with_reducible rfl
     rotate_left
     ·
      simp only [Act.put, List.setIfInBounds_toArray, List.set_cons_zero, List.set_cons_succ, i64_w, i32_w]
      rfl
     refine one_ (i := 2) (N := some 38) #[true, true, true, false, false, false] rfl rfl (by kernel_rfl) (by decide) (fun K hK => ?_)
     refine goes_ Try.func66 (by kernel_rfl) rfl #[.slice Ao33 t729.length co33] (by rfl) rfl rfl (by (try simp only [List.map_toArray, List.map_cons, List.map_nil]); first | done | rfl | (simp only [List.length_drop, List.length_take]; rfl)) ?_
     with_reducible refine (spec_l9Extents.calls kj3 _ _ t729 t736 _ ?side1 ?side2 A22.out).mono ?_
     (case side1 => exact rc0 HO733)
     (case side2 => exact (Kd.R_reads' HO733.out).2.1)
     rintro e w34 ⟨v737, rfl, ho0, hb⟩
     refine ⟨_, rfl, ?_⟩
     have n0_ := Aside0.mk (Kd.R_below (rr HO731.out) hb)
     have n1_ := Aside0.mk (Kd.R_below (rr HO733.out) hb)
     have n2_ := Aside0.mk (Kd.R_lower ho0 (below_size (bs3 HB GE724 GE725 GE734)))
     have n3_ := Aside0.mk (bb BK724 hb)
     have n4_ := Aside0.mk (bb BK725 hb)
     have n5_ := Aside0.mk (bb BK734 hb)
     have n6_ := Aside0.mk (below_step (bs3 HB GE724 GE725 GE734) hb)
     clear HO731
     clear HO733
     clear BK724
     clear BK725
     clear BK734
     clear HB
     have HO731 := n0_
     have HO733 := n1_
     have HO738 := n2_
     have BK724 := n3_
     have BK725 := n4_
     have BK734 := n5_
     have HB := n6_
     clear n0_ n1_ n2_ n3_ n4_ n5_ n6_
     (try clear hb)
     (try clear hb2)
     (try clear hk)
     (try clear hi)
     (try clear ho0)
     refine hK.out _ _ ((blk_cell BK734.out 0).trans rfl) (fun hHeld => ?_)
     clear hK K
     refine norm_ (a' := ?_) ?_ ?_
     rotate_left
     ·
      show Act.put _ (some 38) _ = _
      simp only [Act.put, List.setIfInBounds_toArray, List.set_cons_zero, List.set_cons_succ, i64_w, i32_w]
      rfl
     refine one_ (i := 3) (N := none) #[true, true, true, true, false, false] rfl rfl (by kernel_rfl) (by decide) (fun K hK => ?_)
     have hs35 : w34.cell? ⟨gb725, 0, none⟩ = some (.slice none 0 0) := (blk_cell BK725.out 0).trans rfl
     have hfs35 := blk_frozen BK725.out 0
     have hns35_0 := NB724_725.out
     have hns35_2 := NB734_725.out
     have hms35_0 := NB725_724.out
     have hms35_2 := NB725_734.out
     refine skip_ (w1 := ?_) (by rfl) rfl ?_ ?_
     rotate_left
     ·
      go_simp
      rfl
     refine hK.out _ _ (((cell_far (p := ⟨gb725, _, none⟩) NB734_725.out _).trans (hHeld))) (fun hHeld => ?_)
     clear hK K
     refine pure_ (i := 4) (N := some 7) (v := ?_) (a' := ?_) #[true, true, true, true, true, false] rfl rfl (by kernel_rfl) (fun _ _ _ h => h) (Or.inl ⟨by rfl, ?_⟩) ?_ ?_
     rotate_left
     ·
      intro w'
      go_simp
      with_reducible rfl
     rotate_left
     ·
      simp only [Act.put, List.setIfInBounds_toArray, List.set_cons_zero, List.set_cons_succ, i64_w, i32_w]
      rfl
     refine pure_ (i := 5) (N := some 8) (v := ?_) (a' := ?_) #[true, true, true, true, true, true] rfl rfl (by kernel_rfl) (fun _ _ _ h => h) (Or.inl ⟨by rfl, ?_⟩) ?_ ?_
     rotate_left
     ·
      intro w'
      go_simp
      with_reducible rfl
     rotate_left
     ·
      simp only [Act.put, List.setIfInBounds_toArray, List.set_cons_zero, List.set_cons_succ, i64_w, i32_w]
      rfl
     refine done_ (by kernel_rfl) ?_
     try go_wp2
     refine bodyPost_ret (results_ctt rfl _ _ gb725 29 #[.slice Ao26 t728.length co26] (0, 0) _ rfl (by (with_reducible repeat (first | refine blk_drewN ?_ _ | refine blk_drew ?_ | refine blk_alloc ?_ _)); refine blk_put (cs := #[.slice none 0 0]) ?_ 0 _ rfl; (with_reducible repeat (first | refine blk_drewN ?_ _ | refine blk_drew ?_ | refine blk_alloc ?_ _)); exact BK725.out) Try.underlying29 rfl (by kernel_rfl)) rfl ?_
     exact ⟨_, _, by first | rfl | (simp [errW_none, errW_some] <;> rfl) | (simp [*, errW_none, errW_some] <;> rfl), by (with_reducible repeat (first | apply Kd.R_alloc | apply Kd.R_drewN | apply Kd.R_drew)); exact Kd.R_mono (Kd.R_far (p := ⟨gb725, 0, none⟩) (Kd.R_types HO731.out BK725.out (by decide)) (fun _ hk => hk.2) (.slice Ao26 t728.length co26)) (fun _ hk => trivial), by (with_reducible repeat (first | apply Kd.R_alloc | apply Kd.R_drewN | apply Kd.R_drew)); exact Kd.R_mono (Kd.R_far (p := ⟨gb725, 0, none⟩) (Kd.R_types HO738.out BK725.out (by decide)) (fun _ hk => hk.2) (.slice Ao26 t728.length co26)) (fun _ hk => trivial), bs3 HB GE724 GE725 GE734⟩
    ·
     replace c21 := Bool.eq_false_iff.mpr c21
     subst c21
     rw [if_neg (show ¬ (false = true) by decide)] at H
     simp only [Option.some.injEq, Prod.mk.injEq] at H
     obtain ⟨rfl, rfl, rfl⟩ := H
     have hnb36 := NB724_725.out
     have hnc36 := NB725_724.out
     have hcz37_0 := cz1 BK724
     have hfz37_0 := fz1 BK724
     go_wp2_with (first | ((with_reducible refine gate_callee (f := 69) rfl ?_); refine gL (some 27) rfl rfl Try.func69 (by kernel_rfl) rfl #[.slice A0_0 l0_0.length c0_0, .int .i64 a1, .int .i64 a2] rfl ?_; (with_reducible refine (spec_l9Cut.calls kj3 _ _ l0_0 a1 a2 t728 t729 _ ?side1 ?side2 A19.out).mono ?_); (case side1 => exact cb HR0_0 HB); (case side2 => exact HC0_0.out); rintro e w38 ⟨v730, v732, rfl, ho0, ho1, hb⟩; refine ⟨_, rfl, ?_⟩; have HO731 := Aside0.mk (Kd.R_lower ho0 (below_size (bs2 HB GE724 GE725))); have HO733 := Aside0.mk (Kd.R_lower ho1 (below_size (bs2 HB GE724 GE725))); replace BK724 := nb BK724 hb; replace BK725 := nb BK725 hb; replace HB := Aside0.mk (below_step (bs2 HB GE724 GE725) hb); (try clear hb); (try clear hb2); (try clear hk); (try clear hi); (try clear ho0); (try clear ho1); obtain ⟨Ao39, co39, eo39⟩ := Kd.R_slice HO731.out; subst eo39) | ((with_reducible refine gate_dst (N := 11) rfl ?_); refine box_event ?hg (N := 11) ?hd (cs := #[.slice none 0 0]) (t := 29) ?hr ?_; (case hd => rfl); (case hg => rfl); (case hr => first | (go_simp; done) | (go_simp; rfl)); intro gb734 hg w40 hbox hb; replace HO731 := nr HO731 hb; replace HO733 := nr HO733 hb; have BK734 := Aside0.mk (hbox); have GW734 := Aside0.mk ((by rw [hg]; exact (below_size (bs2 HB GE724 GE725)) : w.heap.size ≤ gb734)); have GE734 := Aside0.mk ((by rw [hg]; exact (below_size (bs2 HB GE724 GE725)) : w.heap.size ≤ gb734)); replace HB := Aside0.mk (below_step (bs2 HB GE724 GE725) hb); have NB724_734 := Aside0.mk ((bn BK724 hg : gb724 ≠ gb734)); have NB734_724 := Aside0.mk ((bm BK724 hg : gb734 ≠ gb724)); replace BK724 := nb BK724 hb; have NB725_734 := Aside0.mk ((bn BK725 hg : gb725 ≠ gb734)); have NB734_725 := Aside0.mk ((bm BK725 hg : gb734 ≠ gb725)); replace BK725 := nb BK725 hb; clear hb hbox hg; have hnb41 := NB734_724.out; have hnc41 := NB724_734.out; have hnb42 := NB734_725.out; have hnc42 := NB725_734.out; have hcz43_0 := cz1 BK734; have hfz43_0 := fz1 BK734) | ((with_reducible refine gate_callee (f := 15) rfl ?_); refine gL (some 33) rfl rfl Try.func15 (by kernel_rfl) rfl #[.agg #[.slice Ao39 t728.length co39]] rfl ?_; (with_reducible refine (spec_GoodMap.calls kj3 _ _ t728 false _ ?side1 ?side2 A20.out).mono ?_); (case side1 => exact rc HO731 BK734); (case side2 => exact (Kd.R_reads' HO731.out).2.1); rintro e w44 ⟨rfl, hb⟩; refine ⟨_, rfl, ?_⟩; replace HO731 := nf HO731 BK734 hb; replace HO733 := nf HO733 BK734 hb; replace BK724 := Aside0.mk (blk_below (bf BK724 NB724_734) hb); replace BK725 := Aside0.mk (blk_below (bf BK725 NB725_734) hb); replace BK734 := Aside0.mk (blk_below (g := gb734) (o := .cells #[.slice Ao39 t728.length co39] 29 (0, 0)) (by (with_reducible repeat (first | refine blk_drewN ?_ _ | refine blk_drew ?_ | refine blk_alloc ?_ _)); refine blk_put (cs := #[.slice none 0 0]) ?_ 0 _ rfl; (with_reducible repeat (first | refine blk_drewN ?_ _ | refine blk_drew ?_ | refine blk_alloc ?_ _)); exact BK734.out) hb); replace HB := Aside0.mk (below_step (bs3 HB GE724 GE725 GE734) hb); (try clear hb); (try clear hb2); (try clear hk); (try clear hi); have hcz45_0 := cz1 BK725; have hfz45_0 := fz1 BK725))
     refine bodyPost_ret (results_ctt rfl _ _ gb725 29 #[.slice none 0 0] (0, 0) _ rfl (by (with_reducible repeat (first | refine blk_drewN ?_ _ | refine blk_drew ?_ | refine blk_alloc ?_ _)); refine blk_put (cs := #[.slice none 0 0]) ?_ 0 _ rfl; (with_reducible repeat (first | refine blk_drewN ?_ _ | refine blk_drew ?_ | refine blk_alloc ?_ _)); exact BK725.out) Try.underlying29 rfl (by kernel_rfl)) rfl ?_
     exact ⟨_, _, by first | rfl | (simp [errW_none, errW_some] <;> rfl) | (simp [*, errW_none, errW_some] <;> rfl), by first | exact Kd.R_nil _ _ _ _ _ | exact Kd.N_nil _ _ _ _ _ | exact Kd.V_nil _ _ _ _ _ | exact Kd.Q_nil _ _ _ _ _ | exact Kd.S_nil _ _ _ _ _, by first | exact Kd.R_nil _ _ _ _ _ | exact Kd.N_nil _ _ _ _ _ | exact Kd.V_nil _ _ _ _ _ | exact Kd.Q_nil _ _ _ _ _ | exact Kd.S_nil _ _ _ _ _, bs3 HB GE724 GE725 GE734⟩

/-! ### spec_TruncateMap: function 37 -/
def spec_TruncateMap.f (k : Nat) (l0_0 : List (S48)) (a1 : Int) : Option ((List (S48)) × (List (S61)) × Bool) := (spec_l1In.f a1 0 200).bind fun t741 => (if t741 = true then ((spec_PunchMap.f k l0_0 a1 (wrap64 (200 - a1))).bind fun bt742 => (some (bt742.1, bt742.2.1, bt742.2.2))) else (some (([] : List (S48)), ([] : List (S61)), false)))
theorem spec_TruncateMap.mono : ∀ a0 a1 k, LeO (spec_TruncateMap.f k a0 a1) (spec_TruncateMap.f (k + 1) a0 a1) := by
 intro a0 a1 k
 unfold spec_TruncateMap.f
 repeat' first
   | (with_reducible exact spec_PunchMap.mono _ _ _ _)
   | (with_reducible exact LeO.refl _)
   | (with_reducible exact LeO.none _)
   | (with_reducible refine LeO.ite ?_ ?_)
   | (with_reducible refine LeO.bind ?_ (fun _ => ?_))
   | exact spec_PunchMap.mono _ _ _ _
   | exact LeO.none _
   | refine LeO.ite ?_ ?_
   | refine LeO.bind ?_ (fun _ => ?_)
set_option maxHeartbeats 8000000 in
set_option maxRecDepth 100000 in
theorem spec_TruncateMap.calls (k : Nat) (A0_0 : Option Addr) (c0_0 : Nat) (l0_0 : List (S48)) (a1 : Int) (r1 : List (S48)) (r2 : List (S61)) (r3 : Bool) (w : World) (hr0_0 : Kd.C k48 w A0_0 l0_0.length l0_0) (hc0_0 : l0_0.length ≤ c0_0) (h : spec_TruncateMap.f k l0_0 a1 = some (r1, r2, r3)) :
  Calls Try.prog 37 #[.agg #[.slice A0_0 l0_0.length c0_0], .int .i64 a1] w fun e w' => ∃ v0_ v1_ : Value, e = .returned (.tuple #[.agg #[v0_], v1_, .bool r3]) ∧ Kd.R k48 48 w' w.heap.size (fun _ => True) v0_ r1 ∧ Kd.R k61 61 w' w.heap.size (fun _ => True) v1_ r2 ∧ Below w.heap.size w w' := by
 have hu29 := Try.underlying29
 have HR0_0 := Aside0.mk hr0_0
 have HC0_0 := Aside0.mk hc0_0
 clear hr0_0 hc0_0
 have HB := Aside0.mk (Below.refl w.heap.size w)
 have H : ((spec_l1In.f a1 0 200).bind fun t741 => (if t741 = true then ((spec_PunchMap.f k l0_0 a1 (wrap64 (200 - a1))).bind fun bt742 => (some (bt742.1, bt742.2.1, bt742.2.2))) else (some (([] : List (S48)), ([] : List (S61)), false)))) = some (r1, r2, r3) := h
 clear h
 replace H := Option.bind_eq_some_iff.mp H
 obtain ⟨t741, A30, H⟩ := H
 replace H : (if t741 = true then ((spec_PunchMap.f k l0_0 a1 (wrap64 (200 - a1))).bind fun bt742 => (some (bt742.1, bt742.2.1, bt742.2.2))) else (some (([] : List (S48)), ([] : List (S61)), false))) = some (r1, r2, r3) := H
 have A3 := Aside0.mk A30
 clear A30
 by_cases c4 : t741 = true
 ·
  subst c4
  rw [if_pos rfl] at H
  replace H := Option.bind_eq_some_iff.mp H
  obtain ⟨⟨t742, t745, t748⟩, A50, H⟩ := H
  replace H : (some (t742, t745, t748)) = some (r1, r2, r3) := H
  have A5 := Aside0.mk A50
  clear A50
  simp only [Option.some.injEq, Prod.mk.injEq] at H
  obtain ⟨rfl, rfl, rfl⟩ := H
  go_enter Try.func37, Try.ntmps37
  go_wp2_with (first | ((with_reducible refine gate_dst (N := 2) rfl ?_); refine box_event ?hg (N := 2) ?hd (cs := #[.slice A0_0 l0_0.length c0_0]) (t := 29) ?hr ?_; (case hd => rfl); (case hg => rfl); (case hr => first | (go_simp; done) | (go_simp; rfl)); intro gb739 hg w6 hbox hb; have BK739 := Aside0.mk (hbox); have GW739 := Aside0.mk ((by rw [hg]; exact (below_size (bs HB)) : w.heap.size ≤ gb739)); have GE739 := Aside0.mk ((by rw [hg]; exact (below_size (bs HB)) : w.heap.size ≤ gb739)); replace HB := Aside0.mk (below_step (bs HB) hb); clear hb hbox hg) | ((with_reducible refine gate_dst (N := 4) rfl ?_); refine box_event ?hg (N := 4) ?hd (cs := #[.slice none 0 0]) (t := 29) ?hr ?_; (case hd => rfl); (case hg => rfl); (case hr => first | (go_simp; done) | (go_simp; rfl)); intro gb740 hg w7 hbox hb; have BK740 := Aside0.mk (hbox); have GW740 := Aside0.mk ((by rw [hg]; exact (below_size (bs1 HB GE739)) : w.heap.size ≤ gb740)); have GE740 := Aside0.mk ((by rw [hg]; exact (below_size (bs1 HB GE739)) : w.heap.size ≤ gb740)); replace HB := Aside0.mk (below_step (bs1 HB GE739) hb); have NB739_740 := Aside0.mk ((bn BK739 hg : gb739 ≠ gb740)); have NB740_739 := Aside0.mk ((bm BK739 hg : gb740 ≠ gb739)); replace BK739 := nb BK739 hb; clear hb hbox hg) | ((with_reducible refine gate_callee (f := 54) rfl ?_); refine gL (some 8) rfl rfl Try.func54 (by kernel_rfl) rfl #[.int .i64 a1, .int .i64 0, .int .i64 200] rfl ?_; (with_reducible refine (spec_l1In.calls a1 0 200 true _ A3.out).mono ?_); rintro e w' ⟨rfl, ⟨nd, rfl⟩⟩; refine ⟨_, rfl, ?_⟩; (try (rw [drewN_self w7]; generalize hq_ : World.drewN w7 _ = w7; have n0_ : Aside0 (w7.heap[gb739]? = some (.cells #[.slice A0_0 l0_0.length c0_0] 29 (0, 0))) := ⟨by rw [← hq_]; exact (bk BK739)⟩; have n1_ : Aside0 (w7.heap[gb740]? = some (.cells #[.slice none 0 0] 29 (0, 0))) := ⟨by rw [← hq_]; exact (bk BK740)⟩; have n2_ : Aside0 (Below w.heap.size w w7) := ⟨by rw [← hq_]; exact (bs2 HB GE739 GE740)⟩; clear BK739 BK740 HB hq_; have BK739 := n0_; have BK740 := n1_; have HB := n2_; clear n0_ n1_ n2_)); have hnb8 := NB739_740.out; have hnc8 := NB740_739.out; have hcz9_0 := cz1 BK739; have hfz9_0 := fz1 BK739) | ((with_reducible refine gate_callee (f := 39) rfl ?_); refine gL (some 15) rfl rfl Try.func39 (by kernel_rfl) rfl #[.agg #[.slice A0_0 l0_0.length c0_0], .int .i64 a1, .int .i64 (wrap64 (200 - a1))] rfl ?_; (with_reducible refine (spec_PunchMap.calls k _ _ l0_0 a1 (wrap64 (200 - a1)) t742 t745 t748 _ ?side1 ?side2 A5.out).mono ?_); (case side1 => exact cb HR0_0 HB); (case side2 => exact HC0_0.out); rintro e w10 ⟨v743, v746, rfl, ho0, ho1, hb⟩; refine ⟨_, rfl, ?_⟩; have HO744 := Aside0.mk (Kd.R_lower ho0 (below_size (bs2 HB GE739 GE740))); have HO747 := Aside0.mk (Kd.R_lower ho1 (below_size (bs2 HB GE739 GE740))); replace BK739 := nb BK739 hb; replace BK740 := nb BK740 hb; replace HB := Aside0.mk (below_step (bs2 HB GE739 GE740) hb); (try clear hb); (try clear hb2); (try clear hk); (try clear hi); (try clear ho0); (try clear ho1); obtain ⟨Ao11, co11, eo11⟩ := Kd.R_slice HO744.out; subst eo11; have hcz12_0 := cz1 BK740; have hfz12_0 := fz1 BK740))
  refine bodyPost_ret (results_ctt rfl _ _ gb740 29 #[.slice Ao11 t742.length co11] (0, 0) _ rfl (by (with_reducible repeat (first | refine blk_drewN ?_ _ | refine blk_drew ?_ | refine blk_alloc ?_ _)); refine blk_put (cs := #[.slice none 0 0]) ?_ 0 _ rfl; (with_reducible repeat (first | refine blk_drewN ?_ _ | refine blk_drew ?_ | refine blk_alloc ?_ _)); exact BK740.out) Try.underlying29 rfl (by kernel_rfl)) rfl ?_
  exact ⟨_, _, by first | rfl | (simp [errW_none, errW_some] <;> rfl) | (simp [*, errW_none, errW_some] <;> rfl), by (with_reducible repeat (first | apply Kd.R_alloc | apply Kd.R_drewN | apply Kd.R_drew)); exact Kd.R_mono (Kd.R_far (p := ⟨gb740, 0, none⟩) (Kd.R_types HO744.out BK740.out (by decide)) (fun _ hk => hk.2) (.slice Ao11 t742.length co11)) (fun _ hk => trivial), by (with_reducible repeat (first | apply Kd.R_alloc | apply Kd.R_drewN | apply Kd.R_drew)); exact Kd.R_mono (Kd.R_far (p := ⟨gb740, 0, none⟩) (Kd.R_types HO747.out BK740.out (by decide)) (fun _ hk => hk.2) (.slice Ao11 t742.length co11)) (fun _ hk => trivial), bs2 HB GE739 GE740⟩
 ·
  replace c4 := Bool.eq_false_iff.mpr c4
  subst c4
  rw [if_neg (show ¬ (false = true) by decide)] at H
  simp only [Option.some.injEq, Prod.mk.injEq] at H
  obtain ⟨rfl, rfl, rfl⟩ := H
  go_enter Try.func37, Try.ntmps37
  go_wp2_with (first | ((with_reducible refine gate_dst (N := 2) rfl ?_); refine box_event ?hg (N := 2) ?hd (cs := #[.slice A0_0 l0_0.length c0_0]) (t := 29) ?hr ?_; (case hd => rfl); (case hg => rfl); (case hr => first | (go_simp; done) | (go_simp; rfl)); intro gb739 hg w13 hbox hb; have BK739 := Aside0.mk (hbox); have GW739 := Aside0.mk ((by rw [hg]; exact (below_size (bs HB)) : w.heap.size ≤ gb739)); have GE739 := Aside0.mk ((by rw [hg]; exact (below_size (bs HB)) : w.heap.size ≤ gb739)); replace HB := Aside0.mk (below_step (bs HB) hb); clear hb hbox hg) | ((with_reducible refine gate_dst (N := 4) rfl ?_); refine box_event ?hg (N := 4) ?hd (cs := #[.slice none 0 0]) (t := 29) ?hr ?_; (case hd => rfl); (case hg => rfl); (case hr => first | (go_simp; done) | (go_simp; rfl)); intro gb740 hg w14 hbox hb; have BK740 := Aside0.mk (hbox); have GW740 := Aside0.mk ((by rw [hg]; exact (below_size (bs1 HB GE739)) : w.heap.size ≤ gb740)); have GE740 := Aside0.mk ((by rw [hg]; exact (below_size (bs1 HB GE739)) : w.heap.size ≤ gb740)); replace HB := Aside0.mk (below_step (bs1 HB GE739) hb); have NB739_740 := Aside0.mk ((bn BK739 hg : gb739 ≠ gb740)); have NB740_739 := Aside0.mk ((bm BK739 hg : gb740 ≠ gb739)); replace BK739 := nb BK739 hb; clear hb hbox hg) | ((with_reducible refine gate_callee (f := 54) rfl ?_); refine gL (some 8) rfl rfl Try.func54 (by kernel_rfl) rfl #[.int .i64 a1, .int .i64 0, .int .i64 200] rfl ?_; (with_reducible refine (spec_l1In.calls a1 0 200 false _ A3.out).mono ?_); rintro e w' ⟨rfl, ⟨nd, rfl⟩⟩; refine ⟨_, rfl, ?_⟩; (try (rw [drewN_self w14]; generalize hq_ : World.drewN w14 _ = w14; have n0_ : Aside0 (w14.heap[gb739]? = some (.cells #[.slice A0_0 l0_0.length c0_0] 29 (0, 0))) := ⟨by rw [← hq_]; exact (bk BK739)⟩; have n1_ : Aside0 (w14.heap[gb740]? = some (.cells #[.slice none 0 0] 29 (0, 0))) := ⟨by rw [← hq_]; exact (bk BK740)⟩; have n2_ : Aside0 (Below w.heap.size w w14) := ⟨by rw [← hq_]; exact (bs2 HB GE739 GE740)⟩; clear BK739 BK740 HB hq_; have BK739 := n0_; have BK740 := n1_; have HB := n2_; clear n0_ n1_ n2_)); have hnb15 := NB740_739.out; have hnc15 := NB739_740.out; have hcz16_0 := cz1 BK740; have hfz16_0 := fz1 BK740))
  refine bodyPost_ret (results_ctt rfl _ _ gb740 29 #[.slice none 0 0] (0, 0) _ rfl (by (with_reducible repeat (first | refine blk_drewN ?_ _ | refine blk_drew ?_ | refine blk_alloc ?_ _)); refine blk_put (cs := #[.slice none 0 0]) ?_ 0 _ rfl; (with_reducible repeat (first | refine blk_drewN ?_ _ | refine blk_drew ?_ | refine blk_alloc ?_ _)); exact BK740.out) Try.underlying29 rfl (by kernel_rfl)) rfl ?_
  exact ⟨_, _, by first | rfl | (simp [errW_none, errW_some] <;> rfl) | (simp [*, errW_none, errW_some] <;> rfl), by first | exact Kd.R_nil _ _ _ _ _ | exact Kd.N_nil _ _ _ _ _ | exact Kd.V_nil _ _ _ _ _ | exact Kd.Q_nil _ _ _ _ _ | exact Kd.S_nil _ _ _ _ _, by first | exact Kd.R_nil _ _ _ _ _ | exact Kd.N_nil _ _ _ _ _ | exact Kd.V_nil _ _ _ _ _ | exact Kd.Q_nil _ _ _ _ _ | exact Kd.S_nil _ _ _ _ _, bs2 HB GE739 GE740⟩

/-! ### impl_TruncateMap: function 38 -/
def impl_TruncateMap.j0 : Nat → Int → Bool → List (S48) → Option ((List (S48)) × (List (S61)) × Bool)
 | 0, _, _, _ => none
 | k + 1, x1, x18, x750000 => if x18 = true then (some (([] : List (S48)), ([] : List (S61)), false)) else ((impl_FileMap_cells.f k x750000).bind fun t753 => (if 0 ≤ x1 then (if x1 ≤ (t753.length : Int) then ((impl_blocksIn.f k (t753.drop (x1 : Int).toNat)).bind fun t760 => ((impl_mapOf.f k (t753.take (x1 : Int).toNat)).bind fun bt767 => (some (bt767.1, t760, bt767.2)))) else (none)) else (none)))
def impl_TruncateMap.f (k : Nat) (l0_0 : List (S48)) (a1 : Int) : Option ((List (S48)) × (List (S61)) × Bool) := (impl_GoodMap.f k l0_0).bind fun t751 => (if t751 = true then ((impl_within.f a1 0 200).bind fun t752 => (impl_TruncateMap.j0 k a1 (!t752) l0_0)) else (impl_TruncateMap.j0 k a1 true l0_0))
theorem impl_TruncateMap.mono_l : ∀ k, (∀ y0 y1 y2, LeO (impl_TruncateMap.j0 k y0 y1 y2) (impl_TruncateMap.j0 (k + 1) y0 y1 y2))
 | 0 => fun _ _ _ r h => by simp [impl_TruncateMap.j0] at h
 | k + 1 => by
  have ih0 := impl_TruncateMap.mono_l k
  ·
   intro y0 y1 y2
   unfold impl_TruncateMap.j0
   repeat' first
   | (with_reducible exact ih0 _ _ _)
   | (with_reducible exact impl_FileMap_cells.mono _ _)
   | (with_reducible exact impl_GoodMap.mono _ _)
   | (with_reducible exact impl_blocksIn.mono _ _)
   | (with_reducible exact impl_mapOf.mono _ _)
   | (with_reducible exact LeO.refl _)
   | (with_reducible exact LeO.none _)
   | (with_reducible refine LeO.ite ?_ ?_)
   | (with_reducible refine LeO.bind ?_ (fun _ => ?_))
   | exact ih0 _ _ _
   | exact impl_FileMap_cells.mono _ _
   | exact impl_GoodMap.mono _ _
   | exact impl_blocksIn.mono _ _
   | exact impl_mapOf.mono _ _
   | exact LeO.none _
   | refine LeO.ite ?_ ?_
   | refine LeO.bind ?_ (fun _ => ?_)
theorem impl_TruncateMap.mono : ∀ a0 a1 k, LeO (impl_TruncateMap.f k a0 a1) (impl_TruncateMap.f (k + 1) a0 a1) := by
 intro a0 a1 k
 have ih0 := impl_TruncateMap.mono_l k
 unfold impl_TruncateMap.f
 repeat' first
   | (with_reducible exact ih0 _ _ _)
   | (with_reducible exact impl_FileMap_cells.mono _ _)
   | (with_reducible exact impl_GoodMap.mono _ _)
   | (with_reducible exact impl_blocksIn.mono _ _)
   | (with_reducible exact impl_mapOf.mono _ _)
   | (with_reducible exact LeO.refl _)
   | (with_reducible exact LeO.none _)
   | (with_reducible refine LeO.ite ?_ ?_)
   | (with_reducible refine LeO.bind ?_ (fun _ => ?_))
   | exact ih0 _ _ _
   | exact impl_FileMap_cells.mono _ _
   | exact impl_GoodMap.mono _ _
   | exact impl_blocksIn.mono _ _
   | exact impl_mapOf.mono _ _
   | exact LeO.none _
   | refine LeO.ite ?_ ?_
   | refine LeO.bind ?_ (fun _ => ?_)
set_option maxHeartbeats 8000000 in
set_option maxRecDepth 100000 in
theorem impl_TruncateMap.calls (k : Nat) (A0_0 : Option Addr) (c0_0 : Nat) (l0_0 : List (S48)) (a1 : Int) (r1 : List (S48)) (r2 : List (S61)) (r3 : Bool) (w : World) (hr0_0 : Kd.C k48 w A0_0 l0_0.length l0_0) (hc0_0 : l0_0.length ≤ c0_0) (h : impl_TruncateMap.f k l0_0 a1 = some (r1, r2, r3)) :
  Calls Try.prog 38 #[.agg #[.slice A0_0 l0_0.length c0_0], .int .i64 a1] w fun e w' => ∃ v0_ v1_ : Value, e = .returned (.tuple #[.agg #[v0_], v1_, .bool r3]) ∧ Kd.R k48 48 w' w.heap.size (fun _ => True) v0_ r1 ∧ Kd.R k61 61 w' w.heap.size (fun _ => True) v1_ r2 ∧ Below w.heap.size w w' := by
 have hu29 := Try.underlying29
 have HR0_0 := Aside0.mk hr0_0
 have HC0_0 := Aside0.mk hc0_0
 clear hr0_0 hc0_0
 have HB := Aside0.mk (Below.refl w.heap.size w)
 have H : ((impl_GoodMap.f k l0_0).bind fun t751 => (if t751 = true then ((impl_within.f a1 0 200).bind fun t752 => (impl_TruncateMap.j0 k a1 (!t752) l0_0)) else (impl_TruncateMap.j0 k a1 true l0_0))) = some (r1, r2, r3) := h
 clear h
 have HC3 := Aside0.mk H
 clear H
 go_enter Try.func38, Try.ntmps38
 go_upto_region 1 with (first | ((with_reducible refine gate_dst (N := 2) rfl ?_); refine box_event ?hg (N := 2) ?hd (cs := #[.slice A0_0 l0_0.length c0_0]) (t := 29) ?hr ?_; (case hd => rfl); (case hg => rfl); (case hr => first | (go_simp; done) | (go_simp; rfl)); intro gb749 hg w4 hbox hb; have BK749 := Aside0.mk (hbox); have GW749 := Aside0.mk ((by rw [hg]; exact (below_size (bs HB)) : w.heap.size ≤ gb749)); have GE749 := Aside0.mk ((by rw [hg]; exact (below_size (bs HB)) : w.heap.size ≤ gb749)); replace HB := Aside0.mk (below_step (bs HB) hb); clear hb hbox hg) | ((with_reducible refine gate_dst (N := 4) rfl ?_); refine box_event ?hg (N := 4) ?hd (cs := #[.slice none 0 0]) (t := 29) ?hr ?_; (case hd => rfl); (case hg => rfl); (case hr => first | (go_simp; done) | (go_simp; rfl)); intro gb750 hg w5 hbox hb; have BK750 := Aside0.mk (hbox); have GW750 := Aside0.mk ((by rw [hg]; exact (below_size (bs1 HB GE749)) : w.heap.size ≤ gb750)); have GE750 := Aside0.mk ((by rw [hg]; exact (below_size (bs1 HB GE749)) : w.heap.size ≤ gb750)); replace HB := Aside0.mk (below_step (bs1 HB GE749) hb); have NB749_750 := Aside0.mk ((bn BK749 hg : gb749 ≠ gb750)); have NB750_749 := Aside0.mk ((bm BK749 hg : gb750 ≠ gb749)); replace BK749 := nb BK749 hb; clear hb hbox hg))
 (try simp only [Act.put, List.setIfInBounds_toArray, List.set_cons_zero, List.set_cons_succ])
 go_cut [18] (fun v18 wc => ∃ (kq : Nat) (x18_2 : Bool), v18 = .bool x18_2 ∧ Aside0 (impl_TruncateMap.j0 kq a1 x18_2 l0_0 = some (r1, r2, r3)) ∧ Aside0 (kq ≤ k) ∧ Aside0 (wc.heap[gb749]? = some (.cells #[(.slice A0_0 l0_0.length c0_0)] 29 (0, 0))) ∧ Aside0 (wc.heap[gb750]? = some (.cells #[(.slice none 0 0)] 29 (0, 0))) ∧ Aside0 (Below w.heap.size w wc))
 case first =>
  have H := HC3.out
  clear HC3
  replace H := Option.bind_eq_some_iff.mp H
  obtain ⟨t751, A60, H⟩ := H
  replace H : (if t751 = true then ((impl_within.f a1 0 200).bind fun t752 => (impl_TruncateMap.j0 k a1 (!t752) l0_0)) else (impl_TruncateMap.j0 k a1 true l0_0)) = some (r1, r2, r3) := H
  have A6 := Aside0.mk A60
  clear A60
  by_cases c7 : t751 = true
  ·
   subst c7
   rw [if_pos rfl] at H
   replace H := Option.bind_eq_some_iff.mp H
   obtain ⟨t752, A80, H⟩ := H
   replace H : (impl_TruncateMap.j0 k a1 (!t752) l0_0) = some (r1, r2, r3) := H
   have A8 := Aside0.mk A80
   clear A80
   have H' := Aside0.mk H
   clear H
   have hnb9 := NB749_750.out
   have hnc9 := NB750_749.out
   have hcz10_0 := cz1 BK749
   have hfz10_0 := fz1 BK749
   go_wp2_with (first | ((with_reducible refine gate_callee (f := 17) rfl ?_); refine gL (some 12) rfl rfl Try.func17 (by kernel_rfl) rfl #[.agg #[.slice A0_0 l0_0.length c0_0]] rfl ?_; (with_reducible refine (impl_GoodMap.calls k _ _ l0_0 true _ ?side1 ?side2 A6.out).mono ?_); (case side1 => exact cb HR0_0 HB); (case side2 => exact HC0_0.out); rintro e w11 ⟨rfl, hb⟩; refine ⟨_, rfl, ?_⟩; replace BK749 := nb BK749 hb; replace BK750 := nb BK750 hb; replace HB := Aside0.mk (below_step (bs2 HB GE749 GE750) hb); (try clear hb); (try clear hb2); (try clear hk); (try clear hi)) | (go_at_call 56; (with_reducible refine (impl_within.calls a1 0 200 t752 _ A8.out).mono ?_); rintro e w' ⟨rfl, ⟨nd, rfl⟩⟩))
   go_meet
   case rel => exact ⟨_, (!t752), (by first | rfl | (simp; done) | (simp [*]; done)), H', ⟨by first | omega | exact Nat.le_refl _⟩, ⟨bk BK749⟩, ⟨bk BK750⟩, ⟨bs2 HB GE749 GE750⟩⟩
  ·
   replace c7 := Bool.eq_false_iff.mpr c7
   subst c7
   rw [if_neg (show ¬ (false = true) by decide)] at H
   have H' := Aside0.mk H
   clear H
   have hnb12 := NB749_750.out
   have hnc12 := NB750_749.out
   have hcz13_0 := cz1 BK749
   have hfz13_0 := fz1 BK749
   go_wp2_with (first | ((with_reducible refine gate_callee (f := 17) rfl ?_); refine gL (some 12) rfl rfl Try.func17 (by kernel_rfl) rfl #[.agg #[.slice A0_0 l0_0.length c0_0]] rfl ?_; (with_reducible refine (impl_GoodMap.calls k _ _ l0_0 false _ ?side1 ?side2 A6.out).mono ?_); (case side1 => exact cb HR0_0 HB); (case side2 => exact HC0_0.out); rintro e w14 ⟨rfl, hb⟩; refine ⟨_, rfl, ?_⟩; replace BK749 := nb BK749 hb; replace BK750 := nb BK750 hb; replace HB := Aside0.mk (below_step (bs2 HB GE749 GE750) hb); (try clear hb); (try clear hb2); (try clear hk); (try clear hi)))
   go_meet
   case rel => exact ⟨_, (true), (by first | rfl | (simp; done) | (simp [*]; done)), H', ⟨by first | omega | exact Nat.le_refl _⟩, ⟨bk BK749⟩, ⟨bk BK750⟩, ⟨bs2 HB GE749 GE750⟩⟩
 case rest =>
  clear HC3
  try clear c1
  try clear p2
  try clear c3
  try clear c7
  try clear c9
  try clear c12
  try clear hcz10_0
  try clear hcz13_0
  try clear hfz10_0
  try clear hfz13_0
  obtain ⟨kq, x18_2, rfl, HA, HJ2, BK749, BK750, HB⟩ := hcut
  cases kq with
  | zero => exact absurd HA.out (by simp [impl_TruncateMap.j0])
  | succ kj2 =>
   have H := HA.out
   clear HA
   simp only [impl_TruncateMap.j0] at H
   by_cases c15 : x18_2 = true
   ·
    subst c15
    rw [if_pos rfl] at H
    simp only [Option.some.injEq, Prod.mk.injEq] at H
    obtain ⟨rfl, rfl, rfl⟩ := H
    have hnb16 := NB750_749.out
    have hnc16 := NB749_750.out
    have hcz17_0 := cz1 BK750
    have hfz17_0 := fz1 BK750
    go_wp2
    refine bodyPost_ret (results_ctt rfl _ _ gb750 29 #[.slice none 0 0] (0, 0) _ rfl (by (with_reducible repeat (first | refine blk_drewN ?_ _ | refine blk_drew ?_ | refine blk_alloc ?_ _)); refine blk_put (cs := #[.slice none 0 0]) ?_ 0 _ rfl; (with_reducible repeat (first | refine blk_drewN ?_ _ | refine blk_drew ?_ | refine blk_alloc ?_ _)); exact BK750.out) Try.underlying29 rfl (by kernel_rfl)) rfl ?_
    exact ⟨_, _, by first | rfl | (simp [errW_none, errW_some] <;> rfl) | (simp [*, errW_none, errW_some] <;> rfl), by first | exact Kd.R_nil _ _ _ _ _ | exact Kd.N_nil _ _ _ _ _ | exact Kd.V_nil _ _ _ _ _ | exact Kd.Q_nil _ _ _ _ _ | exact Kd.S_nil _ _ _ _ _, by first | exact Kd.R_nil _ _ _ _ _ | exact Kd.N_nil _ _ _ _ _ | exact Kd.V_nil _ _ _ _ _ | exact Kd.Q_nil _ _ _ _ _ | exact Kd.S_nil _ _ _ _ _, bs2 HB GE749 GE750⟩
   ·
    replace c15 := Bool.eq_false_iff.mpr c15
    subst c15
    rw [if_neg (show ¬ (false = true) by decide)] at H
    replace H := Option.bind_eq_some_iff.mp H
    obtain ⟨t753, A180, H⟩ := H
    replace H : (if 0 ≤ a1 then (if a1 ≤ (t753.length : Int) then ((impl_blocksIn.f kj2 (t753.drop (a1 : Int).toNat)).bind fun t760 => ((impl_mapOf.f kj2 (t753.take (a1 : Int).toNat)).bind fun bt767 => (some (bt767.1, t760, bt767.2)))) else (none)) else (none)) = some (r1, r2, r3) := H
    have A18 := Aside0.mk A180
    clear A180
    by_cases c19 : 0 ≤ a1
    ·
     rw [if_pos c19] at H
     have c19b0 := eq_true c19
     have c19b1 : decide (0 ≤ a1) = true := decide_eq_true c19
     clear c19
     by_cases c20 : a1 ≤ (t753.length : Int)
     ·
      rw [if_pos c20] at H
      have c20b0 := eq_true c20
      have c20b1 : decide (a1 ≤ (t753.length : Int)) = true := decide_eq_true c20
      clear c20
      obtain ⟨y756, hy756⟩ : ∃ y_ : List (S78), y_ = (t753.drop (a1 : Int).toNat) := ⟨_, rfl⟩
      replace H : ((impl_blocksIn.f kj2 y756).bind fun t760 => ((impl_mapOf.f kj2 (t753.take (a1 : Int).toNat)).bind fun bt767 => (some (bt767.1, t760, bt767.2)))) = some (r1, r2, r3) := by first | (rw [hy756]; with_reducible exact H) | (have H2_ := (Option.bind_some _ _).symm.trans H; rw [hy756]; with_reducible exact H2_) | (have H2_ := (Option.bind_some _ _).symm.trans H; with_reducible exact H2_) | with_reducible exact H | (rw [hy756]; exact H) | exact H
      have Ny756 := Aside0.mk hy756
      clear hy756
      replace H := Option.bind_eq_some_iff.mp H
      obtain ⟨t760, A210, H⟩ := H
      replace H : ((impl_mapOf.f kj2 (t753.take (a1 : Int).toNat)).bind fun bt767 => (some (bt767.1, t760, bt767.2))) = some (r1, r2, r3) := H
      have A21 := Aside0.mk A210
      clear A210
      have c22b0 := eq_true (of_decide_eq_true (by first | (with_reducible assumption) | assumption) : 0 ≤ a1)
      have c23b0 := eq_true (of_decide_eq_true (by first | (with_reducible assumption) | assumption) : a1 ≤ (t753.length : Int))
      obtain ⟨y763, hy763⟩ : ∃ y_ : List (S78), y_ = (t753.take (a1 : Int).toNat) := ⟨_, rfl⟩
      replace H : ((impl_mapOf.f kj2 y763).bind fun bt767 => (some (bt767.1, t760, bt767.2))) = some (r1, r2, r3) := by first | (rw [hy763]; with_reducible exact H) | (have H2_ := (Option.bind_some _ _).symm.trans H; rw [hy763]; with_reducible exact H2_) | (have H2_ := (Option.bind_some _ _).symm.trans H; with_reducible exact H2_) | with_reducible exact H | (rw [hy763]; exact H) | exact H
      have Ny763 := Aside0.mk hy763
      clear hy763
      replace H := Option.bind_eq_some_iff.mp H
      obtain ⟨⟨t767, t770⟩, A240, H⟩ := H
      replace H : (some (t767, t760, t770)) = some (r1, r2, r3) := H
      have A24 := Aside0.mk A240
      clear A240
      simp only [Option.some.injEq, Prod.mk.injEq] at H
      obtain ⟨rfl, rfl, rfl⟩ := H
      have hnb25 := NB749_750.out
      have hnc25 := NB750_749.out
      have hcz26_0 := cz1 BK749
      have hfz26_0 := fz1 BK749
      go_wp2_with (first | ((with_reducible refine gate_callee (f := 57) rfl ?_); refine gL (some 21) rfl rfl Try.func57 (by kernel_rfl) rfl #[.agg #[.slice A0_0 l0_0.length c0_0]] rfl ?_; (with_reducible refine (impl_FileMap_cells.calls kj2 _ _ l0_0 t753 _ ?side1 ?side2 A18.out).mono ?_); (case side1 => exact cb HR0_0 HB); (case side2 => exact HC0_0.out); rintro e w27 ⟨v754, rfl, ho0, hb⟩; refine ⟨_, rfl, ?_⟩; have HO755 := Aside0.mk (Kd.R_lower ho0 (below_size (bs2 HB GE749 GE750))); replace BK749 := nb BK749 hb; replace BK750 := nb BK750 hb; replace HB := Aside0.mk (below_step (bs2 HB GE749 GE750) hb); (try clear hb); (try clear hb2); (try clear hk); (try clear hi); (try clear ho0); obtain ⟨Ao29, co29, eo29⟩ := Kd.R_slice HO755.out; subst eo29; have q28 : (a1 : Int) ≤ ((t753.length : Int) : Int) := of_decide_eq_true (by first | (with_reducible assumption) | assumption); obtain ⟨i028, hi028, _, hsz28, _⟩ := info_parts info78; have hroom28 : t753.length ≤ co29 := (Kd.R_reads' HO755.out).2.1; have hC28 : Kd.C k78 _ Ao29 t753.length t753 := (Kd.R_reads' HO755.out).2.2; have q028 : (0 : Int) ≤ (a1 : Int) := of_decide_eq_true (by first | (with_reducible assumption) | assumption); have hcut28 := cut_from (P := Try.prog) 79 78 .i64 Try.underlying79 hi028 3 hsz28 Ao29 t753.length co29 a1 q028 q28; have hr28 := Kd.C_drop (m := (a1 : Int).toNat) (c := co29) hC28 (by omega) hroom28; obtain ⟨A28, hA28⟩ : ∃ A1, A1 = (if co29 = (a1 : Int).toNat then Ao29 else (Ao29 : Option Addr).map (·.add ((a1 : Int).toNat * 3))) := ⟨_, rfl⟩; obtain ⟨c28, hc28⟩ : ∃ c1, c1 = co29 - (a1 : Int).toNat := ⟨_, rfl⟩; have hy28 : y756.length = t753.length - (a1 : Int).toNat := (by rw [Ny756.out, List.length_drop] <;> omega); rw [show (t753).drop (a1 : Int).toNat = y756 from Ny756.out.symm] at hr28; replace hr28 : Kd.C k78 _ A28 y756.length y756 := (by rw [hA28]; exact hr28); rw [← hy28, ← hA28, ← hc28] at hcut28; have HR759 := Aside0.mk hr28; have HC759 := Aside0.mk (show y756.length ≤ c28 from by rw [hy28, hc28]; exact Nat.sub_le_sub_right hroom28 _); clear hr28 hC28 hroom28 hi028 hsz28 hc28; have KY28 := Aside0.mk hy28; have KA28 := Aside0.mk hA28; clear hy28 hA28; have KL28 := Aside0.mk (show (a1 : Int).toNat ≤ t753.length from by omega); replace q28 := eq_true q28) | ((with_reducible refine gate_callee (f := 67) rfl ?_); refine gL (some 25) rfl rfl Try.func67 (by kernel_rfl) rfl #[.slice A28 y756.length c28] rfl ?_; (with_reducible refine (impl_blocksIn.calls kj2 _ _ y756 t760 _ ?side1 ?side2 A21.out).mono ?_); (case side1 => repeat (first | exact (by repeat (first | (with_reducible exact HR759.out) | (with_reducible refine Kd.C_alloc ?_ _) | (with_reducible refine Kd.C_drewN ?_ _) | (with_reducible refine Kd.C_drew ?_) | exact HR759.out)) | (with_reducible refine Kd.C_alloc ?_ _) | (with_reducible refine Kd.C_drewN ?_ _) | (with_reducible refine Kd.C_drew ?_))); (case side2 => exact HC759.out); rintro e w30 ⟨v761, rfl, ho0, hb⟩; refine ⟨_, rfl, ?_⟩; replace HO755 := nr HO755 hb; have HO762 := Aside0.mk (Kd.R_lower ho0 (below_size (bs2 HB GE749 GE750))); replace BK749 := nb BK749 hb; replace BK750 := nb BK750 hb; replace HR759 := Aside0.mk (Kd.C_below (by repeat (first | (with_reducible exact HR759.out) | (with_reducible refine Kd.C_alloc ?_ _) | (with_reducible refine Kd.C_drewN ?_ _) | (with_reducible refine Kd.C_drew ?_) | exact HR759.out)) hb); replace HB := Aside0.mk (below_step (bs2 HB GE749 GE750) hb); (try clear hb); (try clear hb2); (try clear hk); (try clear hi); (try clear ho0); have q31 : (a1 : Int) ≤ ((t753.length : Int) : Int) := of_decide_eq_true (by first | (with_reducible assumption) | assumption); obtain ⟨i031, hi031, _, hsz31, _⟩ := info_parts info78; have hroom31 : t753.length ≤ co29 := (Kd.R_reads' HO755.out).2.1; have hC31 : Kd.C k78 _ Ao29 t753.length t753 := (Kd.R_reads' HO755.out).2.2; have hcut31 := cut_to (P := Try.prog) 79 78 .i64 Try.underlying79 hi031 Ao29 t753.length co29 a1 (of_decide_eq_true (by first | (with_reducible assumption) | assumption)) q31 hroom31; have hr31 := Kd.C_take (m := (a1 : Int).toNat) hC31 (by omega); have hy31 : y763.length = (a1 : Int).toNat := (by rw [Ny763.out, List.length_take]; omega); rw [← Ny763.out] at hr31; rw [← hy31] at hcut31; have HR766 := Aside0.mk hr31; have HC766 := Aside0.mk (show y763.length ≤ co29 from by omega); clear hr31 hC31 hroom31 hi031 hsz31; have KY31 := Aside0.mk hy31; clear hy31; have KL31 := Aside0.mk (show (a1 : Int).toNat ≤ t753.length from by omega); replace q31 := eq_true q31) | ((with_reducible refine gate_callee (f := 64) rfl ?_); refine gL (some 30) rfl rfl Try.func64 (by kernel_rfl) rfl #[.slice Ao29 y763.length co29] rfl ?_; (with_reducible refine (impl_mapOf.calls kj2 _ _ y763 t767 t770 _ ?side1 ?side2 A24.out).mono ?_); (case side1 => repeat (first | exact (by repeat (first | (with_reducible exact HR766.out) | (with_reducible refine Kd.C_alloc ?_ _) | (with_reducible refine Kd.C_drewN ?_ _) | (with_reducible refine Kd.C_drew ?_) | exact HR766.out)) | (with_reducible refine Kd.C_alloc ?_ _) | (with_reducible refine Kd.C_drewN ?_ _) | (with_reducible refine Kd.C_drew ?_))); (case side2 => exact HC766.out); rintro e w32 ⟨v768, rfl, ho0, hb⟩; refine ⟨_, rfl, ?_⟩; replace HO755 := nr HO755 hb; replace HO762 := nr HO762 hb; have HO769 := Aside0.mk (Kd.R_lower ho0 (below_size (bs2 HB GE749 GE750))); replace BK749 := nb BK749 hb; replace BK750 := nb BK750 hb; replace HR759 := Aside0.mk (Kd.C_below (by repeat (first | (with_reducible exact HR759.out) | (with_reducible refine Kd.C_alloc ?_ _) | (with_reducible refine Kd.C_drewN ?_ _) | (with_reducible refine Kd.C_drew ?_) | exact HR759.out)) hb); replace HR766 := Aside0.mk (Kd.C_below (by repeat (first | (with_reducible exact HR766.out) | (with_reducible refine Kd.C_alloc ?_ _) | (with_reducible refine Kd.C_drewN ?_ _) | (with_reducible refine Kd.C_drew ?_) | exact HR766.out)) hb); replace HB := Aside0.mk (below_step (bs2 HB GE749 GE750) hb); (try clear hb); (try clear hb2); (try clear hk); (try clear hi); (try clear ho0)) | ((with_reducible refine gate_dst (N := 9) rfl ?_); refine box_event ?hg (N := 9) ?hd (cs := #[.slice none 0 0]) (t := 29) ?hr ?_; (case hd => rfl); (case hg => rfl); (case hr => first | (go_simp; done) | (go_simp; rfl)); intro gb771 hg w33 hbox hb; replace HO755 := nr HO755 hb; replace HO762 := nr HO762 hb; replace HO769 := nr HO769 hb; replace HR759 := Aside0.mk (Kd.C_below (by repeat (first | (with_reducible exact HR759.out) | (with_reducible refine Kd.C_alloc ?_ _) | (with_reducible refine Kd.C_drewN ?_ _) | (with_reducible refine Kd.C_drew ?_) | exact HR759.out)) hb); replace HR766 := Aside0.mk (Kd.C_below (by repeat (first | (with_reducible exact HR766.out) | (with_reducible refine Kd.C_alloc ?_ _) | (with_reducible refine Kd.C_drewN ?_ _) | (with_reducible refine Kd.C_drew ?_) | exact HR766.out)) hb); have BK771 := Aside0.mk (hbox); have GW771 := Aside0.mk ((by rw [hg]; exact (below_size (bs2 HB GE749 GE750)) : w.heap.size ≤ gb771)); have GE771 := Aside0.mk ((by rw [hg]; exact (below_size (bs2 HB GE749 GE750)) : w.heap.size ≤ gb771)); replace HB := Aside0.mk (below_step (bs2 HB GE749 GE750) hb); have NB749_771 := Aside0.mk ((bn BK749 hg : gb749 ≠ gb771)); have NB771_749 := Aside0.mk ((bm BK749 hg : gb771 ≠ gb749)); replace BK749 := nb BK749 hb; have NB750_771 := Aside0.mk ((bn BK750 hg : gb750 ≠ gb771)); have NB771_750 := Aside0.mk ((bm BK750 hg : gb771 ≠ gb750)); replace BK750 := nb BK750 hb; clear hb hbox hg; obtain ⟨Ao34, co34, eo34⟩ := Kd.R_slice HO769.out; subst eo34; have hnb35 := NB771_749.out; have hnc35 := NB749_771.out; have hnb36 := NB771_750.out; have hnc36 := NB750_771.out; have hcz37_0 := cz1 BK771; have hfz37_0 := fz1 BK771; have hcz38_0 := cz1 BK750; have hfz38_0 := fz1 BK750))
      refine bodyPost_ret (results_ctt rfl _ _ gb750 29 #[.slice Ao34 t767.length co34] (0, 0) _ rfl (by (with_reducible repeat (first | refine blk_drewN ?_ _ | refine blk_drew ?_ | refine blk_alloc ?_ _)); refine blk_put (cs := #[.slice none 0 0]) ?_ 0 _ rfl; (with_reducible repeat (first | refine blk_drewN ?_ _ | refine blk_drew ?_ | refine blk_alloc ?_ _)); refine blk_far ?_ NB750_771.out _; (with_reducible repeat (first | refine blk_drewN ?_ _ | refine blk_drew ?_ | refine blk_alloc ?_ _)); exact BK750.out) Try.underlying29 rfl (by kernel_rfl)) rfl ?_
      exact ⟨_, _, by first | rfl | (simp [errW_none, errW_some] <;> rfl) | (simp [*, errW_none, errW_some] <;> rfl), by (with_reducible repeat (first | apply Kd.R_alloc | apply Kd.R_drewN | apply Kd.R_drew)); exact Kd.R_mono (Kd.R_far (p := ⟨gb750, 0, none⟩) (Kd.R_far (p := ⟨gb771, 0, none⟩) (Kd.R_types (Kd.R_types HO769.out BK771.out (by decide)) BK750.out (by decide)) (fun _ hk => hk.1.2) (.slice Ao34 t767.length co34)) (fun _ hk => hk.2) (.slice Ao34 t767.length co34)) (fun _ hk => trivial), by (with_reducible repeat (first | apply Kd.R_alloc | apply Kd.R_drewN | apply Kd.R_drew)); exact Kd.R_mono (Kd.R_far (p := ⟨gb750, 0, none⟩) (Kd.R_far (p := ⟨gb771, 0, none⟩) (Kd.R_types (Kd.R_types HO762.out BK771.out (by decide)) BK750.out (by decide)) (fun _ hk => hk.1.2) (.slice Ao34 t767.length co34)) (fun _ hk => hk.2) (.slice Ao34 t767.length co34)) (fun _ hk => trivial), bs3 HB GE749 GE750 GE771⟩
     ·
      rw [if_neg c20] at H
      exact absurd H (by simp)
    ·
     rw [if_neg c19] at H
     exact absurd H (by simp)

/-! ### laws_FnExactTruncateMap: function 10 -/
mutual
def laws_FnExactTruncateMap.j0 : Nat → Int → List (S61) → Bool → List (S61) → Bool → Bool → List (S45) → List (S48) → List (S48) → List (S48) → Option (Bool)
 | 0, _, _, _, _, _, _, _, _, _, _ => none
 | k + 1, x1, x7, x8, x11, x12, x55, x773000, x785000, x789000, x797000 => if x55 = true then (some false) else ((laws_toFileMap.f k x773000).bind fun t799 => ((laws_eqFileMap.f k x789000 t799).bind fun t802 => (if t802 = true then ((laws_markFileMap.f k x789000 1).bind fun bt803 => (if bt803.1 < 0 then (laws_FnExactTruncateMap.j1 k x1 x7 x8 x11 true x773000 x785000 x797000) else ((laws_eqFileMap.f k x797000 x785000).bind fun t805 => (if t805 = true then ((laws_eqExtentS.f k x11 x7).bind fun t806 => (if t806 = true then (laws_FnExactTruncateMap.j1 k x1 x7 x8 x11 (x12 != x8) x773000 x785000 x797000) else (laws_FnExactTruncateMap.j1 k x1 x7 x8 x11 true x773000 x785000 x797000))) else (laws_FnExactTruncateMap.j1 k x1 x7 x8 x11 true x773000 x785000 x797000))))) else (some false))))
def laws_FnExactTruncateMap.j1 : Nat → Int → List (S61) → Bool → List (S61) → Bool → List (S45) → List (S48) → List (S48) → Option (Bool)
 | 0, _, _, _, _, _, _, _, _ => none
 | k + 1, x1, x7, x8, x11, x82, x773000, x785000, x797000 => if x82 = true then (some false) else ((laws_markFileMap.f k x797000 1).bind fun bt807 => ((laws_markExtentS.f k x11 bt807.1).bind fun bt809 => ((laws_heldFileMap.f k bt807.2 1).bind fun t811 => (if t811 < 0 then (some false) else ((laws_heldExtentS.f k bt809.2 t811).bind fun t812 => (if t812 < 0 then (some false) else (if t812 = bt809.1 then ((laws_toFileMap.f k x773000).bind fun t813 => ((impl_TruncateMap.f k t813 x1).bind fun bt816 => ((laws_eqFileMap.f k bt816.1 x785000).bind fun t824 => (if t824 = true then ((laws_eqExtentS.f k bt816.2.1 x7).bind fun t825 => (if t825 = true then (laws_FnExactTruncateMap.j2 k bt809.2 bt809.1 (bt816.2.2 != x8) bt807.2) else (laws_FnExactTruncateMap.j2 k bt809.2 bt809.1 true bt807.2))) else (laws_FnExactTruncateMap.j2 k bt809.2 bt809.1 true bt807.2))))) else (some false))))))))
def laws_FnExactTruncateMap.j2 : Nat → List (S61) → Int → Bool → List (S48) → Option (Bool)
 | 0, _, _, _, _ => none
 | k + 1, x11, x14, x124, x797000 => if x124 = true then (some false) else ((laws_heldFileMap.f k x797000 1).bind fun t826 => (if t826 < 0 then (some false) else ((laws_heldExtentS.f k x11 t826).bind fun t827 => (if t827 < 0 then (some false) else (if t827 = x14 then (some true) else (some false))))))
end
def laws_FnExactTruncateMap.f (k : Nat) (l0_0 : List (S45)) (a1 : Int) : Option (Bool) := (laws_szFileMap.f l0_0 1048576).bind fun t773 => (if t773 < 0 then (some true) else ((laws_toFileMap.f k l0_0).bind fun t774 => ((spec_TruncateMap.f k t774 a1).bind fun bt777 => ((laws_toFileMap.f k l0_0).bind fun t785 => ((impl_TruncateMap.f k t785 a1).bind fun bt789 => ((laws_eqFileMap.f k bt789.1 bt777.1).bind fun t797 => (if t797 = true then ((laws_eqExtentS.f k bt789.2.1 bt777.2.1).bind fun t798 => (if t798 = true then (laws_FnExactTruncateMap.j0 k a1 bt777.2.1 bt777.2.2 bt789.2.1 bt789.2.2 (bt789.2.2 != bt777.2.2) l0_0 bt777.1 t785 bt789.1) else (laws_FnExactTruncateMap.j0 k a1 bt777.2.1 bt777.2.2 bt789.2.1 bt789.2.2 true l0_0 bt777.1 t785 bt789.1))) else (laws_FnExactTruncateMap.j0 k a1 bt777.2.1 bt777.2.2 bt789.2.1 bt789.2.2 true l0_0 bt777.1 t785 bt789.1))))))))
theorem laws_FnExactTruncateMap.mono_l : ∀ k, (∀ y0 y1 y2 y3 y4 y5 y6 y7 y8 y9, LeO (laws_FnExactTruncateMap.j0 k y0 y1 y2 y3 y4 y5 y6 y7 y8 y9) (laws_FnExactTruncateMap.j0 (k + 1) y0 y1 y2 y3 y4 y5 y6 y7 y8 y9)) ∧ (∀ y0 y1 y2 y3 y4 y5 y6 y7, LeO (laws_FnExactTruncateMap.j1 k y0 y1 y2 y3 y4 y5 y6 y7) (laws_FnExactTruncateMap.j1 (k + 1) y0 y1 y2 y3 y4 y5 y6 y7)) ∧ (∀ y0 y1 y2 y3, LeO (laws_FnExactTruncateMap.j2 k y0 y1 y2 y3) (laws_FnExactTruncateMap.j2 (k + 1) y0 y1 y2 y3))
 | 0 => ⟨fun _ _ _ _ _ _ _ _ _ _ r h => by simp [laws_FnExactTruncateMap.j0] at h, fun _ _ _ _ _ _ _ _ r h => by simp [laws_FnExactTruncateMap.j1] at h, fun _ _ _ _ r h => by simp [laws_FnExactTruncateMap.j2] at h⟩
 | k + 1 => by
  obtain ⟨ih0, ih1, ih2⟩ := laws_FnExactTruncateMap.mono_l k
  refine ⟨?_, ?_, ?_⟩
  ·
   intro y0 y1 y2 y3 y4 y5 y6 y7 y8 y9
   unfold laws_FnExactTruncateMap.j0
   repeat' first
   | (with_reducible exact ih0 _ _ _ _ _ _ _ _ _ _)
   | (with_reducible exact ih1 _ _ _ _ _ _ _ _)
   | (with_reducible exact ih2 _ _ _ _)
   | (with_reducible exact impl_TruncateMap.mono _ _ _)
   | (with_reducible exact laws_eqExtentS.mono _ _ _)
   | (with_reducible exact laws_eqFileMap.mono _ _ _)
   | (with_reducible exact laws_heldExtentS.mono _ _ _)
   | (with_reducible exact laws_heldFileMap.mono _ _ _)
   | (with_reducible exact laws_markExtentS.mono _ _ _)
   | (with_reducible exact laws_markFileMap.mono _ _ _)
   | (with_reducible exact laws_toFileMap.mono _ _)
   | (with_reducible exact spec_TruncateMap.mono _ _ _)
   | (with_reducible exact LeO.refl _)
   | (with_reducible exact LeO.none _)
   | (with_reducible refine LeO.ite ?_ ?_)
   | (with_reducible refine LeO.bind ?_ (fun _ => ?_))
   | exact ih0 _ _ _ _ _ _ _ _ _ _
   | exact ih1 _ _ _ _ _ _ _ _
   | exact ih2 _ _ _ _
   | exact impl_TruncateMap.mono _ _ _
   | exact laws_eqExtentS.mono _ _ _
   | exact laws_eqFileMap.mono _ _ _
   | exact laws_heldExtentS.mono _ _ _
   | exact laws_heldFileMap.mono _ _ _
   | exact laws_markExtentS.mono _ _ _
   | exact laws_markFileMap.mono _ _ _
   | exact laws_toFileMap.mono _ _
   | exact spec_TruncateMap.mono _ _ _
   | exact LeO.none _
   | refine LeO.ite ?_ ?_
   | refine LeO.bind ?_ (fun _ => ?_)
  ·
   intro y0 y1 y2 y3 y4 y5 y6 y7
   unfold laws_FnExactTruncateMap.j1
   repeat' first
   | (with_reducible exact ih0 _ _ _ _ _ _ _ _ _ _)
   | (with_reducible exact ih1 _ _ _ _ _ _ _ _)
   | (with_reducible exact ih2 _ _ _ _)
   | (with_reducible exact impl_TruncateMap.mono _ _ _)
   | (with_reducible exact laws_eqExtentS.mono _ _ _)
   | (with_reducible exact laws_eqFileMap.mono _ _ _)
   | (with_reducible exact laws_heldExtentS.mono _ _ _)
   | (with_reducible exact laws_heldFileMap.mono _ _ _)
   | (with_reducible exact laws_markExtentS.mono _ _ _)
   | (with_reducible exact laws_markFileMap.mono _ _ _)
   | (with_reducible exact laws_toFileMap.mono _ _)
   | (with_reducible exact spec_TruncateMap.mono _ _ _)
   | (with_reducible exact LeO.refl _)
   | (with_reducible exact LeO.none _)
   | (with_reducible refine LeO.ite ?_ ?_)
   | (with_reducible refine LeO.bind ?_ (fun _ => ?_))
   | exact ih0 _ _ _ _ _ _ _ _ _ _
   | exact ih1 _ _ _ _ _ _ _ _
   | exact ih2 _ _ _ _
   | exact impl_TruncateMap.mono _ _ _
   | exact laws_eqExtentS.mono _ _ _
   | exact laws_eqFileMap.mono _ _ _
   | exact laws_heldExtentS.mono _ _ _
   | exact laws_heldFileMap.mono _ _ _
   | exact laws_markExtentS.mono _ _ _
   | exact laws_markFileMap.mono _ _ _
   | exact laws_toFileMap.mono _ _
   | exact spec_TruncateMap.mono _ _ _
   | exact LeO.none _
   | refine LeO.ite ?_ ?_
   | refine LeO.bind ?_ (fun _ => ?_)
  ·
   intro y0 y1 y2 y3
   unfold laws_FnExactTruncateMap.j2
   repeat' first
   | (with_reducible exact ih0 _ _ _ _ _ _ _ _ _ _)
   | (with_reducible exact ih1 _ _ _ _ _ _ _ _)
   | (with_reducible exact ih2 _ _ _ _)
   | (with_reducible exact impl_TruncateMap.mono _ _ _)
   | (with_reducible exact laws_eqExtentS.mono _ _ _)
   | (with_reducible exact laws_eqFileMap.mono _ _ _)
   | (with_reducible exact laws_heldExtentS.mono _ _ _)
   | (with_reducible exact laws_heldFileMap.mono _ _ _)
   | (with_reducible exact laws_markExtentS.mono _ _ _)
   | (with_reducible exact laws_markFileMap.mono _ _ _)
   | (with_reducible exact laws_toFileMap.mono _ _)
   | (with_reducible exact spec_TruncateMap.mono _ _ _)
   | (with_reducible exact LeO.refl _)
   | (with_reducible exact LeO.none _)
   | (with_reducible refine LeO.ite ?_ ?_)
   | (with_reducible refine LeO.bind ?_ (fun _ => ?_))
   | exact ih0 _ _ _ _ _ _ _ _ _ _
   | exact ih1 _ _ _ _ _ _ _ _
   | exact ih2 _ _ _ _
   | exact impl_TruncateMap.mono _ _ _
   | exact laws_eqExtentS.mono _ _ _
   | exact laws_eqFileMap.mono _ _ _
   | exact laws_heldExtentS.mono _ _ _
   | exact laws_heldFileMap.mono _ _ _
   | exact laws_markExtentS.mono _ _ _
   | exact laws_markFileMap.mono _ _ _
   | exact laws_toFileMap.mono _ _
   | exact spec_TruncateMap.mono _ _ _
   | exact LeO.none _
   | refine LeO.ite ?_ ?_
   | refine LeO.bind ?_ (fun _ => ?_)
theorem laws_FnExactTruncateMap.mono : ∀ a0 a1 k, LeO (laws_FnExactTruncateMap.f k a0 a1) (laws_FnExactTruncateMap.f (k + 1) a0 a1) := by
 intro a0 a1 k
 obtain ⟨ih0, ih1, ih2⟩ := laws_FnExactTruncateMap.mono_l k
 unfold laws_FnExactTruncateMap.f
 repeat' first
   | (with_reducible exact ih0 _ _ _ _ _ _ _ _ _ _)
   | (with_reducible exact ih1 _ _ _ _ _ _ _ _)
   | (with_reducible exact ih2 _ _ _ _)
   | (with_reducible exact impl_TruncateMap.mono _ _ _)
   | (with_reducible exact laws_eqExtentS.mono _ _ _)
   | (with_reducible exact laws_eqFileMap.mono _ _ _)
   | (with_reducible exact laws_heldExtentS.mono _ _ _)
   | (with_reducible exact laws_heldFileMap.mono _ _ _)
   | (with_reducible exact laws_markExtentS.mono _ _ _)
   | (with_reducible exact laws_markFileMap.mono _ _ _)
   | (with_reducible exact laws_toFileMap.mono _ _)
   | (with_reducible exact spec_TruncateMap.mono _ _ _)
   | (with_reducible exact LeO.refl _)
   | (with_reducible exact LeO.none _)
   | (with_reducible refine LeO.ite ?_ ?_)
   | (with_reducible refine LeO.bind ?_ (fun _ => ?_))
   | exact ih0 _ _ _ _ _ _ _ _ _ _
   | exact ih1 _ _ _ _ _ _ _ _
   | exact ih2 _ _ _ _
   | exact impl_TruncateMap.mono _ _ _
   | exact laws_eqExtentS.mono _ _ _
   | exact laws_eqFileMap.mono _ _ _
   | exact laws_heldExtentS.mono _ _ _
   | exact laws_heldFileMap.mono _ _ _
   | exact laws_markExtentS.mono _ _ _
   | exact laws_markFileMap.mono _ _ _
   | exact laws_toFileMap.mono _ _
   | exact spec_TruncateMap.mono _ _ _
   | exact LeO.none _
   | refine LeO.ite ?_ ?_
   | refine LeO.bind ?_ (fun _ => ?_)
set_option maxHeartbeats 8000000 in
set_option maxRecDepth 100000 in
theorem laws_FnExactTruncateMap.calls (k : Nat) (A0_0 : Option Addr) (c0_0 : Nat) (l0_0 : List (S45)) (a1 : Int) (r : Bool) (w : World) (hr0_0 : Kd.C k45 w A0_0 l0_0.length l0_0) (hc0_0 : l0_0.length ≤ c0_0) (h : laws_FnExactTruncateMap.f k l0_0 a1 = some r) :
  Calls Try.prog 10 #[.agg #[.slice A0_0 l0_0.length c0_0], .int .i64 a1] w fun e w' => e = .returned (.bool r) ∧ Below w.heap.size w w' := by
 have hu24 := Try.underlying24
 have hu29 := Try.underlying29
 have HR0_0 := Aside0.mk hr0_0
 have HC0_0 := Aside0.mk hc0_0
 clear hr0_0 hc0_0
 have HB := Aside0.mk (Below.refl w.heap.size w)
 have H : ((laws_szFileMap.f l0_0 1048576).bind fun t773 => (if t773 < 0 then (some true) else ((laws_toFileMap.f k l0_0).bind fun t774 => ((spec_TruncateMap.f k t774 a1).bind fun bt777 => ((laws_toFileMap.f k l0_0).bind fun t785 => ((impl_TruncateMap.f k t785 a1).bind fun bt789 => ((laws_eqFileMap.f k bt789.1 bt777.1).bind fun t797 => (if t797 = true then ((laws_eqExtentS.f k bt789.2.1 bt777.2.1).bind fun t798 => (if t798 = true then (laws_FnExactTruncateMap.j0 k a1 bt777.2.1 bt777.2.2 bt789.2.1 bt789.2.2 (bt789.2.2 != bt777.2.2) l0_0 bt777.1 t785 bt789.1) else (laws_FnExactTruncateMap.j0 k a1 bt777.2.1 bt777.2.2 bt789.2.1 bt789.2.2 true l0_0 bt777.1 t785 bt789.1))) else (laws_FnExactTruncateMap.j0 k a1 bt777.2.1 bt777.2.2 bt789.2.1 bt789.2.2 true l0_0 bt777.1 t785 bt789.1))))))))) = some r := h
 clear h
 replace H := Option.bind_eq_some_iff.mp H
 obtain ⟨t773, A30, H⟩ := H
 replace H : (if t773 < 0 then (some true) else ((laws_toFileMap.f k l0_0).bind fun t774 => ((spec_TruncateMap.f k t774 a1).bind fun bt777 => ((laws_toFileMap.f k l0_0).bind fun t785 => ((impl_TruncateMap.f k t785 a1).bind fun bt789 => ((laws_eqFileMap.f k bt789.1 bt777.1).bind fun t797 => (if t797 = true then ((laws_eqExtentS.f k bt789.2.1 bt777.2.1).bind fun t798 => (if t798 = true then (laws_FnExactTruncateMap.j0 k a1 bt777.2.1 bt777.2.2 bt789.2.1 bt789.2.2 (bt789.2.2 != bt777.2.2) l0_0 bt777.1 t785 bt789.1) else (laws_FnExactTruncateMap.j0 k a1 bt777.2.1 bt777.2.2 bt789.2.1 bt789.2.2 true l0_0 bt777.1 t785 bt789.1))) else (laws_FnExactTruncateMap.j0 k a1 bt777.2.1 bt777.2.2 bt789.2.1 bt789.2.2 true l0_0 bt777.1 t785 bt789.1)))))))) = some r := H
 have A3 := Aside0.mk A30
 clear A30
 by_cases c4 : t773 < 0
 ·
  rw [if_pos c4] at H
  have c4b0 : decide (t773 < 0) = true := decide_eq_true c4
  clear c4
  obtain rfl := Option.some.inj H
  go_enter Try.func10, Try.ntmps10
  go_wp2_with (first | ((with_reducible refine gate_dst (N := 2) rfl ?_); refine box_event ?hg (N := 2) ?hd (cs := #[.slice A0_0 l0_0.length c0_0]) (t := 24) ?hr ?_; (case hd => rfl); (case hg => rfl); (case hr => first | (go_simp; done) | (go_simp; rfl)); intro gb772 hg w5 hbox hb; have BK772 := Aside0.mk (hbox); have GW772 := Aside0.mk ((by rw [hg]; exact (below_size (bs HB)) : w.heap.size ≤ gb772)); have GE772 := Aside0.mk ((by rw [hg]; exact (below_size (bs HB)) : w.heap.size ≤ gb772)); replace HB := Aside0.mk (below_step (bs HB) hb); clear hb hbox hg; have hcz6_0 := cz1 BK772; have hfz6_0 := fz1 BK772) | ((with_reducible refine gate_callee (f := 14) rfl ?_); refine gL (some 21) rfl rfl Try.func14 (by kernel_rfl) rfl #[.agg #[.slice A0_0 l0_0.length c0_0], .int .i64 1048576] rfl ?_; (with_reducible refine (laws_szFileMap.calls _ _ l0_0 1048576 t773 _ ?side1 ?side2 A3.out).mono ?_); (case side1 => exact cb HR0_0 HB); (case side2 => exact HC0_0.out); rintro e w7 ⟨rfl, hb⟩; refine ⟨_, rfl, ?_⟩; replace BK772 := nb BK772 hb; replace HB := Aside0.mk (below_step (bs1 HB GE772) hb); (try clear hb); (try clear hb2); (try clear hk); (try clear hi)))
  go_ret
  exact ⟨by first | rfl | (simp [errW_none, errW_some] <;> rfl) | (simp [*, errW_none, errW_some] <;> rfl), bs1 HB GE772⟩
 ·
  rw [if_neg c4] at H
  have c4b0 : decide (t773 < 0) = false := decide_eq_false c4
  clear c4
  replace H := Option.bind_eq_some_iff.mp H
  obtain ⟨t774, A80, H⟩ := H
  replace H : ((spec_TruncateMap.f k t774 a1).bind fun bt777 => ((laws_toFileMap.f k l0_0).bind fun t785 => ((impl_TruncateMap.f k t785 a1).bind fun bt789 => ((laws_eqFileMap.f k bt789.1 bt777.1).bind fun t797 => (if t797 = true then ((laws_eqExtentS.f k bt789.2.1 bt777.2.1).bind fun t798 => (if t798 = true then (laws_FnExactTruncateMap.j0 k a1 bt777.2.1 bt777.2.2 bt789.2.1 bt789.2.2 (bt789.2.2 != bt777.2.2) l0_0 bt777.1 t785 bt789.1) else (laws_FnExactTruncateMap.j0 k a1 bt777.2.1 bt777.2.2 bt789.2.1 bt789.2.2 true l0_0 bt777.1 t785 bt789.1))) else (laws_FnExactTruncateMap.j0 k a1 bt777.2.1 bt777.2.2 bt789.2.1 bt789.2.2 true l0_0 bt777.1 t785 bt789.1)))))) = some r := H
  have A8 := Aside0.mk A80
  clear A80
  replace H := Option.bind_eq_some_iff.mp H
  obtain ⟨⟨t777, t780, t783⟩, A90, H⟩ := H
  replace H : ((laws_toFileMap.f k l0_0).bind fun t785 => ((impl_TruncateMap.f k t785 a1).bind fun bt789 => ((laws_eqFileMap.f k bt789.1 t777).bind fun t797 => (if t797 = true then ((laws_eqExtentS.f k bt789.2.1 t780).bind fun t798 => (if t798 = true then (laws_FnExactTruncateMap.j0 k a1 t780 t783 bt789.2.1 bt789.2.2 (bt789.2.2 != t783) l0_0 t777 t785 bt789.1) else (laws_FnExactTruncateMap.j0 k a1 t780 t783 bt789.2.1 bt789.2.2 true l0_0 t777 t785 bt789.1))) else (laws_FnExactTruncateMap.j0 k a1 t780 t783 bt789.2.1 bt789.2.2 true l0_0 t777 t785 bt789.1))))) = some r := H
  have A9 := Aside0.mk A90
  clear A90
  replace H := Option.bind_eq_some_iff.mp H
  obtain ⟨t785, A100, H⟩ := H
  replace H : ((impl_TruncateMap.f k t785 a1).bind fun bt789 => ((laws_eqFileMap.f k bt789.1 t777).bind fun t797 => (if t797 = true then ((laws_eqExtentS.f k bt789.2.1 t780).bind fun t798 => (if t798 = true then (laws_FnExactTruncateMap.j0 k a1 t780 t783 bt789.2.1 bt789.2.2 (bt789.2.2 != t783) l0_0 t777 t785 bt789.1) else (laws_FnExactTruncateMap.j0 k a1 t780 t783 bt789.2.1 bt789.2.2 true l0_0 t777 t785 bt789.1))) else (laws_FnExactTruncateMap.j0 k a1 t780 t783 bt789.2.1 bt789.2.2 true l0_0 t777 t785 bt789.1)))) = some r := H
  have A10 := Aside0.mk A100
  clear A100
  replace H := Option.bind_eq_some_iff.mp H
  obtain ⟨⟨t789, t792, t795⟩, A110, H⟩ := H
  replace H : ((laws_eqFileMap.f k t789 t777).bind fun t797 => (if t797 = true then ((laws_eqExtentS.f k t792 t780).bind fun t798 => (if t798 = true then (laws_FnExactTruncateMap.j0 k a1 t780 t783 t792 t795 (t795 != t783) l0_0 t777 t785 t789) else (laws_FnExactTruncateMap.j0 k a1 t780 t783 t792 t795 true l0_0 t777 t785 t789))) else (laws_FnExactTruncateMap.j0 k a1 t780 t783 t792 t795 true l0_0 t777 t785 t789))) = some r := H
  have A11 := Aside0.mk A110
  clear A110
  have HC12 := Aside0.mk H
  clear H
  go_enter Try.func10, Try.ntmps10
  go_upto_region 8 with (first | ((with_reducible refine gate_dst (N := 2) rfl ?_); refine box_event ?hg (N := 2) ?hd (cs := #[.slice A0_0 l0_0.length c0_0]) (t := 24) ?hr ?_; (case hd => rfl); (case hg => rfl); (case hr => first | (go_simp; done) | (go_simp; rfl)); intro gb772 hg w13 hbox hb; have BK772 := Aside0.mk (hbox); have GW772 := Aside0.mk ((by rw [hg]; exact (below_size (bs HB)) : w.heap.size ≤ gb772)); have GE772 := Aside0.mk ((by rw [hg]; exact (below_size (bs HB)) : w.heap.size ≤ gb772)); replace HB := Aside0.mk (below_step (bs HB) hb); clear hb hbox hg; have hcz14_0 := cz1 BK772; have hfz14_0 := fz1 BK772) | ((with_reducible refine gate_callee (f := 14) rfl ?_); refine gL (some 21) rfl rfl Try.func14 (by kernel_rfl) rfl #[.agg #[.slice A0_0 l0_0.length c0_0], .int .i64 1048576] rfl ?_; (with_reducible refine (laws_szFileMap.calls _ _ l0_0 1048576 t773 _ ?side1 ?side2 A3.out).mono ?_); (case side1 => exact cb HR0_0 HB); (case side2 => exact HC0_0.out); rintro e w15 ⟨rfl, hb⟩; refine ⟨_, rfl, ?_⟩; replace BK772 := nb BK772 hb; replace HB := Aside0.mk (below_step (bs1 HB GE772) hb); (try clear hb); (try clear hb2); (try clear hk); (try clear hi); have hcz16_0 := cz1 BK772; have hfz16_0 := fz1 BK772) | ((with_reducible refine gate_callee (f := 16) rfl ?_); refine gL (some 26) rfl rfl Try.func16 (by kernel_rfl) rfl #[.agg #[.slice A0_0 l0_0.length c0_0]] rfl ?_; (with_reducible refine (laws_toFileMap.calls k _ _ l0_0 t774 _ ?side1 ?side2 A8.out).mono ?_); (case side1 => exact cb HR0_0 HB); (case side2 => exact HC0_0.out); rintro e w17 ⟨v775, rfl, ho0, hb⟩; refine ⟨_, rfl, ?_⟩; have HO776 := Aside0.mk (Kd.R_lower ho0 (below_size (bs1 HB GE772))); replace BK772 := nb BK772 hb; replace HB := Aside0.mk (below_step (bs1 HB GE772) hb); (try clear hb); (try clear hb2); (try clear hk); (try clear hi); (try clear ho0); obtain ⟨Ao18, co18, eo18⟩ := Kd.R_slice HO776.out; subst eo18) | ((with_reducible refine gate_callee (f := 37) rfl ?_); refine gL (some 28) rfl rfl Try.func37 (by kernel_rfl) rfl #[.agg #[.slice Ao18 t774.length co18], .int .i64 a1] rfl ?_; (with_reducible refine (spec_TruncateMap.calls k _ _ t774 a1 t777 t780 t783 _ ?side1 ?side2 A9.out).mono ?_); (case side1 => exact rc0 HO776); (case side2 => exact (Kd.R_reads' HO776.out).2.1); rintro e w19 ⟨v778, v781, rfl, ho0, ho1, hb⟩; refine ⟨_, rfl, ?_⟩; have HO779 := Aside0.mk (Kd.R_lower (Kd.R_new' ho0 (Kd.R_lt (rr HO776.out))) (below_size (bs1 HB GE772))); replace HO776 := Aside0.mk (Kd.R_elder' (rr HO776.out) (Kd.R_base ho0) hb); have HO782 := Aside0.mk (Kd.R_lower ho1 (below_size (bs1 HB GE772))); replace BK772 := nb BK772 hb; replace HB := Aside0.mk (below_step (bs1 HB GE772) hb); (try clear hb); (try clear hb2); (try clear hk); (try clear hi); (try clear ho0); (try clear ho1)) | ((with_reducible refine gate_dst (N := 6) rfl ?_); refine box_event ?hg (N := 6) ?hd (cs := #[.slice none 0 0]) (t := 29) ?hr ?_; (case hd => rfl); (case hg => rfl); (case hr => first | (go_simp; done) | (go_simp; rfl)); intro gb784 hg w20 hbox hb; replace HO776 := nr HO776 hb; replace HO779 := nr HO779 hb; replace HO782 := nr HO782 hb; have BK784 := Aside0.mk (hbox); have GW784 := Aside0.mk ((by rw [hg]; exact (below_size (bs1 HB GE772)) : w.heap.size ≤ gb784)); have GE784 := Aside0.mk ((by rw [hg]; exact (below_size (bs1 HB GE772)) : w.heap.size ≤ gb784)); replace HB := Aside0.mk (below_step (bs1 HB GE772) hb); have NB772_784 := Aside0.mk ((bn BK772 hg : gb772 ≠ gb784)); have NB784_772 := Aside0.mk ((bm BK772 hg : gb784 ≠ gb772)); replace BK772 := nb BK772 hb; clear hb hbox hg; obtain ⟨Ao21, co21, eo21⟩ := Kd.R_slice HO779.out; subst eo21; have hnb22 := NB784_772.out; have hnc22 := NB772_784.out; have hcz23_0 := cz1 BK784; have hfz23_0 := fz1 BK784; have hcz24_0 := cz1 BK772; have hfz24_0 := fz1 BK772) | ((with_reducible refine gate_callee (f := 16) rfl ?_); refine gL (some 33) rfl rfl Try.func16 (by kernel_rfl) rfl #[.agg #[.slice A0_0 l0_0.length c0_0]] rfl ?_; (with_reducible refine (laws_toFileMap.calls k _ _ l0_0 t785 _ ?side1 ?side2 A10.out).mono ?_); (case side1 => exact Kd.C_below HR0_0.out (bs2 HB GE772 GE784)); (case side2 => exact HC0_0.out); rintro e w25 ⟨v786, rfl, ho0, hb⟩; refine ⟨_, rfl, ?_⟩; replace HO782 := nf HO782 BK784 hb; have HO787 := Aside0.mk (Kd.R_lower (Kd.R_new' (Kd.R_new' ho0 (Kd.R_lt (rf HO776 BK784))) (Kd.R_lt (rf HO779 BK784))) (below_size (bs2 HB GE772 GE784))); replace HO776 := Aside0.mk (Kd.R_elder' (rf HO776 BK784) (Kd.R_base ho0) hb); replace HO779 := Aside0.mk (Kd.R_elder' (rf HO779 BK784) (Kd.R_base ho0) hb); replace BK772 := Aside0.mk (blk_below (bf BK772 NB772_784) hb); replace BK784 := Aside0.mk (blk_below (g := gb784) (o := .cells #[.slice Ao21 t777.length co21] 29 (0, 0)) (by (with_reducible repeat (first | refine blk_drewN ?_ _ | refine blk_drew ?_ | refine blk_alloc ?_ _)); refine blk_put (cs := #[.slice none 0 0]) ?_ 0 _ rfl; (with_reducible repeat (first | refine blk_drewN ?_ _ | refine blk_drew ?_ | refine blk_alloc ?_ _)); exact BK784.out) hb); replace HB := Aside0.mk (below_step (bs2 HB GE772 GE784) hb); (try clear hb); (try clear hb2); (try clear hk); (try clear hi); (try clear ho0)) | ((with_reducible refine gate_dst (N := 9) rfl ?_); refine box_event ?hg (N := 9) ?hd (cs := #[.slice none 0 0]) (t := 29) ?hr ?_; (case hd => rfl); (case hg => rfl); (case hr => first | (go_simp; done) | (go_simp; rfl)); intro gb788 hg w26 hbox hb; replace HO776 := nr HO776 hb; replace HO779 := nr HO779 hb; replace HO782 := nr HO782 hb; replace HO787 := nr HO787 hb; have BK788 := Aside0.mk (hbox); have GW788 := Aside0.mk ((by rw [hg]; exact (below_size (bs2 HB GE772 GE784)) : w.heap.size ≤ gb788)); have GE788 := Aside0.mk ((by rw [hg]; exact (below_size (bs2 HB GE772 GE784)) : w.heap.size ≤ gb788)); replace HB := Aside0.mk (below_step (bs2 HB GE772 GE784) hb); have NB772_788 := Aside0.mk ((bn BK772 hg : gb772 ≠ gb788)); have NB788_772 := Aside0.mk ((bm BK772 hg : gb788 ≠ gb772)); replace BK772 := nb BK772 hb; have NB784_788 := Aside0.mk ((bn BK784 hg : gb784 ≠ gb788)); have NB788_784 := Aside0.mk ((bm BK784 hg : gb788 ≠ gb784)); replace BK784 := nb BK784 hb; clear hb hbox hg; obtain ⟨Ao27, co27, eo27⟩ := Kd.R_slice HO787.out; subst eo27; have hnb28 := NB788_772.out; have hnc28 := NB772_788.out; have hnb29 := NB788_784.out; have hnc29 := NB784_788.out; have hcz30_0 := cz1 BK788; have hfz30_0 := fz1 BK788) | ((with_reducible refine gate_callee (f := 38) rfl ?_); refine gL (some 37) rfl rfl Try.func38 (by kernel_rfl) rfl #[.agg #[.slice Ao27 t785.length co27], .int .i64 a1] rfl ?_; (with_reducible refine (impl_TruncateMap.calls k _ _ t785 a1 t789 t792 t795 _ ?side1 ?side2 A11.out).mono ?_); (case side1 => exact rc HO787 BK788); (case side2 => exact (Kd.R_reads' HO787.out).2.1); rintro e w31 ⟨v790, v793, rfl, ho0, ho1, hb⟩; refine ⟨_, rfl, ?_⟩; have HO791 := Aside0.mk (Kd.R_lower (Kd.R_new' (Kd.R_new' (Kd.R_new' ho0 (Kd.R_lt (rf HO776 BK788))) (Kd.R_lt (rf HO779 BK788))) (Kd.R_lt (rf HO787 BK788))) (below_size (bs3 HB GE772 GE784 GE788))); replace HO776 := Aside0.mk (Kd.R_elder' (rf HO776 BK788) (Kd.R_base ho0) hb); replace HO779 := Aside0.mk (Kd.R_elder' (rf HO779 BK788) (Kd.R_base ho0) hb); replace HO787 := Aside0.mk (Kd.R_elder' (rf HO787 BK788) (Kd.R_base ho0) hb); have HO794 := Aside0.mk (Kd.R_lower (Kd.R_new' ho1 (Kd.R_lt (rf HO782 BK788))) (below_size (bs3 HB GE772 GE784 GE788))); replace HO782 := Aside0.mk (Kd.R_elder' (rf HO782 BK788) (Kd.R_base ho1) hb); replace BK772 := Aside0.mk (blk_below (bf BK772 NB772_788) hb); replace BK784 := Aside0.mk (blk_below (bf BK784 NB784_788) hb); replace BK788 := Aside0.mk (blk_below (g := gb788) (o := .cells #[.slice Ao27 t785.length co27] 29 (0, 0)) (by (with_reducible repeat (first | refine blk_drewN ?_ _ | refine blk_drew ?_ | refine blk_alloc ?_ _)); refine blk_put (cs := #[.slice none 0 0]) ?_ 0 _ rfl; (with_reducible repeat (first | refine blk_drewN ?_ _ | refine blk_drew ?_ | refine blk_alloc ?_ _)); exact BK788.out) hb); replace HB := Aside0.mk (below_step (bs3 HB GE772 GE784 GE788) hb); (try clear hb); (try clear hb2); (try clear hk); (try clear hi); (try clear ho0); (try clear ho1)) | ((with_reducible refine gate_dst (N := 10) rfl ?_); refine box_event ?hg (N := 10) ?hd (cs := #[.slice none 0 0]) (t := 29) ?hr ?_; (case hd => rfl); (case hg => rfl); (case hr => first | (go_simp; done) | (go_simp; rfl)); intro gb796 hg w32 hbox hb; replace HO776 := nr HO776 hb; replace HO779 := nr HO779 hb; replace HO782 := nr HO782 hb; replace HO787 := nr HO787 hb; replace HO791 := nr HO791 hb; replace HO794 := nr HO794 hb; have BK796 := Aside0.mk (hbox); have GW796 := Aside0.mk ((by rw [hg]; exact (below_size (bs3 HB GE772 GE784 GE788)) : w.heap.size ≤ gb796)); have GE796 := Aside0.mk ((by rw [hg]; exact (below_size (bs3 HB GE772 GE784 GE788)) : w.heap.size ≤ gb796)); replace HB := Aside0.mk (below_step (bs3 HB GE772 GE784 GE788) hb); have NB772_796 := Aside0.mk ((bn BK772 hg : gb772 ≠ gb796)); have NB796_772 := Aside0.mk ((bm BK772 hg : gb796 ≠ gb772)); replace BK772 := nb BK772 hb; have NB784_796 := Aside0.mk ((bn BK784 hg : gb784 ≠ gb796)); have NB796_784 := Aside0.mk ((bm BK784 hg : gb796 ≠ gb784)); replace BK784 := nb BK784 hb; have NB788_796 := Aside0.mk ((bn BK788 hg : gb788 ≠ gb796)); have NB796_788 := Aside0.mk ((bm BK788 hg : gb796 ≠ gb788)); replace BK788 := nb BK788 hb; clear hb hbox hg; obtain ⟨Ao33, co33, eo33⟩ := Kd.R_slice HO791.out; subst eo33; have hnb34 := NB796_772.out; have hnc34 := NB772_796.out; have hnb35 := NB796_784.out; have hnc35 := NB784_796.out; have hnb36 := NB796_788.out; have hnc36 := NB788_796.out; have hcz37_0 := cz1 BK796; have hfz37_0 := fz1 BK796))
  (try simp only [Act.put, List.setIfInBounds_toArray, List.set_cons_zero, List.set_cons_succ])
  go_cut [55] (fun v55 wc => ∃ (kq : Nat) (x55_11 : Bool), v55 = .bool x55_11 ∧ Aside0 (laws_FnExactTruncateMap.j0 kq a1 t780 t783 t792 t795 x55_11 l0_0 t777 t785 t789 = some r) ∧ Aside0 (kq ≤ k) ∧ Aside0 (Kd.R k61 61 wc w.heap.size (fun k_ => some k_ ≠ (v793 : Value).ownBlock) v781 t780) ∧ Aside0 (Kd.R k61 61 wc w.heap.size (fun k_ => some k_ ≠ (v781 : Value).ownBlock) v793 t792) ∧ Aside0 (Kd.R k48 48 wc w.heap.size (fun k_ => some k_ ≠ ((.slice Ao27 t785.length co27) : Value).ownBlock ∧ some k_ ≠ ((.slice Ao33 t789.length co33) : Value).ownBlock) (.slice Ao21 t777.length co21) t777) ∧ Aside0 (Kd.R k48 48 wc w.heap.size (fun k_ => some k_ ≠ ((.slice Ao21 t777.length co21) : Value).ownBlock ∧ some k_ ≠ ((.slice Ao33 t789.length co33) : Value).ownBlock) (.slice Ao27 t785.length co27) t785) ∧ Aside0 (Kd.R k48 48 wc w.heap.size (fun k_ => some k_ ≠ ((.slice Ao21 t777.length co21) : Value).ownBlock ∧ some k_ ≠ ((.slice Ao27 t785.length co27) : Value).ownBlock) (.slice Ao33 t789.length co33) t789) ∧ Aside0 (wc.heap[gb772]? = some (.cells #[(.slice A0_0 l0_0.length c0_0)] 24 (0, 0))) ∧ Aside0 (wc.heap[gb784]? = some (.cells #[(.slice Ao21 t777.length co21)] 29 (0, 0))) ∧ Aside0 (wc.heap[gb788]? = some (.cells #[(.slice Ao27 t785.length co27)] 29 (0, 0))) ∧ Aside0 (wc.heap[gb796]? = some (.cells #[(.slice Ao33 t789.length co33)] 29 (0, 0))) ∧ Aside0 (Below w.heap.size w wc))
  case first =>
   have H := HC12.out
   clear HC12
   replace H := Option.bind_eq_some_iff.mp H
   obtain ⟨t797, A380, H⟩ := H
   replace H : (if t797 = true then ((laws_eqExtentS.f k t792 t780).bind fun t798 => (if t798 = true then (laws_FnExactTruncateMap.j0 k a1 t780 t783 t792 t795 (t795 != t783) l0_0 t777 t785 t789) else (laws_FnExactTruncateMap.j0 k a1 t780 t783 t792 t795 true l0_0 t777 t785 t789))) else (laws_FnExactTruncateMap.j0 k a1 t780 t783 t792 t795 true l0_0 t777 t785 t789)) = some r := H
   have A38 := Aside0.mk A380
   clear A380
   by_cases c39 : t797 = true
   ·
    subst c39
    rw [if_pos rfl] at H
    replace H := Option.bind_eq_some_iff.mp H
    obtain ⟨t798, A400, H⟩ := H
    replace H : (if t798 = true then (laws_FnExactTruncateMap.j0 k a1 t780 t783 t792 t795 (t795 != t783) l0_0 t777 t785 t789) else (laws_FnExactTruncateMap.j0 k a1 t780 t783 t792 t795 true l0_0 t777 t785 t789)) = some r := H
    have A40 := Aside0.mk A400
    clear A400
    by_cases c41 : t798 = true
    ·
     subst c41
     rw [if_pos rfl] at H
     have H' := Aside0.mk H
     clear H
     have hnb42 := NB796_772.out
     have hnc42 := NB772_796.out
     have hnb43 := NB796_784.out
     have hnc43 := NB784_796.out
     have hnb44 := NB796_788.out
     have hnc44 := NB788_796.out
     have hcz45_0 := cz1 BK796
     have hfz45_0 := fz1 BK796
     have hnb46 := NB784_772.out
     have hnc46 := NB772_784.out
     have hnb47 := NB784_788.out
     have hnc47 := NB788_784.out
     have hcz48_0 := cz1 BK784
     have hfz48_0 := fz1 BK784
     go_wp2_with (first | ((with_reducible refine gate_callee (f := 18) rfl ?_); refine gL (some 43) rfl rfl Try.func18 (by kernel_rfl) rfl #[.agg #[.slice Ao33 t789.length co33], .agg #[.slice Ao21 t777.length co21]] rfl ?_; (with_reducible refine (laws_eqFileMap.calls k _ _ t789 _ _ t777 true _ ?side1 ?side2 ?side3 ?side4 A38.out).mono ?_); (case side1 => exact rc HO791 BK796); (case side2 => exact (Kd.R_reads' HO791.out).2.1); (case side3 => exact rc HO779 BK796); (case side4 => exact (Kd.R_reads' HO779.out).2.1); rintro e w49 ⟨rfl, hb⟩; refine ⟨_, rfl, ?_⟩; replace HO776 := nf HO776 BK796 hb; replace HO779 := nf HO779 BK796 hb; replace HO782 := nf HO782 BK796 hb; replace HO787 := nf HO787 BK796 hb; replace HO791 := nf HO791 BK796 hb; replace HO794 := nf HO794 BK796 hb; replace BK772 := Aside0.mk (blk_below (bf BK772 NB772_796) hb); replace BK784 := Aside0.mk (blk_below (bf BK784 NB784_796) hb); replace BK788 := Aside0.mk (blk_below (bf BK788 NB788_796) hb); replace BK796 := Aside0.mk (blk_below (g := gb796) (o := .cells #[.slice Ao33 t789.length co33] 29 (0, 0)) (by (with_reducible repeat (first | refine blk_drewN ?_ _ | refine blk_drew ?_ | refine blk_alloc ?_ _)); refine blk_put (cs := #[.slice none 0 0]) ?_ 0 _ rfl; (with_reducible repeat (first | refine blk_drewN ?_ _ | refine blk_drew ?_ | refine blk_alloc ?_ _)); exact BK796.out) hb); replace HB := Aside0.mk (below_step (bs4 HB GE772 GE784 GE788 GE796) hb); (try clear hb); (try clear hb2); (try clear hk); (try clear hi); obtain ⟨Ao50, co50, eo50⟩ := Kd.R_slice HO794.out; subst eo50; obtain ⟨Ao51, co51, eo51⟩ := Kd.R_slice HO782.out; subst eo51) | (go_at_call 25; (with_reducible refine (laws_eqExtentS.calls k _ _ t792 _ _ t780 true _ ?side1 ?side2 ?side3 ?side4 A40.out).mono ?_); (case side1 => exact rc0 HO794); (case side2 => exact (Kd.R_reads' HO794.out).2.1); (case side3 => exact rc0 HO782); (case side4 => exact (Kd.R_reads' HO782.out).2.1); rintro e w52 ⟨rfl, hb⟩; replace HO776 := nr HO776 hb; replace HO779 := nr HO779 hb; replace HO782 := nr HO782 hb; replace HO787 := nr HO787 hb; replace HO791 := nr HO791 hb; replace HO794 := nr HO794 hb; replace BK772 := nb BK772 hb; replace BK784 := nb BK784 hb; replace BK788 := nb BK788 hb; replace BK796 := nb BK796 hb; replace HB := Aside0.mk (below_step (bs4 HB GE772 GE784 GE788 GE796) hb); (try clear hb); (try clear hb2); (try clear hk); (try clear hi)))
     go_meet
     case rel => exact ⟨_, ((t795 != t783)), (by first | rfl | (simp; done) | (simp [*]; done)), H', ⟨by first | omega | exact Nat.le_refl _⟩, rm HO782 (fun _ hk => hk.2), rm HO794 (fun _ hk => hk.2), rm HO779 (fun _ hk => ⟨hk.1.2, hk.2⟩), rm HO787 (fun _ hk => ⟨hk.1.2, hk.2⟩), rm HO791 (fun _ hk => ⟨hk.1.2, hk.2⟩), ⟨bk BK772⟩, ⟨bk BK784⟩, ⟨bk BK788⟩, ⟨bk BK796⟩, ⟨bs4 HB GE772 GE784 GE788 GE796⟩⟩
    ·
     replace c41 := Bool.eq_false_iff.mpr c41
     subst c41
     rw [if_neg (show ¬ (false = true) by decide)] at H
     have H' := Aside0.mk H
     clear H
     have hnb53 := NB796_772.out
     have hnc53 := NB772_796.out
     have hnb54 := NB796_784.out
     have hnc54 := NB784_796.out
     have hnb55 := NB796_788.out
     have hnc55 := NB788_796.out
     have hcz56_0 := cz1 BK796
     have hfz56_0 := fz1 BK796
     have hnb57 := NB784_772.out
     have hnc57 := NB772_784.out
     have hnb58 := NB784_788.out
     have hnc58 := NB788_784.out
     have hcz59_0 := cz1 BK784
     have hfz59_0 := fz1 BK784
     go_wp2_with (first | ((with_reducible refine gate_callee (f := 18) rfl ?_); refine gL (some 43) rfl rfl Try.func18 (by kernel_rfl) rfl #[.agg #[.slice Ao33 t789.length co33], .agg #[.slice Ao21 t777.length co21]] rfl ?_; (with_reducible refine (laws_eqFileMap.calls k _ _ t789 _ _ t777 true _ ?side1 ?side2 ?side3 ?side4 A38.out).mono ?_); (case side1 => exact rc HO791 BK796); (case side2 => exact (Kd.R_reads' HO791.out).2.1); (case side3 => exact rc HO779 BK796); (case side4 => exact (Kd.R_reads' HO779.out).2.1); rintro e w60 ⟨rfl, hb⟩; refine ⟨_, rfl, ?_⟩; replace HO776 := nf HO776 BK796 hb; replace HO779 := nf HO779 BK796 hb; replace HO782 := nf HO782 BK796 hb; replace HO787 := nf HO787 BK796 hb; replace HO791 := nf HO791 BK796 hb; replace HO794 := nf HO794 BK796 hb; replace BK772 := Aside0.mk (blk_below (bf BK772 NB772_796) hb); replace BK784 := Aside0.mk (blk_below (bf BK784 NB784_796) hb); replace BK788 := Aside0.mk (blk_below (bf BK788 NB788_796) hb); replace BK796 := Aside0.mk (blk_below (g := gb796) (o := .cells #[.slice Ao33 t789.length co33] 29 (0, 0)) (by (with_reducible repeat (first | refine blk_drewN ?_ _ | refine blk_drew ?_ | refine blk_alloc ?_ _)); refine blk_put (cs := #[.slice none 0 0]) ?_ 0 _ rfl; (with_reducible repeat (first | refine blk_drewN ?_ _ | refine blk_drew ?_ | refine blk_alloc ?_ _)); exact BK796.out) hb); replace HB := Aside0.mk (below_step (bs4 HB GE772 GE784 GE788 GE796) hb); (try clear hb); (try clear hb2); (try clear hk); (try clear hi); obtain ⟨Ao61, co61, eo61⟩ := Kd.R_slice HO794.out; subst eo61; obtain ⟨Ao62, co62, eo62⟩ := Kd.R_slice HO782.out; subst eo62) | (go_at_call 25; (with_reducible refine (laws_eqExtentS.calls k _ _ t792 _ _ t780 false _ ?side1 ?side2 ?side3 ?side4 A40.out).mono ?_); (case side1 => exact rc0 HO794); (case side2 => exact (Kd.R_reads' HO794.out).2.1); (case side3 => exact rc0 HO782); (case side4 => exact (Kd.R_reads' HO782.out).2.1); rintro e w63 ⟨rfl, hb⟩; replace HO776 := nr HO776 hb; replace HO779 := nr HO779 hb; replace HO782 := nr HO782 hb; replace HO787 := nr HO787 hb; replace HO791 := nr HO791 hb; replace HO794 := nr HO794 hb; replace BK772 := nb BK772 hb; replace BK784 := nb BK784 hb; replace BK788 := nb BK788 hb; replace BK796 := nb BK796 hb; replace HB := Aside0.mk (below_step (bs4 HB GE772 GE784 GE788 GE796) hb); (try clear hb); (try clear hb2); (try clear hk); (try clear hi)))
     go_meet
     case rel => exact ⟨_, (true), (by first | rfl | (simp; done) | (simp [*]; done)), H', ⟨by first | omega | exact Nat.le_refl _⟩, rm HO782 (fun _ hk => hk.2), rm HO794 (fun _ hk => hk.2), rm HO779 (fun _ hk => ⟨hk.1.2, hk.2⟩), rm HO787 (fun _ hk => ⟨hk.1.2, hk.2⟩), rm HO791 (fun _ hk => ⟨hk.1.2, hk.2⟩), ⟨bk BK772⟩, ⟨bk BK784⟩, ⟨bk BK788⟩, ⟨bk BK796⟩, ⟨bs4 HB GE772 GE784 GE788 GE796⟩⟩
   ·
    replace c39 := Bool.eq_false_iff.mpr c39
    subst c39
    rw [if_neg (show ¬ (false = true) by decide)] at H
    have H' := Aside0.mk H
    clear H
    have hnb64 := NB796_772.out
    have hnc64 := NB772_796.out
    have hnb65 := NB796_784.out
    have hnc65 := NB784_796.out
    have hnb66 := NB796_788.out
    have hnc66 := NB788_796.out
    have hcz67_0 := cz1 BK796
    have hfz67_0 := fz1 BK796
    have hnb68 := NB784_772.out
    have hnc68 := NB772_784.out
    have hnb69 := NB784_788.out
    have hnc69 := NB788_784.out
    have hcz70_0 := cz1 BK784
    have hfz70_0 := fz1 BK784
    go_wp2_with (first | ((with_reducible refine gate_callee (f := 18) rfl ?_); refine gL (some 43) rfl rfl Try.func18 (by kernel_rfl) rfl #[.agg #[.slice Ao33 t789.length co33], .agg #[.slice Ao21 t777.length co21]] rfl ?_; (with_reducible refine (laws_eqFileMap.calls k _ _ t789 _ _ t777 false _ ?side1 ?side2 ?side3 ?side4 A38.out).mono ?_); (case side1 => exact rc HO791 BK796); (case side2 => exact (Kd.R_reads' HO791.out).2.1); (case side3 => exact rc HO779 BK796); (case side4 => exact (Kd.R_reads' HO779.out).2.1); rintro e w71 ⟨rfl, hb⟩; refine ⟨_, rfl, ?_⟩; replace HO776 := nf HO776 BK796 hb; replace HO779 := nf HO779 BK796 hb; replace HO782 := nf HO782 BK796 hb; replace HO787 := nf HO787 BK796 hb; replace HO791 := nf HO791 BK796 hb; replace HO794 := nf HO794 BK796 hb; replace BK772 := Aside0.mk (blk_below (bf BK772 NB772_796) hb); replace BK784 := Aside0.mk (blk_below (bf BK784 NB784_796) hb); replace BK788 := Aside0.mk (blk_below (bf BK788 NB788_796) hb); replace BK796 := Aside0.mk (blk_below (g := gb796) (o := .cells #[.slice Ao33 t789.length co33] 29 (0, 0)) (by (with_reducible repeat (first | refine blk_drewN ?_ _ | refine blk_drew ?_ | refine blk_alloc ?_ _)); refine blk_put (cs := #[.slice none 0 0]) ?_ 0 _ rfl; (with_reducible repeat (first | refine blk_drewN ?_ _ | refine blk_drew ?_ | refine blk_alloc ?_ _)); exact BK796.out) hb); replace HB := Aside0.mk (below_step (bs4 HB GE772 GE784 GE788 GE796) hb); (try clear hb); (try clear hb2); (try clear hk); (try clear hi)))
    go_meet
    case rel => exact ⟨_, (true), (by first | rfl | (simp; done) | (simp [*]; done)), H', ⟨by first | omega | exact Nat.le_refl _⟩, rm HO782 (fun _ hk => hk.2), rm HO794 (fun _ hk => hk.2), rm HO779 (fun _ hk => ⟨hk.1.2, hk.2⟩), rm HO787 (fun _ hk => ⟨hk.1.2, hk.2⟩), rm HO791 (fun _ hk => ⟨hk.1.2, hk.2⟩), ⟨bk BK772⟩, ⟨bk BK784⟩, ⟨bk BK788⟩, ⟨bk BK796⟩, ⟨bs4 HB GE772 GE784 GE788 GE796⟩⟩
  case rest =>
   clear HC12
   try clear c1
   try clear c2
   try clear p2
   try clear c3
   try clear c4
   try clear c4b0
   try clear c5
   try clear c6
   try clear c10
   try clear c14
   try clear c16
   try clear c18
   try clear c22
   try clear c28
   try clear c29
   try clear c34
   try clear c35
   try clear c36
   try clear c37
   try clear c38
   try clear c39
   try clear c41
   try clear c42
   try clear c43
   try clear c44
   try clear c46
   try clear c47
   try clear c53
   try clear c54
   try clear c55
   try clear c57
   try clear c58
   try clear c64
   try clear c65
   try clear c66
   try clear c68
   try clear c69
   try clear hcz14_0
   try clear hcz16_0
   try clear hcz23_0
   try clear hcz24_0
   try clear hcz30_0
   try clear hcz37_0
   try clear hcz45_0
   try clear hcz48_0
   try clear hcz56_0
   try clear hcz59_0
   try clear hcz67_0
   try clear hcz6_0
   try clear hcz70_0
   try clear hfz14_0
   try clear hfz16_0
   try clear hfz23_0
   try clear hfz24_0
   try clear hfz30_0
   try clear hfz37_0
   try clear hfz45_0
   try clear hfz48_0
   try clear hfz56_0
   try clear hfz59_0
   try clear hfz67_0
   try clear hfz6_0
   try clear hfz70_0
   obtain ⟨kq, x55_11, rfl, HA, HJ11, HO_7, HO_11, HO_785000, HO_789000, HO_797000, BK772, BK784, BK788, BK796, HB⟩ := hcut
   cases kq with
   | zero => exact absurd HA.out (by simp [laws_FnExactTruncateMap.j0])
   | succ kj11 =>
    have H := HA.out
    clear HA
    simp only [laws_FnExactTruncateMap.j0] at H
    by_cases c72 : x55_11 = true
    ·
     subst c72
     rw [if_pos rfl] at H
     obtain rfl := Option.some.inj H
     go_wp2
     go_ret
     exact ⟨by first | rfl | (simp [errW_none, errW_some] <;> rfl) | (simp [*, errW_none, errW_some] <;> rfl), bs4 HB GE772 GE784 GE788 GE796⟩
    ·
     replace c72 := Bool.eq_false_iff.mpr c72
     subst c72
     rw [if_neg (show ¬ (false = true) by decide)] at H
     replace H := Option.bind_eq_some_iff.mp H
     obtain ⟨t799, A730, H⟩ := H
     replace H : ((laws_eqFileMap.f kj11 t785 t799).bind fun t802 => (if t802 = true then ((laws_markFileMap.f kj11 t785 1).bind fun bt803 => (if bt803.1 < 0 then (laws_FnExactTruncateMap.j1 kj11 a1 t780 t783 t792 true l0_0 t777 t789) else ((laws_eqFileMap.f kj11 t789 t777).bind fun t805 => (if t805 = true then ((laws_eqExtentS.f kj11 t792 t780).bind fun t806 => (if t806 = true then (laws_FnExactTruncateMap.j1 kj11 a1 t780 t783 t792 (t795 != t783) l0_0 t777 t789) else (laws_FnExactTruncateMap.j1 kj11 a1 t780 t783 t792 true l0_0 t777 t789))) else (laws_FnExactTruncateMap.j1 kj11 a1 t780 t783 t792 true l0_0 t777 t789))))) else (some false))) = some r := H
     have A73 := Aside0.mk A730
     clear A730
     replace H := Option.bind_eq_some_iff.mp H
     obtain ⟨t802, A740, H⟩ := H
     replace H : (if t802 = true then ((laws_markFileMap.f kj11 t785 1).bind fun bt803 => (if bt803.1 < 0 then (laws_FnExactTruncateMap.j1 kj11 a1 t780 t783 t792 true l0_0 t777 t789) else ((laws_eqFileMap.f kj11 t789 t777).bind fun t805 => (if t805 = true then ((laws_eqExtentS.f kj11 t792 t780).bind fun t806 => (if t806 = true then (laws_FnExactTruncateMap.j1 kj11 a1 t780 t783 t792 (t795 != t783) l0_0 t777 t789) else (laws_FnExactTruncateMap.j1 kj11 a1 t780 t783 t792 true l0_0 t777 t789))) else (laws_FnExactTruncateMap.j1 kj11 a1 t780 t783 t792 true l0_0 t777 t789))))) else (some false)) = some r := H
     have A74 := Aside0.mk A740
     clear A740
     by_cases c75 : t802 = true
     ·
      subst c75
      rw [if_pos rfl] at H
      replace H := Option.bind_eq_some_iff.mp H
      obtain ⟨⟨t803, t804⟩, A760, H⟩ := H
      replace H : (if t803 < 0 then (laws_FnExactTruncateMap.j1 kj11 a1 t780 t783 t792 true l0_0 t777 t789) else ((laws_eqFileMap.f kj11 t789 t777).bind fun t805 => (if t805 = true then ((laws_eqExtentS.f kj11 t792 t780).bind fun t806 => (if t806 = true then (laws_FnExactTruncateMap.j1 kj11 a1 t780 t783 t792 (t795 != t783) l0_0 t777 t789) else (laws_FnExactTruncateMap.j1 kj11 a1 t780 t783 t792 true l0_0 t777 t789))) else (laws_FnExactTruncateMap.j1 kj11 a1 t780 t783 t792 true l0_0 t777 t789)))) = some r := H
      have A76 := Aside0.mk A760
      clear A760
      have HC77 := Aside0.mk H
      clear H
      try go_wp2
      have n0_ := Aside0.mk (Kd.R_drew HO_7.out)
      have n1_ := Aside0.mk (Kd.R_drew HO_11.out)
      have n2_ := Aside0.mk (Kd.R_drew HO_785000.out)
      have n3_ := Aside0.mk (Kd.R_drew HO_789000.out)
      have n4_ := Aside0.mk (Kd.R_drew HO_797000.out)
      have n5_ := Aside0.mk (blk_drew BK772.out)
      have n6_ := Aside0.mk (blk_drew BK784.out)
      have n7_ := Aside0.mk (blk_drew BK788.out)
      have n8_ := Aside0.mk (blk_drew BK796.out)
      have n9_ := Aside0.mk (below_drew1 HB.out)
      clear HO_7
      clear HO_11
      clear HO_785000
      clear HO_789000
      clear HO_797000
      clear BK772
      clear BK784
      clear BK788
      clear BK796
      clear HB
      have HO_7 := n0_
      have HO_11 := n1_
      have HO_785000 := n2_
      have HO_789000 := n3_
      have HO_797000 := n4_
      have BK772 := n5_
      have BK784 := n6_
      have BK788 := n7_
      have BK796 := n8_
      have HB := n9_
      clear n0_ n1_ n2_ n3_ n4_ n5_ n6_ n7_ n8_ n9_
      refine start_ (n := 5) (S := fun w' => w'.cell? ⟨gb788, 0, none⟩ = some (.slice Ao27 t785.length co27) ∧ w'.cell? ⟨gb772, 0, none⟩ = some (.slice A0_0 l0_0.length c0_0)) (ds := []) #[false, false, false, false, false] (by kernel_rfl) rfl rfl ⟨(blk_cell BK788.out 0).trans rfl, (blk_cell BK772.out 0).trans rfl⟩ (fun hHeld => ?_)
      generalize wc.drew = w78 at HO_7 HO_11 HO_785000 HO_789000 HO_797000 BK772 BK784 BK788 BK796 HB hHeld ⊢
      refine take_ (i := 0) (N := some 56) (v := ?_) (a' := ?_) #[true, false, false, false, false] rfl rfl (by kernel_rfl) (fun _ _ _ h => h) (Or.inl ⟨by rfl, ?_⟩) hHeld ?_ ?_
      rotate_left
      ·
       rintro w' ⟨s0, s1⟩
       go_simp
       with_reducible rfl
      rotate_left
      ·
       simp only [Act.put, List.setIfInBounds_toArray, List.set_cons_zero, List.set_cons_succ, i64_w, i32_w]
       rfl
      refine take_ (i := 1) (N := some 57) (v := ?_) (a' := ?_) #[true, true, false, false, false] rfl rfl (by kernel_rfl) (fun _ _ _ h => h) (Or.inl ⟨by rfl, ?_⟩) hHeld ?_ ?_
      rotate_left
      ·
       rintro w' ⟨s0, s1⟩
       go_simp
       with_reducible rfl
      rotate_left
      ·
       simp only [Act.put, List.setIfInBounds_toArray, List.set_cons_zero, List.set_cons_succ, i64_w, i32_w]
       rfl
      refine one_ (i := 2) (N := some 58) #[true, true, true, false, false] rfl rfl (by kernel_rfl) (by decide) (fun K hK => ?_)
      refine goes_ Try.func16 (by kernel_rfl) rfl #[.agg #[.slice A0_0 l0_0.length c0_0]] (by rfl) rfl rfl (by (try simp only [List.map_toArray, List.map_cons, List.map_nil]); first | done | rfl | (simp only [List.length_drop, List.length_take]; rfl)) ?_
      with_reducible refine (laws_toFileMap.calls kj11 _ _ l0_0 t799 _ ?side1 ?side2 A73.out).mono ?_
      (case side1 => exact cb HR0_0 HB)
      (case side2 => exact HC0_0.out)
      rintro e w79 ⟨v800, rfl, ho0, hb⟩
      refine ⟨_, rfl, ?_⟩
      have n0_ := Aside0.mk (Kd.R_below (rr HO_7.out) hb)
      have n1_ := Aside0.mk (Kd.R_below (rr HO_11.out) hb)
      have n2_ := Aside0.mk (Kd.R_elder' (rr HO_785000.out) (Kd.R_base ho0) hb)
      have n3_ := Aside0.mk (Kd.R_elder' (rr HO_789000.out) (Kd.R_base ho0) hb)
      have n4_ := Aside0.mk (Kd.R_elder' (rr HO_797000.out) (Kd.R_base ho0) hb)
      have n5_ := Aside0.mk (Kd.R_lower (Kd.R_new' (Kd.R_new' (Kd.R_new' ho0 (Kd.R_lt (rr HO_785000.out))) (Kd.R_lt (rr HO_789000.out))) (Kd.R_lt (rr HO_797000.out))) (below_size (bs4 HB GE772 GE784 GE788 GE796)))
      have n6_ := Aside0.mk (bb BK772 hb)
      have n7_ := Aside0.mk (bb BK784 hb)
      have n8_ := Aside0.mk (bb BK788 hb)
      have n9_ := Aside0.mk (bb BK796 hb)
      have n10_ := Aside0.mk (below_step (bs4 HB GE772 GE784 GE788 GE796) hb)
      clear HO_7
      clear HO_11
      clear HO_785000
      clear HO_789000
      clear HO_797000
      clear BK772
      clear BK784
      clear BK788
      clear BK796
      clear HB
      have HO_7 := n0_
      have HO_11 := n1_
      have HO_785000 := n2_
      have HO_789000 := n3_
      have HO_797000 := n4_
      have HO801 := n5_
      have BK772 := n6_
      have BK784 := n7_
      have BK788 := n8_
      have BK796 := n9_
      have HB := n10_
      clear n0_ n1_ n2_ n3_ n4_ n5_ n6_ n7_ n8_ n9_ n10_
      (try clear hb)
      (try clear hb2)
      (try clear hk)
      (try clear hi)
      (try clear ho0)
      obtain ⟨Ao80, co80, eo80⟩ := Kd.R_slice HO801.out
      (first | subst eo80 | (injection eo80 with f1_ f2_ f3_; have f4_ := f1_.symm; have f5_ := f3_.symm; clear f1_ f2_ f3_; subst f4_; subst f5_))
      refine hK.out _ _ ⟨(blk_cell BK788.out 0).trans rfl, (blk_cell BK772.out 0).trans rfl⟩ (fun hHeld => ?_)
      clear hK K
      refine norm_ (a' := ?_) ?_ ?_
      rotate_left
      ·
       show Act.put _ (some 58) _ = _
       simp only [Act.put, List.setIfInBounds_toArray, List.set_cons_zero, List.set_cons_succ, i64_w, i32_w]
       rfl
      refine one_ (i := 3) (N := some 59) #[true, true, true, true, false] rfl rfl (by kernel_rfl) (by decide) (fun K hK => ?_)
      refine goes_ Try.func18 (by kernel_rfl) rfl #[.agg #[.slice Ao27 t785.length co27], .agg #[.slice Ao80 t799.length co80]] (by rfl) rfl rfl (by (try simp only [List.map_toArray, List.map_cons, List.map_nil]); first | done | rfl | (simp only [List.length_drop, List.length_take]; rfl)) ?_
      with_reducible refine (laws_eqFileMap.calls kj11 _ _ t785 _ _ t799 true _ ?side1 ?side2 ?side3 ?side4 A74.out).mono ?_
      (case side1 => exact rc0 HO_789000)
      (case side2 => exact (Kd.R_reads' HO_789000.out).2.1)
      (case side3 => exact rc0 HO801)
      (case side4 => exact (Kd.R_reads' HO801.out).2.1)
      rintro e w81 ⟨rfl, hb⟩
      refine ⟨_, rfl, ?_⟩
      have n0_ := Aside0.mk (Kd.R_below (rr HO_7.out) hb)
      have n1_ := Aside0.mk (Kd.R_below (rr HO_11.out) hb)
      have n2_ := Aside0.mk (Kd.R_below (rr HO_785000.out) hb)
      have n3_ := Aside0.mk (Kd.R_below (rr HO_789000.out) hb)
      have n4_ := Aside0.mk (Kd.R_below (rr HO_797000.out) hb)
      have n5_ := Aside0.mk (Kd.R_below (rr HO801.out) hb)
      have n6_ := Aside0.mk (bb BK772 hb)
      have n7_ := Aside0.mk (bb BK784 hb)
      have n8_ := Aside0.mk (bb BK788 hb)
      have n9_ := Aside0.mk (bb BK796 hb)
      have n10_ := Aside0.mk (below_step (bs4 HB GE772 GE784 GE788 GE796) hb)
      clear HO_7
      clear HO_11
      clear HO_785000
      clear HO_789000
      clear HO_797000
      clear HO801
      clear BK772
      clear BK784
      clear BK788
      clear BK796
      clear HB
      have HO_7 := n0_
      have HO_11 := n1_
      have HO_785000 := n2_
      have HO_789000 := n3_
      have HO_797000 := n4_
      have HO801 := n5_
      have BK772 := n6_
      have BK784 := n7_
      have BK788 := n8_
      have BK796 := n9_
      have HB := n10_
      clear n0_ n1_ n2_ n3_ n4_ n5_ n6_ n7_ n8_ n9_ n10_
      (try clear hb)
      (try clear hb2)
      (try clear hk)
      (try clear hi)
      refine hK.out _ _ ⟨(blk_cell BK788.out 0).trans rfl, (blk_cell BK772.out 0).trans rfl⟩ (fun hHeld => ?_)
      clear hK K
      refine norm_ (a' := ?_) ?_ ?_
      rotate_left
      ·
       show Act.put _ (some 59) _ = _
       simp only [Act.put, List.setIfInBounds_toArray, List.set_cons_zero, List.set_cons_succ, i64_w, i32_w]
       rfl
      refine pure_ (i := 4) (N := some 60) (v := ?_) (a' := ?_) #[true, true, true, true, true] rfl rfl (by kernel_rfl) (fun _ _ _ h => h) (Or.inl ⟨by rfl, ?_⟩) ?_ ?_
      rotate_left
      ·
       intro w'
       go_simp
       with_reducible rfl
      rotate_left
      ·
       simp only [Act.put, List.setIfInBounds_toArray, List.set_cons_zero, List.set_cons_succ, i64_w, i32_w]
       rfl
      refine done_ (by kernel_rfl) ?_
      have hnb82 := NB788_772.out
      have hnc82 := NB772_788.out
      have hnb83 := NB788_784.out
      have hnc83 := NB784_788.out
      have hnb84 := NB788_796.out
      have hnc84 := NB796_788.out
      have hcz85_0 := cz1 BK788
      have hfz85_0 := fz1 BK788
      go_upto_region 14 with (first | ((with_reducible refine gate_callee (f := 26) rfl ?_); refine gL (some 63) rfl rfl Try.func26 (by kernel_rfl) rfl #[.agg #[.slice Ao27 t785.length co27], .int .i64 1] rfl ?_; (with_reducible refine (laws_markFileMap.calls kj11 (fun k_ => some k_ = (.slice Ao27 t785.length co27 : Value).ownBlock) (.slice Ao27 t785.length co27) t785 1 t803 t804 w _ ?side1 ?side2 A76.out).mono ?_); (case side1 => repeat (first | (with_reducible first | exact HB.out | apply below_alloc | apply pw_below_drewN | apply below_drew1 | refine below_set ?_ GE772.out | refine below_set ?_ GE784.out | refine below_set ?_ GE788.out | refine below_set ?_ GE796.out) | exact HB.out)); (case side2 => exact Kd.R_tight rfl HO_789000.out); rintro e w86 ⟨rfl, hy0, hb, hkp⟩; refine ⟨_, rfl, ?_⟩; replace HO_7 := Aside0.mk (Kd.R_mono (ok' := fun k_ => some k_ ≠ (v793 : Value).ownBlock) (Kd.R_keptB ((Kd.R_apart' HO_7.out (Kd.R_typed HO_789000.out) (by decide))) hkp (fun k_ hk_ hs_ => (hk_.2) hs_)) (fun k_ hk_ => hk_.1.1)); replace HO_11 := Aside0.mk (Kd.R_mono (ok' := fun k_ => some k_ ≠ (v781 : Value).ownBlock) (Kd.R_keptB ((Kd.R_apart' HO_11.out (Kd.R_typed HO_789000.out) (by decide))) hkp (fun k_ hk_ hs_ => (hk_.2) hs_)) (fun k_ hk_ => hk_.1.1)); replace HO_785000 := Aside0.mk (Kd.R_mono (ok' := fun k_ => some k_ ≠ (.slice Ao27 t785.length co27 : Value).ownBlock ∧ some k_ ≠ (.slice Ao33 t789.length co33 : Value).ownBlock ∧ some k_ ≠ (.slice Ao80 t799.length co80 : Value).ownBlock) (Kd.R_keptB (HO_785000.out) hkp (fun k_ hk_ hs_ => (hk_.1.1) hs_)) (fun k_ hk_ => ⟨hk_.1.1.1, hk_.1.1.2, hk_.1.2⟩)); replace HO_797000 := Aside0.mk (Kd.R_mono (ok' := fun k_ => some k_ ≠ (.slice Ao21 t777.length co21 : Value).ownBlock ∧ some k_ ≠ (.slice Ao27 t785.length co27 : Value).ownBlock ∧ some k_ ≠ (.slice Ao80 t799.length co80 : Value).ownBlock) (Kd.R_keptB (HO_797000.out) hkp (fun k_ hk_ hs_ => (hk_.1.2) hs_)) (fun k_ hk_ => ⟨hk_.1.1.1, hk_.1.1.2, hk_.1.2⟩)); replace BK772 := Aside0.mk (blk_kept (bk BK772) hkp (fun hs_ => (fun e_ => (Kd.R_ne HO_789000.out BK772.out (by decide)) e_) hs_)); replace BK784 := Aside0.mk (blk_kept (bk BK784) hkp (fun hs_ => (fun e_ => (Kd.R_ne HO_789000.out BK784.out (by decide)) e_) hs_)); replace BK788 := Aside0.mk (blk_kept (bk BK788) hkp (fun hs_ => (fun e_ => (Kd.R_ne HO_789000.out BK788.out (by decide)) e_) hs_)); replace BK796 := Aside0.mk (blk_kept (bk BK796) hkp (fun hs_ => (fun e_ => (Kd.R_ne HO_789000.out BK796.out (by decide)) e_) hs_)); replace HO_789000 := Aside0.mk (Kd.R_reok rfl hy0 (fun k_ e_ => HO_789000.out.1 k_ e_)); replace HO801 := Aside0.mk (Kd.R_mono (ok' := fun k_ => some k_ ≠ (.slice Ao21 t777.length co21 : Value).ownBlock ∧ some k_ ≠ (.slice Ao27 t785.length co27 : Value).ownBlock ∧ some k_ ≠ (.slice Ao33 t789.length co33 : Value).ownBlock) (Kd.R_keptB (HO801.out) hkp (fun k_ hk_ hs_ => (hk_.1.2) hs_)) (fun k_ hk_ => ⟨hk_.1.1.1.2, hk_.1.1.2, hk_.1.2⟩)); replace HB := Aside0.mk (hb); (try clear hb); (try clear hkp); (try clear hy0)))
      (try simp only [Act.put, List.setIfInBounds_toArray, List.set_cons_zero, List.set_cons_succ])
      go_cut [82] (fun v82 wc => ∃ (kq : Nat) (x82_76 : Bool), v82 = .bool x82_76 ∧ Aside0 (laws_FnExactTruncateMap.j1 kq a1 t780 t783 t792 x82_76 l0_0 t777 t789 = some r) ∧ Aside0 (kq ≤ kj11) ∧ Aside0 (Kd.R k61 61 wc w.heap.size (fun k_ => some k_ ≠ (v793 : Value).ownBlock) v781 t780) ∧ Aside0 (Kd.R k61 61 wc w.heap.size (fun k_ => some k_ ≠ (v781 : Value).ownBlock) v793 t792) ∧ Aside0 (Kd.R k48 48 wc w.heap.size (fun k_ => some k_ ≠ ((.slice Ao27 t785.length co27) : Value).ownBlock ∧ some k_ ≠ ((.slice Ao33 t789.length co33) : Value).ownBlock) (.slice Ao21 t777.length co21) t777) ∧ Aside0 (Kd.R k48 48 wc w.heap.size (fun k_ => some k_ ≠ ((.slice Ao21 t777.length co21) : Value).ownBlock ∧ some k_ ≠ ((.slice Ao33 t789.length co33) : Value).ownBlock) (.slice Ao27 t785.length co27) t804) ∧ Aside0 (Kd.R k48 48 wc w.heap.size (fun k_ => some k_ ≠ ((.slice Ao21 t777.length co21) : Value).ownBlock ∧ some k_ ≠ ((.slice Ao27 t785.length co27) : Value).ownBlock) (.slice Ao33 t789.length co33) t789) ∧ Aside0 (wc.heap[gb772]? = some (.cells #[(.slice A0_0 l0_0.length c0_0)] 24 (0, 0))) ∧ Aside0 (wc.heap[gb784]? = some (.cells #[(.slice Ao21 t777.length co21)] 29 (0, 0))) ∧ Aside0 (wc.heap[gb788]? = some (.cells #[(.slice Ao27 t785.length co27)] 29 (0, 0))) ∧ Aside0 (wc.heap[gb796]? = some (.cells #[(.slice Ao33 t789.length co33)] 29 (0, 0))) ∧ Aside0 (Below w.heap.size w wc))
      case first =>
       have H := HC77.out
       clear HC77
       by_cases c87 : t803 < 0
       ·
        rw [if_pos c87] at H
        have c87b0 : decide (t803 < 0) = true := decide_eq_true c87
        clear c87
        (first | rw [c87b0] | (simp only [i64_w, i32_w]; rw [c87b0]) | (simp only [c87b2, Bool.not_false, Bool.not_true]) | skip)
        have H' := Aside0.mk H
        clear H
        go_wp2
        go_meet
        case rel => exact ⟨_, (true), (by first | rfl | (simp; done) | (simp [*]; done)), H', ⟨by have := HJ11.out; first | omega | exact Nat.le_refl _⟩, ⟨rr HO_7.out⟩, ⟨rr HO_11.out⟩, rm HO_785000 (fun _ hk => ⟨hk.1, hk.2.1⟩), rm HO_789000 (fun _ hk => ⟨hk.1.1, hk.1.2⟩), rm HO_797000 (fun _ hk => ⟨hk.1, hk.2.1⟩), ⟨bk BK772⟩, ⟨bk BK784⟩, ⟨bk BK788⟩, ⟨bk BK796⟩, ⟨bs4 HB GE772 GE784 GE788 GE796⟩⟩
       ·
        rw [if_neg c87] at H
        have c87b0 : decide (t803 < 0) = false := decide_eq_false c87
        clear c87
        (first | rw [c87b0] | (simp only [i64_w, i32_w]; rw [c87b0]) | (simp only [c87b2, Bool.not_false, Bool.not_true]) | skip)
        replace H := Option.bind_eq_some_iff.mp H
        obtain ⟨t805, A880, H⟩ := H
        replace H : (if t805 = true then ((laws_eqExtentS.f kj11 t792 t780).bind fun t806 => (if t806 = true then (laws_FnExactTruncateMap.j1 kj11 a1 t780 t783 t792 (t795 != t783) l0_0 t777 t789) else (laws_FnExactTruncateMap.j1 kj11 a1 t780 t783 t792 true l0_0 t777 t789))) else (laws_FnExactTruncateMap.j1 kj11 a1 t780 t783 t792 true l0_0 t777 t789)) = some r := H
        have A88 := Aside0.mk A880
        clear A880
        by_cases c89 : t805 = true
        ·
         subst c89
         rw [if_pos rfl] at H
         replace H := Option.bind_eq_some_iff.mp H
         obtain ⟨t806, A900, H⟩ := H
         replace H : (if t806 = true then (laws_FnExactTruncateMap.j1 kj11 a1 t780 t783 t792 (t795 != t783) l0_0 t777 t789) else (laws_FnExactTruncateMap.j1 kj11 a1 t780 t783 t792 true l0_0 t777 t789)) = some r := H
         have A90 := Aside0.mk A900
         clear A900
         by_cases c91 : t806 = true
         ·
          subst c91
          rw [if_pos rfl] at H
          have H' := Aside0.mk H
          clear H
          have hnb92 := NB796_772.out
          have hnc92 := NB772_796.out
          have hnb93 := NB796_784.out
          have hnc93 := NB784_796.out
          have hnb94 := NB796_788.out
          have hnc94 := NB788_796.out
          have hcz95_0 := cz1 BK796
          have hfz95_0 := fz1 BK796
          have hnb96 := NB784_772.out
          have hnc96 := NB772_784.out
          have hnb97 := NB784_788.out
          have hnc97 := NB788_784.out
          have hcz98_0 := cz1 BK784
          have hfz98_0 := fz1 BK784
          go_wp2_with (first | (go_at_call 18; (with_reducible refine (laws_eqFileMap.calls kj11 _ _ t789 _ _ t777 true _ ?side1 ?side2 ?side3 ?side4 A88.out).mono ?_); (case side1 => exact rc0 HO_797000); (case side2 => exact (Kd.R_reads' HO_797000.out).2.1); (case side3 => exact rc0 HO_785000); (case side4 => exact (Kd.R_reads' HO_785000.out).2.1); rintro e w99 ⟨rfl, hb⟩; replace HO_7 := nr HO_7 hb; replace HO_11 := nr HO_11 hb; replace HO_785000 := nr HO_785000 hb; replace HO_789000 := nr HO_789000 hb; replace HO_797000 := nr HO_797000 hb; replace HO801 := nr HO801 hb; replace BK772 := nb BK772 hb; replace BK784 := nb BK784 hb; replace BK788 := nb BK788 hb; replace BK796 := nb BK796 hb; replace HB := Aside0.mk (below_step (bs4 HB GE772 GE784 GE788 GE796) hb); (try clear hb); (try clear hb2); (try clear hk); (try clear hi); obtain ⟨Ao100, co100, eo100⟩ := Kd.R_slice HO_11.out; subst eo100; obtain ⟨Ao101, co101, eo101⟩ := Kd.R_slice HO_7.out; subst eo101) | (go_at_call 25; (with_reducible refine (laws_eqExtentS.calls kj11 _ _ t792 _ _ t780 true _ ?side1 ?side2 ?side3 ?side4 A90.out).mono ?_); (case side1 => exact rc0 HO_11); (case side2 => exact (Kd.R_reads' HO_11.out).2.1); (case side3 => exact rc0 HO_7); (case side4 => exact (Kd.R_reads' HO_7.out).2.1); rintro e w102 ⟨rfl, hb⟩; replace HO_7 := nr HO_7 hb; replace HO_11 := nr HO_11 hb; replace HO_785000 := nr HO_785000 hb; replace HO_789000 := nr HO_789000 hb; replace HO_797000 := nr HO_797000 hb; replace HO801 := nr HO801 hb; replace BK772 := nb BK772 hb; replace BK784 := nb BK784 hb; replace BK788 := nb BK788 hb; replace BK796 := nb BK796 hb; replace HB := Aside0.mk (below_step (bs4 HB GE772 GE784 GE788 GE796) hb); (try clear hb); (try clear hb2); (try clear hk); (try clear hi)))
          go_meet
          case rel => exact ⟨_, ((t795 != t783)), (by first | rfl | (simp; done) | (simp [*]; done)), H', ⟨by have := HJ11.out; first | omega | exact Nat.le_refl _⟩, ⟨rr HO_7.out⟩, ⟨rr HO_11.out⟩, rm HO_785000 (fun _ hk => ⟨hk.1, hk.2.1⟩), rm HO_789000 (fun _ hk => ⟨hk.1.1, hk.1.2⟩), rm HO_797000 (fun _ hk => ⟨hk.1, hk.2.1⟩), ⟨bk BK772⟩, ⟨bk BK784⟩, ⟨bk BK788⟩, ⟨bk BK796⟩, ⟨bs4 HB GE772 GE784 GE788 GE796⟩⟩
         ·
          replace c91 := Bool.eq_false_iff.mpr c91
          subst c91
          rw [if_neg (show ¬ (false = true) by decide)] at H
          have H' := Aside0.mk H
          clear H
          have hnb103 := NB796_772.out
          have hnc103 := NB772_796.out
          have hnb104 := NB796_784.out
          have hnc104 := NB784_796.out
          have hnb105 := NB796_788.out
          have hnc105 := NB788_796.out
          have hcz106_0 := cz1 BK796
          have hfz106_0 := fz1 BK796
          have hnb107 := NB784_772.out
          have hnc107 := NB772_784.out
          have hnb108 := NB784_788.out
          have hnc108 := NB788_784.out
          have hcz109_0 := cz1 BK784
          have hfz109_0 := fz1 BK784
          go_wp2_with (first | (go_at_call 18; (with_reducible refine (laws_eqFileMap.calls kj11 _ _ t789 _ _ t777 true _ ?side1 ?side2 ?side3 ?side4 A88.out).mono ?_); (case side1 => exact rc0 HO_797000); (case side2 => exact (Kd.R_reads' HO_797000.out).2.1); (case side3 => exact rc0 HO_785000); (case side4 => exact (Kd.R_reads' HO_785000.out).2.1); rintro e w110 ⟨rfl, hb⟩; replace HO_7 := nr HO_7 hb; replace HO_11 := nr HO_11 hb; replace HO_785000 := nr HO_785000 hb; replace HO_789000 := nr HO_789000 hb; replace HO_797000 := nr HO_797000 hb; replace HO801 := nr HO801 hb; replace BK772 := nb BK772 hb; replace BK784 := nb BK784 hb; replace BK788 := nb BK788 hb; replace BK796 := nb BK796 hb; replace HB := Aside0.mk (below_step (bs4 HB GE772 GE784 GE788 GE796) hb); (try clear hb); (try clear hb2); (try clear hk); (try clear hi); obtain ⟨Ao111, co111, eo111⟩ := Kd.R_slice HO_11.out; subst eo111; obtain ⟨Ao112, co112, eo112⟩ := Kd.R_slice HO_7.out; subst eo112) | (go_at_call 25; (with_reducible refine (laws_eqExtentS.calls kj11 _ _ t792 _ _ t780 false _ ?side1 ?side2 ?side3 ?side4 A90.out).mono ?_); (case side1 => exact rc0 HO_11); (case side2 => exact (Kd.R_reads' HO_11.out).2.1); (case side3 => exact rc0 HO_7); (case side4 => exact (Kd.R_reads' HO_7.out).2.1); rintro e w113 ⟨rfl, hb⟩; replace HO_7 := nr HO_7 hb; replace HO_11 := nr HO_11 hb; replace HO_785000 := nr HO_785000 hb; replace HO_789000 := nr HO_789000 hb; replace HO_797000 := nr HO_797000 hb; replace HO801 := nr HO801 hb; replace BK772 := nb BK772 hb; replace BK784 := nb BK784 hb; replace BK788 := nb BK788 hb; replace BK796 := nb BK796 hb; replace HB := Aside0.mk (below_step (bs4 HB GE772 GE784 GE788 GE796) hb); (try clear hb); (try clear hb2); (try clear hk); (try clear hi)))
          go_meet
          case rel => exact ⟨_, (true), (by first | rfl | (simp; done) | (simp [*]; done)), H', ⟨by have := HJ11.out; first | omega | exact Nat.le_refl _⟩, ⟨rr HO_7.out⟩, ⟨rr HO_11.out⟩, rm HO_785000 (fun _ hk => ⟨hk.1, hk.2.1⟩), rm HO_789000 (fun _ hk => ⟨hk.1.1, hk.1.2⟩), rm HO_797000 (fun _ hk => ⟨hk.1, hk.2.1⟩), ⟨bk BK772⟩, ⟨bk BK784⟩, ⟨bk BK788⟩, ⟨bk BK796⟩, ⟨bs4 HB GE772 GE784 GE788 GE796⟩⟩
        ·
         replace c89 := Bool.eq_false_iff.mpr c89
         subst c89
         rw [if_neg (show ¬ (false = true) by decide)] at H
         have H' := Aside0.mk H
         clear H
         have hnb114 := NB796_772.out
         have hnc114 := NB772_796.out
         have hnb115 := NB796_784.out
         have hnc115 := NB784_796.out
         have hnb116 := NB796_788.out
         have hnc116 := NB788_796.out
         have hcz117_0 := cz1 BK796
         have hfz117_0 := fz1 BK796
         have hnb118 := NB784_772.out
         have hnc118 := NB772_784.out
         have hnb119 := NB784_788.out
         have hnc119 := NB788_784.out
         have hcz120_0 := cz1 BK784
         have hfz120_0 := fz1 BK784
         go_wp2_with (first | (go_at_call 18; (with_reducible refine (laws_eqFileMap.calls kj11 _ _ t789 _ _ t777 false _ ?side1 ?side2 ?side3 ?side4 A88.out).mono ?_); (case side1 => exact rc0 HO_797000); (case side2 => exact (Kd.R_reads' HO_797000.out).2.1); (case side3 => exact rc0 HO_785000); (case side4 => exact (Kd.R_reads' HO_785000.out).2.1); rintro e w121 ⟨rfl, hb⟩; replace HO_7 := nr HO_7 hb; replace HO_11 := nr HO_11 hb; replace HO_785000 := nr HO_785000 hb; replace HO_789000 := nr HO_789000 hb; replace HO_797000 := nr HO_797000 hb; replace HO801 := nr HO801 hb; replace BK772 := nb BK772 hb; replace BK784 := nb BK784 hb; replace BK788 := nb BK788 hb; replace BK796 := nb BK796 hb; replace HB := Aside0.mk (below_step (bs4 HB GE772 GE784 GE788 GE796) hb); (try clear hb); (try clear hb2); (try clear hk); (try clear hi)))
         go_meet
         case rel => exact ⟨_, (true), (by first | rfl | (simp; done) | (simp [*]; done)), H', ⟨by have := HJ11.out; first | omega | exact Nat.le_refl _⟩, ⟨rr HO_7.out⟩, ⟨rr HO_11.out⟩, rm HO_785000 (fun _ hk => ⟨hk.1, hk.2.1⟩), rm HO_789000 (fun _ hk => ⟨hk.1.1, hk.1.2⟩), rm HO_797000 (fun _ hk => ⟨hk.1, hk.2.1⟩), ⟨bk BK772⟩, ⟨bk BK784⟩, ⟨bk BK788⟩, ⟨bk BK796⟩, ⟨bs4 HB GE772 GE784 GE788 GE796⟩⟩
      case rest =>
       clear HC77
       try clear c1
       try clear c2
       try clear p2
       try clear c3
       try clear c4
       try clear c4b0
       try clear c5
       try clear c6
       try clear c7
       try clear c8
       try clear c9
       try clear c10
       try clear c11
       try clear c14
       try clear c16
       try clear c18
       try clear c22
       try clear c26
       try clear c28
       try clear c29
       try clear c34
       try clear c35
       try clear c36
       try clear c37
       try clear c38
       try clear c39
       try clear c41
       try clear c42
       try clear c43
       try clear c44
       try clear c46
       try clear c47
       try clear c53
       try clear c54
       try clear c55
       try clear c57
       try clear c58
       try clear c64
       try clear c65
       try clear c66
       try clear c68
       try clear c69
       try clear c72
       try clear c75
       try clear c82
       try clear c83
       try clear c84
       try clear c87
       try clear c87b0
       try clear c89
       try clear c91
       try clear c92
       try clear c93
       try clear c94
       try clear c96
       try clear c97
       try clear c103
       try clear c104
       try clear c105
       try clear c107
       try clear c108
       try clear c114
       try clear c115
       try clear c116
       try clear c118
       try clear c119
       try clear hcz106_0
       try clear hcz109_0
       try clear hcz117_0
       try clear hcz120_0
       try clear hcz14_0
       try clear hcz16_0
       try clear hcz23_0
       try clear hcz24_0
       try clear hcz30_0
       try clear hcz37_0
       try clear hcz45_0
       try clear hcz48_0
       try clear hcz56_0
       try clear hcz59_0
       try clear hcz67_0
       try clear hcz6_0
       try clear hcz70_0
       try clear hcz85_0
       try clear hcz95_0
       try clear hcz98_0
       try clear hfz106_0
       try clear hfz109_0
       try clear hfz117_0
       try clear hfz120_0
       try clear hfz14_0
       try clear hfz16_0
       try clear hfz23_0
       try clear hfz24_0
       try clear hfz30_0
       try clear hfz37_0
       try clear hfz45_0
       try clear hfz48_0
       try clear hfz56_0
       try clear hfz59_0
       try clear hfz67_0
       try clear hfz6_0
       try clear hfz70_0
       try clear hfz85_0
       try clear hfz95_0
       try clear hfz98_0
       try clear p2
       obtain ⟨kq, x82_76, rfl, HA, HJ76, HO_7, HO_11, HO_785000, HO_789000, HO_797000, BK772, BK784, BK788, BK796, HB⟩ := hcut
       have hl789000_76 := (Kd.R_reads' HO_789000.out).1
       rw [hl789000_76] at HO_789000
       (try simp only [hl789000_76])
       (try simp only [hl789000_76] at BK772)
       (try simp only [hl789000_76] at BK784)
       (try simp only [hl789000_76] at BK788)
       (try simp only [hl789000_76] at BK796)
       (try simp only [hl789000_76] at HO_7)
       (try simp only [hl789000_76] at HO_11)
       (try simp only [hl789000_76] at HO_785000)
       (try simp only [hl789000_76] at HO_797000)
       cases kq with
       | zero => exact absurd HA.out (by simp [laws_FnExactTruncateMap.j1])
       | succ kj76 =>
        have H := HA.out
        clear HA
        simp only [laws_FnExactTruncateMap.j1] at H
        by_cases c122 : x82_76 = true
        ·
         subst c122
         rw [if_pos rfl] at H
         obtain rfl := Option.some.inj H
         go_wp2
         go_ret
         exact ⟨by first | rfl | (simp [errW_none, errW_some] <;> rfl) | (simp [*, errW_none, errW_some] <;> rfl), bs4 HB GE772 GE784 GE788 GE796⟩
        ·
         replace c122 := Bool.eq_false_iff.mpr c122
         subst c122
         rw [if_neg (show ¬ (false = true) by decide)] at H
         replace H := Option.bind_eq_some_iff.mp H
         obtain ⟨⟨t807, t808⟩, A1230, H⟩ := H
         replace H : ((laws_markExtentS.f kj76 t792 t807).bind fun bt809 => ((laws_heldFileMap.f kj76 t808 1).bind fun t811 => (if t811 < 0 then (some false) else ((laws_heldExtentS.f kj76 bt809.2 t811).bind fun t812 => (if t812 < 0 then (some false) else (if t812 = bt809.1 then ((laws_toFileMap.f kj76 l0_0).bind fun t813 => ((impl_TruncateMap.f kj76 t813 a1).bind fun bt816 => ((laws_eqFileMap.f kj76 bt816.1 t777).bind fun t824 => (if t824 = true then ((laws_eqExtentS.f kj76 bt816.2.1 t780).bind fun t825 => (if t825 = true then (laws_FnExactTruncateMap.j2 kj76 bt809.2 bt809.1 (bt816.2.2 != t783) t808) else (laws_FnExactTruncateMap.j2 kj76 bt809.2 bt809.1 true t808))) else (laws_FnExactTruncateMap.j2 kj76 bt809.2 bt809.1 true t808))))) else (some false))))))) = some r := H
         have A123 := Aside0.mk A1230
         clear A1230
         replace H := Option.bind_eq_some_iff.mp H
         obtain ⟨⟨t809, t810⟩, A1240, H⟩ := H
         replace H : ((laws_heldFileMap.f kj76 t808 1).bind fun t811 => (if t811 < 0 then (some false) else ((laws_heldExtentS.f kj76 t810 t811).bind fun t812 => (if t812 < 0 then (some false) else (if t812 = t809 then ((laws_toFileMap.f kj76 l0_0).bind fun t813 => ((impl_TruncateMap.f kj76 t813 a1).bind fun bt816 => ((laws_eqFileMap.f kj76 bt816.1 t777).bind fun t824 => (if t824 = true then ((laws_eqExtentS.f kj76 bt816.2.1 t780).bind fun t825 => (if t825 = true then (laws_FnExactTruncateMap.j2 kj76 t810 t809 (bt816.2.2 != t783) t808) else (laws_FnExactTruncateMap.j2 kj76 t810 t809 true t808))) else (laws_FnExactTruncateMap.j2 kj76 t810 t809 true t808))))) else (some false)))))) = some r := H
         have A124 := Aside0.mk A1240
         clear A1240
         replace H := Option.bind_eq_some_iff.mp H
         obtain ⟨t811, A1250, H⟩ := H
         replace H : (if t811 < 0 then (some false) else ((laws_heldExtentS.f kj76 t810 t811).bind fun t812 => (if t812 < 0 then (some false) else (if t812 = t809 then ((laws_toFileMap.f kj76 l0_0).bind fun t813 => ((impl_TruncateMap.f kj76 t813 a1).bind fun bt816 => ((laws_eqFileMap.f kj76 bt816.1 t777).bind fun t824 => (if t824 = true then ((laws_eqExtentS.f kj76 bt816.2.1 t780).bind fun t825 => (if t825 = true then (laws_FnExactTruncateMap.j2 kj76 t810 t809 (bt816.2.2 != t783) t808) else (laws_FnExactTruncateMap.j2 kj76 t810 t809 true t808))) else (laws_FnExactTruncateMap.j2 kj76 t810 t809 true t808))))) else (some false))))) = some r := H
         have A125 := Aside0.mk A1250
         clear A1250
         by_cases c126 : t811 < 0
         ·
          rw [if_pos c126] at H
          have c126b0 : decide (t811 < 0) = true := decide_eq_true c126
          clear c126
          obtain rfl := Option.some.inj H
          have hnb127 := NB796_772.out
          have hnc127 := NB772_796.out
          have hnb128 := NB796_784.out
          have hnc128 := NB784_796.out
          have hnb129 := NB796_788.out
          have hnc129 := NB788_796.out
          have hcz130_0 := cz1 BK796
          have hfz130_0 := fz1 BK796
          go_wp2_with (first | ((with_reducible refine gate_callee (f := 26) rfl ?_); refine gL (some 85) rfl rfl Try.func26 (by kernel_rfl) rfl #[.agg #[.slice Ao33 t789.length co33], .int .i64 1] rfl ?_; (with_reducible refine (laws_markFileMap.calls kj76 (fun k_ => some k_ = (.slice Ao33 t789.length co33 : Value).ownBlock) (.slice Ao33 t789.length co33) t789 1 t807 t808 w _ ?side1 ?side2 A123.out).mono ?_); (case side1 => repeat (first | (with_reducible first | exact HB.out | apply below_alloc | apply pw_below_drewN | apply below_drew1 | refine below_set ?_ GE772.out | refine below_set ?_ GE784.out | refine below_set ?_ GE788.out | refine below_set ?_ GE796.out) | exact HB.out)); (case side2 => exact Kd.R_tight rfl HO_797000.out); rintro e w131 ⟨rfl, hy0, hb, hkp⟩; refine ⟨_, rfl, ?_⟩; replace HO_7 := Aside0.mk (Kd.R_mono (ok' := fun k_ => some k_ ≠ (v793 : Value).ownBlock) (Kd.R_keptB ((Kd.R_apart' HO_7.out (Kd.R_typed HO_797000.out) (by decide))) hkp (fun k_ hk_ hs_ => (hk_.2) hs_)) (fun k_ hk_ => hk_.1.1)); replace HO_11 := Aside0.mk (Kd.R_mono (ok' := fun k_ => some k_ ≠ (v781 : Value).ownBlock) (Kd.R_keptB ((Kd.R_apart' HO_11.out (Kd.R_typed HO_797000.out) (by decide))) hkp (fun k_ hk_ hs_ => (hk_.2) hs_)) (fun k_ hk_ => hk_.1.1)); replace HO_785000 := Aside0.mk (Kd.R_mono (ok' := fun k_ => some k_ ≠ (.slice Ao27 t804.length co27 : Value).ownBlock ∧ some k_ ≠ (.slice Ao33 t789.length co33 : Value).ownBlock) (Kd.R_keptB (HO_785000.out) hkp (fun k_ hk_ hs_ => (hk_.2) hs_)) (fun k_ hk_ => ⟨hk_.1.1, hk_.1.2⟩)); replace HO_789000 := Aside0.mk (Kd.R_mono (ok' := fun k_ => some k_ ≠ (.slice Ao21 t777.length co21 : Value).ownBlock ∧ some k_ ≠ (.slice Ao33 t789.length co33 : Value).ownBlock) (Kd.R_keptB (HO_789000.out) hkp (fun k_ hk_ hs_ => (hk_.2) hs_)) (fun k_ hk_ => ⟨hk_.1.1, hk_.1.2⟩)); replace BK772 := Aside0.mk (blk_kept (bk BK772) hkp (fun hs_ => (fun e_ => (Kd.R_ne HO_797000.out BK772.out (by decide)) e_) hs_)); replace BK784 := Aside0.mk (blk_kept (bk BK784) hkp (fun hs_ => (fun e_ => (Kd.R_ne HO_797000.out BK784.out (by decide)) e_) hs_)); replace BK788 := Aside0.mk (blk_kept (bk BK788) hkp (fun hs_ => (fun e_ => (Kd.R_ne HO_797000.out BK788.out (by decide)) e_) hs_)); replace BK796 := Aside0.mk (blk_kept (bk BK796) hkp (fun hs_ => (fun e_ => (Kd.R_ne HO_797000.out BK796.out (by decide)) e_) hs_)); replace HO_797000 := Aside0.mk (Kd.R_reok rfl hy0 (fun k_ e_ => HO_797000.out.1 k_ e_)); replace HB := Aside0.mk (hb); (try clear hb); (try clear hkp); (try clear hy0); obtain ⟨Ao132, co132, eo132⟩ := Kd.R_slice HO_11.out; subst eo132) | ((with_reducible refine gate_callee (f := 27) rfl ?_); refine gL (some 88) rfl rfl Try.func27 (by kernel_rfl) rfl #[.slice Ao132 t792.length co132, .int .i64 t807] rfl ?_; (with_reducible refine (laws_markExtentS.calls kj76 (fun k_ => some k_ = (.slice Ao132 t792.length co132 : Value).ownBlock) (.slice Ao132 t792.length co132) t792 t807 t809 t810 w _ ?side1 ?side2 A124.out).mono ?_); (case side1 => repeat (first | (with_reducible first | exact HB.out | apply below_alloc | apply pw_below_drewN | apply below_drew1 | refine below_set ?_ GE772.out | refine below_set ?_ GE784.out | refine below_set ?_ GE788.out | refine below_set ?_ GE796.out) | exact HB.out)); (case side2 => exact Kd.R_tight rfl HO_11.out); rintro e w133 ⟨rfl, hy0, hb, hkp⟩; refine ⟨_, rfl, ?_⟩; replace HO_7 := Aside0.mk (Kd.R_mono (ok' := fun k_ => some k_ ≠ (.slice Ao132 t792.length co132 : Value).ownBlock) (Kd.R_keptB (HO_7.out) hkp (fun k_ hk_ hs_ => (hk_) hs_)) (fun k_ hk_ => hk_.1)); replace HO_785000 := Aside0.mk (Kd.R_mono (ok' := fun k_ => some k_ ≠ (.slice Ao27 t804.length co27 : Value).ownBlock ∧ some k_ ≠ (.slice Ao33 t789.length co33 : Value).ownBlock) (Kd.R_keptB ((Kd.R_apart' HO_785000.out (Kd.R_typed HO_11.out) (by decide))) hkp (fun k_ hk_ hs_ => (hk_.2) hs_)) (fun k_ hk_ => ⟨hk_.1.1.1, hk_.1.1.2⟩)); replace HO_789000 := Aside0.mk (Kd.R_mono (ok' := fun k_ => some k_ ≠ (.slice Ao21 t777.length co21 : Value).ownBlock ∧ some k_ ≠ (.slice Ao33 t789.length co33 : Value).ownBlock) (Kd.R_keptB ((Kd.R_apart' HO_789000.out (Kd.R_typed HO_11.out) (by decide))) hkp (fun k_ hk_ hs_ => (hk_.2) hs_)) (fun k_ hk_ => ⟨hk_.1.1.1, hk_.1.1.2⟩)); replace HO_797000 := Aside0.mk (Kd.R_mono (ok' := fun k_ => some k_ ≠ (.slice Ao21 t777.length co21 : Value).ownBlock ∧ some k_ ≠ (.slice Ao27 t804.length co27 : Value).ownBlock) (Kd.R_keptB ((Kd.R_apart' HO_797000.out (Kd.R_typed HO_11.out) (by decide))) hkp (fun k_ hk_ hs_ => (hk_.2) hs_)) (fun k_ hk_ => ⟨hk_.1.1.1, hk_.1.1.2⟩)); replace BK772 := Aside0.mk (blk_kept (bk BK772) hkp (fun hs_ => (fun e_ => (Kd.R_ne HO_11.out BK772.out (by decide)) e_) hs_)); replace BK784 := Aside0.mk (blk_kept (bk BK784) hkp (fun hs_ => (fun e_ => (Kd.R_ne HO_11.out BK784.out (by decide)) e_) hs_)); replace BK788 := Aside0.mk (blk_kept (bk BK788) hkp (fun hs_ => (fun e_ => (Kd.R_ne HO_11.out BK788.out (by decide)) e_) hs_)); replace BK796 := Aside0.mk (blk_kept (bk BK796) hkp (fun hs_ => (fun e_ => (Kd.R_ne HO_11.out BK796.out (by decide)) e_) hs_)); replace HO_11 := Aside0.mk (Kd.R_reok rfl hy0 (fun k_ e_ => HO_11.out.1 k_ e_)); replace HB := Aside0.mk (hb); (try clear hb); (try clear hkp); (try clear hy0); have hcz134_0 := cz1 BK796; have hfz134_0 := fz1 BK796) | ((with_reducible refine gate_callee (f := 32) rfl ?_); refine goesL_ (some 91) rfl rfl Try.func32 (by kernel_rfl) rfl #[.agg #[.slice Ao33 t808.length co33], .int .i64 1] rfl (by (try simp only [List.map_toArray, List.map_cons, List.map_nil]); first | done | (rw [show t808.length = t789.length from (Kd.R_reads' HO_797000.out).1.symm] <;> rfl) | rfl | (simp only [List.length_drop, List.length_take]; rfl)) ?_; (with_reducible refine (laws_heldFileMap.calls kj76 _ _ t808 1 t811 _ ?side1 ?side2 A125.out).mono ?_); (case side1 => exact rc0 HO_797000); (case side2 => rw [show t808.length = t789.length from (Kd.R_reads' HO_797000.out).1.symm]; exact (Kd.R_reads' HO_797000.out).2.1); rintro e w135 ⟨rfl, hb⟩; refine ⟨_, rfl, ?_⟩; replace HO_7 := nr HO_7 hb; replace HO_11 := nr HO_11 hb; replace HO_785000 := nr HO_785000 hb; replace HO_789000 := nr HO_789000 hb; replace HO_797000 := nr HO_797000 hb; replace BK772 := nb BK772 hb; replace BK784 := nb BK784 hb; replace BK788 := nb BK788 hb; replace BK796 := nb BK796 hb; replace HB := Aside0.mk (below_step (bs4 HB GE772 GE784 GE788 GE796) hb); (try clear hb); (try clear hb2); (try clear hk); (try clear hi)))
          go_ret
          exact ⟨by first | rfl | (simp [errW_none, errW_some] <;> rfl) | (simp [*, errW_none, errW_some] <;> rfl), bs4 HB GE772 GE784 GE788 GE796⟩
         ·
          rw [if_neg c126] at H
          have c126b0 : decide (t811 < 0) = false := decide_eq_false c126
          clear c126
          replace H := Option.bind_eq_some_iff.mp H
          obtain ⟨t812, A1360, H⟩ := H
          replace H : (if t812 < 0 then (some false) else (if t812 = t809 then ((laws_toFileMap.f kj76 l0_0).bind fun t813 => ((impl_TruncateMap.f kj76 t813 a1).bind fun bt816 => ((laws_eqFileMap.f kj76 bt816.1 t777).bind fun t824 => (if t824 = true then ((laws_eqExtentS.f kj76 bt816.2.1 t780).bind fun t825 => (if t825 = true then (laws_FnExactTruncateMap.j2 kj76 t810 t809 (bt816.2.2 != t783) t808) else (laws_FnExactTruncateMap.j2 kj76 t810 t809 true t808))) else (laws_FnExactTruncateMap.j2 kj76 t810 t809 true t808))))) else (some false))) = some r := H
          have A136 := Aside0.mk A1360
          clear A1360
          by_cases c137 : t812 < 0
          ·
           rw [if_pos c137] at H
           have c137b0 : decide (t812 < 0) = true := decide_eq_true c137
           clear c137
           obtain rfl := Option.some.inj H
           have hnb138 := NB796_772.out
           have hnc138 := NB772_796.out
           have hnb139 := NB796_784.out
           have hnc139 := NB784_796.out
           have hnb140 := NB796_788.out
           have hnc140 := NB788_796.out
           have hcz141_0 := cz1 BK796
           have hfz141_0 := fz1 BK796
           go_wp2_with (first | ((with_reducible refine gate_callee (f := 26) rfl ?_); refine gL (some 85) rfl rfl Try.func26 (by kernel_rfl) rfl #[.agg #[.slice Ao33 t789.length co33], .int .i64 1] rfl ?_; (with_reducible refine (laws_markFileMap.calls kj76 (fun k_ => some k_ = (.slice Ao33 t789.length co33 : Value).ownBlock) (.slice Ao33 t789.length co33) t789 1 t807 t808 w _ ?side1 ?side2 A123.out).mono ?_); (case side1 => repeat (first | (with_reducible first | exact HB.out | apply below_alloc | apply pw_below_drewN | apply below_drew1 | refine below_set ?_ GE772.out | refine below_set ?_ GE784.out | refine below_set ?_ GE788.out | refine below_set ?_ GE796.out) | exact HB.out)); (case side2 => exact Kd.R_tight rfl HO_797000.out); rintro e w142 ⟨rfl, hy0, hb, hkp⟩; refine ⟨_, rfl, ?_⟩; replace HO_7 := Aside0.mk (Kd.R_mono (ok' := fun k_ => some k_ ≠ (v793 : Value).ownBlock) (Kd.R_keptB ((Kd.R_apart' HO_7.out (Kd.R_typed HO_797000.out) (by decide))) hkp (fun k_ hk_ hs_ => (hk_.2) hs_)) (fun k_ hk_ => hk_.1.1)); replace HO_11 := Aside0.mk (Kd.R_mono (ok' := fun k_ => some k_ ≠ (v781 : Value).ownBlock) (Kd.R_keptB ((Kd.R_apart' HO_11.out (Kd.R_typed HO_797000.out) (by decide))) hkp (fun k_ hk_ hs_ => (hk_.2) hs_)) (fun k_ hk_ => hk_.1.1)); replace HO_785000 := Aside0.mk (Kd.R_mono (ok' := fun k_ => some k_ ≠ (.slice Ao27 t804.length co27 : Value).ownBlock ∧ some k_ ≠ (.slice Ao33 t789.length co33 : Value).ownBlock) (Kd.R_keptB (HO_785000.out) hkp (fun k_ hk_ hs_ => (hk_.2) hs_)) (fun k_ hk_ => ⟨hk_.1.1, hk_.1.2⟩)); replace HO_789000 := Aside0.mk (Kd.R_mono (ok' := fun k_ => some k_ ≠ (.slice Ao21 t777.length co21 : Value).ownBlock ∧ some k_ ≠ (.slice Ao33 t789.length co33 : Value).ownBlock) (Kd.R_keptB (HO_789000.out) hkp (fun k_ hk_ hs_ => (hk_.2) hs_)) (fun k_ hk_ => ⟨hk_.1.1, hk_.1.2⟩)); replace BK772 := Aside0.mk (blk_kept (bk BK772) hkp (fun hs_ => (fun e_ => (Kd.R_ne HO_797000.out BK772.out (by decide)) e_) hs_)); replace BK784 := Aside0.mk (blk_kept (bk BK784) hkp (fun hs_ => (fun e_ => (Kd.R_ne HO_797000.out BK784.out (by decide)) e_) hs_)); replace BK788 := Aside0.mk (blk_kept (bk BK788) hkp (fun hs_ => (fun e_ => (Kd.R_ne HO_797000.out BK788.out (by decide)) e_) hs_)); replace BK796 := Aside0.mk (blk_kept (bk BK796) hkp (fun hs_ => (fun e_ => (Kd.R_ne HO_797000.out BK796.out (by decide)) e_) hs_)); replace HO_797000 := Aside0.mk (Kd.R_reok rfl hy0 (fun k_ e_ => HO_797000.out.1 k_ e_)); replace HB := Aside0.mk (hb); (try clear hb); (try clear hkp); (try clear hy0); obtain ⟨Ao143, co143, eo143⟩ := Kd.R_slice HO_11.out; subst eo143) | ((with_reducible refine gate_callee (f := 27) rfl ?_); refine gL (some 88) rfl rfl Try.func27 (by kernel_rfl) rfl #[.slice Ao143 t792.length co143, .int .i64 t807] rfl ?_; (with_reducible refine (laws_markExtentS.calls kj76 (fun k_ => some k_ = (.slice Ao143 t792.length co143 : Value).ownBlock) (.slice Ao143 t792.length co143) t792 t807 t809 t810 w _ ?side1 ?side2 A124.out).mono ?_); (case side1 => repeat (first | (with_reducible first | exact HB.out | apply below_alloc | apply pw_below_drewN | apply below_drew1 | refine below_set ?_ GE772.out | refine below_set ?_ GE784.out | refine below_set ?_ GE788.out | refine below_set ?_ GE796.out) | exact HB.out)); (case side2 => exact Kd.R_tight rfl HO_11.out); rintro e w144 ⟨rfl, hy0, hb, hkp⟩; refine ⟨_, rfl, ?_⟩; replace HO_7 := Aside0.mk (Kd.R_mono (ok' := fun k_ => some k_ ≠ (.slice Ao143 t792.length co143 : Value).ownBlock) (Kd.R_keptB (HO_7.out) hkp (fun k_ hk_ hs_ => (hk_) hs_)) (fun k_ hk_ => hk_.1)); replace HO_785000 := Aside0.mk (Kd.R_mono (ok' := fun k_ => some k_ ≠ (.slice Ao27 t804.length co27 : Value).ownBlock ∧ some k_ ≠ (.slice Ao33 t789.length co33 : Value).ownBlock) (Kd.R_keptB ((Kd.R_apart' HO_785000.out (Kd.R_typed HO_11.out) (by decide))) hkp (fun k_ hk_ hs_ => (hk_.2) hs_)) (fun k_ hk_ => ⟨hk_.1.1.1, hk_.1.1.2⟩)); replace HO_789000 := Aside0.mk (Kd.R_mono (ok' := fun k_ => some k_ ≠ (.slice Ao21 t777.length co21 : Value).ownBlock ∧ some k_ ≠ (.slice Ao33 t789.length co33 : Value).ownBlock) (Kd.R_keptB ((Kd.R_apart' HO_789000.out (Kd.R_typed HO_11.out) (by decide))) hkp (fun k_ hk_ hs_ => (hk_.2) hs_)) (fun k_ hk_ => ⟨hk_.1.1.1, hk_.1.1.2⟩)); replace HO_797000 := Aside0.mk (Kd.R_mono (ok' := fun k_ => some k_ ≠ (.slice Ao21 t777.length co21 : Value).ownBlock ∧ some k_ ≠ (.slice Ao27 t804.length co27 : Value).ownBlock) (Kd.R_keptB ((Kd.R_apart' HO_797000.out (Kd.R_typed HO_11.out) (by decide))) hkp (fun k_ hk_ hs_ => (hk_.2) hs_)) (fun k_ hk_ => ⟨hk_.1.1.1, hk_.1.1.2⟩)); replace BK772 := Aside0.mk (blk_kept (bk BK772) hkp (fun hs_ => (fun e_ => (Kd.R_ne HO_11.out BK772.out (by decide)) e_) hs_)); replace BK784 := Aside0.mk (blk_kept (bk BK784) hkp (fun hs_ => (fun e_ => (Kd.R_ne HO_11.out BK784.out (by decide)) e_) hs_)); replace BK788 := Aside0.mk (blk_kept (bk BK788) hkp (fun hs_ => (fun e_ => (Kd.R_ne HO_11.out BK788.out (by decide)) e_) hs_)); replace BK796 := Aside0.mk (blk_kept (bk BK796) hkp (fun hs_ => (fun e_ => (Kd.R_ne HO_11.out BK796.out (by decide)) e_) hs_)); replace HO_11 := Aside0.mk (Kd.R_reok rfl hy0 (fun k_ e_ => HO_11.out.1 k_ e_)); replace HB := Aside0.mk (hb); (try clear hb); (try clear hkp); (try clear hy0); have hcz145_0 := cz1 BK796; have hfz145_0 := fz1 BK796) | ((with_reducible refine gate_callee (f := 32) rfl ?_); refine goesL_ (some 91) rfl rfl Try.func32 (by kernel_rfl) rfl #[.agg #[.slice Ao33 t808.length co33], .int .i64 1] rfl (by (try simp only [List.map_toArray, List.map_cons, List.map_nil]); first | done | (rw [show t808.length = t789.length from (Kd.R_reads' HO_797000.out).1.symm] <;> rfl) | rfl | (simp only [List.length_drop, List.length_take]; rfl)) ?_; (with_reducible refine (laws_heldFileMap.calls kj76 _ _ t808 1 t811 _ ?side1 ?side2 A125.out).mono ?_); (case side1 => exact rc0 HO_797000); (case side2 => rw [show t808.length = t789.length from (Kd.R_reads' HO_797000.out).1.symm]; exact (Kd.R_reads' HO_797000.out).2.1); rintro e w146 ⟨rfl, hb⟩; refine ⟨_, rfl, ?_⟩; replace HO_7 := nr HO_7 hb; replace HO_11 := nr HO_11 hb; replace HO_785000 := nr HO_785000 hb; replace HO_789000 := nr HO_789000 hb; replace HO_797000 := nr HO_797000 hb; replace BK772 := nb BK772 hb; replace BK784 := nb BK784 hb; replace BK788 := nb BK788 hb; replace BK796 := nb BK796 hb; replace HB := Aside0.mk (below_step (bs4 HB GE772 GE784 GE788 GE796) hb); (try clear hb); (try clear hb2); (try clear hk); (try clear hi)) | ((with_reducible refine gate_callee (f := 28) rfl ?_); refine goesL_ (some 96) rfl rfl Try.func28 (by kernel_rfl) rfl #[.slice Ao143 t810.length co143, .int .i64 t811] rfl (by (try simp only [List.map_toArray, List.map_cons, List.map_nil]); first | done | (rw [show t810.length = t792.length from (Kd.R_reads' HO_11.out).1.symm] <;> rfl) | rfl | (simp only [List.length_drop, List.length_take]; rfl)) ?_; (with_reducible refine (laws_heldExtentS.calls kj76 _ _ t810 t811 t812 _ ?side1 ?side2 A136.out).mono ?_); (case side1 => exact rc0 HO_11); (case side2 => rw [show t810.length = t792.length from (Kd.R_reads' HO_11.out).1.symm]; exact (Kd.R_reads' HO_11.out).2.1); rintro e w' ⟨rfl, ⟨nd, rfl⟩⟩; refine ⟨_, rfl, ?_⟩))
           go_ret
           exact ⟨by first | rfl | (simp [errW_none, errW_some] <;> rfl) | (simp [*, errW_none, errW_some] <;> rfl), bs4 HB GE772 GE784 GE788 GE796⟩
          ·
           rw [if_neg c137] at H
           have c137b0 : decide (t812 < 0) = false := decide_eq_false c137
           clear c137
           by_cases c147 : t812 = t809
           ·
            rw [if_pos c147] at H
            have c147b0 : (t812 == t809) = true := beq_iff_eq.mpr c147
            have c147b1 : (t812 != t809) = false := bne_eq_false_iff_eq.mpr c147
            clear c147
            replace H := Option.bind_eq_some_iff.mp H
            obtain ⟨t813, A1480, H⟩ := H
            replace H : ((impl_TruncateMap.f kj76 t813 a1).bind fun bt816 => ((laws_eqFileMap.f kj76 bt816.1 t777).bind fun t824 => (if t824 = true then ((laws_eqExtentS.f kj76 bt816.2.1 t780).bind fun t825 => (if t825 = true then (laws_FnExactTruncateMap.j2 kj76 t810 t809 (bt816.2.2 != t783) t808) else (laws_FnExactTruncateMap.j2 kj76 t810 t809 true t808))) else (laws_FnExactTruncateMap.j2 kj76 t810 t809 true t808)))) = some r := H
            have A148 := Aside0.mk A1480
            clear A1480
            replace H := Option.bind_eq_some_iff.mp H
            obtain ⟨⟨t816, t819, t822⟩, A1490, H⟩ := H
            replace H : ((laws_eqFileMap.f kj76 t816 t777).bind fun t824 => (if t824 = true then ((laws_eqExtentS.f kj76 t819 t780).bind fun t825 => (if t825 = true then (laws_FnExactTruncateMap.j2 kj76 t810 t809 (t822 != t783) t808) else (laws_FnExactTruncateMap.j2 kj76 t810 t809 true t808))) else (laws_FnExactTruncateMap.j2 kj76 t810 t809 true t808))) = some r := H
            have A149 := Aside0.mk A1490
            clear A1490
            have HC150 := Aside0.mk H
            clear H
            have hnb151 := NB796_772.out
            have hnc151 := NB772_796.out
            have hnb152 := NB796_784.out
            have hnc152 := NB784_796.out
            have hnb153 := NB796_788.out
            have hnc153 := NB788_796.out
            have hcz154_0 := cz1 BK796
            have hfz154_0 := fz1 BK796
            go_upto_region 29 with (first | ((with_reducible refine gate_callee (f := 26) rfl ?_); refine gL (some 85) rfl rfl Try.func26 (by kernel_rfl) rfl #[.agg #[.slice Ao33 t789.length co33], .int .i64 1] rfl ?_; (with_reducible refine (laws_markFileMap.calls kj76 (fun k_ => some k_ = (.slice Ao33 t789.length co33 : Value).ownBlock) (.slice Ao33 t789.length co33) t789 1 t807 t808 w _ ?side1 ?side2 A123.out).mono ?_); (case side1 => repeat (first | (with_reducible first | exact HB.out | apply below_alloc | apply pw_below_drewN | apply below_drew1 | refine below_set ?_ GE772.out | refine below_set ?_ GE784.out | refine below_set ?_ GE788.out | refine below_set ?_ GE796.out) | exact HB.out)); (case side2 => exact Kd.R_tight rfl HO_797000.out); rintro e w155 ⟨rfl, hy0, hb, hkp⟩; refine ⟨_, rfl, ?_⟩; replace HO_7 := Aside0.mk (Kd.R_mono (ok' := fun k_ => some k_ ≠ (v793 : Value).ownBlock) (Kd.R_keptB ((Kd.R_apart' HO_7.out (Kd.R_typed HO_797000.out) (by decide))) hkp (fun k_ hk_ hs_ => (hk_.2) hs_)) (fun k_ hk_ => hk_.1.1)); replace HO_11 := Aside0.mk (Kd.R_mono (ok' := fun k_ => some k_ ≠ (v781 : Value).ownBlock) (Kd.R_keptB ((Kd.R_apart' HO_11.out (Kd.R_typed HO_797000.out) (by decide))) hkp (fun k_ hk_ hs_ => (hk_.2) hs_)) (fun k_ hk_ => hk_.1.1)); replace HO_785000 := Aside0.mk (Kd.R_mono (ok' := fun k_ => some k_ ≠ (.slice Ao27 t804.length co27 : Value).ownBlock ∧ some k_ ≠ (.slice Ao33 t789.length co33 : Value).ownBlock) (Kd.R_keptB (HO_785000.out) hkp (fun k_ hk_ hs_ => (hk_.2) hs_)) (fun k_ hk_ => ⟨hk_.1.1, hk_.1.2⟩)); replace HO_789000 := Aside0.mk (Kd.R_mono (ok' := fun k_ => some k_ ≠ (.slice Ao21 t777.length co21 : Value).ownBlock ∧ some k_ ≠ (.slice Ao33 t789.length co33 : Value).ownBlock) (Kd.R_keptB (HO_789000.out) hkp (fun k_ hk_ hs_ => (hk_.2) hs_)) (fun k_ hk_ => ⟨hk_.1.1, hk_.1.2⟩)); replace BK772 := Aside0.mk (blk_kept (bk BK772) hkp (fun hs_ => (fun e_ => (Kd.R_ne HO_797000.out BK772.out (by decide)) e_) hs_)); replace BK784 := Aside0.mk (blk_kept (bk BK784) hkp (fun hs_ => (fun e_ => (Kd.R_ne HO_797000.out BK784.out (by decide)) e_) hs_)); replace BK788 := Aside0.mk (blk_kept (bk BK788) hkp (fun hs_ => (fun e_ => (Kd.R_ne HO_797000.out BK788.out (by decide)) e_) hs_)); replace BK796 := Aside0.mk (blk_kept (bk BK796) hkp (fun hs_ => (fun e_ => (Kd.R_ne HO_797000.out BK796.out (by decide)) e_) hs_)); replace HO_797000 := Aside0.mk (Kd.R_reok rfl hy0 (fun k_ e_ => HO_797000.out.1 k_ e_)); replace HB := Aside0.mk (hb); (try clear hb); (try clear hkp); (try clear hy0); obtain ⟨Ao156, co156, eo156⟩ := Kd.R_slice HO_11.out; subst eo156) | ((with_reducible refine gate_callee (f := 27) rfl ?_); refine gL (some 88) rfl rfl Try.func27 (by kernel_rfl) rfl #[.slice Ao156 t792.length co156, .int .i64 t807] rfl ?_; (with_reducible refine (laws_markExtentS.calls kj76 (fun k_ => some k_ = (.slice Ao156 t792.length co156 : Value).ownBlock) (.slice Ao156 t792.length co156) t792 t807 t809 t810 w _ ?side1 ?side2 A124.out).mono ?_); (case side1 => repeat (first | (with_reducible first | exact HB.out | apply below_alloc | apply pw_below_drewN | apply below_drew1 | refine below_set ?_ GE772.out | refine below_set ?_ GE784.out | refine below_set ?_ GE788.out | refine below_set ?_ GE796.out) | exact HB.out)); (case side2 => exact Kd.R_tight rfl HO_11.out); rintro e w157 ⟨rfl, hy0, hb, hkp⟩; refine ⟨_, rfl, ?_⟩; replace HO_7 := Aside0.mk (Kd.R_mono (ok' := fun k_ => some k_ ≠ (.slice Ao156 t792.length co156 : Value).ownBlock) (Kd.R_keptB (HO_7.out) hkp (fun k_ hk_ hs_ => (hk_) hs_)) (fun k_ hk_ => hk_.1)); replace HO_785000 := Aside0.mk (Kd.R_mono (ok' := fun k_ => some k_ ≠ (.slice Ao27 t804.length co27 : Value).ownBlock ∧ some k_ ≠ (.slice Ao33 t789.length co33 : Value).ownBlock) (Kd.R_keptB ((Kd.R_apart' HO_785000.out (Kd.R_typed HO_11.out) (by decide))) hkp (fun k_ hk_ hs_ => (hk_.2) hs_)) (fun k_ hk_ => ⟨hk_.1.1.1, hk_.1.1.2⟩)); replace HO_789000 := Aside0.mk (Kd.R_mono (ok' := fun k_ => some k_ ≠ (.slice Ao21 t777.length co21 : Value).ownBlock ∧ some k_ ≠ (.slice Ao33 t789.length co33 : Value).ownBlock) (Kd.R_keptB ((Kd.R_apart' HO_789000.out (Kd.R_typed HO_11.out) (by decide))) hkp (fun k_ hk_ hs_ => (hk_.2) hs_)) (fun k_ hk_ => ⟨hk_.1.1.1, hk_.1.1.2⟩)); replace HO_797000 := Aside0.mk (Kd.R_mono (ok' := fun k_ => some k_ ≠ (.slice Ao21 t777.length co21 : Value).ownBlock ∧ some k_ ≠ (.slice Ao27 t804.length co27 : Value).ownBlock) (Kd.R_keptB ((Kd.R_apart' HO_797000.out (Kd.R_typed HO_11.out) (by decide))) hkp (fun k_ hk_ hs_ => (hk_.2) hs_)) (fun k_ hk_ => ⟨hk_.1.1.1, hk_.1.1.2⟩)); replace BK772 := Aside0.mk (blk_kept (bk BK772) hkp (fun hs_ => (fun e_ => (Kd.R_ne HO_11.out BK772.out (by decide)) e_) hs_)); replace BK784 := Aside0.mk (blk_kept (bk BK784) hkp (fun hs_ => (fun e_ => (Kd.R_ne HO_11.out BK784.out (by decide)) e_) hs_)); replace BK788 := Aside0.mk (blk_kept (bk BK788) hkp (fun hs_ => (fun e_ => (Kd.R_ne HO_11.out BK788.out (by decide)) e_) hs_)); replace BK796 := Aside0.mk (blk_kept (bk BK796) hkp (fun hs_ => (fun e_ => (Kd.R_ne HO_11.out BK796.out (by decide)) e_) hs_)); replace HO_11 := Aside0.mk (Kd.R_reok rfl hy0 (fun k_ e_ => HO_11.out.1 k_ e_)); replace HB := Aside0.mk (hb); (try clear hb); (try clear hkp); (try clear hy0); have hcz158_0 := cz1 BK796; have hfz158_0 := fz1 BK796) | ((with_reducible refine gate_callee (f := 32) rfl ?_); refine goesL_ (some 91) rfl rfl Try.func32 (by kernel_rfl) rfl #[.agg #[.slice Ao33 t808.length co33], .int .i64 1] rfl (by (try simp only [List.map_toArray, List.map_cons, List.map_nil]); first | done | (rw [show t808.length = t789.length from (Kd.R_reads' HO_797000.out).1.symm] <;> rfl) | rfl | (simp only [List.length_drop, List.length_take]; rfl)) ?_; (with_reducible refine (laws_heldFileMap.calls kj76 _ _ t808 1 t811 _ ?side1 ?side2 A125.out).mono ?_); (case side1 => exact rc0 HO_797000); (case side2 => rw [show t808.length = t789.length from (Kd.R_reads' HO_797000.out).1.symm]; exact (Kd.R_reads' HO_797000.out).2.1); rintro e w159 ⟨rfl, hb⟩; refine ⟨_, rfl, ?_⟩; replace HO_7 := nr HO_7 hb; replace HO_11 := nr HO_11 hb; replace HO_785000 := nr HO_785000 hb; replace HO_789000 := nr HO_789000 hb; replace HO_797000 := nr HO_797000 hb; replace BK772 := nb BK772 hb; replace BK784 := nb BK784 hb; replace BK788 := nb BK788 hb; replace BK796 := nb BK796 hb; replace HB := Aside0.mk (below_step (bs4 HB GE772 GE784 GE788 GE796) hb); (try clear hb); (try clear hb2); (try clear hk); (try clear hi)) | ((with_reducible refine gate_callee (f := 28) rfl ?_); refine goesL_ (some 96) rfl rfl Try.func28 (by kernel_rfl) rfl #[.slice Ao156 t810.length co156, .int .i64 t811] rfl (by (try simp only [List.map_toArray, List.map_cons, List.map_nil]); first | done | (rw [show t810.length = t792.length from (Kd.R_reads' HO_11.out).1.symm] <;> rfl) | rfl | (simp only [List.length_drop, List.length_take]; rfl)) ?_; (with_reducible refine (laws_heldExtentS.calls kj76 _ _ t810 t811 t812 _ ?side1 ?side2 A136.out).mono ?_); (case side1 => exact rc0 HO_11); (case side2 => rw [show t810.length = t792.length from (Kd.R_reads' HO_11.out).1.symm]; exact (Kd.R_reads' HO_11.out).2.1); rintro e w' ⟨rfl, ⟨nd, rfl⟩⟩; refine ⟨_, rfl, ?_⟩; (try (rw [drewN_self w159]; generalize hq_ : World.drewN w159 _ = w159; have n0_ : Aside0 (Kd.R k61 61 w159 w.heap.size (fun k_ => some k_ ≠ (v781 : Value).ownBlock) (.slice Ao156 t792.length co156) t810) := ⟨by rw [← hq_]; exact (rr HO_11.out)⟩; have n1_ : Aside0 (Kd.R k61 61 w159 w.heap.size (fun k_ => some k_ ≠ (.slice Ao156 t792.length co156 : Value).ownBlock) v781 t780) := ⟨by rw [← hq_]; exact (rr HO_7.out)⟩; have n2_ : Aside0 (Kd.R k48 48 w159 w.heap.size (fun k_ => some k_ ≠ (.slice Ao27 t804.length co27 : Value).ownBlock ∧ some k_ ≠ (.slice Ao33 t789.length co33 : Value).ownBlock) (.slice Ao21 t777.length co21) t777) := ⟨by rw [← hq_]; exact (rr HO_785000.out)⟩; have n3_ : Aside0 (Kd.R k48 48 w159 w.heap.size (fun k_ => some k_ ≠ (.slice Ao21 t777.length co21 : Value).ownBlock ∧ some k_ ≠ (.slice Ao33 t789.length co33 : Value).ownBlock) (.slice Ao27 t804.length co27) t804) := ⟨by rw [← hq_]; exact (rr HO_789000.out)⟩; have n4_ : Aside0 (Kd.R k48 48 w159 w.heap.size (fun k_ => some k_ ≠ (.slice Ao21 t777.length co21 : Value).ownBlock ∧ some k_ ≠ (.slice Ao27 t804.length co27 : Value).ownBlock) (.slice Ao33 t789.length co33) t808) := ⟨by rw [← hq_]; exact (rr HO_797000.out)⟩; have n5_ : Aside0 (w159.heap[gb772]? = some (.cells #[.slice A0_0 l0_0.length c0_0] 24 (0, 0))) := ⟨by rw [← hq_]; exact (bk BK772)⟩; have n6_ : Aside0 (w159.heap[gb784]? = some (.cells #[.slice Ao21 t777.length co21] 29 (0, 0))) := ⟨by rw [← hq_]; exact (bk BK784)⟩; have n7_ : Aside0 (w159.heap[gb788]? = some (.cells #[.slice Ao27 t804.length co27] 29 (0, 0))) := ⟨by rw [← hq_]; exact (bk BK788)⟩; have n8_ : Aside0 (w159.heap[gb796]? = some (.cells #[.slice Ao33 t789.length co33] 29 (0, 0))) := ⟨by rw [← hq_]; exact (bk BK796)⟩; have n9_ : Aside0 (Below w.heap.size w w159) := ⟨by rw [← hq_]; exact (bs4 HB GE772 GE784 GE788 GE796)⟩; clear HO_11 HO_7 HO_785000 HO_789000 HO_797000 BK772 BK784 BK788 BK796 HB hq_; have HO_11 := n0_; have HO_7 := n1_; have HO_785000 := n2_; have HO_789000 := n3_; have HO_797000 := n4_; have BK772 := n5_; have BK784 := n6_; have BK788 := n7_; have BK796 := n8_; have HB := n9_; clear n0_ n1_ n2_ n3_ n4_ n5_ n6_ n7_ n8_ n9_)); have hnb160 := NB772_784.out; have hnc160 := NB784_772.out; have hnb161 := NB772_788.out; have hnc161 := NB788_772.out; have hcz162_0 := cz1 BK772; have hfz162_0 := fz1 BK772) | ((with_reducible refine gate_callee (f := 16) rfl ?_); refine gL (some 104) rfl rfl Try.func16 (by kernel_rfl) rfl #[.agg #[.slice A0_0 l0_0.length c0_0]] rfl ?_; (with_reducible refine (laws_toFileMap.calls kj76 _ _ l0_0 t813 _ ?side1 ?side2 A148.out).mono ?_); (case side1 => exact cb HR0_0 HB); (case side2 => exact HC0_0.out); rintro e w163 ⟨v814, rfl, ho0, hb⟩; refine ⟨_, rfl, ?_⟩; replace HO_7 := nr HO_7 hb; replace HO_11 := nr HO_11 hb; have HO815 := Aside0.mk (Kd.R_lower (Kd.R_new' (Kd.R_new' (Kd.R_new' ho0 (Kd.R_lt (rr HO_785000.out))) (Kd.R_lt (rr HO_789000.out))) (Kd.R_lt (rr HO_797000.out))) (below_size (bs4 HB GE772 GE784 GE788 GE796))); replace HO_785000 := Aside0.mk (Kd.R_elder' (rr HO_785000.out) (Kd.R_base ho0) hb); replace HO_789000 := Aside0.mk (Kd.R_elder' (rr HO_789000.out) (Kd.R_base ho0) hb); replace HO_797000 := Aside0.mk (Kd.R_elder' (rr HO_797000.out) (Kd.R_base ho0) hb); replace BK772 := nb BK772 hb; replace BK784 := nb BK784 hb; replace BK788 := nb BK788 hb; replace BK796 := nb BK796 hb; replace HB := Aside0.mk (below_step (bs4 HB GE772 GE784 GE788 GE796) hb); (try clear hb); (try clear hb2); (try clear hk); (try clear hi); (try clear ho0); obtain ⟨Ao164, co164, eo164⟩ := Kd.R_slice HO815.out; subst eo164) | ((with_reducible refine gate_callee (f := 38) rfl ?_); refine gL (some 106) rfl rfl Try.func38 (by kernel_rfl) rfl #[.agg #[.slice Ao164 t813.length co164], .int .i64 a1] rfl ?_; (with_reducible refine (impl_TruncateMap.calls kj76 _ _ t813 a1 t816 t819 t822 _ ?side1 ?side2 A149.out).mono ?_); (case side1 => exact rc0 HO815); (case side2 => exact (Kd.R_reads' HO815.out).2.1); rintro e w165 ⟨v817, v820, rfl, ho0, ho1, hb⟩; refine ⟨_, rfl, ?_⟩; have HO818 := Aside0.mk (Kd.R_lower (Kd.R_new' (Kd.R_new' (Kd.R_new' (Kd.R_new' ho0 (Kd.R_lt (rr HO_785000.out))) (Kd.R_lt (rr HO_789000.out))) (Kd.R_lt (rr HO_797000.out))) (Kd.R_lt (rr HO815.out))) (below_size (bs4 HB GE772 GE784 GE788 GE796))); replace HO_785000 := Aside0.mk (Kd.R_elder' (rr HO_785000.out) (Kd.R_base ho0) hb); replace HO_789000 := Aside0.mk (Kd.R_elder' (rr HO_789000.out) (Kd.R_base ho0) hb); replace HO_797000 := Aside0.mk (Kd.R_elder' (rr HO_797000.out) (Kd.R_base ho0) hb); replace HO815 := Aside0.mk (Kd.R_elder' (rr HO815.out) (Kd.R_base ho0) hb); have HO821 := Aside0.mk (Kd.R_lower (Kd.R_new' (Kd.R_new' ho1 (Kd.R_lt (rr HO_7.out))) (Kd.R_lt (rr HO_11.out))) (below_size (bs4 HB GE772 GE784 GE788 GE796))); replace HO_7 := Aside0.mk (Kd.R_elder' (rr HO_7.out) (Kd.R_base ho1) hb); replace HO_11 := Aside0.mk (Kd.R_elder' (rr HO_11.out) (Kd.R_base ho1) hb); replace BK772 := nb BK772 hb; replace BK784 := nb BK784 hb; replace BK788 := nb BK788 hb; replace BK796 := nb BK796 hb; replace HB := Aside0.mk (below_step (bs4 HB GE772 GE784 GE788 GE796) hb); (try clear hb); (try clear hb2); (try clear hk); (try clear hi); (try clear ho0); (try clear ho1)) | ((with_reducible refine gate_dst (N := 16) rfl ?_); refine box_event ?hg (N := 16) ?hd (cs := #[.slice none 0 0]) (t := 29) ?hr ?_; (case hd => rfl); (case hg => rfl); (case hr => first | (go_simp; done) | (go_simp; rfl)); intro gb823 hg w166 hbox hb; replace HO_7 := nr HO_7 hb; replace HO_11 := nr HO_11 hb; replace HO_785000 := nr HO_785000 hb; replace HO_789000 := nr HO_789000 hb; replace HO_797000 := nr HO_797000 hb; replace HO815 := nr HO815 hb; replace HO818 := nr HO818 hb; replace HO821 := nr HO821 hb; have BK823 := Aside0.mk (hbox); have GW823 := Aside0.mk ((by rw [hg]; exact (below_size (bs4 HB GE772 GE784 GE788 GE796)) : w.heap.size ≤ gb823)); have GE823 := Aside0.mk ((by rw [hg]; exact (below_size (bs4 HB GE772 GE784 GE788 GE796)) : w.heap.size ≤ gb823)); replace HB := Aside0.mk (below_step (bs4 HB GE772 GE784 GE788 GE796) hb); have NB772_823 := Aside0.mk ((bn BK772 hg : gb772 ≠ gb823)); have NB823_772 := Aside0.mk ((bm BK772 hg : gb823 ≠ gb772)); replace BK772 := nb BK772 hb; have NB784_823 := Aside0.mk ((bn BK784 hg : gb784 ≠ gb823)); have NB823_784 := Aside0.mk ((bm BK784 hg : gb823 ≠ gb784)); replace BK784 := nb BK784 hb; have NB788_823 := Aside0.mk ((bn BK788 hg : gb788 ≠ gb823)); have NB823_788 := Aside0.mk ((bm BK788 hg : gb823 ≠ gb788)); replace BK788 := nb BK788 hb; have NB796_823 := Aside0.mk ((bn BK796 hg : gb796 ≠ gb823)); have NB823_796 := Aside0.mk ((bm BK796 hg : gb823 ≠ gb796)); replace BK796 := nb BK796 hb; clear hb hbox hg; obtain ⟨Ao167, co167, eo167⟩ := Kd.R_slice HO818.out; subst eo167; have hnb168 := NB823_772.out; have hnc168 := NB772_823.out; have hnb169 := NB823_784.out; have hnc169 := NB784_823.out; have hnb170 := NB823_788.out; have hnc170 := NB788_823.out; have hnb171 := NB823_796.out; have hnc171 := NB796_823.out; have hcz172_0 := cz1 BK823; have hfz172_0 := fz1 BK823))
            (try simp only [Act.put, List.setIfInBounds_toArray, List.set_cons_zero, List.set_cons_succ])
            go_cut [124] (fun v124 wc => ∃ (kq : Nat) (x124_149 : Bool), v124 = .bool x124_149 ∧ Aside0 (laws_FnExactTruncateMap.j2 kq t810 t809 x124_149 t808 = some r) ∧ Aside0 (kq ≤ kj76) ∧ Aside0 (Kd.R k61 61 wc w.heap.size (fun _ => True) (.slice Ao156 t792.length co156) t810) ∧ Aside0 (Kd.R k48 48 wc w.heap.size (fun k_ => some k_ ≠ ((.slice Ao27 t804.length co27) : Value).ownBlock ∧ some k_ ≠ ((.slice Ao33 t789.length co33) : Value).ownBlock ∧ some k_ ≠ ((.slice Ao167 t816.length co167) : Value).ownBlock) (.slice Ao21 t777.length co21) t777) ∧ Aside0 (Kd.R k48 48 wc w.heap.size (fun k_ => some k_ ≠ ((.slice Ao21 t777.length co21) : Value).ownBlock ∧ some k_ ≠ ((.slice Ao33 t789.length co33) : Value).ownBlock ∧ some k_ ≠ ((.slice Ao167 t816.length co167) : Value).ownBlock) (.slice Ao27 t804.length co27) t804) ∧ Aside0 (Kd.R k48 48 wc w.heap.size (fun k_ => some k_ ≠ ((.slice Ao21 t777.length co21) : Value).ownBlock ∧ some k_ ≠ ((.slice Ao27 t804.length co27) : Value).ownBlock ∧ some k_ ≠ ((.slice Ao167 t816.length co167) : Value).ownBlock) (.slice Ao33 t789.length co33) t808) ∧ Aside0 (Kd.R k48 48 wc w.heap.size (fun k_ => some k_ ≠ ((.slice Ao21 t777.length co21) : Value).ownBlock ∧ some k_ ≠ ((.slice Ao27 t804.length co27) : Value).ownBlock ∧ some k_ ≠ ((.slice Ao33 t789.length co33) : Value).ownBlock) (.slice Ao167 t816.length co167) t816) ∧ Aside0 (wc.heap[gb772]? = some (.cells #[(.slice A0_0 l0_0.length c0_0)] 24 (0, 0))) ∧ Aside0 (wc.heap[gb784]? = some (.cells #[(.slice Ao21 t777.length co21)] 29 (0, 0))) ∧ Aside0 (wc.heap[gb788]? = some (.cells #[(.slice Ao27 t804.length co27)] 29 (0, 0))) ∧ Aside0 (wc.heap[gb796]? = some (.cells #[(.slice Ao33 t789.length co33)] 29 (0, 0))) ∧ Aside0 (wc.heap[gb823]? = some (.cells #[(.slice Ao167 t816.length co167)] 29 (0, 0))) ∧ Aside0 (Below w.heap.size w wc))
            case first =>
             have H := HC150.out
             clear HC150
             replace H := Option.bind_eq_some_iff.mp H
             obtain ⟨t824, A1730, H⟩ := H
             replace H : (if t824 = true then ((laws_eqExtentS.f kj76 t819 t780).bind fun t825 => (if t825 = true then (laws_FnExactTruncateMap.j2 kj76 t810 t809 (t822 != t783) t808) else (laws_FnExactTruncateMap.j2 kj76 t810 t809 true t808))) else (laws_FnExactTruncateMap.j2 kj76 t810 t809 true t808)) = some r := H
             have A173 := Aside0.mk A1730
             clear A1730
             by_cases c174 : t824 = true
             ·
              subst c174
              rw [if_pos rfl] at H
              replace H := Option.bind_eq_some_iff.mp H
              obtain ⟨t825, A1750, H⟩ := H
              replace H : (if t825 = true then (laws_FnExactTruncateMap.j2 kj76 t810 t809 (t822 != t783) t808) else (laws_FnExactTruncateMap.j2 kj76 t810 t809 true t808)) = some r := H
              have A175 := Aside0.mk A1750
              clear A1750
              by_cases c176 : t825 = true
              ·
               subst c176
               rw [if_pos rfl] at H
               have H' := Aside0.mk H
               clear H
               have hnb177 := NB823_772.out
               have hnc177 := NB772_823.out
               have hnb178 := NB823_784.out
               have hnc178 := NB784_823.out
               have hnb179 := NB823_788.out
               have hnc179 := NB788_823.out
               have hnb180 := NB823_796.out
               have hnc180 := NB796_823.out
               have hcz181_0 := cz1 BK823
               have hfz181_0 := fz1 BK823
               have hnb182 := NB784_772.out
               have hnc182 := NB772_784.out
               have hnb183 := NB784_788.out
               have hnc183 := NB788_784.out
               have hnb184 := NB784_796.out
               have hnc184 := NB796_784.out
               have hcz185_0 := cz1 BK784
               have hfz185_0 := fz1 BK784
               go_wp2_with (first | ((with_reducible refine gate_callee (f := 18) rfl ?_); refine gL (some 112) rfl rfl Try.func18 (by kernel_rfl) rfl #[.agg #[.slice Ao167 t816.length co167], .agg #[.slice Ao21 t777.length co21]] rfl ?_; (with_reducible refine (laws_eqFileMap.calls kj76 _ _ t816 _ _ t777 true _ ?side1 ?side2 ?side3 ?side4 A173.out).mono ?_); (case side1 => exact rc HO818 BK823); (case side2 => exact (Kd.R_reads' HO818.out).2.1); (case side3 => exact rc HO_785000 BK823); (case side4 => exact (Kd.R_reads' HO_785000.out).2.1); rintro e w186 ⟨rfl, hb⟩; refine ⟨_, rfl, ?_⟩; replace HO_7 := nf HO_7 BK823 hb; replace HO_11 := nf HO_11 BK823 hb; replace HO_785000 := nf HO_785000 BK823 hb; replace HO_789000 := nf HO_789000 BK823 hb; replace HO_797000 := nf HO_797000 BK823 hb; replace HO815 := nf HO815 BK823 hb; replace HO818 := nf HO818 BK823 hb; replace HO821 := nf HO821 BK823 hb; replace BK772 := Aside0.mk (blk_below (bf BK772 NB772_823) hb); replace BK784 := Aside0.mk (blk_below (bf BK784 NB784_823) hb); replace BK788 := Aside0.mk (blk_below (bf BK788 NB788_823) hb); replace BK796 := Aside0.mk (blk_below (bf BK796 NB796_823) hb); replace BK823 := Aside0.mk (blk_below (g := gb823) (o := .cells #[.slice Ao167 t816.length co167] 29 (0, 0)) (by (with_reducible repeat (first | refine blk_drewN ?_ _ | refine blk_drew ?_ | refine blk_alloc ?_ _)); refine blk_put (cs := #[.slice none 0 0]) ?_ 0 _ rfl; (with_reducible repeat (first | refine blk_drewN ?_ _ | refine blk_drew ?_ | refine blk_alloc ?_ _)); exact BK823.out) hb); replace HB := Aside0.mk (below_step (bs5 HB GE772 GE784 GE788 GE796 GE823) hb); (try clear hb); (try clear hb2); (try clear hk); (try clear hi); obtain ⟨Ao187, co187, eo187⟩ := Kd.R_slice HO821.out; subst eo187; obtain ⟨Ao188, co188, eo188⟩ := Kd.R_slice HO_7.out; subst eo188) | (go_at_call 25; (with_reducible refine (laws_eqExtentS.calls kj76 _ _ t819 _ _ t780 true _ ?side1 ?side2 ?side3 ?side4 A175.out).mono ?_); (case side1 => exact rc0 HO821); (case side2 => exact (Kd.R_reads' HO821.out).2.1); (case side3 => exact rc0 HO_7); (case side4 => exact (Kd.R_reads' HO_7.out).2.1); rintro e w189 ⟨rfl, hb⟩; replace HO_7 := nr HO_7 hb; replace HO_11 := nr HO_11 hb; replace HO_785000 := nr HO_785000 hb; replace HO_789000 := nr HO_789000 hb; replace HO_797000 := nr HO_797000 hb; replace HO815 := nr HO815 hb; replace HO818 := nr HO818 hb; replace HO821 := nr HO821 hb; replace BK772 := nb BK772 hb; replace BK784 := nb BK784 hb; replace BK788 := nb BK788 hb; replace BK796 := nb BK796 hb; replace BK823 := nb BK823 hb; replace HB := Aside0.mk (below_step (bs5 HB GE772 GE784 GE788 GE796 GE823) hb); (try clear hb); (try clear hb2); (try clear hk); (try clear hi)))
               go_meet
               case rel => exact ⟨_, ((t822 != t783)), (by first | rfl | (simp; done) | (simp [*]; done)), H', ⟨by have := HJ11.out; have := HJ76.out; first | omega | exact Nat.le_refl _⟩, ⟨by (try simp only [hl789000_76]); (with_reducible repeat (first | apply Kd.R_alloc | apply Kd.R_drewN | apply Kd.R_drew)); exact Kd.R_mono HO_11.out (fun _ hk => trivial)⟩, ⟨by (try simp only [hl789000_76]); (with_reducible repeat (first | apply Kd.R_alloc | apply Kd.R_drewN | apply Kd.R_drew)); exact Kd.R_mono HO_785000.out (fun _ hk => ⟨hk.1.1.1, ⟨hk.1.1.2, hk.2⟩⟩)⟩, ⟨by (try simp only [hl789000_76]); (with_reducible repeat (first | apply Kd.R_alloc | apply Kd.R_drewN | apply Kd.R_drew)); exact Kd.R_mono HO_789000.out (fun _ hk => ⟨hk.1.1.1, ⟨hk.1.1.2, hk.2⟩⟩)⟩, ⟨by (try simp only [hl789000_76]); (with_reducible repeat (first | apply Kd.R_alloc | apply Kd.R_drewN | apply Kd.R_drew)); exact Kd.R_mono HO_797000.out (fun _ hk => ⟨hk.1.1.1, ⟨hk.1.1.2, hk.2⟩⟩)⟩, ⟨by (try simp only [hl789000_76]); (with_reducible repeat (first | apply Kd.R_alloc | apply Kd.R_drewN | apply Kd.R_drew)); exact Kd.R_mono HO818.out (fun _ hk => ⟨hk.1.1.1.2, ⟨hk.1.1.2, hk.1.2⟩⟩)⟩, ⟨by (try simp only [hl789000_76]); (with_reducible repeat (first | refine blk_drewN ?_ _ | refine blk_drew ?_ | refine blk_alloc ?_ _)); exact BK772.out⟩, ⟨by (try simp only [hl789000_76]); (with_reducible repeat (first | refine blk_drewN ?_ _ | refine blk_drew ?_ | refine blk_alloc ?_ _)); exact BK784.out⟩, ⟨by (try simp only [hl789000_76]); (with_reducible repeat (first | refine blk_drewN ?_ _ | refine blk_drew ?_ | refine blk_alloc ?_ _)); exact BK788.out⟩, ⟨by (try simp only [hl789000_76]); (with_reducible repeat (first | refine blk_drewN ?_ _ | refine blk_drew ?_ | refine blk_alloc ?_ _)); exact BK796.out⟩, ⟨by (try simp only [hl789000_76]); (with_reducible repeat (first | refine blk_drewN ?_ _ | refine blk_drew ?_ | refine blk_alloc ?_ _)); exact BK823.out⟩, ⟨bs5 HB GE772 GE784 GE788 GE796 GE823⟩⟩
              ·
               replace c176 := Bool.eq_false_iff.mpr c176
               subst c176
               rw [if_neg (show ¬ (false = true) by decide)] at H
               have H' := Aside0.mk H
               clear H
               have hnb190 := NB823_772.out
               have hnc190 := NB772_823.out
               have hnb191 := NB823_784.out
               have hnc191 := NB784_823.out
               have hnb192 := NB823_788.out
               have hnc192 := NB788_823.out
               have hnb193 := NB823_796.out
               have hnc193 := NB796_823.out
               have hcz194_0 := cz1 BK823
               have hfz194_0 := fz1 BK823
               have hnb195 := NB784_772.out
               have hnc195 := NB772_784.out
               have hnb196 := NB784_788.out
               have hnc196 := NB788_784.out
               have hnb197 := NB784_796.out
               have hnc197 := NB796_784.out
               have hcz198_0 := cz1 BK784
               have hfz198_0 := fz1 BK784
               go_wp2_with (first | ((with_reducible refine gate_callee (f := 18) rfl ?_); refine gL (some 112) rfl rfl Try.func18 (by kernel_rfl) rfl #[.agg #[.slice Ao167 t816.length co167], .agg #[.slice Ao21 t777.length co21]] rfl ?_; (with_reducible refine (laws_eqFileMap.calls kj76 _ _ t816 _ _ t777 true _ ?side1 ?side2 ?side3 ?side4 A173.out).mono ?_); (case side1 => exact rc HO818 BK823); (case side2 => exact (Kd.R_reads' HO818.out).2.1); (case side3 => exact rc HO_785000 BK823); (case side4 => exact (Kd.R_reads' HO_785000.out).2.1); rintro e w199 ⟨rfl, hb⟩; refine ⟨_, rfl, ?_⟩; replace HO_7 := nf HO_7 BK823 hb; replace HO_11 := nf HO_11 BK823 hb; replace HO_785000 := nf HO_785000 BK823 hb; replace HO_789000 := nf HO_789000 BK823 hb; replace HO_797000 := nf HO_797000 BK823 hb; replace HO815 := nf HO815 BK823 hb; replace HO818 := nf HO818 BK823 hb; replace HO821 := nf HO821 BK823 hb; replace BK772 := Aside0.mk (blk_below (bf BK772 NB772_823) hb); replace BK784 := Aside0.mk (blk_below (bf BK784 NB784_823) hb); replace BK788 := Aside0.mk (blk_below (bf BK788 NB788_823) hb); replace BK796 := Aside0.mk (blk_below (bf BK796 NB796_823) hb); replace BK823 := Aside0.mk (blk_below (g := gb823) (o := .cells #[.slice Ao167 t816.length co167] 29 (0, 0)) (by (with_reducible repeat (first | refine blk_drewN ?_ _ | refine blk_drew ?_ | refine blk_alloc ?_ _)); refine blk_put (cs := #[.slice none 0 0]) ?_ 0 _ rfl; (with_reducible repeat (first | refine blk_drewN ?_ _ | refine blk_drew ?_ | refine blk_alloc ?_ _)); exact BK823.out) hb); replace HB := Aside0.mk (below_step (bs5 HB GE772 GE784 GE788 GE796 GE823) hb); (try clear hb); (try clear hb2); (try clear hk); (try clear hi); obtain ⟨Ao200, co200, eo200⟩ := Kd.R_slice HO821.out; subst eo200; obtain ⟨Ao201, co201, eo201⟩ := Kd.R_slice HO_7.out; subst eo201) | (go_at_call 25; (with_reducible refine (laws_eqExtentS.calls kj76 _ _ t819 _ _ t780 false _ ?side1 ?side2 ?side3 ?side4 A175.out).mono ?_); (case side1 => exact rc0 HO821); (case side2 => exact (Kd.R_reads' HO821.out).2.1); (case side3 => exact rc0 HO_7); (case side4 => exact (Kd.R_reads' HO_7.out).2.1); rintro e w202 ⟨rfl, hb⟩; replace HO_7 := nr HO_7 hb; replace HO_11 := nr HO_11 hb; replace HO_785000 := nr HO_785000 hb; replace HO_789000 := nr HO_789000 hb; replace HO_797000 := nr HO_797000 hb; replace HO815 := nr HO815 hb; replace HO818 := nr HO818 hb; replace HO821 := nr HO821 hb; replace BK772 := nb BK772 hb; replace BK784 := nb BK784 hb; replace BK788 := nb BK788 hb; replace BK796 := nb BK796 hb; replace BK823 := nb BK823 hb; replace HB := Aside0.mk (below_step (bs5 HB GE772 GE784 GE788 GE796 GE823) hb); (try clear hb); (try clear hb2); (try clear hk); (try clear hi)))
               go_meet
               case rel => exact ⟨_, (true), (by first | rfl | (simp; done) | (simp [*]; done)), H', ⟨by have := HJ11.out; have := HJ76.out; first | omega | exact Nat.le_refl _⟩, ⟨by (try simp only [hl789000_76]); (with_reducible repeat (first | apply Kd.R_alloc | apply Kd.R_drewN | apply Kd.R_drew)); exact Kd.R_mono HO_11.out (fun _ hk => trivial)⟩, ⟨by (try simp only [hl789000_76]); (with_reducible repeat (first | apply Kd.R_alloc | apply Kd.R_drewN | apply Kd.R_drew)); exact Kd.R_mono HO_785000.out (fun _ hk => ⟨hk.1.1.1, ⟨hk.1.1.2, hk.2⟩⟩)⟩, ⟨by (try simp only [hl789000_76]); (with_reducible repeat (first | apply Kd.R_alloc | apply Kd.R_drewN | apply Kd.R_drew)); exact Kd.R_mono HO_789000.out (fun _ hk => ⟨hk.1.1.1, ⟨hk.1.1.2, hk.2⟩⟩)⟩, ⟨by (try simp only [hl789000_76]); (with_reducible repeat (first | apply Kd.R_alloc | apply Kd.R_drewN | apply Kd.R_drew)); exact Kd.R_mono HO_797000.out (fun _ hk => ⟨hk.1.1.1, ⟨hk.1.1.2, hk.2⟩⟩)⟩, ⟨by (try simp only [hl789000_76]); (with_reducible repeat (first | apply Kd.R_alloc | apply Kd.R_drewN | apply Kd.R_drew)); exact Kd.R_mono HO818.out (fun _ hk => ⟨hk.1.1.1.2, ⟨hk.1.1.2, hk.1.2⟩⟩)⟩, ⟨by (try simp only [hl789000_76]); (with_reducible repeat (first | refine blk_drewN ?_ _ | refine blk_drew ?_ | refine blk_alloc ?_ _)); exact BK772.out⟩, ⟨by (try simp only [hl789000_76]); (with_reducible repeat (first | refine blk_drewN ?_ _ | refine blk_drew ?_ | refine blk_alloc ?_ _)); exact BK784.out⟩, ⟨by (try simp only [hl789000_76]); (with_reducible repeat (first | refine blk_drewN ?_ _ | refine blk_drew ?_ | refine blk_alloc ?_ _)); exact BK788.out⟩, ⟨by (try simp only [hl789000_76]); (with_reducible repeat (first | refine blk_drewN ?_ _ | refine blk_drew ?_ | refine blk_alloc ?_ _)); exact BK796.out⟩, ⟨by (try simp only [hl789000_76]); (with_reducible repeat (first | refine blk_drewN ?_ _ | refine blk_drew ?_ | refine blk_alloc ?_ _)); exact BK823.out⟩, ⟨bs5 HB GE772 GE784 GE788 GE796 GE823⟩⟩
             ·
              replace c174 := Bool.eq_false_iff.mpr c174
              subst c174
              rw [if_neg (show ¬ (false = true) by decide)] at H
              have H' := Aside0.mk H
              clear H
              have hnb203 := NB823_772.out
              have hnc203 := NB772_823.out
              have hnb204 := NB823_784.out
              have hnc204 := NB784_823.out
              have hnb205 := NB823_788.out
              have hnc205 := NB788_823.out
              have hnb206 := NB823_796.out
              have hnc206 := NB796_823.out
              have hcz207_0 := cz1 BK823
              have hfz207_0 := fz1 BK823
              have hnb208 := NB784_772.out
              have hnc208 := NB772_784.out
              have hnb209 := NB784_788.out
              have hnc209 := NB788_784.out
              have hnb210 := NB784_796.out
              have hnc210 := NB796_784.out
              have hcz211_0 := cz1 BK784
              have hfz211_0 := fz1 BK784
              go_wp2_with (first | ((with_reducible refine gate_callee (f := 18) rfl ?_); refine gL (some 112) rfl rfl Try.func18 (by kernel_rfl) rfl #[.agg #[.slice Ao167 t816.length co167], .agg #[.slice Ao21 t777.length co21]] rfl ?_; (with_reducible refine (laws_eqFileMap.calls kj76 _ _ t816 _ _ t777 false _ ?side1 ?side2 ?side3 ?side4 A173.out).mono ?_); (case side1 => exact rc HO818 BK823); (case side2 => exact (Kd.R_reads' HO818.out).2.1); (case side3 => exact rc HO_785000 BK823); (case side4 => exact (Kd.R_reads' HO_785000.out).2.1); rintro e w212 ⟨rfl, hb⟩; refine ⟨_, rfl, ?_⟩; replace HO_7 := nf HO_7 BK823 hb; replace HO_11 := nf HO_11 BK823 hb; replace HO_785000 := nf HO_785000 BK823 hb; replace HO_789000 := nf HO_789000 BK823 hb; replace HO_797000 := nf HO_797000 BK823 hb; replace HO815 := nf HO815 BK823 hb; replace HO818 := nf HO818 BK823 hb; replace HO821 := nf HO821 BK823 hb; replace BK772 := Aside0.mk (blk_below (bf BK772 NB772_823) hb); replace BK784 := Aside0.mk (blk_below (bf BK784 NB784_823) hb); replace BK788 := Aside0.mk (blk_below (bf BK788 NB788_823) hb); replace BK796 := Aside0.mk (blk_below (bf BK796 NB796_823) hb); replace BK823 := Aside0.mk (blk_below (g := gb823) (o := .cells #[.slice Ao167 t816.length co167] 29 (0, 0)) (by (with_reducible repeat (first | refine blk_drewN ?_ _ | refine blk_drew ?_ | refine blk_alloc ?_ _)); refine blk_put (cs := #[.slice none 0 0]) ?_ 0 _ rfl; (with_reducible repeat (first | refine blk_drewN ?_ _ | refine blk_drew ?_ | refine blk_alloc ?_ _)); exact BK823.out) hb); replace HB := Aside0.mk (below_step (bs5 HB GE772 GE784 GE788 GE796 GE823) hb); (try clear hb); (try clear hb2); (try clear hk); (try clear hi)))
              go_meet
              case rel => exact ⟨_, (true), (by first | rfl | (simp; done) | (simp [*]; done)), H', ⟨by have := HJ11.out; have := HJ76.out; first | omega | exact Nat.le_refl _⟩, ⟨by (try simp only [hl789000_76]); (with_reducible repeat (first | apply Kd.R_alloc | apply Kd.R_drewN | apply Kd.R_drew)); exact Kd.R_mono HO_11.out (fun _ hk => trivial)⟩, ⟨by (try simp only [hl789000_76]); (with_reducible repeat (first | apply Kd.R_alloc | apply Kd.R_drewN | apply Kd.R_drew)); exact Kd.R_mono HO_785000.out (fun _ hk => ⟨hk.1.1.1, ⟨hk.1.1.2, hk.2⟩⟩)⟩, ⟨by (try simp only [hl789000_76]); (with_reducible repeat (first | apply Kd.R_alloc | apply Kd.R_drewN | apply Kd.R_drew)); exact Kd.R_mono HO_789000.out (fun _ hk => ⟨hk.1.1.1, ⟨hk.1.1.2, hk.2⟩⟩)⟩, ⟨by (try simp only [hl789000_76]); (with_reducible repeat (first | apply Kd.R_alloc | apply Kd.R_drewN | apply Kd.R_drew)); exact Kd.R_mono HO_797000.out (fun _ hk => ⟨hk.1.1.1, ⟨hk.1.1.2, hk.2⟩⟩)⟩, ⟨by (try simp only [hl789000_76]); (with_reducible repeat (first | apply Kd.R_alloc | apply Kd.R_drewN | apply Kd.R_drew)); exact Kd.R_mono HO818.out (fun _ hk => ⟨hk.1.1.1.2, ⟨hk.1.1.2, hk.1.2⟩⟩)⟩, ⟨by (try simp only [hl789000_76]); (with_reducible repeat (first | refine blk_drewN ?_ _ | refine blk_drew ?_ | refine blk_alloc ?_ _)); exact BK772.out⟩, ⟨by (try simp only [hl789000_76]); (with_reducible repeat (first | refine blk_drewN ?_ _ | refine blk_drew ?_ | refine blk_alloc ?_ _)); exact BK784.out⟩, ⟨by (try simp only [hl789000_76]); (with_reducible repeat (first | refine blk_drewN ?_ _ | refine blk_drew ?_ | refine blk_alloc ?_ _)); exact BK788.out⟩, ⟨by (try simp only [hl789000_76]); (with_reducible repeat (first | refine blk_drewN ?_ _ | refine blk_drew ?_ | refine blk_alloc ?_ _)); exact BK796.out⟩, ⟨by (try simp only [hl789000_76]); (with_reducible repeat (first | refine blk_drewN ?_ _ | refine blk_drew ?_ | refine blk_alloc ?_ _)); exact BK823.out⟩, ⟨bs5 HB GE772 GE784 GE788 GE796 GE823⟩⟩
            case rest =>
             clear HC150
             try clear c1
             try clear c2
             try clear p2
             try clear c3
             try clear c4
             try clear c4b0
             try clear c5
             try clear c6
             try clear c7
             try clear c8
             try clear c9
             try clear c10
             try clear c11
             try clear c12
             try clear c13
             try clear c14
             try clear c15
             try clear c16
             try clear c17
             try clear c18
             try clear c19
             try clear c20
             try clear c21
             try clear c22
             try clear c26
             try clear c27
             try clear c28
             try clear c29
             try clear c32
             try clear c34
             try clear c35
             try clear c36
             try clear c37
             try clear c38
             try clear c39
             try clear c41
             try clear c42
             try clear c43
             try clear c44
             try clear c46
             try clear c47
             try clear c53
             try clear c54
             try clear c55
             try clear c57
             try clear c58
             try clear c64
             try clear c65
             try clear c66
             try clear c68
             try clear c69
             try clear c72
             try clear c75
             try clear c82
             try clear c83
             try clear c84
             try clear c87
             try clear c87b0
             try clear c89
             try clear c91
             try clear c92
             try clear c93
             try clear c94
             try clear c96
             try clear c97
             try clear c103
             try clear c104
             try clear c105
             try clear c107
             try clear c108
             try clear c114
             try clear c115
             try clear c116
             try clear c118
             try clear c119
             try clear c122
             try clear c126
             try clear c126b0
             try clear c127
             try clear c128
             try clear c129
             try clear c137
             try clear c137b0
             try clear c138
             try clear c139
             try clear c140
             try clear c147
             try clear c147b0
             try clear c147b1
             try clear c151
             try clear c152
             try clear c153
             try clear c160
             try clear c161
             try clear c168
             try clear c169
             try clear c170
             try clear c171
             try clear c174
             try clear c176
             try clear c177
             try clear c178
             try clear c179
             try clear c180
             try clear c182
             try clear c183
             try clear c184
             try clear c190
             try clear c191
             try clear c192
             try clear c193
             try clear c195
             try clear c196
             try clear c197
             try clear c203
             try clear c204
             try clear c205
             try clear c206
             try clear c208
             try clear c209
             try clear c210
             try clear hcz106_0
             try clear hcz109_0
             try clear hcz117_0
             try clear hcz120_0
             try clear hcz130_0
             try clear hcz134_0
             try clear hcz141_0
             try clear hcz145_0
             try clear hcz14_0
             try clear hcz154_0
             try clear hcz158_0
             try clear hcz162_0
             try clear hcz16_0
             try clear hcz172_0
             try clear hcz181_0
             try clear hcz185_0
             try clear hcz194_0
             try clear hcz198_0
             try clear hcz207_0
             try clear hcz211_0
             try clear hcz23_0
             try clear hcz24_0
             try clear hcz30_0
             try clear hcz37_0
             try clear hcz45_0
             try clear hcz48_0
             try clear hcz56_0
             try clear hcz59_0
             try clear hcz67_0
             try clear hcz6_0
             try clear hcz70_0
             try clear hcz85_0
             try clear hcz95_0
             try clear hcz98_0
             try clear hfz106_0
             try clear hfz109_0
             try clear hfz117_0
             try clear hfz120_0
             try clear hfz130_0
             try clear hfz134_0
             try clear hfz141_0
             try clear hfz145_0
             try clear hfz14_0
             try clear hfz154_0
             try clear hfz158_0
             try clear hfz162_0
             try clear hfz16_0
             try clear hfz172_0
             try clear hfz181_0
             try clear hfz185_0
             try clear hfz194_0
             try clear hfz198_0
             try clear hfz207_0
             try clear hfz211_0
             try clear hfz23_0
             try clear hfz24_0
             try clear hfz30_0
             try clear hfz37_0
             try clear hfz45_0
             try clear hfz48_0
             try clear hfz56_0
             try clear hfz59_0
             try clear hfz67_0
             try clear hfz6_0
             try clear hfz70_0
             try clear hfz85_0
             try clear hfz95_0
             try clear hfz98_0
             try clear p2
             obtain ⟨kq, x124_149, rfl, HA, HJ149, HO_11, HO_785000, HO_789000, HO_797000, HO_824000, BK772, BK784, BK788, BK796, BK823, HB⟩ := hcut
             have hl11_149 := (Kd.R_reads' HO_11.out).1
             rw [hl11_149] at HO_11
             (try simp only [hl11_149])
             (try simp only [hl11_149] at BK772)
             (try simp only [hl11_149] at BK784)
             (try simp only [hl11_149] at BK788)
             (try simp only [hl11_149] at BK796)
             (try simp only [hl11_149] at BK823)
             (try simp only [hl11_149] at HO_785000)
             (try simp only [hl11_149] at HO_789000)
             (try simp only [hl11_149] at HO_797000)
             (try simp only [hl11_149] at HO_824000)
             have hl797000_149 := (Kd.R_reads' HO_797000.out).1
             rw [hl797000_149] at HO_797000
             (try simp only [hl797000_149])
             (try simp only [hl797000_149] at BK772)
             (try simp only [hl797000_149] at BK784)
             (try simp only [hl797000_149] at BK788)
             (try simp only [hl797000_149] at BK796)
             (try simp only [hl797000_149] at BK823)
             (try simp only [hl797000_149] at HO_11)
             (try simp only [hl797000_149] at HO_785000)
             (try simp only [hl797000_149] at HO_789000)
             (try simp only [hl797000_149] at HO_824000)
             cases kq with
             | zero => exact absurd HA.out (by simp [laws_FnExactTruncateMap.j2])
             | succ kj149 =>
              have H := HA.out
              clear HA
              simp only [laws_FnExactTruncateMap.j2] at H
              by_cases c213 : x124_149 = true
              ·
               subst c213
               rw [if_pos rfl] at H
               obtain rfl := Option.some.inj H
               go_wp2
               go_ret
               exact ⟨by first | rfl | (simp [errW_none, errW_some] <;> rfl) | (simp [*, errW_none, errW_some] <;> rfl), bs5 HB GE772 GE784 GE788 GE796 GE823⟩
              ·
               replace c213 := Bool.eq_false_iff.mpr c213
               subst c213
               rw [if_neg (show ¬ (false = true) by decide)] at H
               replace H := Option.bind_eq_some_iff.mp H
               obtain ⟨t826, A2140, H⟩ := H
               replace H : (if t826 < 0 then (some false) else ((laws_heldExtentS.f kj149 t810 t826).bind fun t827 => (if t827 < 0 then (some false) else (if t827 = t809 then (some true) else (some false))))) = some r := H
               have A214 := Aside0.mk A2140
               clear A2140
               by_cases c215 : t826 < 0
               ·
                rw [if_pos c215] at H
                have c215b0 : decide (t826 < 0) = true := decide_eq_true c215
                clear c215
                obtain rfl := Option.some.inj H
                have hnb216 := NB796_772.out
                have hnc216 := NB772_796.out
                have hnb217 := NB796_784.out
                have hnc217 := NB784_796.out
                have hnb218 := NB796_788.out
                have hnc218 := NB788_796.out
                have hnb219 := NB796_823.out
                have hnc219 := NB823_796.out
                have hcz220_0 := cz1 BK796
                have hfz220_0 := fz1 BK796
                go_wp2_with (first | ((with_reducible refine gate_callee (f := 32) rfl ?_); refine gL (some 127) rfl rfl Try.func32 (by kernel_rfl) rfl #[.agg #[.slice Ao33 t808.length co33], .int .i64 1] rfl ?_; (with_reducible refine (laws_heldFileMap.calls kj149 _ _ t808 1 t826 _ ?side1 ?side2 A214.out).mono ?_); (case side1 => exact rc0 HO_797000); (case side2 => exact (Kd.R_reads' HO_797000.out).2.1); rintro e w221 ⟨rfl, hb⟩; refine ⟨_, rfl, ?_⟩; replace HO_11 := nr HO_11 hb; replace HO_785000 := nr HO_785000 hb; replace HO_789000 := nr HO_789000 hb; replace HO_797000 := nr HO_797000 hb; replace HO_824000 := nr HO_824000 hb; replace BK772 := nb BK772 hb; replace BK784 := nb BK784 hb; replace BK788 := nb BK788 hb; replace BK796 := nb BK796 hb; replace BK823 := nb BK823 hb; replace HB := Aside0.mk (below_step (bs5 HB GE772 GE784 GE788 GE796 GE823) hb); (try clear hb); (try clear hb2); (try clear hk); (try clear hi)))
                go_ret
                exact ⟨by first | rfl | (simp [errW_none, errW_some] <;> rfl) | (simp [*, errW_none, errW_some] <;> rfl), bs5 HB GE772 GE784 GE788 GE796 GE823⟩
               ·
                rw [if_neg c215] at H
                have c215b0 : decide (t826 < 0) = false := decide_eq_false c215
                clear c215
                replace H := Option.bind_eq_some_iff.mp H
                obtain ⟨t827, A2220, H⟩ := H
                replace H : (if t827 < 0 then (some false) else (if t827 = t809 then (some true) else (some false))) = some r := H
                have A222 := Aside0.mk A2220
                clear A2220
                by_cases c223 : t827 < 0
                ·
                 rw [if_pos c223] at H
                 have c223b0 : decide (t827 < 0) = true := decide_eq_true c223
                 clear c223
                 obtain rfl := Option.some.inj H
                 have hnb224 := NB796_772.out
                 have hnc224 := NB772_796.out
                 have hnb225 := NB796_784.out
                 have hnc225 := NB784_796.out
                 have hnb226 := NB796_788.out
                 have hnc226 := NB788_796.out
                 have hnb227 := NB796_823.out
                 have hnc227 := NB823_796.out
                 have hcz228_0 := cz1 BK796
                 have hfz228_0 := fz1 BK796
                 go_wp2_with (first | ((with_reducible refine gate_callee (f := 32) rfl ?_); refine gL (some 127) rfl rfl Try.func32 (by kernel_rfl) rfl #[.agg #[.slice Ao33 t808.length co33], .int .i64 1] rfl ?_; (with_reducible refine (laws_heldFileMap.calls kj149 _ _ t808 1 t826 _ ?side1 ?side2 A214.out).mono ?_); (case side1 => exact rc0 HO_797000); (case side2 => exact (Kd.R_reads' HO_797000.out).2.1); rintro e w229 ⟨rfl, hb⟩; refine ⟨_, rfl, ?_⟩; replace HO_11 := nr HO_11 hb; replace HO_785000 := nr HO_785000 hb; replace HO_789000 := nr HO_789000 hb; replace HO_797000 := nr HO_797000 hb; replace HO_824000 := nr HO_824000 hb; replace BK772 := nb BK772 hb; replace BK784 := nb BK784 hb; replace BK788 := nb BK788 hb; replace BK796 := nb BK796 hb; replace BK823 := nb BK823 hb; replace HB := Aside0.mk (below_step (bs5 HB GE772 GE784 GE788 GE796 GE823) hb); (try clear hb); (try clear hb2); (try clear hk); (try clear hi)) | ((with_reducible refine gate_callee (f := 28) rfl ?_); refine gL (some 132) rfl rfl Try.func28 (by kernel_rfl) rfl #[.slice Ao156 t810.length co156, .int .i64 t826] rfl ?_; (with_reducible refine (laws_heldExtentS.calls kj149 _ _ t810 t826 t827 _ ?side1 ?side2 A222.out).mono ?_); (case side1 => exact rc0 HO_11); (case side2 => exact (Kd.R_reads' HO_11.out).2.1); rintro e w' ⟨rfl, ⟨nd, rfl⟩⟩; refine ⟨_, rfl, ?_⟩))
                 go_ret
                 exact ⟨by first | rfl | (simp [errW_none, errW_some] <;> rfl) | (simp [*, errW_none, errW_some] <;> rfl), bs5 HB GE772 GE784 GE788 GE796 GE823⟩
                ·
                 rw [if_neg c223] at H
                 have c223b0 : decide (t827 < 0) = false := decide_eq_false c223
                 clear c223
                 by_cases c230 : t827 = t809
                 ·
                  rw [if_pos c230] at H
                  have c230b0 : (t827 == t809) = true := beq_iff_eq.mpr c230
                  have c230b1 : (t827 != t809) = false := bne_eq_false_iff_eq.mpr c230
                  clear c230
                  obtain rfl := Option.some.inj H
                  have hnb231 := NB796_772.out
                  have hnc231 := NB772_796.out
                  have hnb232 := NB796_784.out
                  have hnc232 := NB784_796.out
                  have hnb233 := NB796_788.out
                  have hnc233 := NB788_796.out
                  have hnb234 := NB796_823.out
                  have hnc234 := NB823_796.out
                  have hcz235_0 := cz1 BK796
                  have hfz235_0 := fz1 BK796
                  go_wp2_with (first | ((with_reducible refine gate_callee (f := 32) rfl ?_); refine gL (some 127) rfl rfl Try.func32 (by kernel_rfl) rfl #[.agg #[.slice Ao33 t808.length co33], .int .i64 1] rfl ?_; (with_reducible refine (laws_heldFileMap.calls kj149 _ _ t808 1 t826 _ ?side1 ?side2 A214.out).mono ?_); (case side1 => exact rc0 HO_797000); (case side2 => exact (Kd.R_reads' HO_797000.out).2.1); rintro e w236 ⟨rfl, hb⟩; refine ⟨_, rfl, ?_⟩; replace HO_11 := nr HO_11 hb; replace HO_785000 := nr HO_785000 hb; replace HO_789000 := nr HO_789000 hb; replace HO_797000 := nr HO_797000 hb; replace HO_824000 := nr HO_824000 hb; replace BK772 := nb BK772 hb; replace BK784 := nb BK784 hb; replace BK788 := nb BK788 hb; replace BK796 := nb BK796 hb; replace BK823 := nb BK823 hb; replace HB := Aside0.mk (below_step (bs5 HB GE772 GE784 GE788 GE796 GE823) hb); (try clear hb); (try clear hb2); (try clear hk); (try clear hi)) | ((with_reducible refine gate_callee (f := 28) rfl ?_); refine gL (some 132) rfl rfl Try.func28 (by kernel_rfl) rfl #[.slice Ao156 t810.length co156, .int .i64 t826] rfl ?_; (with_reducible refine (laws_heldExtentS.calls kj149 _ _ t810 t826 t827 _ ?side1 ?side2 A222.out).mono ?_); (case side1 => exact rc0 HO_11); (case side2 => exact (Kd.R_reads' HO_11.out).2.1); rintro e w' ⟨rfl, ⟨nd, rfl⟩⟩; refine ⟨_, rfl, ?_⟩))
                  go_ret
                  exact ⟨by first | rfl | (simp [errW_none, errW_some] <;> rfl) | (simp [*, errW_none, errW_some] <;> rfl), bs5 HB GE772 GE784 GE788 GE796 GE823⟩
                 ·
                  rw [if_neg c230] at H
                  have c230b0 : (t827 == t809) = false := beq_eq_false_iff_ne.mpr c230
                  have c230b1 : (t827 != t809) = true := bne_iff_ne.mpr c230
                  obtain rfl := Option.some.inj H
                  have hnb237 := NB796_772.out
                  have hnc237 := NB772_796.out
                  have hnb238 := NB796_784.out
                  have hnc238 := NB784_796.out
                  have hnb239 := NB796_788.out
                  have hnc239 := NB788_796.out
                  have hnb240 := NB796_823.out
                  have hnc240 := NB823_796.out
                  have hcz241_0 := cz1 BK796
                  have hfz241_0 := fz1 BK796
                  go_wp2_with (first | ((with_reducible refine gate_callee (f := 32) rfl ?_); refine gL (some 127) rfl rfl Try.func32 (by kernel_rfl) rfl #[.agg #[.slice Ao33 t808.length co33], .int .i64 1] rfl ?_; (with_reducible refine (laws_heldFileMap.calls kj149 _ _ t808 1 t826 _ ?side1 ?side2 A214.out).mono ?_); (case side1 => exact rc0 HO_797000); (case side2 => exact (Kd.R_reads' HO_797000.out).2.1); rintro e w242 ⟨rfl, hb⟩; refine ⟨_, rfl, ?_⟩; replace HO_11 := nr HO_11 hb; replace HO_785000 := nr HO_785000 hb; replace HO_789000 := nr HO_789000 hb; replace HO_797000 := nr HO_797000 hb; replace HO_824000 := nr HO_824000 hb; replace BK772 := nb BK772 hb; replace BK784 := nb BK784 hb; replace BK788 := nb BK788 hb; replace BK796 := nb BK796 hb; replace BK823 := nb BK823 hb; replace HB := Aside0.mk (below_step (bs5 HB GE772 GE784 GE788 GE796 GE823) hb); (try clear hb); (try clear hb2); (try clear hk); (try clear hi)) | ((with_reducible refine gate_callee (f := 28) rfl ?_); refine gL (some 132) rfl rfl Try.func28 (by kernel_rfl) rfl #[.slice Ao156 t810.length co156, .int .i64 t826] rfl ?_; (with_reducible refine (laws_heldExtentS.calls kj149 _ _ t810 t826 t827 _ ?side1 ?side2 A222.out).mono ?_); (case side1 => exact rc0 HO_11); (case side2 => exact (Kd.R_reads' HO_11.out).2.1); rintro e w' ⟨rfl, ⟨nd, rfl⟩⟩; refine ⟨_, rfl, ?_⟩))
                  go_ret
                  exact ⟨by first | rfl | (simp [errW_none, errW_some] <;> rfl) | (simp [*, errW_none, errW_some] <;> rfl), bs5 HB GE772 GE784 GE788 GE796 GE823⟩
           ·
            rw [if_neg c147] at H
            have c147b0 : (t812 == t809) = false := beq_eq_false_iff_ne.mpr c147
            have c147b1 : (t812 != t809) = true := bne_iff_ne.mpr c147
            obtain rfl := Option.some.inj H
            have hnb243 := NB796_772.out
            have hnc243 := NB772_796.out
            have hnb244 := NB796_784.out
            have hnc244 := NB784_796.out
            have hnb245 := NB796_788.out
            have hnc245 := NB788_796.out
            have hcz246_0 := cz1 BK796
            have hfz246_0 := fz1 BK796
            go_wp2_with (first | ((with_reducible refine gate_callee (f := 26) rfl ?_); refine gL (some 85) rfl rfl Try.func26 (by kernel_rfl) rfl #[.agg #[.slice Ao33 t789.length co33], .int .i64 1] rfl ?_; (with_reducible refine (laws_markFileMap.calls kj76 (fun k_ => some k_ = (.slice Ao33 t789.length co33 : Value).ownBlock) (.slice Ao33 t789.length co33) t789 1 t807 t808 w _ ?side1 ?side2 A123.out).mono ?_); (case side1 => repeat (first | (with_reducible first | exact HB.out | apply below_alloc | apply pw_below_drewN | apply below_drew1 | refine below_set ?_ GE772.out | refine below_set ?_ GE784.out | refine below_set ?_ GE788.out | refine below_set ?_ GE796.out) | exact HB.out)); (case side2 => exact Kd.R_tight rfl HO_797000.out); rintro e w247 ⟨rfl, hy0, hb, hkp⟩; refine ⟨_, rfl, ?_⟩; replace HO_7 := Aside0.mk (Kd.R_mono (ok' := fun k_ => some k_ ≠ (v793 : Value).ownBlock) (Kd.R_keptB ((Kd.R_apart' HO_7.out (Kd.R_typed HO_797000.out) (by decide))) hkp (fun k_ hk_ hs_ => (hk_.2) hs_)) (fun k_ hk_ => hk_.1.1)); replace HO_11 := Aside0.mk (Kd.R_mono (ok' := fun k_ => some k_ ≠ (v781 : Value).ownBlock) (Kd.R_keptB ((Kd.R_apart' HO_11.out (Kd.R_typed HO_797000.out) (by decide))) hkp (fun k_ hk_ hs_ => (hk_.2) hs_)) (fun k_ hk_ => hk_.1.1)); replace HO_785000 := Aside0.mk (Kd.R_mono (ok' := fun k_ => some k_ ≠ (.slice Ao27 t804.length co27 : Value).ownBlock ∧ some k_ ≠ (.slice Ao33 t789.length co33 : Value).ownBlock) (Kd.R_keptB (HO_785000.out) hkp (fun k_ hk_ hs_ => (hk_.2) hs_)) (fun k_ hk_ => ⟨hk_.1.1, hk_.1.2⟩)); replace HO_789000 := Aside0.mk (Kd.R_mono (ok' := fun k_ => some k_ ≠ (.slice Ao21 t777.length co21 : Value).ownBlock ∧ some k_ ≠ (.slice Ao33 t789.length co33 : Value).ownBlock) (Kd.R_keptB (HO_789000.out) hkp (fun k_ hk_ hs_ => (hk_.2) hs_)) (fun k_ hk_ => ⟨hk_.1.1, hk_.1.2⟩)); replace BK772 := Aside0.mk (blk_kept (bk BK772) hkp (fun hs_ => (fun e_ => (Kd.R_ne HO_797000.out BK772.out (by decide)) e_) hs_)); replace BK784 := Aside0.mk (blk_kept (bk BK784) hkp (fun hs_ => (fun e_ => (Kd.R_ne HO_797000.out BK784.out (by decide)) e_) hs_)); replace BK788 := Aside0.mk (blk_kept (bk BK788) hkp (fun hs_ => (fun e_ => (Kd.R_ne HO_797000.out BK788.out (by decide)) e_) hs_)); replace BK796 := Aside0.mk (blk_kept (bk BK796) hkp (fun hs_ => (fun e_ => (Kd.R_ne HO_797000.out BK796.out (by decide)) e_) hs_)); replace HO_797000 := Aside0.mk (Kd.R_reok rfl hy0 (fun k_ e_ => HO_797000.out.1 k_ e_)); replace HB := Aside0.mk (hb); (try clear hb); (try clear hkp); (try clear hy0); obtain ⟨Ao248, co248, eo248⟩ := Kd.R_slice HO_11.out; subst eo248) | ((with_reducible refine gate_callee (f := 27) rfl ?_); refine gL (some 88) rfl rfl Try.func27 (by kernel_rfl) rfl #[.slice Ao248 t792.length co248, .int .i64 t807] rfl ?_; (with_reducible refine (laws_markExtentS.calls kj76 (fun k_ => some k_ = (.slice Ao248 t792.length co248 : Value).ownBlock) (.slice Ao248 t792.length co248) t792 t807 t809 t810 w _ ?side1 ?side2 A124.out).mono ?_); (case side1 => repeat (first | (with_reducible first | exact HB.out | apply below_alloc | apply pw_below_drewN | apply below_drew1 | refine below_set ?_ GE772.out | refine below_set ?_ GE784.out | refine below_set ?_ GE788.out | refine below_set ?_ GE796.out) | exact HB.out)); (case side2 => exact Kd.R_tight rfl HO_11.out); rintro e w249 ⟨rfl, hy0, hb, hkp⟩; refine ⟨_, rfl, ?_⟩; replace HO_7 := Aside0.mk (Kd.R_mono (ok' := fun k_ => some k_ ≠ (.slice Ao248 t792.length co248 : Value).ownBlock) (Kd.R_keptB (HO_7.out) hkp (fun k_ hk_ hs_ => (hk_) hs_)) (fun k_ hk_ => hk_.1)); replace HO_785000 := Aside0.mk (Kd.R_mono (ok' := fun k_ => some k_ ≠ (.slice Ao27 t804.length co27 : Value).ownBlock ∧ some k_ ≠ (.slice Ao33 t789.length co33 : Value).ownBlock) (Kd.R_keptB ((Kd.R_apart' HO_785000.out (Kd.R_typed HO_11.out) (by decide))) hkp (fun k_ hk_ hs_ => (hk_.2) hs_)) (fun k_ hk_ => ⟨hk_.1.1.1, hk_.1.1.2⟩)); replace HO_789000 := Aside0.mk (Kd.R_mono (ok' := fun k_ => some k_ ≠ (.slice Ao21 t777.length co21 : Value).ownBlock ∧ some k_ ≠ (.slice Ao33 t789.length co33 : Value).ownBlock) (Kd.R_keptB ((Kd.R_apart' HO_789000.out (Kd.R_typed HO_11.out) (by decide))) hkp (fun k_ hk_ hs_ => (hk_.2) hs_)) (fun k_ hk_ => ⟨hk_.1.1.1, hk_.1.1.2⟩)); replace HO_797000 := Aside0.mk (Kd.R_mono (ok' := fun k_ => some k_ ≠ (.slice Ao21 t777.length co21 : Value).ownBlock ∧ some k_ ≠ (.slice Ao27 t804.length co27 : Value).ownBlock) (Kd.R_keptB ((Kd.R_apart' HO_797000.out (Kd.R_typed HO_11.out) (by decide))) hkp (fun k_ hk_ hs_ => (hk_.2) hs_)) (fun k_ hk_ => ⟨hk_.1.1.1, hk_.1.1.2⟩)); replace BK772 := Aside0.mk (blk_kept (bk BK772) hkp (fun hs_ => (fun e_ => (Kd.R_ne HO_11.out BK772.out (by decide)) e_) hs_)); replace BK784 := Aside0.mk (blk_kept (bk BK784) hkp (fun hs_ => (fun e_ => (Kd.R_ne HO_11.out BK784.out (by decide)) e_) hs_)); replace BK788 := Aside0.mk (blk_kept (bk BK788) hkp (fun hs_ => (fun e_ => (Kd.R_ne HO_11.out BK788.out (by decide)) e_) hs_)); replace BK796 := Aside0.mk (blk_kept (bk BK796) hkp (fun hs_ => (fun e_ => (Kd.R_ne HO_11.out BK796.out (by decide)) e_) hs_)); replace HO_11 := Aside0.mk (Kd.R_reok rfl hy0 (fun k_ e_ => HO_11.out.1 k_ e_)); replace HB := Aside0.mk (hb); (try clear hb); (try clear hkp); (try clear hy0); have hcz250_0 := cz1 BK796; have hfz250_0 := fz1 BK796) | ((with_reducible refine gate_callee (f := 32) rfl ?_); refine goesL_ (some 91) rfl rfl Try.func32 (by kernel_rfl) rfl #[.agg #[.slice Ao33 t808.length co33], .int .i64 1] rfl (by (try simp only [List.map_toArray, List.map_cons, List.map_nil]); first | done | (rw [show t808.length = t789.length from (Kd.R_reads' HO_797000.out).1.symm] <;> rfl) | rfl | (simp only [List.length_drop, List.length_take]; rfl)) ?_; (with_reducible refine (laws_heldFileMap.calls kj76 _ _ t808 1 t811 _ ?side1 ?side2 A125.out).mono ?_); (case side1 => exact rc0 HO_797000); (case side2 => rw [show t808.length = t789.length from (Kd.R_reads' HO_797000.out).1.symm]; exact (Kd.R_reads' HO_797000.out).2.1); rintro e w251 ⟨rfl, hb⟩; refine ⟨_, rfl, ?_⟩; replace HO_7 := nr HO_7 hb; replace HO_11 := nr HO_11 hb; replace HO_785000 := nr HO_785000 hb; replace HO_789000 := nr HO_789000 hb; replace HO_797000 := nr HO_797000 hb; replace BK772 := nb BK772 hb; replace BK784 := nb BK784 hb; replace BK788 := nb BK788 hb; replace BK796 := nb BK796 hb; replace HB := Aside0.mk (below_step (bs4 HB GE772 GE784 GE788 GE796) hb); (try clear hb); (try clear hb2); (try clear hk); (try clear hi)) | ((with_reducible refine gate_callee (f := 28) rfl ?_); refine goesL_ (some 96) rfl rfl Try.func28 (by kernel_rfl) rfl #[.slice Ao248 t810.length co248, .int .i64 t811] rfl (by (try simp only [List.map_toArray, List.map_cons, List.map_nil]); first | done | (rw [show t810.length = t792.length from (Kd.R_reads' HO_11.out).1.symm] <;> rfl) | rfl | (simp only [List.length_drop, List.length_take]; rfl)) ?_; (with_reducible refine (laws_heldExtentS.calls kj76 _ _ t810 t811 t812 _ ?side1 ?side2 A136.out).mono ?_); (case side1 => exact rc0 HO_11); (case side2 => rw [show t810.length = t792.length from (Kd.R_reads' HO_11.out).1.symm]; exact (Kd.R_reads' HO_11.out).2.1); rintro e w' ⟨rfl, ⟨nd, rfl⟩⟩; refine ⟨_, rfl, ?_⟩))
            go_ret
            exact ⟨by first | rfl | (simp [errW_none, errW_some] <;> rfl) | (simp [*, errW_none, errW_some] <;> rfl), bs4 HB GE772 GE784 GE788 GE796⟩
     ·
      replace c75 := Bool.eq_false_iff.mpr c75
      subst c75
      rw [if_neg (show ¬ (false = true) by decide)] at H
      obtain rfl := Option.some.inj H
      try go_wp2
      have n0_ := Aside0.mk (Kd.R_drew HO_7.out)
      have n1_ := Aside0.mk (Kd.R_drew HO_11.out)
      have n2_ := Aside0.mk (Kd.R_drew HO_785000.out)
      have n3_ := Aside0.mk (Kd.R_drew HO_789000.out)
      have n4_ := Aside0.mk (Kd.R_drew HO_797000.out)
      have n5_ := Aside0.mk (blk_drew BK772.out)
      have n6_ := Aside0.mk (blk_drew BK784.out)
      have n7_ := Aside0.mk (blk_drew BK788.out)
      have n8_ := Aside0.mk (blk_drew BK796.out)
      have n9_ := Aside0.mk (below_drew1 HB.out)
      clear HO_7
      clear HO_11
      clear HO_785000
      clear HO_789000
      clear HO_797000
      clear BK772
      clear BK784
      clear BK788
      clear BK796
      clear HB
      have HO_7 := n0_
      have HO_11 := n1_
      have HO_785000 := n2_
      have HO_789000 := n3_
      have HO_797000 := n4_
      have BK772 := n5_
      have BK784 := n6_
      have BK788 := n7_
      have BK796 := n8_
      have HB := n9_
      clear n0_ n1_ n2_ n3_ n4_ n5_ n6_ n7_ n8_ n9_
      refine start_ (n := 5) (S := fun w' => w'.cell? ⟨gb788, 0, none⟩ = some (.slice Ao27 t785.length co27) ∧ w'.cell? ⟨gb772, 0, none⟩ = some (.slice A0_0 l0_0.length c0_0)) (ds := []) #[false, false, false, false, false] (by kernel_rfl) rfl rfl ⟨(blk_cell BK788.out 0).trans rfl, (blk_cell BK772.out 0).trans rfl⟩ (fun hHeld => ?_)
      generalize wc.drew = w252 at HO_7 HO_11 HO_785000 HO_789000 HO_797000 BK772 BK784 BK788 BK796 HB hHeld ⊢
      refine take_ (i := 0) (N := some 56) (v := ?_) (a' := ?_) #[true, false, false, false, false] rfl rfl (by kernel_rfl) (fun _ _ _ h => h) (Or.inl ⟨by rfl, ?_⟩) hHeld ?_ ?_
      rotate_left
      ·
       rintro w' ⟨s0, s1⟩
       go_simp
       with_reducible rfl
      rotate_left
      ·
       simp only [Act.put, List.setIfInBounds_toArray, List.set_cons_zero, List.set_cons_succ, i64_w, i32_w]
       rfl
      refine take_ (i := 1) (N := some 57) (v := ?_) (a' := ?_) #[true, true, false, false, false] rfl rfl (by kernel_rfl) (fun _ _ _ h => h) (Or.inl ⟨by rfl, ?_⟩) hHeld ?_ ?_
      rotate_left
      ·
       rintro w' ⟨s0, s1⟩
       go_simp
       with_reducible rfl
      rotate_left
      ·
       simp only [Act.put, List.setIfInBounds_toArray, List.set_cons_zero, List.set_cons_succ, i64_w, i32_w]
       rfl
      refine one_ (i := 2) (N := some 58) #[true, true, true, false, false] rfl rfl (by kernel_rfl) (by decide) (fun K hK => ?_)
      refine goes_ Try.func16 (by kernel_rfl) rfl #[.agg #[.slice A0_0 l0_0.length c0_0]] (by rfl) rfl rfl (by (try simp only [List.map_toArray, List.map_cons, List.map_nil]); first | done | rfl | (simp only [List.length_drop, List.length_take]; rfl)) ?_
      with_reducible refine (laws_toFileMap.calls kj11 _ _ l0_0 t799 _ ?side1 ?side2 A73.out).mono ?_
      (case side1 => exact cb HR0_0 HB)
      (case side2 => exact HC0_0.out)
      rintro e w253 ⟨v800, rfl, ho0, hb⟩
      refine ⟨_, rfl, ?_⟩
      have n0_ := Aside0.mk (Kd.R_below (rr HO_7.out) hb)
      have n1_ := Aside0.mk (Kd.R_below (rr HO_11.out) hb)
      have n2_ := Aside0.mk (Kd.R_elder' (rr HO_785000.out) (Kd.R_base ho0) hb)
      have n3_ := Aside0.mk (Kd.R_elder' (rr HO_789000.out) (Kd.R_base ho0) hb)
      have n4_ := Aside0.mk (Kd.R_elder' (rr HO_797000.out) (Kd.R_base ho0) hb)
      have n5_ := Aside0.mk (Kd.R_lower (Kd.R_new' (Kd.R_new' (Kd.R_new' ho0 (Kd.R_lt (rr HO_785000.out))) (Kd.R_lt (rr HO_789000.out))) (Kd.R_lt (rr HO_797000.out))) (below_size (bs4 HB GE772 GE784 GE788 GE796)))
      have n6_ := Aside0.mk (bb BK772 hb)
      have n7_ := Aside0.mk (bb BK784 hb)
      have n8_ := Aside0.mk (bb BK788 hb)
      have n9_ := Aside0.mk (bb BK796 hb)
      have n10_ := Aside0.mk (below_step (bs4 HB GE772 GE784 GE788 GE796) hb)
      clear HO_7
      clear HO_11
      clear HO_785000
      clear HO_789000
      clear HO_797000
      clear BK772
      clear BK784
      clear BK788
      clear BK796
      clear HB
      have HO_7 := n0_
      have HO_11 := n1_
      have HO_785000 := n2_
      have HO_789000 := n3_
      have HO_797000 := n4_
      have HO801 := n5_
      have BK772 := n6_
      have BK784 := n7_
      have BK788 := n8_
      have BK796 := n9_
      have HB := n10_
      clear n0_ n1_ n2_ n3_ n4_ n5_ n6_ n7_ n8_ n9_ n10_
      (try clear hb)
      (try clear hb2)
      (try clear hk)
      (try clear hi)
      (try clear ho0)
      obtain ⟨Ao254, co254, eo254⟩ := Kd.R_slice HO801.out
      (first | subst eo254 | (injection eo254 with f1_ f2_ f3_; have f4_ := f1_.symm; have f5_ := f3_.symm; clear f1_ f2_ f3_; subst f4_; subst f5_))
      refine hK.out _ _ ⟨(blk_cell BK788.out 0).trans rfl, (blk_cell BK772.out 0).trans rfl⟩ (fun hHeld => ?_)
      clear hK K
      refine norm_ (a' := ?_) ?_ ?_
      rotate_left
      ·
       show Act.put _ (some 58) _ = _
       simp only [Act.put, List.setIfInBounds_toArray, List.set_cons_zero, List.set_cons_succ, i64_w, i32_w]
       rfl
      refine one_ (i := 3) (N := some 59) #[true, true, true, true, false] rfl rfl (by kernel_rfl) (by decide) (fun K hK => ?_)
      refine goes_ Try.func18 (by kernel_rfl) rfl #[.agg #[.slice Ao27 t785.length co27], .agg #[.slice Ao254 t799.length co254]] (by rfl) rfl rfl (by (try simp only [List.map_toArray, List.map_cons, List.map_nil]); first | done | rfl | (simp only [List.length_drop, List.length_take]; rfl)) ?_
      with_reducible refine (laws_eqFileMap.calls kj11 _ _ t785 _ _ t799 false _ ?side1 ?side2 ?side3 ?side4 A74.out).mono ?_
      (case side1 => exact rc0 HO_789000)
      (case side2 => exact (Kd.R_reads' HO_789000.out).2.1)
      (case side3 => exact rc0 HO801)
      (case side4 => exact (Kd.R_reads' HO801.out).2.1)
      rintro e w255 ⟨rfl, hb⟩
      refine ⟨_, rfl, ?_⟩
      have n0_ := Aside0.mk (Kd.R_below (rr HO_7.out) hb)
      have n1_ := Aside0.mk (Kd.R_below (rr HO_11.out) hb)
      have n2_ := Aside0.mk (Kd.R_below (rr HO_785000.out) hb)
      have n3_ := Aside0.mk (Kd.R_below (rr HO_789000.out) hb)
      have n4_ := Aside0.mk (Kd.R_below (rr HO_797000.out) hb)
      have n5_ := Aside0.mk (Kd.R_below (rr HO801.out) hb)
      have n6_ := Aside0.mk (bb BK772 hb)
      have n7_ := Aside0.mk (bb BK784 hb)
      have n8_ := Aside0.mk (bb BK788 hb)
      have n9_ := Aside0.mk (bb BK796 hb)
      have n10_ := Aside0.mk (below_step (bs4 HB GE772 GE784 GE788 GE796) hb)
      clear HO_7
      clear HO_11
      clear HO_785000
      clear HO_789000
      clear HO_797000
      clear HO801
      clear BK772
      clear BK784
      clear BK788
      clear BK796
      clear HB
      have HO_7 := n0_
      have HO_11 := n1_
      have HO_785000 := n2_
      have HO_789000 := n3_
      have HO_797000 := n4_
      have HO801 := n5_
      have BK772 := n6_
      have BK784 := n7_
      have BK788 := n8_
      have BK796 := n9_
      have HB := n10_
      clear n0_ n1_ n2_ n3_ n4_ n5_ n6_ n7_ n8_ n9_ n10_
      (try clear hb)
      (try clear hb2)
      (try clear hk)
      (try clear hi)
      refine hK.out _ _ ⟨(blk_cell BK788.out 0).trans rfl, (blk_cell BK772.out 0).trans rfl⟩ (fun hHeld => ?_)
      clear hK K
      refine norm_ (a' := ?_) ?_ ?_
      rotate_left
      ·
       show Act.put _ (some 59) _ = _
       simp only [Act.put, List.setIfInBounds_toArray, List.set_cons_zero, List.set_cons_succ, i64_w, i32_w]
       rfl
      refine pure_ (i := 4) (N := some 60) (v := ?_) (a' := ?_) #[true, true, true, true, true] rfl rfl (by kernel_rfl) (fun _ _ _ h => h) (Or.inl ⟨by rfl, ?_⟩) ?_ ?_
      rotate_left
      ·
       intro w'
       go_simp
       with_reducible rfl
      rotate_left
      ·
       simp only [Act.put, List.setIfInBounds_toArray, List.set_cons_zero, List.set_cons_succ, i64_w, i32_w]
       rfl
      refine done_ (by kernel_rfl) ?_
      try go_wp2
      go_ret
      exact ⟨by first | rfl | (simp [errW_none, errW_some] <;> rfl) | (simp [*, errW_none, errW_some] <;> rfl), bs4 HB GE772 GE784 GE788 GE796⟩

/-- THE ONE PURE STATEMENT of laws_FnExactTruncateMap. -/
def laws_FnExactTruncateMap.Pure : Prop := ∀ (l0_0 : List (S45)) (a1 : Int), ok24 (⟨l0_0⟩ : S24) → (Lit.int .i64 a1).wf = true → ∃ k, laws_FnExactTruncateMap.f k l0_0 a1 = some true

end Go.Proofs.Ytojdlcbmbpgplaa.G
