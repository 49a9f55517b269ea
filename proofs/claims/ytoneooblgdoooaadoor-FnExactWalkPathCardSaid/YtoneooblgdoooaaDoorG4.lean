-- Printed by a program of this session (drive.py, by way of the kit's print). Not trusted: Lean checks it.
import Derived.Test.YtoneooblgdoooaaDoorG0
import Derived.Test.YtoneooblgdoooaaDoorG1
import Derived.Test.YtoneooblgdoooaaDoorG2
import Derived.Test.YtoneooblgdoooaaDoorG3
namespace Go.Proofs.YtoneooblgdoooaaDoor.G
open Go.RowKit Go.Proofs.YtoneooblgdoooaaDoorW.PrintWords Go.Proofs.YtoneooblgdoooaaDoorW.PrintLast Go.Proofs.YtoneooblgdoooaaDoorW.PrintMore
attribute [local go_sem] max2_int min2_int max_two min_two max_three min_three max_four min_four   -- for this text's walks alone
set_option linter.unusedVariables false
set_option linter.unusedSimpArgs false

/-! ### laws_FnExactWalkPath: function 4 -/
def laws_FnExactWalkPath.j0 : Nat → Bool → List (S59) → List (S40) → Option (Bool)
 | 0, _, _, _ => none
 | k + 1, x41, x305000, x315000 => if x41 = true then (some false) else ((laws_toNames.f k x305000).bind fun t317 => ((laws_eqNames.f k x315000 t317).bind fun t320 => (if t320 = true then (some true) else (some false))))
def laws_FnExactWalkPath.f (k : Nat) (l0_0 : List (S59)) (a1 : ByteArray) : Option (Bool) := if (a1.size : Int) > 1048576 then (some true) else ((laws_szNames.f k l0_0 1048576).bind fun t305 => (if t305 < 0 then (some true) else ((laws_toNames.f k l0_0).bind fun t306 => ((spec_WalkPath.f k t306 a1).bind fun bt309 => ((laws_toNames.f k l0_0).bind fun t311 => ((impl_WalkPath.f k t311 a1).bind fun bt315 => (if bt315.1 = bt309.1 then (laws_FnExactWalkPath.j0 k (bt315.2 != bt309.2) l0_0 t311) else (laws_FnExactWalkPath.j0 k true l0_0 t311))))))))
theorem laws_FnExactWalkPath.mono_l : ∀ k, (∀ y0 y1 y2, LeO (laws_FnExactWalkPath.j0 k y0 y1 y2) (laws_FnExactWalkPath.j0 (k + 1) y0 y1 y2))
 | 0 => fun _ _ _ r h => by simp [laws_FnExactWalkPath.j0] at h
 | k + 1 => by
  have ih0 := laws_FnExactWalkPath.mono_l k
  ·
   intro y0 y1 y2
   unfold laws_FnExactWalkPath.j0
   repeat' first
   | (with_reducible exact ih0 _ _ _)
   | (with_reducible exact impl_WalkPath.mono _ _ _)
   | (with_reducible exact laws_eqNames.mono _ _ _)
   | (with_reducible exact laws_szNames.mono _ _ _)
   | (with_reducible exact laws_toNames.mono _ _)
   | (with_reducible exact spec_WalkPath.mono _ _ _)
   | (with_reducible exact LeO.refl _)
   | (with_reducible exact LeO.none _)
   | (with_reducible refine LeO.ite ?_ ?_)
   | (with_reducible refine LeO.bind ?_ (fun _ => ?_))
   | exact ih0 _ _ _
   | exact impl_WalkPath.mono _ _ _
   | exact laws_eqNames.mono _ _ _
   | exact laws_szNames.mono _ _ _
   | exact laws_toNames.mono _ _
   | exact spec_WalkPath.mono _ _ _
   | exact LeO.none _
   | refine LeO.ite ?_ ?_
   | refine LeO.bind ?_ (fun _ => ?_)
theorem laws_FnExactWalkPath.mono : ∀ a0 a1 k, LeO (laws_FnExactWalkPath.f k a0 a1) (laws_FnExactWalkPath.f (k + 1) a0 a1) := by
 intro a0 a1 k
 have ih0 := laws_FnExactWalkPath.mono_l k
 unfold laws_FnExactWalkPath.f
 repeat' first
   | (with_reducible exact ih0 _ _ _)
   | (with_reducible exact impl_WalkPath.mono _ _ _)
   | (with_reducible exact laws_eqNames.mono _ _ _)
   | (with_reducible exact laws_szNames.mono _ _ _)
   | (with_reducible exact laws_toNames.mono _ _)
   | (with_reducible exact spec_WalkPath.mono _ _ _)
   | (with_reducible exact LeO.refl _)
   | (with_reducible exact LeO.none _)
   | (with_reducible refine LeO.ite ?_ ?_)
   | (with_reducible refine LeO.bind ?_ (fun _ => ?_))
   | exact ih0 _ _ _
   | exact impl_WalkPath.mono _ _ _
   | exact laws_eqNames.mono _ _ _
   | exact laws_szNames.mono _ _ _
   | exact laws_toNames.mono _ _
   | exact spec_WalkPath.mono _ _ _
   | exact LeO.none _
   | refine LeO.ite ?_ ?_
   | refine LeO.bind ?_ (fun _ => ?_)
set_option maxHeartbeats 8000000 in
set_option maxRecDepth 100000 in
theorem laws_FnExactWalkPath.calls (k : Nat) (A0_0 : Option Addr) (c0_0 : Nat) (l0_0 : List (S59)) (a1 : ByteArray) (r : Bool) (w : World) (hTab_ : Aside0 (Ito.TabW w)) (hr0_0 : Kd.C k59 w A0_0 l0_0.length l0_0) (hc0_0 : l0_0.length ≤ c0_0) (h : laws_FnExactWalkPath.f k l0_0 a1 = some r) :
  Calls Tryd.prog 4 #[.agg #[.slice A0_0 l0_0.length c0_0], .string a1] w fun e w' => e = .returned (.bool r) ∧ Below w.heap.size w w' := by
 have hu24 := Tryd.underlying24
 have hu29 := Tryd.underlying29
 have HR0_0 := Ah hr0_0
 have HC0_0 := Ah hc0_0
 clear hr0_0 hc0_0
 have HB := Ah (Below.refl w.heap.size w)
 have H : (if (a1.size : Int) > 1048576 then (some true) else ((laws_szNames.f k l0_0 1048576).bind fun t305 => (if t305 < 0 then (some true) else ((laws_toNames.f k l0_0).bind fun t306 => ((spec_WalkPath.f k t306 a1).bind fun bt309 => ((laws_toNames.f k l0_0).bind fun t311 => ((impl_WalkPath.f k t311 a1).bind fun bt315 => (if bt315.1 = bt309.1 then (laws_FnExactWalkPath.j0 k (bt315.2 != bt309.2) l0_0 t311) else (laws_FnExactWalkPath.j0 k true l0_0 t311))))))))) = some r := h
 clear h
 by_cases c3 : (a1.size : Int) > 1048576
 ·
  rw [if_pos c3] at H
  have c3b0 : decide (1048576 < (a1.size : Int)) = true := decide_eq_true c3
  have c3b1 : decide (1048576 < a1.size) = true := decide_eq_true (by omega)
  clear c3
  obtain rfl := Option.some.inj H
  go_enter Tryd.func4, Tryd.ntmps4
  go_wp2_with (first | ((with_reducible refine gate_dst (N := 2) rfl ?_); refine boxL 2 24 #[.slice A0_0 l0_0.length c0_0] ?_; intro gb304 hg w4 BK304 hb; have GW304 := gw hg (bs HB); have GE304 := gw hg (bs HB); replace HB := Ah (below_step (bs HB) hb); clear hb hg))
  go_ret
  exact ⟨er, bs1 HB GE304⟩
 rw [if_neg c3] at H
 have c3b0 : decide (1048576 < (a1.size : Int)) = false := decide_eq_false c3
 have c3b1 : decide (1048576 < a1.size) = false := decide_eq_false (by omega)
 clear c3
 replace H := Option.bind_eq_some_iff.mp H
 obtain ⟨t305, A50, H⟩ := H
 try dsimp only at H
 have A5 := Ah A50
 clear A50
 by_cases c6 : t305 < 0
 ·
  rw [if_pos c6] at H
  have c6b0 : decide (t305 < 0) = true := decide_eq_true c6
  clear c6
  obtain rfl := Option.some.inj H
  go_enter Tryd.func4, Tryd.ntmps4
  go_wp2_with (first | ((with_reducible refine gate_dst (N := 2) rfl ?_); refine boxL 2 24 #[.slice A0_0 l0_0.length c0_0] ?_; intro gb304 hg w7 BK304 hb; have GW304 := gw hg (bs HB); have GE304 := gw hg (bs HB); replace HB := Ah (below_step (bs HB) hb); clear hb hg; have hcz8_0 := cz1 BK304; have hfz8_0 := fz1 BK304) | ((with_reducible refine gate_callee (f := 5) rfl ?_); refine gL (some 16) rfl rfl Tryd.func5 (by kernel_rfl) rfl #[.agg #[.slice A0_0 l0_0.length c0_0], .int .i64 1048576] rfl ?_; (with_reducible refine (laws_szNames.calls k _ _ l0_0 1048576 t305 _ ?side1 ?side2 A5.out).mono ?_); (case side1 => exact cb HR0_0 HB); (case side2 => exact HC0_0.out); rintro e w9 ⟨rfl, hb⟩; refine ⟨_, rfl, ?_⟩; replace BK304 := nb BK304 hb; replace HB := Ah (below_step (bs1 HB GE304) hb); (try clear hb)))
  go_ret
  exact ⟨er, bs1 HB GE304⟩
 rw [if_neg c6] at H
 have c6b0 : decide (t305 < 0) = false := decide_eq_false c6
 clear c6
 replace H := Option.bind_eq_some_iff.mp H
 obtain ⟨t306, A100, H⟩ := H
 try dsimp only at H
 have A10 := Ah A100
 clear A100
 replace H := Option.bind_eq_some_iff.mp H
 obtain ⟨⟨t309, t310⟩, A110, H⟩ := H
 try dsimp only at H
 have A11 := Ah A110
 clear A110
 replace H := Option.bind_eq_some_iff.mp H
 obtain ⟨t311, A120, H⟩ := H
 try dsimp only at H
 have A12 := Ah A120
 clear A120
 replace H := Option.bind_eq_some_iff.mp H
 obtain ⟨⟨t315, t316⟩, A130, H⟩ := H
 try dsimp only at H
 have A13 := Ah A130
 clear A130
 have HC14 := Ah H
 clear H
 go_enter Tryd.func4, Tryd.ntmps4
 go_upto_region 10 with (first | ((with_reducible refine gate_dst (N := 2) rfl ?_); refine boxL 2 24 #[.slice A0_0 l0_0.length c0_0] ?_; intro gb304 hg w15 BK304 hb; have GW304 := gw hg (bs HB); have GE304 := gw hg (bs HB); replace HB := Ah (below_step (bs HB) hb); clear hb hg; have hcz16_0 := cz1 BK304; have hfz16_0 := fz1 BK304) | ((with_reducible refine gate_callee (f := 5) rfl ?_); refine gL (some 16) rfl rfl Tryd.func5 (by kernel_rfl) rfl #[.agg #[.slice A0_0 l0_0.length c0_0], .int .i64 1048576] rfl ?_; (with_reducible refine (laws_szNames.calls k _ _ l0_0 1048576 t305 _ ?side1 ?side2 A5.out).mono ?_); (case side1 => exact cb HR0_0 HB); (case side2 => exact HC0_0.out); rintro e w17 ⟨rfl, hb⟩; refine ⟨_, rfl, ?_⟩; replace BK304 := nb BK304 hb; replace HB := Ah (below_step (bs1 HB GE304) hb); (try clear hb); have hcz18_0 := cz1 BK304; have hfz18_0 := fz1 BK304) | ((with_reducible refine gate_callee (f := 7) rfl ?_); refine gL (some 21) rfl rfl Tryd.func7 (by kernel_rfl) rfl #[.agg #[.slice A0_0 l0_0.length c0_0]] rfl ?_; (with_reducible refine (laws_toNames.calls k _ _ l0_0 t306 _ ?side1 ?side2 A10.out).mono ?_); (case side1 => exact cb HR0_0 HB); (case side2 => exact HC0_0.out); rintro e w19 ⟨v307, rfl, ho0, hb⟩; refine ⟨_, rfl, ?_⟩; have HO308 := Ah (Kd.S_lower ho0 (below_size (bs1 HB GE304))); replace BK304 := nb BK304 hb; replace HB := Ah (below_step (bs1 HB GE304) hb); (try clear hb ho0); obtain ⟨Ao20, co20, eo20⟩ := Kd.S_slice HO308.out; subst eo20) | ((with_reducible refine gate_callee (f := 10) rfl ?_); refine gL (some 23) rfl rfl Tryd.func10 (by kernel_rfl) rfl #[.agg #[.slice Ao20 t306.length co20], .string a1] rfl ?_; (with_reducible refine (spec_WalkPath.calls k _ _ t306 a1 t309 t310 _ ?side1 ?side2 A11.out).mono ?_); (case side1 => repeat (first | exact (Kd.S_reads' HO308.out).2.2 | (with_reducible refine Kd.C_alloc ?_ _) | (with_reducible refine Kd.C_drewN ?_ _) | (with_reducible refine Kd.C_drew ?_))); (case side2 => exact (Kd.S_reads' HO308.out).2.1); rintro e w21 ⟨rfl, hb⟩; refine ⟨_, rfl, ?_⟩; replace HO308 := Ah (Kd.S_below (by (with_reducible repeat (first | apply Kd.S_alloc | apply Kd.S_drewN | apply Kd.S_drew)); exact HO308.out) hb); replace BK304 := nb BK304 hb; replace HB := Ah (below_step (bs1 HB GE304) hb); (try clear hb); have hcz22_0 := cz1 BK304; have hfz22_0 := fz1 BK304) | ((with_reducible refine gate_callee (f := 7) rfl ?_); refine gL (some 27) rfl rfl Tryd.func7 (by kernel_rfl) rfl #[.agg #[.slice A0_0 l0_0.length c0_0]] rfl ?_; (with_reducible refine (laws_toNames.calls k _ _ l0_0 t311 _ ?side1 ?side2 A12.out).mono ?_); (case side1 => exact cb HR0_0 HB); (case side2 => exact HC0_0.out); rintro e w23 ⟨v312, rfl, ho0, hb⟩; refine ⟨_, rfl, ?_⟩; have HO313 := Ah (Kd.S_lower (Kd.S_new' ho0 (Kd.S_lt (by (with_reducible repeat (first | apply Kd.S_alloc | apply Kd.S_drewN | apply Kd.S_drew)); exact HO308.out))) (below_size (bs1 HB GE304))); replace HO308 := Ah (Kd.S_elder' (by (with_reducible repeat (first | apply Kd.S_alloc | apply Kd.S_drewN | apply Kd.S_drew)); exact HO308.out) (Kd.S_base ho0) hb); replace BK304 := nb BK304 hb; replace HB := Ah (below_step (bs1 HB GE304) hb); (try clear hb ho0)) | ((with_reducible refine gate_dst (N := 8) rfl ?_); refine boxL 8 29 #[.slice none 0 0] ?_; intro gb314 hg w24 BK314 hb; replace HO308 := Ah (Kd.S_below (by (with_reducible repeat (first | apply Kd.S_alloc | apply Kd.S_drewN | apply Kd.S_drew)); exact HO308.out) hb); replace HO313 := Ah (Kd.S_below (by (with_reducible repeat (first | apply Kd.S_alloc | apply Kd.S_drewN | apply Kd.S_drew)); exact HO313.out) hb); have GW314 := gw hg (bs1 HB GE304); have GE314 := gw hg (bs1 HB GE304); replace HB := Ah (below_step (bs1 HB GE304) hb); have NB304_314 := nn BK304 hg; have NB314_304 := nm BK304 hg; replace BK304 := nb BK304 hb; clear hb hg; obtain ⟨Ao25, co25, eo25⟩ := Kd.S_slice HO313.out; subst eo25; have hnb26 := NB314_304.out; have hnc26 := NB304_314.out; have hcz27_0 := cz1 BK314; have hfz27_0 := fz1 BK314) | ((with_reducible refine gate_callee (f := 11) rfl ?_); refine gL (some 31) rfl rfl Tryd.func11 (by kernel_rfl) rfl #[.agg #[.slice Ao25 t311.length co25], .string a1] rfl ?_; (with_reducible refine (impl_WalkPath.calls k _ _ t311 a1 t315 t316 _ ?sideT ?side1 ?side2 A13.out).mono ?_); (case sideT => refine ⟨Ito.tabB hTab_.out ?_⟩; first | exact bs HB | exact st_below | (repeat (first | (with_reducible first | exact HB.out | apply below_alloc | apply pw_below_drewN | apply below_drew1 | refine below_set ?_ (Aside0.out (by assumption))) | exact HB.out))); (case side1 => refine (Kd.S_reads' (e := 40) (base := w.heap.size) (ok := fun k_ => (True ∧ some k_ ≠ (.slice Ao20 t306.length co20 : Value).ownBlock)) (n := t311.length) (c := co25) ?_).2.2; exact (by (with_reducible repeat (first | apply Kd.S_alloc | apply Kd.S_drewN | apply Kd.S_drew)); exact (Kd.S_mono (Kd.S_far (p := ⟨gb314, 0, none⟩) (Kd.S_types HO313.out BK314.out (by decide)) (fun _ hk => hk.2) (.slice Ao25 t311.length co25)) (fun _ h_ => h_.1)))); (case side2 => exact (Kd.S_reads' HO313.out).2.1); rintro e w28 ⟨rfl, hb⟩; refine ⟨_, rfl, ?_⟩; replace HO308 := Ah (Kd.S_below (by (with_reducible repeat (first | apply Kd.S_alloc | apply Kd.S_drewN | apply Kd.S_drew)); exact (Kd.S_mono (Kd.S_far (p := ⟨gb314, 0, none⟩) (Kd.S_types HO308.out BK314.out (by decide)) (fun _ hk => hk.2) (.slice Ao25 t311.length co25)) (fun _ h_ => h_.1))) hb); replace HO313 := Ah (Kd.S_below (by (with_reducible repeat (first | apply Kd.S_alloc | apply Kd.S_drewN | apply Kd.S_drew)); exact (Kd.S_mono (Kd.S_far (p := ⟨gb314, 0, none⟩) (Kd.S_types HO313.out BK314.out (by decide)) (fun _ hk => hk.2) (.slice Ao25 t311.length co25)) (fun _ h_ => h_.1))) hb); replace BK304 := Ah (blk_below (bf BK304 NB304_314) hb); replace BK314 := Ah (blk_below (g := gb314) (o := .cells #[.slice Ao25 t311.length co25] 29 (0, 0)) (by (with_reducible repeat (first | refine blk_drewN ?_ _ | refine blk_drew ?_ | refine blk_alloc ?_ _)); refine blk_put (cs := #[.slice none 0 0]) ?_ 0 _ rfl; (with_reducible repeat (first | refine blk_drewN ?_ _ | refine blk_drew ?_ | refine blk_alloc ?_ _)); exact BK314.out) hb); replace HB := Ah (below_step (bs2 HB GE304 GE314) hb); (try clear hb hk)))
 (try simp only [Act.put, List.setIfInBounds_toArray, List.set_cons_zero, List.set_cons_succ])
 go_cut [41] (fun v41 wc => ∃ (kq : Nat) (x41_13 : Bool), v41 = .bool x41_13 ∧ Aside0 (laws_FnExactWalkPath.j0 kq x41_13 l0_0 t311 = some r) ∧ Aside0 (kq ≤ k) ∧ Aside0 (Kd.S k40 40 wc w.heap.size (fun _ => True) (.slice Ao25 t311.length co25) t311) ∧ Aside0 (wc.heap[gb304]? = some (.cells #[(.slice A0_0 l0_0.length c0_0)] 24 (0, 0))) ∧ Aside0 (wc.heap[gb314]? = some (.cells #[(.slice Ao25 t311.length co25)] 29 (0, 0))) ∧ Aside0 (Below w.heap.size w wc))
 case first =>
  have H := HC14.out
  clear HC14
  by_cases c29 : t315 = t309
  rotate_left
  ·
   rw [if_neg c29] at H
   have c29b0 : (t315 == t309) = false := beq_eq_false_iff_ne.mpr c29
   have c29b1 : (t315 != t309) = true := bne_iff_ne.mpr c29
   (first | rw [c29b0] | (simp only [i64_w, i32_w]; rw [c29b0]) | (simp only [c29b2, Bool.not_false, Bool.not_true]) | skip)
   have H' := Ah H
   clear H
   go_wp2
   go_meet
   case rel => exact ⟨_, (true), e3, H', ⟨by first | omega | exact Nat.le_refl _⟩, ⟨by (with_reducible repeat (first | apply Kd.S_alloc | apply Kd.S_drewN | apply Kd.S_drew)); exact Kd.S_mono HO313.out (fun _ hk => trivial)⟩, ⟨bk BK304⟩, ⟨bk BK314⟩, ⟨bs2 HB GE304 GE314⟩⟩
  rw [if_pos c29] at H
  have c29b0 : (t315 == t309) = true := beq_iff_eq.mpr c29
  have c29b1 : (t315 != t309) = false := bne_eq_false_iff_eq.mpr c29
  clear c29
  (first | rw [c29b0] | (simp only [i64_w, i32_w]; rw [c29b0]) | (simp only [c29b2, Bool.not_false, Bool.not_true]) | skip)
  have H' := Ah H
  clear H
  go_wp2
  go_meet
  case rel => exact ⟨_, ((t316 != t310)), e3, H', ⟨by first | omega | exact Nat.le_refl _⟩, ⟨by (with_reducible repeat (first | apply Kd.S_alloc | apply Kd.S_drewN | apply Kd.S_drew)); exact Kd.S_mono HO313.out (fun _ hk => trivial)⟩, ⟨bk BK304⟩, ⟨bk BK314⟩, ⟨bs2 HB GE304 GE314⟩⟩
 case rest =>
  clear HC14
  try clear c1
  try clear c2
  try clear p2
  try clear c3
  try clear c3b0
  try clear c3b1
  try clear c4
  try clear c5
  try clear c6
  try clear c6b0
  try clear c7
  try clear c10
  try clear c11
  try clear c26
  try clear c29
  try clear c29b0
  try clear c29b1
  try clear hcz16_0
  try clear hcz18_0
  try clear hcz22_0
  try clear hcz27_0
  try clear hcz8_0
  try clear hfz16_0
  try clear hfz18_0
  try clear hfz22_0
  try clear hfz27_0
  try clear hfz8_0
  obtain ⟨kq, x41_13, rfl, HA, HJ13, HO_315000, BK304, BK314, HB⟩ := hcut
  cases kq with
  | zero => exact absurd HA.out (by simp [laws_FnExactWalkPath.j0])
  | succ kj13 =>
   have H := HA.out
   clear HA
   simp only [laws_FnExactWalkPath.j0] at H
   by_cases c30 : x41_13 = true
   ·
    subst c30
    rw [if_pos rfl] at H
    obtain rfl := Option.some.inj H
    go_wp2
    go_ret
    exact ⟨er, bs2 HB GE304 GE314⟩
   replace c30 := Bool.eq_false_iff.mpr c30
   subst c30
   rw [if_neg fne] at H
   replace H := Option.bind_eq_some_iff.mp H
   obtain ⟨t317, A310, H⟩ := H
   try dsimp only at H
   have A31 := Ah A310
   clear A310
   replace H := Option.bind_eq_some_iff.mp H
   obtain ⟨t320, A320, H⟩ := H
   try dsimp only at H
   have A32 := Ah A320
   clear A320
   by_cases c33 : t320 = true
   ·
    subst c33
    rw [if_pos rfl] at H
    obtain rfl := Option.some.inj H
    try go_wp2
    have n0_ := Ah (Kd.S_drew HO_315000.out)
    have n1_ := Ah (blk_drew BK304.out)
    have n2_ := Ah (blk_drew BK314.out)
    have n3_ := Ah (below_drew1 HB.out)
    clear HO_315000 BK304 BK314 HB
    have HO_315000 := n0_
    have BK304 := n1_
    have BK314 := n2_
    have HB := n3_
    clear n0_ n1_ n2_ n3_
    refine start_ (n := 5) (S := fun w' => w'.cell? ⟨gb314, 0, none⟩ = some (.slice Ao25 t311.length co25) ∧ w'.cell? ⟨gb304, 0, none⟩ = some (.slice A0_0 l0_0.length c0_0)) (ds := []) #[false, false, false, false, false] (by kernel_rfl) rfl rfl ⟨(blk_cell BK314.out 0).trans rfl, (blk_cell BK304.out 0).trans rfl⟩ (fun hHeld => ?_)
    generalize wc.drew = w34 at HO_315000 BK304 BK314 HB hHeld ⊢
    refine take_ (i := 0) (N := some 42) (v := ?_) (a' := ?_) #[true, false, false, false, false] rfl rfl (by kernel_rfl) (fun _ _ _ h => h) (Or.inl ⟨by rfl, ?_⟩) hHeld ?_ ?_
    rotate_left
    ·
     rintro w' ⟨s0, s1⟩
     go_simp
     with_reducible rfl
    rotate_left
    ·
     simp only [Act.put, List.setIfInBounds_toArray, List.set_cons_zero, List.set_cons_succ, i64_w, i32_w]
     rfl
    refine take_ (i := 1) (N := some 43) (v := ?_) (a' := ?_) #[true, true, false, false, false] rfl rfl (by kernel_rfl) (fun _ _ _ h => h) (Or.inl ⟨by rfl, ?_⟩) hHeld ?_ ?_
    rotate_left
    ·
     rintro w' ⟨s0, s1⟩
     go_simp
     with_reducible rfl
    rotate_left
    ·
     simp only [Act.put, List.setIfInBounds_toArray, List.set_cons_zero, List.set_cons_succ, i64_w, i32_w]
     rfl
    refine one_ (i := 2) (N := some 44) #[true, true, true, false, false] rfl rfl (by kernel_rfl) (by decide) (fun K hK => ?_)
    refine goes_ Tryd.func7 (by kernel_rfl) rfl #[.agg #[.slice A0_0 l0_0.length c0_0]] (by rfl) rfl rfl (by (try simp only [List.map_toArray, List.map_cons, List.map_nil]); first | done | rfl | (simp only [List.length_drop, List.length_take]; rfl)) ?_
    with_reducible refine (laws_toNames.calls kj13 _ _ l0_0 t317 _ ?side1 ?side2 A31.out).mono ?_
    (case side1 => exact cb HR0_0 HB)
    (case side2 => exact HC0_0.out)
    rintro e w35 ⟨v318, rfl, ho0, hb⟩
    refine ⟨_, rfl, ?_⟩
    have n0_ := Ah (Kd.S_elder' (by (with_reducible repeat (first | apply Kd.S_alloc | apply Kd.S_drewN | apply Kd.S_drew)); exact HO_315000.out) (Kd.S_base ho0) hb)
    have n1_ := Ah (Kd.S_lower (Kd.S_new' ho0 (Kd.S_lt (by (with_reducible repeat (first | apply Kd.S_alloc | apply Kd.S_drewN | apply Kd.S_drew)); exact HO_315000.out))) (below_size (bs2 HB GE304 GE314)))
    have n2_ := Ah (bb BK304 hb)
    have n3_ := Ah (bb BK314 hb)
    have n4_ := Ah (below_step (bs2 HB GE304 GE314) hb)
    clear HO_315000 BK304 BK314 HB
    have HO_315000 := n0_
    have HO319 := n1_
    have BK304 := n2_
    have BK314 := n3_
    have HB := n4_
    clear n0_ n1_ n2_ n3_ n4_
    (try clear hb)
    (try clear hb2)
    (try clear hk)
    (try clear hi)
    (try clear ho0)
    obtain ⟨Ao36, co36, eo36⟩ := Kd.S_slice HO319.out
    (first | subst eo36 | (injection eo36 with f1_ f2_ f3_; have f4_ := f1_.symm; have f5_ := f3_.symm; clear f1_ f2_ f3_; subst f4_; subst f5_))
    refine hK.out _ _ ⟨(blk_cell BK314.out 0).trans rfl, (blk_cell BK304.out 0).trans rfl⟩ (fun hHeld => ?_)
    clear hK K
    refine norm_ (a' := ?_) ?_ ?_
    rotate_left
    ·
     show Act.put _ (some 44) _ = _
     simp only [Act.put, List.setIfInBounds_toArray, List.set_cons_zero, List.set_cons_succ, i64_w, i32_w]
     rfl
    refine one_ (i := 3) (N := some 45) #[true, true, true, true, false] rfl rfl (by kernel_rfl) (by decide) (fun K hK => ?_)
    refine goes_ Tryd.func9 (by kernel_rfl) rfl #[.agg #[.slice Ao25 t311.length co25], .agg #[.slice Ao36 t317.length co36]] (by rfl) rfl rfl (by (try simp only [List.map_toArray, List.map_cons, List.map_nil]); first | done | rfl | (simp only [List.length_drop, List.length_take]; rfl)) ?_
    with_reducible refine (laws_eqNames.calls kj13 _ _ t311 _ _ t317 true _ ?side1 ?side2 ?side3 ?side4 A32.out).mono ?_
    (case side1 => repeat (first | exact (Kd.S_reads' HO_315000.out).2.2 | (with_reducible refine Kd.C_alloc ?_ _) | (with_reducible refine Kd.C_drewN ?_ _) | (with_reducible refine Kd.C_drew ?_)))
    (case side2 => exact (Kd.S_reads' HO_315000.out).2.1)
    (case side3 => repeat (first | exact (Kd.S_reads' HO319.out).2.2 | (with_reducible refine Kd.C_alloc ?_ _) | (with_reducible refine Kd.C_drewN ?_ _) | (with_reducible refine Kd.C_drew ?_)))
    (case side4 => exact (Kd.S_reads' HO319.out).2.1)
    rintro e w37 ⟨rfl, hb⟩
    refine ⟨_, rfl, ?_⟩
    have n0_ := Ah (Kd.S_below (by (with_reducible repeat (first | apply Kd.S_alloc | apply Kd.S_drewN | apply Kd.S_drew)); exact HO_315000.out) hb)
    have n1_ := Ah (Kd.S_below (by (with_reducible repeat (first | apply Kd.S_alloc | apply Kd.S_drewN | apply Kd.S_drew)); exact HO319.out) hb)
    have n2_ := Ah (bb BK304 hb)
    have n3_ := Ah (bb BK314 hb)
    have n4_ := Ah (below_step (bs2 HB GE304 GE314) hb)
    clear HO_315000 HO319 BK304 BK314 HB
    have HO_315000 := n0_
    have HO319 := n1_
    have BK304 := n2_
    have BK314 := n3_
    have HB := n4_
    clear n0_ n1_ n2_ n3_ n4_
    (try clear hb)
    (try clear hb2)
    (try clear hk)
    (try clear hi)
    refine hK.out _ _ ⟨(blk_cell BK314.out 0).trans rfl, (blk_cell BK304.out 0).trans rfl⟩ (fun hHeld => ?_)
    clear hK K
    refine norm_ (a' := ?_) ?_ ?_
    rotate_left
    ·
     show Act.put _ (some 45) _ = _
     simp only [Act.put, List.setIfInBounds_toArray, List.set_cons_zero, List.set_cons_succ, i64_w, i32_w]
     rfl
    refine pure_ (i := 4) (N := some 46) (v := ?_) (a' := ?_) #[true, true, true, true, true] rfl rfl (by kernel_rfl) (fun _ _ _ h => h) (Or.inl ⟨by rfl, ?_⟩) ?_ ?_
    rotate_left
    ·
     intro w'
     go_simp
     with_reducible rfl
    rotate_left
    ·
     simp only [Act.put, List.setIfInBounds_toArray, List.set_cons_zero, List.set_cons_succ, i64_w, i32_w]
     rfl
    refine done_ (by kernel_rfl) ?_
    try go_wp2
    go_ret
    exact ⟨er, bs2 HB GE304 GE314⟩
   replace c33 := Bool.eq_false_iff.mpr c33
   subst c33
   rw [if_neg fne] at H
   obtain rfl := Option.some.inj H
   try go_wp2
   have n0_ := Ah (Kd.S_drew HO_315000.out)
   have n1_ := Ah (blk_drew BK304.out)
   have n2_ := Ah (blk_drew BK314.out)
   have n3_ := Ah (below_drew1 HB.out)
   clear HO_315000 BK304 BK314 HB
   have HO_315000 := n0_
   have BK304 := n1_
   have BK314 := n2_
   have HB := n3_
   clear n0_ n1_ n2_ n3_
   refine start_ (n := 5) (S := fun w' => w'.cell? ⟨gb314, 0, none⟩ = some (.slice Ao25 t311.length co25) ∧ w'.cell? ⟨gb304, 0, none⟩ = some (.slice A0_0 l0_0.length c0_0)) (ds := []) #[false, false, false, false, false] (by kernel_rfl) rfl rfl ⟨(blk_cell BK314.out 0).trans rfl, (blk_cell BK304.out 0).trans rfl⟩ (fun hHeld => ?_)
   generalize wc.drew = w38 at HO_315000 BK304 BK314 HB hHeld ⊢
   refine take_ (i := 0) (N := some 42) (v := ?_) (a' := ?_) #[true, false, false, false, false] rfl rfl (by kernel_rfl) (fun _ _ _ h => h) (Or.inl ⟨by rfl, ?_⟩) hHeld ?_ ?_
   rotate_left
   ·
    rintro w' ⟨s0, s1⟩
    go_simp
    with_reducible rfl
   rotate_left
   ·
    simp only [Act.put, List.setIfInBounds_toArray, List.set_cons_zero, List.set_cons_succ, i64_w, i32_w]
    rfl
   refine take_ (i := 1) (N := some 43) (v := ?_) (a' := ?_) #[true, true, false, false, false] rfl rfl (by kernel_rfl) (fun _ _ _ h => h) (Or.inl ⟨by rfl, ?_⟩) hHeld ?_ ?_
   rotate_left
   ·
    rintro w' ⟨s0, s1⟩
    go_simp
    with_reducible rfl
   rotate_left
   ·
    simp only [Act.put, List.setIfInBounds_toArray, List.set_cons_zero, List.set_cons_succ, i64_w, i32_w]
    rfl
   refine one_ (i := 2) (N := some 44) #[true, true, true, false, false] rfl rfl (by kernel_rfl) (by decide) (fun K hK => ?_)
   refine goes_ Tryd.func7 (by kernel_rfl) rfl #[.agg #[.slice A0_0 l0_0.length c0_0]] (by rfl) rfl rfl (by (try simp only [List.map_toArray, List.map_cons, List.map_nil]); first | done | rfl | (simp only [List.length_drop, List.length_take]; rfl)) ?_
   with_reducible refine (laws_toNames.calls kj13 _ _ l0_0 t317 _ ?side1 ?side2 A31.out).mono ?_
   (case side1 => exact cb HR0_0 HB)
   (case side2 => exact HC0_0.out)
   rintro e w39 ⟨v318, rfl, ho0, hb⟩
   refine ⟨_, rfl, ?_⟩
   have n0_ := Ah (Kd.S_elder' (by (with_reducible repeat (first | apply Kd.S_alloc | apply Kd.S_drewN | apply Kd.S_drew)); exact HO_315000.out) (Kd.S_base ho0) hb)
   have n1_ := Ah (Kd.S_lower (Kd.S_new' ho0 (Kd.S_lt (by (with_reducible repeat (first | apply Kd.S_alloc | apply Kd.S_drewN | apply Kd.S_drew)); exact HO_315000.out))) (below_size (bs2 HB GE304 GE314)))
   have n2_ := Ah (bb BK304 hb)
   have n3_ := Ah (bb BK314 hb)
   have n4_ := Ah (below_step (bs2 HB GE304 GE314) hb)
   clear HO_315000 BK304 BK314 HB
   have HO_315000 := n0_
   have HO319 := n1_
   have BK304 := n2_
   have BK314 := n3_
   have HB := n4_
   clear n0_ n1_ n2_ n3_ n4_
   (try clear hb)
   (try clear hb2)
   (try clear hk)
   (try clear hi)
   (try clear ho0)
   obtain ⟨Ao40, co40, eo40⟩ := Kd.S_slice HO319.out
   (first | subst eo40 | (injection eo40 with f1_ f2_ f3_; have f4_ := f1_.symm; have f5_ := f3_.symm; clear f1_ f2_ f3_; subst f4_; subst f5_))
   refine hK.out _ _ ⟨(blk_cell BK314.out 0).trans rfl, (blk_cell BK304.out 0).trans rfl⟩ (fun hHeld => ?_)
   clear hK K
   refine norm_ (a' := ?_) ?_ ?_
   rotate_left
   ·
    show Act.put _ (some 44) _ = _
    simp only [Act.put, List.setIfInBounds_toArray, List.set_cons_zero, List.set_cons_succ, i64_w, i32_w]
    rfl
   refine one_ (i := 3) (N := some 45) #[true, true, true, true, false] rfl rfl (by kernel_rfl) (by decide) (fun K hK => ?_)
   refine goes_ Tryd.func9 (by kernel_rfl) rfl #[.agg #[.slice Ao25 t311.length co25], .agg #[.slice Ao40 t317.length co40]] (by rfl) rfl rfl (by (try simp only [List.map_toArray, List.map_cons, List.map_nil]); first | done | rfl | (simp only [List.length_drop, List.length_take]; rfl)) ?_
   with_reducible refine (laws_eqNames.calls kj13 _ _ t311 _ _ t317 false _ ?side1 ?side2 ?side3 ?side4 A32.out).mono ?_
   (case side1 => repeat (first | exact (Kd.S_reads' HO_315000.out).2.2 | (with_reducible refine Kd.C_alloc ?_ _) | (with_reducible refine Kd.C_drewN ?_ _) | (with_reducible refine Kd.C_drew ?_)))
   (case side2 => exact (Kd.S_reads' HO_315000.out).2.1)
   (case side3 => repeat (first | exact (Kd.S_reads' HO319.out).2.2 | (with_reducible refine Kd.C_alloc ?_ _) | (with_reducible refine Kd.C_drewN ?_ _) | (with_reducible refine Kd.C_drew ?_)))
   (case side4 => exact (Kd.S_reads' HO319.out).2.1)
   rintro e w41 ⟨rfl, hb⟩
   refine ⟨_, rfl, ?_⟩
   have n0_ := Ah (Kd.S_below (by (with_reducible repeat (first | apply Kd.S_alloc | apply Kd.S_drewN | apply Kd.S_drew)); exact HO_315000.out) hb)
   have n1_ := Ah (Kd.S_below (by (with_reducible repeat (first | apply Kd.S_alloc | apply Kd.S_drewN | apply Kd.S_drew)); exact HO319.out) hb)
   have n2_ := Ah (bb BK304 hb)
   have n3_ := Ah (bb BK314 hb)
   have n4_ := Ah (below_step (bs2 HB GE304 GE314) hb)
   clear HO_315000 HO319 BK304 BK314 HB
   have HO_315000 := n0_
   have HO319 := n1_
   have BK304 := n2_
   have BK314 := n3_
   have HB := n4_
   clear n0_ n1_ n2_ n3_ n4_
   (try clear hb)
   (try clear hb2)
   (try clear hk)
   (try clear hi)
   refine hK.out _ _ ⟨(blk_cell BK314.out 0).trans rfl, (blk_cell BK304.out 0).trans rfl⟩ (fun hHeld => ?_)
   clear hK K
   refine norm_ (a' := ?_) ?_ ?_
   rotate_left
   ·
    show Act.put _ (some 45) _ = _
    simp only [Act.put, List.setIfInBounds_toArray, List.set_cons_zero, List.set_cons_succ, i64_w, i32_w]
    rfl
   refine pure_ (i := 4) (N := some 46) (v := ?_) (a' := ?_) #[true, true, true, true, true] rfl rfl (by kernel_rfl) (fun _ _ _ h => h) (Or.inl ⟨by rfl, ?_⟩) ?_ ?_
   rotate_left
   ·
    intro w'
    go_simp
    with_reducible rfl
   rotate_left
   ·
    simp only [Act.put, List.setIfInBounds_toArray, List.set_cons_zero, List.set_cons_succ, i64_w, i32_w]
    rfl
   refine done_ (by kernel_rfl) ?_
   try go_wp2
   go_ret
   exact ⟨er, bs2 HB GE304 GE314⟩

/-- THE ONE PURE STATEMENT of laws_FnExactWalkPath. -/
def laws_FnExactWalkPath.Pure : Prop := ∀ (l0_0 : List (S59)) (a1 : ByteArray), ok24 (⟨l0_0⟩ : S24) → a1.size ≤ maxLen → ∃ k, laws_FnExactWalkPath.f k l0_0 a1 = some true

end Go.Proofs.YtoneooblgdoooaaDoor.G
