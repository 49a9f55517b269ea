-- Printed by a program of this session (drive.py, by way of the kit's print). Not trusted: Lean checks it.
import Derived.Test.YthlifcbkpafofaaDoorG0
import Derived.Test.YthlifcbkpafofaaDoorG2
import Derived.Test.YthlifcbkpafofaaDoorG3
import Derived.Test.YthlifcbkpafofaaDoorG4
namespace Go.Proofs.YthlifcbkpafofaaDoor.G
open Go.RowKit Go.Proofs.YthlifcbkpafofaaDoorW.PrintWords Go.Proofs.YthlifcbkpafofaaDoorW.PrintLast Go.Proofs.YthlifcbkpafofaaDoorW.PrintMore
attribute [local go_sem] max2_int min2_int max_two min_two max_three min_three max_four min_four   -- for this text's walks alone
set_option linter.unusedVariables false
set_option linter.unusedSimpArgs false

/-! ### impl_NewRing: function 23 -/
def impl_NewRing.f (k : Nat) (a0 : Int) : Option ((List (S26)) × Int × Int × Int × Bool) := (impl_within.f a0 2 24).bind fun t214 => (if t214 = true then ((impl_zeroSlot.f k).bind fun bt215 => ((impl_Slot.f (([(⟨bt215.1, bt215.2.1, bt215.2.2.1, bt215.2.2.2⟩ : S26)] : List (S26))) a0).bind fun t222 => (some (t222, 0, 1, 0, true)))) else (some (([] : List (S26)), 0, 0, 0, false)))
theorem impl_NewRing.mono : ∀ a0 k, LeO (impl_NewRing.f k a0) (impl_NewRing.f (k + 1) a0) := by
 intro a0 k
 unfold impl_NewRing.f
 repeat' first
   | (with_reducible exact impl_zeroSlot.mono _)
   | (with_reducible exact LeO.refl _)
   | (with_reducible exact LeO.none _)
   | (with_reducible refine LeO.ite ?_ ?_)
   | (with_reducible refine LeO.bind ?_ (fun _ => ?_))
   | exact impl_zeroSlot.mono _
   | exact LeO.none _
   | refine LeO.ite ?_ ?_
   | refine LeO.bind ?_ (fun _ => ?_)
set_option maxHeartbeats 8000000 in
set_option maxRecDepth 100000 in
theorem impl_NewRing.calls (k : Nat) (a0 : Int) (r1 : List (S26)) (r2 : Int) (r3 : Int) (r4 : Int) (r5 : Bool) (w : World) (hTab_ : Aside0 (Ito.TabW w)) (h : impl_NewRing.f k a0 = some (r1, r2, r3, r4, r5)) :
  Calls Tryd.prog 23 #[.int .i64 a0] w fun e w' => ∃ v0_ : Value, e = .returned (.tuple #[.agg #[v0_, .int .i64 r2, .int .i64 r3, .int .i64 r4], .bool r5]) ∧ Kd.R k26 26 w' w.heap.size (fun _ => True) v0_ r1 ∧ Below w.heap.size w w' := by
 have hu36 := Tryd.underlying36
 have HB := Aside0.mk (Below.refl w.heap.size w)
 have H : ((impl_within.f a0 2 24).bind fun t214 => (if t214 = true then ((impl_zeroSlot.f k).bind fun bt215 => ((impl_Slot.f (([(⟨bt215.1, bt215.2.1, bt215.2.2.1, bt215.2.2.2⟩ : S26)] : List (S26))) a0).bind fun t222 => (some (t222, 0, 1, 0, true)))) else (some (([] : List (S26)), 0, 0, 0, false)))) = some (r1, r2, r3, r4, r5) := h
 clear h
 replace H := Option.bind_eq_some_iff.mp H
 obtain ⟨t214, A20, H⟩ := H
 replace H : (if t214 = true then ((impl_zeroSlot.f k).bind fun bt215 => ((impl_Slot.f (([(⟨bt215.1, bt215.2.1, bt215.2.2.1, bt215.2.2.2⟩ : S26)] : List (S26))) a0).bind fun t222 => (some (t222, 0, 1, 0, true)))) else (some (([] : List (S26)), 0, 0, 0, false))) = some (r1, r2, r3, r4, r5) := H
 have A2 := Aside0.mk A20
 clear A20
 by_cases c3 : t214 = true
 ·
  subst c3
  rw [if_pos rfl] at H
  replace H := Option.bind_eq_some_iff.mp H
  obtain ⟨⟨t215, t216, t217, t218⟩, A40, H⟩ := H
  replace H : ((impl_Slot.f (([(⟨t215, t216, t217, t218⟩ : S26)] : List (S26))) a0).bind fun t222 => (some (t222, 0, 1, 0, true))) = some (r1, r2, r3, r4, r5) := H
  have A4 := Aside0.mk A40
  clear A40
  obtain ⟨y219, hy219⟩ : ∃ y_ : List (S26), y_ = (([(⟨t215, t216, t217, t218⟩ : S26)] : List (S26))) := ⟨_, rfl⟩
  replace H : ((impl_Slot.f y219 a0).bind fun t222 => (some (t222, 0, 1, 0, true))) = some (r1, r2, r3, r4, r5) := by first | (rw [hy219]; with_reducible exact H) | (have H2_ := (Option.bind_some _ _).symm.trans H; rw [hy219]; with_reducible exact H2_) | (have H2_ := (Option.bind_some _ _).symm.trans H; with_reducible exact H2_) | with_reducible exact H | (rw [hy219]; exact H) | exact H
  have Ny219 := Aside0.mk hy219
  clear hy219
  replace H := Option.bind_eq_some_iff.mp H
  obtain ⟨t222, A50, H⟩ := H
  replace H : (some (t222, 0, 1, 0, true)) = some (r1, r2, r3, r4, r5) := H
  have A5 := Aside0.mk A50
  clear A50
  simp only [Option.some.injEq, Prod.mk.injEq] at H
  obtain ⟨rfl, rfl, rfl, rfl, rfl⟩ := H
  go_enter Tryd.func23, Tryd.ntmps23
  go_wp2_with (first | ((with_reducible refine gate_dst (N := 2) rfl ?_); refine box_event ?hg (N := 2) ?hd (cs := #[.slice none 0 0, .int .i64 0, .int .i64 0, .int .i64 0]) (t := 36) ?hr ?_; (case hd => rfl); (case hg => rfl); (case hr => first | (go_simp; done) | (go_simp; rfl)); intro gb213 hg w6 hbox hb; have BK213 := Aside0.mk (hbox); have GW213 := Aside0.mk ((by rw [hg]; exact (below_size (bs HB)) : w.heap.size ≤ gb213)); have GE213 := Aside0.mk ((by rw [hg]; exact (below_size (bs HB)) : w.heap.size ≤ gb213)); replace HB := Aside0.mk (below_step (bs HB) hb); clear hb hbox hg) | ((with_reducible refine gate_callee (f := 58) rfl ?_); refine gL (some 5) rfl rfl Tryd.func58 (by kernel_rfl) rfl #[.int .i64 a0, .int .i64 2, .int .i64 24] rfl ?_; (with_reducible refine (impl_within.calls a0 2 24 true _ A2.out).mono ?_); rintro e w' ⟨rfl, ⟨nd, rfl⟩⟩; refine ⟨_, rfl, ?_⟩; (try (rw [drewN_self w6]; generalize hq_ : World.drewN w6 _ = w6; have n0_ : Aside0 (w6.heap[gb213]? = some (.cells #[.slice none 0 0, .int .i64 0, .int .i64 0, .int .i64 0] 36 (0, 0))) := ⟨by rw [← hq_]; exact (bk BK213)⟩; have n1_ : Aside0 (Below w.heap.size w w6) := ⟨by rw [← hq_]; exact (bs1 HB GE213)⟩; clear BK213 HB hq_; have BK213 := n0_; have HB := n1_; clear n0_ n1_))) | ((with_reducible refine gate_callee (f := 59) rfl ?_); refine gL (some 8) rfl rfl Tryd.func59 (by kernel_rfl) rfl #[] rfl ?_; (with_reducible refine (impl_zeroSlot.calls k  t215 t216 t217 t218 _ ?sideT A4.out).mono ?_); (case sideT => refine ⟨Ito.tabB hTab_.out ?_⟩; first | exact bs HB | exact st_below | (repeat (first | (with_reducible first | exact HB.out | apply below_alloc | apply pw_below_drewN | apply below_drew1 | refine below_set ?_ (Aside0.out (by assumption))) | exact HB.out))); rintro e w7 ⟨rfl, hb⟩; refine ⟨_, rfl, ?_⟩; replace BK213 := nb BK213 hb; replace HB := Aside0.mk (below_step (bs1 HB GE213) hb); (try clear hb); (try clear hb2); (try clear hk); (try clear hi)) | ((with_reducible refine gate_dst (N := 9) rfl ?_); refine Kd.R_lit k26 _ 26 ?hg (N := 9) ?hd (xs := ([(⟨t215, t216, t217, t218⟩ : S26)] : List (S26))) (inner := [.int .i64 t215, .int .i64 t216, .string t217, .int .i64 t218]) (ok := fun _ => True) (okp := fun _ => True) ?hr ?hp (fun _ hk => hk) trivial (Below.refl _ _) (Nat.le_refl _) (by simp) ?_; (case hd => rfl); (case hg => rfl); (case hr => first | (go_simp; done) | (go_simp; rfl)); (case hp => exact (Reps.c4 (show Kd.M k26 _ _ _ (⟨t215, t216, t217, t218⟩ : S26) [.int .i64 t215, .int .i64 t216, .string t217, .int .i64 t218] from (k26_mkM _ _ _ (⟨t215, t216, t217, t218⟩ : S26) )) (Reps.none _ _))); intro v220 w8 ho9 hb hg_ hnew_; clear hg_ hnew_; (first | rw [← Ny219.out] at ho9 | (simp only [Int.reduceToNat] at ho9; rw [← Ny219.out] at ho9)); have HO221 := Aside0.mk (Kd.R_lower ho9 (below_size (bs1 HB GE213))); replace BK213 := nb BK213 hb; replace HB := Aside0.mk (below_step (bs1 HB GE213) hb); clear hb ho9; obtain ⟨Ao10, co10, eo10⟩ := Kd.R_slice HO221.out; subst eo10) | ((with_reducible refine gate_callee (f := 61) rfl ?_); refine gL (some 11) rfl rfl Tryd.func61 (by kernel_rfl) rfl #[.slice Ao10 y219.length co10, .int .i64 a0] rfl ?_; (with_reducible refine (impl_Slot.calls _ _ y219 a0 t222 _ ?side1 ?side2 A5.out).mono ?_); (case side1 => exact rc0 HO221); (case side2 => exact (Kd.R_reads' HO221.out).2.1); rintro e w11 ⟨v223, rfl, ho0, hb⟩; refine ⟨_, rfl, ?_⟩; have HO224 := Aside0.mk (Kd.R_lower (Kd.R_new' ho0 (Kd.R_lt (rr HO221.out))) (below_size (bs1 HB GE213))); replace HO221 := Aside0.mk (Kd.R_elder' (rr HO221.out) (Kd.R_base ho0) hb); replace BK213 := nb BK213 hb; replace HB := Aside0.mk (below_step (bs1 HB GE213) hb); (try clear hb); (try clear hb2); (try clear hk); (try clear hi); (try clear ho0); obtain ⟨Ao12, co12, eo12⟩ := Kd.R_slice HO224.out; subst eo12; obtain ⟨hcz13_0, hcz13_1, hcz13_2, hcz13_3⟩ := cz4 BK213; obtain ⟨hfz13_0, hfz13_1, hfz13_2, hfz13_3⟩ := fz4 BK213))
  refine bodyPost_ret (results_ct rfl _ _ gb213 36 #[.slice Ao12 t222.length co12, .int .i64 0, .int .i64 1, .int .i64 0] (0, 0) _ rfl (by (with_reducible repeat (first | refine blk_drewN ?_ _ | refine blk_drew ?_ | refine blk_alloc ?_ _)); refine blk_put (cs := #[.slice Ao12 t222.length co12, .int .i64 0, .int .i64 1, .int .i64 0]) ?_ 3 _ rfl; (with_reducible repeat (first | refine blk_drewN ?_ _ | refine blk_drew ?_ | refine blk_alloc ?_ _)); refine blk_put (cs := #[.slice Ao12 t222.length co12, .int .i64 0, .int .i64 0, .int .i64 0]) ?_ 2 _ rfl; (with_reducible repeat (first | refine blk_drewN ?_ _ | refine blk_drew ?_ | refine blk_alloc ?_ _)); refine blk_put (cs := #[.slice Ao12 t222.length co12, .int .i64 0, .int .i64 0, .int .i64 0]) ?_ 1 _ rfl; (with_reducible repeat (first | refine blk_drewN ?_ _ | refine blk_drew ?_ | refine blk_alloc ?_ _)); refine blk_put (cs := #[.slice none 0 0, .int .i64 0, .int .i64 0, .int .i64 0]) ?_ 0 _ rfl; (with_reducible repeat (first | refine blk_drewN ?_ _ | refine blk_drew ?_ | refine blk_alloc ?_ _)); exact BK213.out) Tryd.underlying36 rfl (by kernel_rfl)) rfl ?_
  exact ⟨_, by first | rfl | (simp [errW_none, errW_some] <;> rfl) | (simp [*, errW_none, errW_some] <;> rfl), by (with_reducible repeat (first | apply Kd.R_alloc | apply Kd.R_drewN | apply Kd.R_drew)); exact Kd.R_mono (Kd.R_far (p := ⟨gb213, 3, none⟩) (Kd.R_far (p := ⟨gb213, 2, none⟩) (Kd.R_far (p := ⟨gb213, 1, none⟩) (Kd.R_far (p := ⟨gb213, 0, none⟩) (Kd.R_types HO224.out BK213.out (by decide)) (fun _ hk => hk.2) (.slice Ao12 t222.length co12)) (fun _ hk => hk.2) (.int .i64 0)) (fun _ hk => hk.2) (.int .i64 1)) (fun _ hk => hk.2) (.int .i64 0)) (fun _ hk => trivial), bs1 HB GE213⟩
 ·
  replace c3 := Bool.eq_false_iff.mpr c3
  subst c3
  rw [if_neg (show ¬ (false = true) by decide)] at H
  simp only [Option.some.injEq, Prod.mk.injEq] at H
  obtain ⟨rfl, rfl, rfl, rfl, rfl⟩ := H
  go_enter Tryd.func23, Tryd.ntmps23
  go_wp2_with (first | ((with_reducible refine gate_dst (N := 2) rfl ?_); refine box_event ?hg (N := 2) ?hd (cs := #[.slice none 0 0, .int .i64 0, .int .i64 0, .int .i64 0]) (t := 36) ?hr ?_; (case hd => rfl); (case hg => rfl); (case hr => first | (go_simp; done) | (go_simp; rfl)); intro gb213 hg w14 hbox hb; have BK213 := Aside0.mk (hbox); have GW213 := Aside0.mk ((by rw [hg]; exact (below_size (bs HB)) : w.heap.size ≤ gb213)); have GE213 := Aside0.mk ((by rw [hg]; exact (below_size (bs HB)) : w.heap.size ≤ gb213)); replace HB := Aside0.mk (below_step (bs HB) hb); clear hb hbox hg) | ((with_reducible refine gate_callee (f := 58) rfl ?_); refine gL (some 5) rfl rfl Tryd.func58 (by kernel_rfl) rfl #[.int .i64 a0, .int .i64 2, .int .i64 24] rfl ?_; (with_reducible refine (impl_within.calls a0 2 24 false _ A2.out).mono ?_); rintro e w' ⟨rfl, ⟨nd, rfl⟩⟩; refine ⟨_, rfl, ?_⟩; (try (rw [drewN_self w14]; generalize hq_ : World.drewN w14 _ = w14; have n0_ : Aside0 (w14.heap[gb213]? = some (.cells #[.slice none 0 0, .int .i64 0, .int .i64 0, .int .i64 0] 36 (0, 0))) := ⟨by rw [← hq_]; exact (bk BK213)⟩; have n1_ : Aside0 (Below w.heap.size w w14) := ⟨by rw [← hq_]; exact (bs1 HB GE213)⟩; clear BK213 HB hq_; have BK213 := n0_; have HB := n1_; clear n0_ n1_)); obtain ⟨hcz15_0, hcz15_1, hcz15_2, hcz15_3⟩ := cz4 BK213; obtain ⟨hfz15_0, hfz15_1, hfz15_2, hfz15_3⟩ := fz4 BK213))
  refine bodyPost_ret (results_ct rfl _ _ gb213 36 #[.slice none 0 0, .int .i64 0, .int .i64 0, .int .i64 0] (0, 0) _ rfl (by (with_reducible repeat (first | refine blk_drewN ?_ _ | refine blk_drew ?_ | refine blk_alloc ?_ _)); refine blk_put (cs := #[.slice none 0 0, .int .i64 0, .int .i64 0, .int .i64 0]) ?_ 3 _ rfl; (with_reducible repeat (first | refine blk_drewN ?_ _ | refine blk_drew ?_ | refine blk_alloc ?_ _)); refine blk_put (cs := #[.slice none 0 0, .int .i64 0, .int .i64 0, .int .i64 0]) ?_ 2 _ rfl; (with_reducible repeat (first | refine blk_drewN ?_ _ | refine blk_drew ?_ | refine blk_alloc ?_ _)); refine blk_put (cs := #[.slice none 0 0, .int .i64 0, .int .i64 0, .int .i64 0]) ?_ 1 _ rfl; (with_reducible repeat (first | refine blk_drewN ?_ _ | refine blk_drew ?_ | refine blk_alloc ?_ _)); refine blk_put (cs := #[.slice none 0 0, .int .i64 0, .int .i64 0, .int .i64 0]) ?_ 0 _ rfl; (with_reducible repeat (first | refine blk_drewN ?_ _ | refine blk_drew ?_ | refine blk_alloc ?_ _)); exact BK213.out) Tryd.underlying36 rfl (by kernel_rfl)) rfl ?_
  exact ⟨_, by first | rfl | (simp [errW_none, errW_some] <;> rfl) | (simp [*, errW_none, errW_some] <;> rfl), by first | exact Kd.R_nil _ _ _ _ _ | exact Kd.N_nil _ _ _ _ _ | exact Kd.V_nil _ _ _ _ _ | exact Kd.Q_nil _ _ _ _ _ | exact Kd.S_nil _ _ _ _ _, bs1 HB GE213⟩

/-! ### laws_markText: function 63 -/
def laws_markText.l0 : Nat → Int → ByteArray → Option (ByteArray)
 | 0, _, _ => none
 | k + 1, x0, x3 => if x0 > 0 then ((some (([(wrap64 (48 + (Int.tmod x0 10))) % 256] : List Int) : List Int)).bind fun y225 => (if (strOfNums y225).size + x3.size ≤ 9223372036854775807 then (laws_markText.l0 k (wrap64 (Int.tdiv x0 10)) ((strOfNums y225) ++ x3)) else (none))) else (if 1 + x3.size ≤ 9223372036854775807 then (some ((⟨#[109]⟩ : ByteArray) ++ x3)) else (none))
def laws_markText.f (k : Nat) (a0 : Int) : Option (ByteArray) := if a0 ≤ 0 then (some (⟨#[109, 48]⟩ : ByteArray)) else (laws_markText.l0 k a0 (⟨#[]⟩ : ByteArray))
theorem laws_markText.mono_l : ∀ k, (∀ y0 y1, LeO (laws_markText.l0 k y0 y1) (laws_markText.l0 (k + 1) y0 y1))
 | 0 => fun _ _ r h => by simp [laws_markText.l0] at h
 | k + 1 => by
  have ih0 := laws_markText.mono_l k
  ·
   intro y0 y1
   unfold laws_markText.l0
   repeat' first
   | (with_reducible exact ih0 _ _)
   | (with_reducible exact LeO.refl _)
   | (with_reducible exact LeO.none _)
   | (with_reducible refine LeO.ite ?_ ?_)
   | (with_reducible refine LeO.bind ?_ (fun _ => ?_))
   | exact ih0 _ _
   | exact LeO.none _
   | refine LeO.ite ?_ ?_
   | refine LeO.bind ?_ (fun _ => ?_)
theorem laws_markText.mono : ∀ a0 k, LeO (laws_markText.f k a0) (laws_markText.f (k + 1) a0) := by
 intro a0 k
 have ih0 := laws_markText.mono_l k
 unfold laws_markText.f
 repeat' first
   | (with_reducible exact ih0 _ _)
   | (with_reducible exact LeO.refl _)
   | (with_reducible exact LeO.none _)
   | (with_reducible refine LeO.ite ?_ ?_)
   | (with_reducible refine LeO.bind ?_ (fun _ => ?_))
   | exact ih0 _ _
   | exact LeO.none _
   | refine LeO.ite ?_ ?_
   | refine LeO.bind ?_ (fun _ => ?_)
set_option maxHeartbeats 8000000 in
set_option maxRecDepth 100000 in
theorem laws_markText.calls (k : Nat) (a0 : Int) (r : ByteArray) (w : World) (h : laws_markText.f k a0 = some r) :
  Calls Tryd.prog 63 #[.int .i64 a0] w fun e w' => e = .returned (.string r) ∧ Below w.heap.size w w' := by
 have HB := Aside0.mk (Below.refl w.heap.size w)
 have H : (if a0 ≤ 0 then (some (⟨#[109, 48]⟩ : ByteArray)) else (laws_markText.l0 k a0 (⟨#[]⟩ : ByteArray))) = some r := h
 clear h
 by_cases c2 : a0 ≤ 0
 ·
  rw [if_pos c2] at H
  have c2b0 : decide (a0 ≤ 0) = true := decide_eq_true c2
  clear c2
  obtain rfl := Option.some.inj H
  go_enter Tryd.func63, Tryd.ntmps63
  go_wp2
  go_ret
  exact ⟨by first | rfl | (simp [errW_none, errW_some] <;> rfl) | (simp [*, errW_none, errW_some] <;> rfl), bs HB⟩
 ·
  rw [if_neg c2] at H
  have c2b0 : decide (a0 ≤ 0) = false := decide_eq_false c2
  clear c2
  have H' := Aside0.mk H
  clear H
  go_enter Tryd.func63, Tryd.ntmps63
  go_wp2
  go_loopg [0, 3] k (fun kq v0 v3 w' => ∃ (x0_1 : Int) (x3_1 : ByteArray), v0 = .int .i64 x0_1 ∧ v3 = .string x3_1 ∧ Aside0 (laws_markText.l0 kq x0_1 x3_1 = some r) ∧ Aside0 (kq ≤ k) ∧ Aside0 (Below w.heap.size w w'))
  case atStart => exact ⟨(a0), ((⟨#[]⟩ : ByteArray)), (by first | rfl | (simp; done) | (simp [*]; done)), (by first | rfl | (simp; done) | (simp [*]; done)), H', ⟨Nat.le_refl _⟩, ⟨bs HB⟩⟩
  case round =>
   clear H'
   try clear c2
   try clear c2b0
   try clear p2
   obtain ⟨x0_1, x3_1, rfl, rfl, HA, HK1, HB⟩ := hrel
   cases gk with
   | zero => exact absurd HA.out (by simp [laws_markText.l0])
   | succ k1 =>
    have H := HA.out
    clear HA
    simp only [laws_markText.l0] at H
    by_cases c3 : x0_1 > 0
    ·
     rw [if_pos c3] at H
     have c3b0 : decide (0 < x0_1) = true := decide_eq_true c3
     clear c3
     obtain ⟨y225, hy225⟩ : ∃ y_ : List Int, y_ = (([(wrap64 (48 + (Int.tmod x0_1 10))) % 256] : List Int)) := ⟨_, rfl⟩
     replace H : (if (strOfNums y225).size + x3_1.size ≤ 9223372036854775807 then (laws_markText.l0 k1 (wrap64 (Int.tdiv x0_1 10)) ((strOfNums y225) ++ x3_1)) else (none)) = some r := by first | (rw [hy225]; with_reducible exact H) | (have H2_ := (Option.bind_some _ _).symm.trans H; rw [hy225]; with_reducible exact H2_) | (have H2_ := (Option.bind_some _ _).symm.trans H; with_reducible exact H2_) | with_reducible exact H | (rw [hy225]; exact H) | exact H
     have Ny225 := Aside0.mk hy225
     clear hy225
     by_cases c4 : (strOfNums y225).size + x3_1.size ≤ 9223372036854775807
     ·
      rw [if_pos c4] at H
      have c4b0 := eq_true c4
      have c4b1 : decide ((strOfNums y225).size + x3_1.size ≤ 9223372036854775807) = true := decide_eq_true c4
      try have c4b2 : (9223372036854775807 < (strOfNums y225).size + x3_1.size) = False := eq_false (Nat.not_lt.2 c4)
      have H' := Aside0.mk H
      clear H
      go_wp2_with (first | ((with_reducible refine gate_dst (N := 12) rfl ?_); refine Kd.R_lit (Kd.int .u8) _ 5 ?hg (N := 12) ?hd (xs := ([(wrap64 (48 + (Int.tmod x0_1 10))) % 256] : List Int)) (inner := [.int .u8 ((wrap64 (48 + (Int.tmod x0_1 10))) % 256)]) (ok := fun _ => True) (okp := fun _ => True) ?hr ?hp (fun _ hk => hk) trivial (Below.refl _ _) (Nat.le_refl _) (by simp) ?_; (case hd => rfl); (case hg => rfl); (case hr => first | (go_simp; done) | (go_simp; rfl)); (case hp => exact (Reps.one (show Kd.M (Kd.int .u8) _ _ _ ((wrap64 (48 + (Int.tmod x0_1 10))) % 256) [.int .u8 ((wrap64 (48 + (Int.tmod x0_1 10))) % 256)] from rfl) (Reps.none _ _))); intro v226 w5 ho6 hb hg_ hnew_; clear hg_ hnew_; (first | rw [← Ny225.out] at ho6 | (simp only [Int.reduceToNat] at ho6; rw [← Ny225.out] at ho6)); have HO227 := Aside0.mk (Kd.R_lower ho6 (below_size (bs HB))); replace HB := Aside0.mk (below_step (bs HB) hb); clear hb ho6; have hcv7 := own_string (P := Tryd.prog) Tryd.underlying51 Tryd.underlying5 Tryd.underlying9 (Kd.own_of_R HO227.out)))
      go_roundg k1
      case measure => have := HK1.out; omega
      case rel => exact ⟨(wrap64 (Int.tdiv x0_1 10)), ((strOfNums y225) ++ x3_1), (by first | rfl | (simp; done) | (simp [*]; done)), (by first | rfl | (simp; done) | (simp [*]; done)), H', ⟨by have := HK1.out; omega⟩, ⟨bs HB⟩⟩
     ·
      rw [if_neg c4] at H
      exact absurd H (by simp)
    ·
     rw [if_neg c3] at H
     have c3b0 : decide (0 < x0_1) = false := decide_eq_false c3
     clear c3
     by_cases c8 : 1 + x3_1.size ≤ 9223372036854775807
     ·
      rw [if_pos c8] at H
      have c8b0 := eq_true c8
      have c8b1 : decide (1 + x3_1.size ≤ 9223372036854775807) = true := decide_eq_true c8
      try have c8b2 : (9223372036854775807 < 1 + x3_1.size) = False := eq_false (Nat.not_lt.2 c8)
      obtain rfl := Option.some.inj H
      go_wp2
      go_ret
      exact ⟨by first | rfl | (simp [errW_none, errW_some] <;> rfl) | (simp [*, errW_none, errW_some] <;> rfl), bs HB⟩
     ·
      rw [if_neg c8] at H
      exact absurd H (by simp)

/-! ### laws_markSlotS: function 46 -/
def laws_markSlotS.l0 : Nat → List (S26) → Int → Int → Option (Int × (List (S26)))
 | 0, _, _, _ => none
 | k + 1, x0, x1, x5 => if x5 < (x0.length : Int) then (if 0 ≤ x5 then ((some (x0.set (x5 : Int).toNat (⟨x1, (rd_T26 x0 x5).f1, (rd_T26 x0 x5).f2, (rd_T26 x0 x5).f3⟩ : S26) : List (S26))).bind fun y228 => ((some (y228.set (x5 : Int).toNat (⟨(rd_T26 y228 x5).f0, wrap64 (x1 + 1), (rd_T26 y228 x5).f2, (rd_T26 y228 x5).f3⟩ : S26) : List (S26))).bind fun y229 => ((laws_markText.f k (wrap64 ((wrap64 (x1 + 1)) + 1))).bind fun t230 => ((some (y229.set (x5 : Int).toNat (⟨(rd_T26 y229 x5).f0, (rd_T26 y229 x5).f1, t230, (rd_T26 y229 x5).f3⟩ : S26) : List (S26))).bind fun y231 => (laws_markSlotS.l0 k (y231.set (x5 : Int).toNat (⟨(rd_T26 y231 x5).f0, (rd_T26 y231 x5).f1, (rd_T26 y231 x5).f2, wrap64 ((wrap64 ((wrap64 (x1 + 1)) + 1)) + 1)⟩ : S26)) (wrap64 ((wrap64 ((wrap64 ((wrap64 (x1 + 1)) + 1)) + 1)) + 1)) (wrap64 (x5 + 1))))))) else (none)) else (some (x1, x0))
def laws_markSlotS.f (k : Nat) (l0 : List (S26)) (a1 : Int) : Option (Int × (List (S26))) := laws_markSlotS.l0 k l0 a1 0
theorem laws_markSlotS.mono_l : ∀ k, (∀ y0 y1 y2, LeO (laws_markSlotS.l0 k y0 y1 y2) (laws_markSlotS.l0 (k + 1) y0 y1 y2))
 | 0 => fun _ _ _ r h => by simp [laws_markSlotS.l0] at h
 | k + 1 => by
  have ih0 := laws_markSlotS.mono_l k
  ·
   intro y0 y1 y2
   unfold laws_markSlotS.l0
   repeat' first
   | (with_reducible exact ih0 _ _ _)
   | (with_reducible exact laws_markText.mono _ _)
   | (with_reducible exact LeO.refl _)
   | (with_reducible exact LeO.none _)
   | (with_reducible refine LeO.ite ?_ ?_)
   | (with_reducible refine LeO.bind ?_ (fun _ => ?_))
   | exact ih0 _ _ _
   | exact laws_markText.mono _ _
   | exact LeO.none _
   | refine LeO.ite ?_ ?_
   | refine LeO.bind ?_ (fun _ => ?_)
theorem laws_markSlotS.mono : ∀ a0 a1 k, LeO (laws_markSlotS.f k a0 a1) (laws_markSlotS.f (k + 1) a0 a1) := by
 intro a0 a1 k
 have ih0 := laws_markSlotS.mono_l k
 unfold laws_markSlotS.f
 repeat' first
   | (with_reducible exact ih0 _ _ _)
   | (with_reducible exact laws_markText.mono _ _)
   | (with_reducible exact LeO.refl _)
   | (with_reducible exact LeO.none _)
   | (with_reducible refine LeO.ite ?_ ?_)
   | (with_reducible refine LeO.bind ?_ (fun _ => ?_))
   | exact ih0 _ _ _
   | exact laws_markText.mono _ _
   | exact LeO.none _
   | refine LeO.ite ?_ ?_
   | refine LeO.bind ?_ (fun _ => ?_)
set_option maxHeartbeats 8000000 in
set_option maxRecDepth 100000 in
theorem laws_markSlotS.calls (k : Nat) (P0_ : Nat → Prop) (u9000_ : Value) (l0 : List (S26)) (a1 : Int) (r1 : Int) (r2 : List (S26)) (w0 w : World) (hB : Below w0.heap.size w0 w) (ho0 : Kd.R k26 26 w w0.heap.size P0_ u9000_ l0) (h : laws_markSlotS.f k l0 a1 = some (r1, r2)) :
  Calls Tryd.prog 46 #[u9000_, .int .i64 a1] w fun e w' => e = .returned (.int .i64 r1) ∧ Kd.R k26 26 w' w0.heap.size (fun k_ => (P0_ k_ ∨ w.heap.size ≤ k_)) u9000_ r2 ∧ Below w0.heap.size w0 w' ∧ Kept w w' (fun k_ => P0_ k_) := by
 have HO0 := Aside0.mk (show Kd.R k26 26 w w0.heap.size (fun k_ => (P0_ k_ ∨ w.heap.size ≤ k_)) u9000_ l0 from Kd.R_mono ho0 (fun k_ hk => (.inl hk)))
 have HK := Aside0.mk (Kept.refl w (fun k_ => P0_ k_))
 have HW0 := Aside0.mk hB.size
 have HB := Aside0.mk hB
 clear hB
 have H : (laws_markSlotS.l0 k l0 a1 0) = some (r1, r2) := h
 clear h
 have H' := Aside0.mk H
 clear H
 go_enter Tryd.func46, Tryd.ntmps46
 go_wp2
 go_loopg [1, 5] k (fun kq v1 v5 w' => ∃ (x0_1 : List (S26)) (x1_1 : Int) (x5_1 : Int), v1 = .int .i64 x1_1 ∧ v5 = .int .i64 x5_1 ∧ Aside0 (laws_markSlotS.l0 kq x0_1 x1_1 x5_1 = some (r1, r2)) ∧ Aside0 (kq ≤ k) ∧ Aside0 (Kd.R k26 26 w' w0.heap.size (fun k_ => (P0_ k_ ∨ w.heap.size ≤ k_)) u9000_ x0_1) ∧ Aside0 (Kept w w' (fun k_ => P0_ k_)) ∧ Aside0 (Below w0.heap.size w0 w'))
 case atStart => exact ⟨(l0), (a1), (0), (by first | rfl | (simp; done) | (simp [*]; done)), (by first | rfl | (simp; done) | (simp [*]; done)), H', ⟨Nat.le_refl _⟩, ⟨rr HO0.out⟩, ⟨by repeat (first | (with_reducible first | exact HK.out | apply Kept.alloc | apply Kept.drewN | apply Kept.drew) | exact HK.out)⟩, ⟨bs HB⟩⟩
 case round =>
  clear H'
  try clear p2
  obtain ⟨x0_1, x1_1, x5_1, rfl, rfl, HA, HK1, HO_0, HK, HB⟩ := hrel
  cases gk with
  | zero => exact absurd HA.out (by simp [laws_markSlotS.l0])
  | succ k1 =>
   have H := HA.out
   clear HA
   simp only [laws_markSlotS.l0] at H
   by_cases c3 : x5_1 < (x0_1.length : Int)
   ·
    rw [if_pos c3] at H
    have c3b0 : decide (x5_1 < (x0_1.length : Int)) = true := decide_eq_true c3
    clear c3
    by_cases c4 : 0 ≤ x5_1
    ·
     rw [if_pos c4] at H
     have c4b0 : decide (0 ≤ x5_1) = true := decide_eq_true c4
     clear c4
     obtain ⟨y228, hy228⟩ : ∃ y_ : List (S26), y_ = (x0_1.set (x5_1 : Int).toNat (⟨x1_1, (rd_T26 x0_1 x5_1).f1, (rd_T26 x0_1 x5_1).f2, (rd_T26 x0_1 x5_1).f3⟩ : S26)) := ⟨_, rfl⟩
     replace H : ((some (y228.set (x5_1 : Int).toNat (⟨(rd_T26 y228 x5_1).f0, wrap64 (x1_1 + 1), (rd_T26 y228 x5_1).f2, (rd_T26 y228 x5_1).f3⟩ : S26) : List (S26))).bind fun y229 => ((laws_markText.f k1 (wrap64 ((wrap64 (x1_1 + 1)) + 1))).bind fun t230 => ((some (y229.set (x5_1 : Int).toNat (⟨(rd_T26 y229 x5_1).f0, (rd_T26 y229 x5_1).f1, t230, (rd_T26 y229 x5_1).f3⟩ : S26) : List (S26))).bind fun y231 => (laws_markSlotS.l0 k1 (y231.set (x5_1 : Int).toNat (⟨(rd_T26 y231 x5_1).f0, (rd_T26 y231 x5_1).f1, (rd_T26 y231 x5_1).f2, wrap64 ((wrap64 ((wrap64 (x1_1 + 1)) + 1)) + 1)⟩ : S26)) (wrap64 ((wrap64 ((wrap64 ((wrap64 (x1_1 + 1)) + 1)) + 1)) + 1)) (wrap64 (x5_1 + 1)))))) = some (r1, r2) := by first | (rw [hy228]; with_reducible exact H) | (have H2_ := (Option.bind_some _ _).symm.trans H; rw [hy228]; with_reducible exact H2_) | (have H2_ := (Option.bind_some _ _).symm.trans H; with_reducible exact H2_) | with_reducible exact H | (rw [hy228]; exact H) | exact H
     have Ny228 := Aside0.mk hy228
     clear hy228
     obtain ⟨y229, hy229⟩ : ∃ y_ : List (S26), y_ = (y228.set (x5_1 : Int).toNat (⟨(rd_T26 y228 x5_1).f0, wrap64 (x1_1 + 1), (rd_T26 y228 x5_1).f2, (rd_T26 y228 x5_1).f3⟩ : S26)) := ⟨_, rfl⟩
     replace H : ((laws_markText.f k1 (wrap64 ((wrap64 (x1_1 + 1)) + 1))).bind fun t230 => ((some (y229.set (x5_1 : Int).toNat (⟨(rd_T26 y229 x5_1).f0, (rd_T26 y229 x5_1).f1, t230, (rd_T26 y229 x5_1).f3⟩ : S26) : List (S26))).bind fun y231 => (laws_markSlotS.l0 k1 (y231.set (x5_1 : Int).toNat (⟨(rd_T26 y231 x5_1).f0, (rd_T26 y231 x5_1).f1, (rd_T26 y231 x5_1).f2, wrap64 ((wrap64 ((wrap64 (x1_1 + 1)) + 1)) + 1)⟩ : S26)) (wrap64 ((wrap64 ((wrap64 ((wrap64 (x1_1 + 1)) + 1)) + 1)) + 1)) (wrap64 (x5_1 + 1))))) = some (r1, r2) := by first | (rw [hy229]; with_reducible exact H) | (have H2_ := (Option.bind_some _ _).symm.trans H; rw [hy229]; with_reducible exact H2_) | (have H2_ := (Option.bind_some _ _).symm.trans H; with_reducible exact H2_) | with_reducible exact H | (rw [hy229]; exact H) | exact H
     have Ny229 := Aside0.mk hy229
     clear hy229
     replace H := Option.bind_eq_some_iff.mp H
     obtain ⟨t230, A70, H⟩ := H
     replace H : ((some (y229.set (x5_1 : Int).toNat (⟨(rd_T26 y229 x5_1).f0, (rd_T26 y229 x5_1).f1, t230, (rd_T26 y229 x5_1).f3⟩ : S26) : List (S26))).bind fun y231 => (laws_markSlotS.l0 k1 (y231.set (x5_1 : Int).toNat (⟨(rd_T26 y231 x5_1).f0, (rd_T26 y231 x5_1).f1, (rd_T26 y231 x5_1).f2, wrap64 ((wrap64 ((wrap64 (x1_1 + 1)) + 1)) + 1)⟩ : S26)) (wrap64 ((wrap64 ((wrap64 ((wrap64 (x1_1 + 1)) + 1)) + 1)) + 1)) (wrap64 (x5_1 + 1)))) = some (r1, r2) := H
     have A7 := Aside0.mk A70
     clear A70
     obtain ⟨y231, hy231⟩ : ∃ y_ : List (S26), y_ = (y229.set (x5_1 : Int).toNat (⟨(rd_T26 y229 x5_1).f0, (rd_T26 y229 x5_1).f1, t230, (rd_T26 y229 x5_1).f3⟩ : S26)) := ⟨_, rfl⟩
     replace H : (laws_markSlotS.l0 k1 (y231.set (x5_1 : Int).toNat (⟨(rd_T26 y231 x5_1).f0, (rd_T26 y231 x5_1).f1, (rd_T26 y231 x5_1).f2, wrap64 ((wrap64 ((wrap64 (x1_1 + 1)) + 1)) + 1)⟩ : S26)) (wrap64 ((wrap64 ((wrap64 ((wrap64 (x1_1 + 1)) + 1)) + 1)) + 1)) (wrap64 (x5_1 + 1))) = some (r1, r2) := by first | (rw [hy231]; with_reducible exact H) | (have H2_ := (Option.bind_some _ _).symm.trans H; rw [hy231]; with_reducible exact H2_) | (have H2_ := (Option.bind_some _ _).symm.trans H; with_reducible exact H2_) | with_reducible exact H | (rw [hy231]; exact H) | exact H
     have Ny231 := Aside0.mk hy231
     clear hy231
     obtain ⟨y232, hy232⟩ : ∃ y_ : List (S26), y_ = (y231.set (x5_1 : Int).toNat (⟨(rd_T26 y231 x5_1).f0, (rd_T26 y231 x5_1).f1, (rd_T26 y231 x5_1).f2, wrap64 ((wrap64 ((wrap64 (x1_1 + 1)) + 1)) + 1)⟩ : S26)) := ⟨_, rfl⟩
     replace H : (laws_markSlotS.l0 k1 y232 (wrap64 ((wrap64 ((wrap64 ((wrap64 (x1_1 + 1)) + 1)) + 1)) + 1)) (wrap64 (x5_1 + 1))) = some (r1, r2) := by first | (rw [hy232]; with_reducible exact H) | (have H2_ := (Option.bind_some _ _).symm.trans H; rw [hy232]; with_reducible exact H2_) | (have H2_ := (Option.bind_some _ _).symm.trans H; with_reducible exact H2_) | with_reducible exact H | (rw [hy232]; exact H) | exact H
     have Ny232 := Aside0.mk hy232
     clear hy232
     have H' := Aside0.mk H
     clear H
     obtain ⟨Ao10, co10, eo10⟩ := Kd.R_slice HO_0.out
     subst eo10
     have p5 : 0 ≤ (x5_1 : Int) := of_decide_eq_true (by first | (with_reducible assumption) | assumption)
     have q5 : (x5_1 : Int) < ((x0_1.length : Int) : Int) := of_decide_eq_true (by first | (with_reducible assumption) | assumption)
     obtain ⟨go5, co5, eo5, gb5, gl5, cl5, HG5⟩ := Kd.R_form HO_0.out (by omega)
     (first | cases eo5 | (injection eo5 with ea_ en_ ec_; (first | subst ea_ | (injection ea_ with ea_; subst ea_)); subst ec_; clear en_))
     have GB5 := Aside0.mk gb5
     have GG5 := Aside0.mk HG5
     clear gb5 gl5 HG5
     have HMgo5 := Aside0.mk (show (P0_ go5 ∨ w.heap.size ≤ go5) from (HO_0.out.1 _ rfl))
     obtain ⟨ce5, hcl5, hM5, hcc5, hfr5⟩ := Kd.R_elem HO_0.out z26 (x5_1 : Int) p5 q5
     obtain rfl := k26_openM hM5
     have hx5_0 : wr.cell? ⟨go5, (x5_1 : Int).toNat * 4, none⟩ = some (.int .i64 ((rd_T26 x0_1 x5_1).f0)) := hcc5 0 _ rfl
     have hx5_1 : wr.cell? ⟨go5, (x5_1 : Int).toNat * 4 + 1, none⟩ = some (.int .i64 ((rd_T26 x0_1 x5_1).f1)) := hcc5 1 _ rfl
     have hx5_2 : wr.cell? ⟨go5, (x5_1 : Int).toNat * 4 + 2, none⟩ = some (.string ((rd_T26 x0_1 x5_1).f2)) := hcc5 2 _ rfl
     have hx5_3 : wr.cell? ⟨go5, (x5_1 : Int).toNat * 4 + 3, none⟩ = some (.int .i64 ((rd_T26 x0_1 x5_1).f3)) := hcc5 3 _ rfl
     have hf5_0 : wr.frozen? ⟨go5, (x5_1 : Int).toNat * 4, none⟩ = false := hfr5 0
     have hf5_1 : wr.frozen? ⟨go5, (x5_1 : Int).toNat * 4 + 1, none⟩ = false := hfr5 1
     have hf5_2 : wr.frozen? ⟨go5, (x5_1 : Int).toNat * 4 + 2, none⟩ = false := hfr5 2
     have hf5_3 : wr.frozen? ⟨go5, (x5_1 : Int).toNat * 4 + 3, none⟩ = false := hfr5 3
     clear hcl5 hcc5 hfr5 hM5
     replace p5 := eq_true p5
     replace q5 := eq_true q5
     have HX11 := Aside0.mk (show Kd.R k26 26 wr w0.heap.size (fun k_ => (P0_ k_ ∨ w.heap.size ≤ k_)) (.slice (some ⟨go5, 0, none⟩) x0_1.length co10) x0_1 from (rr HO_0.out))
     obtain ⟨ce11, hcl11, hM11, hcc11, hfr11⟩ := Kd.R_elem HX11.out z26 (x5_1 : Int) (of_decide_eq_true (by first | (with_reducible assumption) | assumption)) (by have h_ : (x5_1 : Int) < ((x0_1.length : Int) : Int) := of_decide_eq_true (by first | (with_reducible assumption) | assumption); first | exact h_ | (have e_ := (Kd.R_reads' HO_0.out).1; omega) | simpa using h_)
     obtain rfl := k26_openM hM11
     have HP11 := Kd.R_seg HX11.out (x5_1 : Int) (of_decide_eq_true (by first | (with_reducible assumption) | assumption)) (by have h_ : (x5_1 : Int) < ((x0_1.length : Int) : Int) := of_decide_eq_true (by first | (with_reducible assumption) | assumption); first | exact h_ | (have e_ := (Kd.R_reads' HO_0.out).1; omega) | simpa using h_) (seg := [.int .i64 x1_1]) (j := 0) hcl11 hcc11 (show 1 ≤ 4 from by decide) (x' := (⟨x1_1, (rd_T26 x0_1 x5_1).f1, (rd_T26 x0_1 x5_1).f2, (rd_T26 x0_1 x5_1).f3⟩ : S26)) (k26_mkM _ _ _ (⟨x1_1, (rd_T26 x0_1 x5_1).f1, (rd_T26 x0_1 x5_1).f2, (rd_T26 x0_1 x5_1).f3⟩ : S26) ) (fun _ hk => hk)
     have hx11_0 := hcc11 0 _ rfl
     (try simp only [show (k26).sz = 4 from rfl, Nat.mul_one, Nat.add_zero] at hx11_0)
     have hf11_0 := hfr11 0
     (try simp only [show (k26).sz = 4 from rfl, Nat.mul_one, Nat.add_zero] at hf11_0)
     clear hcl11 hcc11 hfr11 hM11
     go_wp2_with (first | ((with_reducible refine gate_store (t := 3) (p := 16) rfl ?_); refine store_event (t := 3) (p := 16) (v := ?vo_w12) (w1 := (wr.setCell ⟨go5, (x5_1 : Int).toNat * 4, none⟩ (.int .i64 x1_1))) ?hg ?ho ?hn ?hr ?_; (case ho => rfl); (case hg => rfl); (case hn => rfl); (case hr => first | (go_simp; done) | (go_simp; rfl)); intro w12 hw; have hg : wr.grownBy w12 (some go5) := (by rw [hw]; exact HP11.2); have hp_ : Kd.R k26 26 w12 w0.heap.size (fun k_ => (P0_ k_ ∨ w.heap.size ≤ k_)) (.slice (some ⟨go5, 0, none⟩) x0_1.length co10) y228 := (by rw [hw, Ny228.out]; exact HP11.1); clear HP11; replace HB := Aside0.mk ((by rw [hw]; exact below_set (HB.out) GB5.out : Below w0.heap.size w0 w12)); replace HK := Aside0.mk (Kept.of_grown (S := (fun k_ => P0_ k_)) hg (by repeat (first | (with_reducible first | exact HK.out | apply Kept.alloc | apply Kept.drewN | apply Kept.drew) | exact HK.out)) (fun k_ e_ => (HO_0.out.1 k_ e_))); replace HO_0 := Aside0.mk (hp_); clear hg hw hp_; have p6 : 0 ≤ (x5_1 : Int) := of_decide_eq_true (by first | (with_reducible assumption) | assumption); have q6 : (x5_1 : Int) < ((x0_1.length : Int) : Int) := of_decide_eq_true (by first | (with_reducible assumption) | assumption); obtain ⟨ce6, hcl6, hM6, hcc6, hfr6⟩ := Kd.R_elem HO_0.out z26 (x5_1 : Int) p6 q6; obtain rfl := k26_openM hM6; have hx6_0 : w12.cell? ⟨go5, (x5_1 : Int).toNat * 4, none⟩ = some (.int .i64 ((rd_T26 y228 x5_1).f0)) := hcc6 0 _ rfl; have hx6_1 : w12.cell? ⟨go5, (x5_1 : Int).toNat * 4 + 1, none⟩ = some (.int .i64 ((rd_T26 y228 x5_1).f1)) := hcc6 1 _ rfl; have hx6_2 : w12.cell? ⟨go5, (x5_1 : Int).toNat * 4 + 2, none⟩ = some (.string ((rd_T26 y228 x5_1).f2)) := hcc6 2 _ rfl; have hx6_3 : w12.cell? ⟨go5, (x5_1 : Int).toNat * 4 + 3, none⟩ = some (.int .i64 ((rd_T26 y228 x5_1).f3)) := hcc6 3 _ rfl; have hf6_0 : w12.frozen? ⟨go5, (x5_1 : Int).toNat * 4, none⟩ = false := hfr6 0; have hf6_1 : w12.frozen? ⟨go5, (x5_1 : Int).toNat * 4 + 1, none⟩ = false := hfr6 1; have hf6_2 : w12.frozen? ⟨go5, (x5_1 : Int).toNat * 4 + 2, none⟩ = false := hfr6 2; have hf6_3 : w12.frozen? ⟨go5, (x5_1 : Int).toNat * 4 + 3, none⟩ = false := hfr6 3; clear hcl6 hcc6 hfr6 hM6; replace p6 := eq_true p6; replace q6 := eq_true q6; have HX13 := Aside0.mk (show Kd.R k26 26 w12 w0.heap.size (fun k_ => (P0_ k_ ∨ w.heap.size ≤ k_)) (.slice (some ⟨go5, 0, none⟩) x0_1.length co10) y228 from (rr HO_0.out)); obtain ⟨ce13, hcl13, hM13, hcc13, hfr13⟩ := Kd.R_elem HX13.out z26 (x5_1 : Int) (of_decide_eq_true (by first | (with_reducible assumption) | assumption)) (by have h_ : (x5_1 : Int) < ((x0_1.length : Int) : Int) := of_decide_eq_true (by first | (with_reducible assumption) | assumption); first | exact h_ | (have e_ := (Kd.R_reads' HO_0.out).1; omega) | simpa using h_); obtain rfl := k26_openM hM13; have HP13 := Kd.R_seg HX13.out (x5_1 : Int) (of_decide_eq_true (by first | (with_reducible assumption) | assumption)) (by have h_ : (x5_1 : Int) < ((x0_1.length : Int) : Int) := of_decide_eq_true (by first | (with_reducible assumption) | assumption); first | exact h_ | (have e_ := (Kd.R_reads' HO_0.out).1; omega) | simpa using h_) (seg := [.int .i64 (wrap64 (x1_1 + 1))]) (j := 1) hcl13 hcc13 (show 2 ≤ 4 from by decide) (x' := (⟨(rd_T26 y228 x5_1).f0, wrap64 (x1_1 + 1), (rd_T26 y228 x5_1).f2, (rd_T26 y228 x5_1).f3⟩ : S26)) (k26_mkM _ _ _ (⟨(rd_T26 y228 x5_1).f0, wrap64 (x1_1 + 1), (rd_T26 y228 x5_1).f2, (rd_T26 y228 x5_1).f3⟩ : S26) ) (fun _ hk => hk); have hx13_1 := hcc13 1 _ rfl; (try simp only [show (k26).sz = 4 from rfl, Nat.mul_one, Nat.add_zero] at hx13_1); have hf13_1 := hfr13 1; (try simp only [show (k26).sz = 4 from rfl, Nat.mul_one, Nat.add_zero] at hf13_1); clear hcl13 hcc13 hfr13 hM13) | ((with_reducible refine gate_store (t := 3) (p := 23) rfl ?_); refine store_event (t := 3) (p := 23) (v := ?vo_w14) (w1 := (w12.setCell ⟨go5, (x5_1 : Int).toNat * 4 + 1, none⟩ (.int .i64 (wrap64 (x1_1 + 1))))) ?hg ?ho ?hn ?hr ?_; (case ho => rfl); (case hg => rfl); (case hn => rfl); (case hr => first | (go_simp; done) | (go_simp; rfl)); intro w14 hw; have hg : w12.grownBy w14 (some go5) := (by rw [hw]; exact HP13.2); have hp_ : Kd.R k26 26 w14 w0.heap.size (fun k_ => (P0_ k_ ∨ w.heap.size ≤ k_)) (.slice (some ⟨go5, 0, none⟩) x0_1.length co10) y229 := (by rw [hw, Ny229.out]; exact HP13.1); clear HP13; replace HB := Aside0.mk ((by rw [hw]; exact below_set (HB.out) GB5.out : Below w0.heap.size w0 w14)); replace HK := Aside0.mk (Kept.of_grown (S := (fun k_ => P0_ k_)) hg (by repeat (first | (with_reducible first | exact HK.out | apply Kept.alloc | apply Kept.drewN | apply Kept.drew) | exact HK.out)) (fun k_ e_ => (HO_0.out.1 k_ e_))); replace HO_0 := Aside0.mk (hp_); clear hg hw hp_) | ((with_reducible refine gate_callee (f := 63) rfl ?_); refine gL (some 29) rfl rfl Tryd.func63 (by kernel_rfl) rfl #[.int .i64 (wrap64 ((wrap64 (x1_1 + 1)) + 1))] rfl ?_; (with_reducible refine (laws_markText.calls k1 (wrap64 ((wrap64 (x1_1 + 1)) + 1)) t230 _ A7.out).mono ?_); rintro e w15 ⟨rfl, hb⟩; refine ⟨_, rfl, ?_⟩; replace HO_0 := nr HO_0 hb; replace HK := Aside0.mk (Kept.below (S := (fun k_ => P0_ k_)) (by repeat (first | (with_reducible first | exact HK.out | apply Kept.alloc | apply Kept.drewN | apply Kept.drew) | exact HK.out)) hb); replace HB := Aside0.mk (below_step (bs HB) hb); (try clear hb); (try clear hb2); (try clear hk); (try clear hi); have p8 : 0 ≤ (x5_1 : Int) := of_decide_eq_true (by first | (with_reducible assumption) | assumption); have q8 : (x5_1 : Int) < ((x0_1.length : Int) : Int) := of_decide_eq_true (by first | (with_reducible assumption) | assumption); obtain ⟨ce8, hcl8, hM8, hcc8, hfr8⟩ := Kd.R_elem HO_0.out z26 (x5_1 : Int) p8 q8; obtain rfl := k26_openM hM8; have hx8_0 : w15.cell? ⟨go5, (x5_1 : Int).toNat * 4, none⟩ = some (.int .i64 ((rd_T26 y229 x5_1).f0)) := hcc8 0 _ rfl; have hx8_1 : w15.cell? ⟨go5, (x5_1 : Int).toNat * 4 + 1, none⟩ = some (.int .i64 ((rd_T26 y229 x5_1).f1)) := hcc8 1 _ rfl; have hx8_2 : w15.cell? ⟨go5, (x5_1 : Int).toNat * 4 + 2, none⟩ = some (.string ((rd_T26 y229 x5_1).f2)) := hcc8 2 _ rfl; have hx8_3 : w15.cell? ⟨go5, (x5_1 : Int).toNat * 4 + 3, none⟩ = some (.int .i64 ((rd_T26 y229 x5_1).f3)) := hcc8 3 _ rfl; have hf8_0 : w15.frozen? ⟨go5, (x5_1 : Int).toNat * 4, none⟩ = false := hfr8 0; have hf8_1 : w15.frozen? ⟨go5, (x5_1 : Int).toNat * 4 + 1, none⟩ = false := hfr8 1; have hf8_2 : w15.frozen? ⟨go5, (x5_1 : Int).toNat * 4 + 2, none⟩ = false := hfr8 2; have hf8_3 : w15.frozen? ⟨go5, (x5_1 : Int).toNat * 4 + 3, none⟩ = false := hfr8 3; clear hcl8 hcc8 hfr8 hM8; replace p8 := eq_true p8; replace q8 := eq_true q8; have HX16 := Aside0.mk (show Kd.R k26 26 w15 w0.heap.size (fun k_ => (P0_ k_ ∨ w.heap.size ≤ k_)) (.slice (some ⟨go5, 0, none⟩) x0_1.length co10) y229 from (rr HO_0.out)); obtain ⟨ce16, hcl16, hM16, hcc16, hfr16⟩ := Kd.R_elem HX16.out z26 (x5_1 : Int) (of_decide_eq_true (by first | (with_reducible assumption) | assumption)) (by have h_ : (x5_1 : Int) < ((x0_1.length : Int) : Int) := of_decide_eq_true (by first | (with_reducible assumption) | assumption); first | exact h_ | (have e_ := (Kd.R_reads' HO_0.out).1; omega) | simpa using h_); obtain rfl := k26_openM hM16; have HP16 := Kd.R_seg HX16.out (x5_1 : Int) (of_decide_eq_true (by first | (with_reducible assumption) | assumption)) (by have h_ : (x5_1 : Int) < ((x0_1.length : Int) : Int) := of_decide_eq_true (by first | (with_reducible assumption) | assumption); first | exact h_ | (have e_ := (Kd.R_reads' HO_0.out).1; omega) | simpa using h_) (seg := [.string t230]) (j := 2) hcl16 hcc16 (show 3 ≤ 4 from by decide) (x' := (⟨(rd_T26 y229 x5_1).f0, (rd_T26 y229 x5_1).f1, t230, (rd_T26 y229 x5_1).f3⟩ : S26)) (k26_mkM _ _ _ (⟨(rd_T26 y229 x5_1).f0, (rd_T26 y229 x5_1).f1, t230, (rd_T26 y229 x5_1).f3⟩ : S26) ) (fun _ hk => hk); have hx16_2 := hcc16 2 _ rfl; (try simp only [show (k26).sz = 4 from rfl, Nat.mul_one, Nat.add_zero] at hx16_2); have hf16_2 := hfr16 2; (try simp only [show (k26).sz = 4 from rfl, Nat.mul_one, Nat.add_zero] at hf16_2); clear hcl16 hcc16 hfr16 hM16) | ((with_reducible refine gate_store (t := 9) (p := 31) rfl ?_); refine store_event (t := 9) (p := 31) (v := ?vo_w17) (w1 := (w15.setCell ⟨go5, (x5_1 : Int).toNat * 4 + 2, none⟩ (.string t230))) ?hg ?ho ?hn ?hr ?_; (case ho => rfl); (case hg => rfl); (case hn => rfl); (case hr => first | (go_simp; done) | (go_simp; rfl)); intro w17 hw; have hg : w15.grownBy w17 (some go5) := (by rw [hw]; exact HP16.2); have hp_ : Kd.R k26 26 w17 w0.heap.size (fun k_ => (P0_ k_ ∨ w.heap.size ≤ k_)) (.slice (some ⟨go5, 0, none⟩) x0_1.length co10) y231 := (by rw [hw, Ny231.out]; exact HP16.1); clear HP16; replace HB := Aside0.mk ((by rw [hw]; exact below_set (HB.out) GB5.out : Below w0.heap.size w0 w17)); replace HK := Aside0.mk (Kept.of_grown (S := (fun k_ => P0_ k_)) hg (by repeat (first | (with_reducible first | exact HK.out | apply Kept.alloc | apply Kept.drewN | apply Kept.drew) | exact HK.out)) (fun k_ e_ => (HO_0.out.1 k_ e_))); replace HO_0 := Aside0.mk (hp_); clear hg hw hp_; have p9 : 0 ≤ (x5_1 : Int) := of_decide_eq_true (by first | (with_reducible assumption) | assumption); have q9 : (x5_1 : Int) < ((x0_1.length : Int) : Int) := of_decide_eq_true (by first | (with_reducible assumption) | assumption); obtain ⟨ce9, hcl9, hM9, hcc9, hfr9⟩ := Kd.R_elem HO_0.out z26 (x5_1 : Int) p9 q9; obtain rfl := k26_openM hM9; have hx9_0 : w17.cell? ⟨go5, (x5_1 : Int).toNat * 4, none⟩ = some (.int .i64 ((rd_T26 y231 x5_1).f0)) := hcc9 0 _ rfl; have hx9_1 : w17.cell? ⟨go5, (x5_1 : Int).toNat * 4 + 1, none⟩ = some (.int .i64 ((rd_T26 y231 x5_1).f1)) := hcc9 1 _ rfl; have hx9_2 : w17.cell? ⟨go5, (x5_1 : Int).toNat * 4 + 2, none⟩ = some (.string ((rd_T26 y231 x5_1).f2)) := hcc9 2 _ rfl; have hx9_3 : w17.cell? ⟨go5, (x5_1 : Int).toNat * 4 + 3, none⟩ = some (.int .i64 ((rd_T26 y231 x5_1).f3)) := hcc9 3 _ rfl; have hf9_0 : w17.frozen? ⟨go5, (x5_1 : Int).toNat * 4, none⟩ = false := hfr9 0; have hf9_1 : w17.frozen? ⟨go5, (x5_1 : Int).toNat * 4 + 1, none⟩ = false := hfr9 1; have hf9_2 : w17.frozen? ⟨go5, (x5_1 : Int).toNat * 4 + 2, none⟩ = false := hfr9 2; have hf9_3 : w17.frozen? ⟨go5, (x5_1 : Int).toNat * 4 + 3, none⟩ = false := hfr9 3; clear hcl9 hcc9 hfr9 hM9; replace p9 := eq_true p9; replace q9 := eq_true q9; have HX18 := Aside0.mk (show Kd.R k26 26 w17 w0.heap.size (fun k_ => (P0_ k_ ∨ w.heap.size ≤ k_)) (.slice (some ⟨go5, 0, none⟩) x0_1.length co10) y231 from (rr HO_0.out)); obtain ⟨ce18, hcl18, hM18, hcc18, hfr18⟩ := Kd.R_elem HX18.out z26 (x5_1 : Int) (of_decide_eq_true (by first | (with_reducible assumption) | assumption)) (by have h_ : (x5_1 : Int) < ((x0_1.length : Int) : Int) := of_decide_eq_true (by first | (with_reducible assumption) | assumption); first | exact h_ | (have e_ := (Kd.R_reads' HO_0.out).1; omega) | simpa using h_); obtain rfl := k26_openM hM18; have HP18 := Kd.R_seg HX18.out (x5_1 : Int) (of_decide_eq_true (by first | (with_reducible assumption) | assumption)) (by have h_ : (x5_1 : Int) < ((x0_1.length : Int) : Int) := of_decide_eq_true (by first | (with_reducible assumption) | assumption); first | exact h_ | (have e_ := (Kd.R_reads' HO_0.out).1; omega) | simpa using h_) (seg := [.int .i64 (wrap64 ((wrap64 ((wrap64 (x1_1 + 1)) + 1)) + 1))]) (j := 3) hcl18 hcc18 (show 4 ≤ 4 from by decide) (x' := (⟨(rd_T26 y231 x5_1).f0, (rd_T26 y231 x5_1).f1, (rd_T26 y231 x5_1).f2, wrap64 ((wrap64 ((wrap64 (x1_1 + 1)) + 1)) + 1)⟩ : S26)) (k26_mkM _ _ _ (⟨(rd_T26 y231 x5_1).f0, (rd_T26 y231 x5_1).f1, (rd_T26 y231 x5_1).f2, wrap64 ((wrap64 ((wrap64 (x1_1 + 1)) + 1)) + 1)⟩ : S26) ) (fun _ hk => hk); have hx18_3 := hcc18 3 _ rfl; (try simp only [show (k26).sz = 4 from rfl, Nat.mul_one, Nat.add_zero] at hx18_3); have hf18_3 := hfr18 3; (try simp only [show (k26).sz = 4 from rfl, Nat.mul_one, Nat.add_zero] at hf18_3); clear hcl18 hcc18 hfr18 hM18) | ((with_reducible refine gate_store (t := 3) (p := 38) rfl ?_); refine store_event (t := 3) (p := 38) (v := ?vo_w19) (w1 := (w17.setCell ⟨go5, (x5_1 : Int).toNat * 4 + 3, none⟩ (.int .i64 (wrap64 ((wrap64 ((wrap64 (x1_1 + 1)) + 1)) + 1))))) ?hg ?ho ?hn ?hr ?_; (case ho => rfl); (case hg => rfl); (case hn => rfl); (case hr => first | (go_simp; done) | (go_simp; rfl)); intro w19 hw; have hg : w17.grownBy w19 (some go5) := (by rw [hw]; exact HP18.2); have hp_ : Kd.R k26 26 w19 w0.heap.size (fun k_ => (P0_ k_ ∨ w.heap.size ≤ k_)) (.slice (some ⟨go5, 0, none⟩) x0_1.length co10) y232 := (by rw [hw, Ny232.out]; exact HP18.1); clear HP18; replace HB := Aside0.mk ((by rw [hw]; exact below_set (HB.out) GB5.out : Below w0.heap.size w0 w19)); replace HK := Aside0.mk (Kept.of_grown (S := (fun k_ => P0_ k_)) hg (by repeat (first | (with_reducible first | exact HK.out | apply Kept.alloc | apply Kept.drewN | apply Kept.drew) | exact HK.out)) (fun k_ e_ => (HO_0.out.1 k_ e_))); replace HO_0 := Aside0.mk (hp_); clear hg hw hp_))
     go_roundg k1
     case measure => have := HK1.out; omega
     case rel => exact ⟨(y232), (wrap64 ((wrap64 ((wrap64 ((wrap64 (x1_1 + 1)) + 1)) + 1)) + 1)), (wrap64 (x5_1 + 1)), (by first | rfl | (simp; done) | (simp [*]; done)), (by first | rfl | (simp; done) | (simp [*]; done)), H', ⟨by have := HK1.out; omega⟩, ⟨rr HO_0.out⟩, ⟨by repeat (first | (with_reducible first | exact HK.out | apply Kept.alloc | apply Kept.drewN | apply Kept.drew) | exact HK.out)⟩, ⟨bs HB⟩⟩
    ·
     rw [if_neg c4] at H
     exact absurd H (by simp)
   ·
    rw [if_neg c3] at H
    have c3b0 : decide (x5_1 < (x0_1.length : Int)) = false := decide_eq_false c3
    clear c3
    simp only [Option.some.injEq, Prod.mk.injEq] at H
    obtain ⟨rfl, rfl⟩ := H
    obtain ⟨Ao20, co20, eo20⟩ := Kd.R_slice HO_0.out
    subst eo20
    go_wp2
    go_ret
    exact ⟨by first | rfl | (simp [errW_none, errW_some] <;> rfl) | (simp [*, errW_none, errW_some] <;> rfl), by (with_reducible repeat (first | apply Kd.R_alloc | apply Kd.R_drewN | apply Kd.R_drew)); exact HO_0.out, bs HB, by repeat (first | (with_reducible first | exact HK.out | apply Kept.alloc | apply Kept.drewN | apply Kept.drew) | exact HK.out)⟩

/-! ### laws_markRing: function 24 -/
def laws_markRing.f (k : Nat) (l0_0 : List (S26)) (a0_1 : Int) (a0_2 : Int) (a0_3 : Int) (a1 : Int) : Option (Int × (List (S26))) := (laws_markSlotS.f k l0_0 a1).bind fun bt234 => (some (bt234.1, bt234.2))
theorem laws_markRing.mono : ∀ a0 a1 a2 a3 a4 k, LeO (laws_markRing.f k a0 a1 a2 a3 a4) (laws_markRing.f (k + 1) a0 a1 a2 a3 a4) := by
 intro a0 a1 a2 a3 a4 k
 unfold laws_markRing.f
 repeat' first
   | (with_reducible exact laws_markSlotS.mono _ _ _)
   | (with_reducible exact LeO.refl _)
   | (with_reducible exact LeO.none _)
   | (with_reducible refine LeO.ite ?_ ?_)
   | (with_reducible refine LeO.bind ?_ (fun _ => ?_))
   | exact laws_markSlotS.mono _ _ _
   | exact LeO.none _
   | refine LeO.ite ?_ ?_
   | refine LeO.bind ?_ (fun _ => ?_)
set_option maxHeartbeats 8000000 in
set_option maxRecDepth 100000 in
theorem laws_markRing.calls (k : Nat) (P0_0_ : Nat → Prop) (u9000_ : Value) (l0_0 : List (S26)) (a0_1 : Int) (a0_2 : Int) (a0_3 : Int) (a1 : Int) (r1 : Int) (r2 : List (S26)) (w0 w : World) (hB : Below w0.heap.size w0 w) (ho0_0 : Kd.R k26 26 w w0.heap.size P0_0_ u9000_ l0_0) (h : laws_markRing.f k l0_0 a0_1 a0_2 a0_3 a1 = some (r1, r2)) :
  Calls Tryd.prog 24 #[.agg #[u9000_, .int .i64 a0_1, .int .i64 a0_2, .int .i64 a0_3], .int .i64 a1] w fun e w' => e = .returned (.int .i64 r1) ∧ Kd.R k26 26 w' w0.heap.size (fun k_ => (P0_0_ k_ ∨ w.heap.size ≤ k_)) u9000_ r2 ∧ Below w0.heap.size w0 w' ∧ Kept w w' (fun k_ => P0_0_ k_) := by
 have hu36 := Tryd.underlying36
 have HO0_0 := Aside0.mk (show Kd.R k26 26 w w0.heap.size (fun k_ => (P0_0_ k_ ∨ w.heap.size ≤ k_)) u9000_ l0_0 from Kd.R_mono ho0_0 (fun k_ hk => (.inl hk)))
 have HK := Aside0.mk (Kept.refl w (fun k_ => P0_0_ k_))
 have HW0 := Aside0.mk hB.size
 have HB := Aside0.mk hB
 clear hB
 have H : ((laws_markSlotS.f k l0_0 a1).bind fun bt234 => (some (bt234.1, bt234.2))) = some (r1, r2) := h
 clear h
 replace H := Option.bind_eq_some_iff.mp H
 obtain ⟨⟨t234, t235⟩, A30, H⟩ := H
 replace H : (some (t234, t235)) = some (r1, r2) := H
 have A3 := Aside0.mk A30
 clear A30
 simp only [Option.some.injEq, Prod.mk.injEq] at H
 obtain ⟨rfl, rfl⟩ := H
 obtain ⟨Ao4, co4, eo4⟩ := Kd.R_slice HO0_0.out
 subst eo4
 go_enter Tryd.func24, Tryd.ntmps24
 go_wp2_with (first | ((with_reducible refine gate_dst (N := 2) rfl ?_); refine box_event ?hg (N := 2) ?hd (cs := #[.slice Ao4 l0_0.length co4, .int .i64 a0_1, .int .i64 a0_2, .int .i64 a0_3]) (t := 36) ?hr ?_; (case hd => rfl); (case hg => rfl); (case hr => first | (go_simp; done) | (go_simp; rfl)); intro gb233 hg w5 hbox hb; replace HO0_0 := nr HO0_0 hb; have BK233 := Aside0.mk (hbox); have GW233 := Aside0.mk ((by rw [hg]; exact (by first | exact HK.out.1 | exact (show Kept w _ (fun k_ => P0_0_ k_) from by repeat (first | (with_reducible first | exact HK.out | apply Kept.alloc | apply Kept.drewN | apply Kept.drew) | exact HK.out)).1) : w.heap.size ≤ gb233)); replace HK := Aside0.mk (Kept.below (S := (fun k_ => P0_0_ k_)) (by repeat (first | (with_reducible first | exact HK.out | apply Kept.alloc | apply Kept.drewN | apply Kept.drew) | exact HK.out)) hb); have GE233 := Aside0.mk ((by rw [hg]; exact (below_size (bs HB)) : w0.heap.size ≤ gb233)); replace HB := Aside0.mk (below_step (bs HB) hb); clear hb hbox hg; obtain ⟨hcz6_0, hcz6_1, hcz6_2, hcz6_3⟩ := cz4 BK233; obtain ⟨hfz6_0, hfz6_1, hfz6_2, hfz6_3⟩ := fz4 BK233) | ((with_reducible refine gate_callee (f := 46) rfl ?_); refine gL (some 8) rfl rfl Tryd.func46 (by kernel_rfl) rfl #[.slice Ao4 l0_0.length co4, .int .i64 a1] rfl ?_; (with_reducible refine (laws_markSlotS.calls k (fun k_ => some k_ = (.slice Ao4 l0_0.length co4 : Value).ownBlock) (.slice Ao4 l0_0.length co4) l0_0 a1 t234 t235 w0 _ ?side1 ?side2 A3.out).mono ?_); (case side1 => repeat (first | (with_reducible first | exact HB.out | apply below_alloc | apply pw_below_drewN | apply below_drew1 | refine below_set ?_ GE233.out) | exact HB.out)); (case side2 => exact Kd.R_tight rfl HO0_0.out); rintro e w7 ⟨rfl, hy0, hb, hkp⟩; refine ⟨_, rfl, ?_⟩; replace BK233 := Aside0.mk (blk_kept (bk BK233) hkp (fun hs_ => (fun e_ => (Kd.R_ne HO0_0.out BK233.out (by decide)) e_) hs_)); replace HK := Aside0.mk (Kept.then_ (S := (fun k_ => P0_0_ k_)) (by repeat (first | (with_reducible first | exact HK.out | apply Kept.alloc | apply Kept.drewN | apply Kept.drew | refine Kept.setCell ?_ (.inr GW233.out) _) | exact HK.out)) hkp (fun k_ hs_ => (fun e_ => (HO0_0.out.1 k_ e_.symm)) hs_)); replace HO0_0 := Aside0.mk (Kd.R_reok rfl hy0 (fun k_ e_ => HO0_0.out.1 k_ e_)); replace HB := Aside0.mk (hb); (try clear hb); (try clear hkp); (try clear hy0)))
 go_ret
 exact ⟨by first | rfl | (simp [errW_none, errW_some] <;> rfl) | (simp [*, errW_none, errW_some] <;> rfl), by (with_reducible repeat (first | apply Kd.R_alloc | apply Kd.R_drewN | apply Kd.R_drew)); exact HO0_0.out, bs1 HB GE233, by repeat (first | (with_reducible first | exact HK.out | apply Kept.alloc | apply Kept.drewN | apply Kept.drew | refine Kept.setCell ?_ (.inr GW233.out) _) | exact HK.out)⟩

/-! ### laws_heldSlotS: function 62 -/
def laws_heldSlotS.l0 : Nat → List (S26) → Int → Int → Option (Int)
 | 0, _, _, _ => none
 | k + 1, x0, x1, x5 => if x5 < (x0.length : Int) then (if 0 ≤ x5 then (if ((rd_T26 x0 x5).f0) = x1 then (if ((rd_T26 x0 x5).f1) = (wrap64 (x1 + 1)) then ((laws_markText.f k (wrap64 ((wrap64 (x1 + 1)) + 1))).bind fun t239 => (if ((rd_T26 x0 x5).f2).toList = t239.toList then (if ((rd_T26 x0 x5).f3) = (wrap64 ((wrap64 ((wrap64 (x1 + 1)) + 1)) + 1)) then (laws_heldSlotS.l0 k x0 (wrap64 ((wrap64 ((wrap64 ((wrap64 (x1 + 1)) + 1)) + 1)) + 1)) (wrap64 (x5 + 1))) else (some (-1))) else (some (-1)))) else (some (-1))) else (some (-1))) else (none)) else (some x1)
def laws_heldSlotS.f (k : Nat) (l0 : List (S26)) (a1 : Int) : Option (Int) := laws_heldSlotS.l0 k l0 a1 0
theorem laws_heldSlotS.mono_l : ∀ k, (∀ y0 y1 y2, LeO (laws_heldSlotS.l0 k y0 y1 y2) (laws_heldSlotS.l0 (k + 1) y0 y1 y2))
 | 0 => fun _ _ _ r h => by simp [laws_heldSlotS.l0] at h
 | k + 1 => by
  have ih0 := laws_heldSlotS.mono_l k
  ·
   intro y0 y1 y2
   unfold laws_heldSlotS.l0
   repeat' first
   | (with_reducible exact ih0 _ _ _)
   | (with_reducible exact laws_markText.mono _ _)
   | (with_reducible exact LeO.refl _)
   | (with_reducible exact LeO.none _)
   | (with_reducible refine LeO.ite ?_ ?_)
   | (with_reducible refine LeO.bind ?_ (fun _ => ?_))
   | exact ih0 _ _ _
   | exact laws_markText.mono _ _
   | exact LeO.none _
   | refine LeO.ite ?_ ?_
   | refine LeO.bind ?_ (fun _ => ?_)
theorem laws_heldSlotS.mono : ∀ a0 a1 k, LeO (laws_heldSlotS.f k a0 a1) (laws_heldSlotS.f (k + 1) a0 a1) := by
 intro a0 a1 k
 have ih0 := laws_heldSlotS.mono_l k
 unfold laws_heldSlotS.f
 repeat' first
   | (with_reducible exact ih0 _ _ _)
   | (with_reducible exact laws_markText.mono _ _)
   | (with_reducible exact LeO.refl _)
   | (with_reducible exact LeO.none _)
   | (with_reducible refine LeO.ite ?_ ?_)
   | (with_reducible refine LeO.bind ?_ (fun _ => ?_))
   | exact ih0 _ _ _
   | exact laws_markText.mono _ _
   | exact LeO.none _
   | refine LeO.ite ?_ ?_
   | refine LeO.bind ?_ (fun _ => ?_)
def laws_heldSlotS.T10 : Bool × List (List Nat × List Nat) := (true, [([], []), ([], []), ([0, 1], [0, 1]), ([2], [2]), ([3], [3]), ([], []), ([5], [5]), ([4, 6], [4, 6])])
def laws_heldSlotS.B10 : List Nat := [0, 0, 3, 7, 15, 0, 32, 127]
theorem laws_heldSlotS.tab10 : rtab .any (opsOf Tryd.f62 10) = laws_heldSlotS.T10 := by kernel_rfl
theorem laws_heldSlotS.bits10 : waitsOk laws_heldSlotS.T10.2 laws_heldSlotS.B10 = true := by kernel_rfl
set_option maxHeartbeats 8000000 in
set_option maxRecDepth 100000 in
theorem laws_heldSlotS.calls (k : Nat) (A0 : Option Addr) (c0 : Nat) (l0 : List (S26)) (a1 : Int) (r : Int) (w : World) (hr0 : Kd.C k26 w A0 l0.length l0) (hc0 : l0.length ≤ c0) (h : laws_heldSlotS.f k l0 a1 = some r) :
  Calls Tryd.prog 62 #[.slice A0 l0.length c0, .int .i64 a1] w fun e w' => e = .returned (.int .i64 r) ∧ Below w.heap.size w w' := by
 have HR0 := Aside0.mk hr0
 have HC0 := Aside0.mk hc0
 clear hr0 hc0
 have HB := Aside0.mk (Below.refl w.heap.size w)
 have H : (laws_heldSlotS.l0 k l0 a1 0) = some r := h
 clear h
 have H' := Aside0.mk H
 clear H
 go_enter Tryd.func62, Tryd.ntmps62
 go_wp2
 go_loopg [1, 5] k (fun kq v1 v5 w' => ∃ (x1_1 : Int) (x5_1 : Int), v1 = .int .i64 x1_1 ∧ v5 = .int .i64 x5_1 ∧ Aside0 (laws_heldSlotS.l0 kq l0 x1_1 x5_1 = some r) ∧ Aside0 (kq ≤ k) ∧ Aside0 (Below w.heap.size w w'))
 case atStart => exact ⟨(a1), (0), (by first | rfl | (simp; done) | (simp [*]; done)), (by first | rfl | (simp; done) | (simp [*]; done)), H', ⟨Nat.le_refl _⟩, ⟨bs HB⟩⟩
 case round =>
  clear H'
  try clear p2
  obtain ⟨x1_1, x5_1, rfl, rfl, HA, HK1, HB⟩ := hrel
  cases gk with
  | zero => exact absurd HA.out (by simp [laws_heldSlotS.l0])
  | succ k1 =>
   have H := HA.out
   clear HA
   simp only [laws_heldSlotS.l0] at H
   by_cases c3 : x5_1 < (l0.length : Int)
   ·
    rw [if_pos c3] at H
    have c3b0 : decide (x5_1 < (l0.length : Int)) = true := decide_eq_true c3
    clear c3
    by_cases c4 : 0 ≤ x5_1
    ·
     rw [if_pos c4] at H
     have c4b0 : decide (0 ≤ x5_1) = true := decide_eq_true c4
     clear c4
     by_cases c5 : ((rd_T26 l0 x5_1).f0) = x1_1
     ·
      rw [if_pos c5] at H
      have c5b0 : (((rd_T26 l0 x5_1).f0) == x1_1) = true := beq_iff_eq.mpr c5
      have c5b1 : (((rd_T26 l0 x5_1).f0) != x1_1) = false := bne_eq_false_iff_eq.mpr c5
      clear c5
      by_cases c6 : ((rd_T26 l0 x5_1).f1) = (wrap64 (x1_1 + 1))
      ·
       rw [if_pos c6] at H
       have c6b0 : (((rd_T26 l0 x5_1).f1) == (wrap64 (x1_1 + 1))) = true := beq_iff_eq.mpr c6
       have c6b1 : (((rd_T26 l0 x5_1).f1) != (wrap64 (x1_1 + 1))) = false := bne_eq_false_iff_eq.mpr c6
       clear c6
       replace H := Option.bind_eq_some_iff.mp H
       obtain ⟨t239, A70, H⟩ := H
       replace H : (if ((rd_T26 l0 x5_1).f2).toList = t239.toList then (if ((rd_T26 l0 x5_1).f3) = (wrap64 ((wrap64 ((wrap64 (x1_1 + 1)) + 1)) + 1)) then (laws_heldSlotS.l0 k1 l0 (wrap64 ((wrap64 ((wrap64 ((wrap64 (x1_1 + 1)) + 1)) + 1)) + 1)) (wrap64 (x5_1 + 1))) else (some (-1))) else (some (-1))) = some r := H
       have A7 := Aside0.mk A70
       clear A70
       by_cases c8 : ((rd_T26 l0 x5_1).f2).toList = t239.toList
       ·
        rw [if_pos c8] at H
        have c8b0 : (((rd_T26 l0 x5_1).f2).toList == t239.toList) = true := beq_iff_eq.mpr c8
        have c8b1 : (((rd_T26 l0 x5_1).f2).toList != t239.toList) = false := bne_eq_false_iff_eq.mpr c8
        clear c8
        by_cases c9 : ((rd_T26 l0 x5_1).f3) = (wrap64 ((wrap64 ((wrap64 (x1_1 + 1)) + 1)) + 1))
        ·
         rw [if_pos c9] at H
         have c9b0 : (((rd_T26 l0 x5_1).f3) == (wrap64 ((wrap64 ((wrap64 (x1_1 + 1)) + 1)) + 1))) = true := beq_iff_eq.mpr c9
         have c9b1 : (((rd_T26 l0 x5_1).f3) != (wrap64 ((wrap64 ((wrap64 (x1_1 + 1)) + 1)) + 1))) = false := bne_eq_false_iff_eq.mpr c9
         clear c9
         have H' := Aside0.mk H
         clear H
         have p236 : 0 ≤ (x5_1 : Int) := of_decide_eq_true (by first | (with_reducible assumption) | assumption)
         have q236 : x5_1 < (l0.length : Int) := of_decide_eq_true (by first | (with_reducible assumption) | assumption)
         obtain ⟨ad236, e236, hx236_0, hx236_1, hx236_2, hx236_3⟩ := at_T26 HR0.out x5_1 p236 q236
         cases e236
         replace hx236_0 := (HB.out.cell (World.block_lt_of_cell? w _ hx236_0)).trans hx236_0
         replace hx236_1 := (HB.out.cell (World.block_lt_of_cell? w _ hx236_1)).trans hx236_1
         replace hx236_2 := (HB.out.cell (World.block_lt_of_cell? w _ hx236_2)).trans hx236_2
         replace hx236_3 := (HB.out.cell (World.block_lt_of_cell? w _ hx236_3)).trans hx236_3
         replace p236 := eq_true p236
         replace q236 := eq_true q236
         have p237 : 0 ≤ (x5_1 : Int) := of_decide_eq_true (by first | (with_reducible assumption) | assumption)
         have q237 : x5_1 < (l0.length : Int) := of_decide_eq_true (by first | (with_reducible assumption) | assumption)
         obtain ⟨ad237, e237, hx237_0, hx237_1, hx237_2, hx237_3⟩ := at_T26 HR0.out x5_1 p237 q237
         obtain rfl : ad236 = ad237 := (by injection e237)
         replace hx237_0 := (HB.out.cell (World.block_lt_of_cell? w _ hx237_0)).trans hx237_0
         replace hx237_1 := (HB.out.cell (World.block_lt_of_cell? w _ hx237_1)).trans hx237_1
         replace hx237_2 := (HB.out.cell (World.block_lt_of_cell? w _ hx237_2)).trans hx237_2
         replace hx237_3 := (HB.out.cell (World.block_lt_of_cell? w _ hx237_3)).trans hx237_3
         replace p237 := eq_true p237
         replace q237 := eq_true q237
         try go_wp2
         have n0_ := Aside0.mk (below_drew1 HB.out)
         clear HB
         have HB := n0_
         clear n0_
         have p238 : 0 ≤ (x5_1 : Int) := of_decide_eq_true (by first | (with_reducible assumption) | assumption)
         have q238 : x5_1 < (l0.length : Int) := of_decide_eq_true (by first | (with_reducible assumption) | assumption)
         obtain ⟨ad238, e238, hx238_0, hx238_1, hx238_2, hx238_3⟩ := at_T26 HR0.out x5_1 p238 q238
         have hw238_3 := hx238_3
         have hw238_2 := hx238_2
         have hw238_1 := hx238_1
         have hw238_0 := hx238_0
         obtain rfl : ad236 = ad238 := (by injection e238)
         replace hx238_0 := (HB.out.cell (World.block_lt_of_cell? w _ hx238_0)).trans hx238_0
         replace hx238_1 := (HB.out.cell (World.block_lt_of_cell? w _ hx238_1)).trans hx238_1
         replace hx238_2 := (HB.out.cell (World.block_lt_of_cell? w _ hx238_2)).trans hx238_2
         replace hx238_3 := (HB.out.cell (World.block_lt_of_cell? w _ hx238_3)).trans hx238_3
         replace p238 := eq_true p238
         replace q238 := eq_true q238
         refine start_ (n := 8) (S := fun w' => w'.cell? (ad236.add ((x5_1).toNat * 4)) = some (.int .i64 ((rd_T26 l0 x5_1).f0)) ∧ w'.cell? ⟨(ad236.add ((x5_1).toNat * 4)).block, (ad236.add ((x5_1).toNat * 4)).off + 1, none⟩ = some (.int .i64 ((rd_T26 l0 x5_1).f1)) ∧ w'.cell? ⟨(ad236.add ((x5_1).toNat * 4)).block, (ad236.add ((x5_1).toNat * 4)).off + 2, none⟩ = some (.string ((rd_T26 l0 x5_1).f2)) ∧ w'.cell? ⟨(ad236.add ((x5_1).toNat * 4)).block, (ad236.add ((x5_1).toNat * 4)).off + 3, none⟩ = some (.int .i64 ((rd_T26 l0 x5_1).f3))) (ds := []) #[false, false, false, false, false, false, false, false] (by kernel_rfl) rfl rfl ⟨((HB.out.cell (World.block_lt_of_cell? w _ hw238_0)).trans hw238_0), ((HB.out.cell (World.block_lt_of_cell? w _ hw238_1)).trans hw238_1), ((HB.out.cell (World.block_lt_of_cell? w _ hw238_2)).trans hw238_2), ((HB.out.cell (World.block_lt_of_cell? w _ hw238_3)).trans hw238_3)⟩ (fun hHeld => ?_); refine with_tabW laws_heldSlotS.tab10 laws_heldSlotS.bits10 (fun HT_ HW_ => ?_)
         generalize wr.drew = w10 at HB hx238_0 hx238_1 hx238_2 hx238_3 hHeld ⊢
         refine pureS 0 30 HT_.out ?_
         refine pureS 1 31 HT_.out ?_
         refine pureS 2 32 HT_.out ?_
         refine pureS 3 33 HT_.out ?_
         refine pureS 5 35 HT_.out ?_
         refine takeS 4 34 HT_.out HW_.out hHeld (hr := by rintro w' ⟨s0, s1, s2, s3⟩; go_simp; with_reducible rfl) (h := ?_)
         refine one_ (i := 6) (N := some 36) #[true, true, true, true, true, true, true, false] rfl rfl (one_of HT_.out (by kernel_rfl)) (by decide) (fun K hK => ?_)
         refine goes_ Tryd.func63 (by kernel_rfl) rfl #[.int .i64 (wrap64 ((wrap64 (x1_1 + 1)) + 1))] (by rfl) rfl rfl (by (try simp only [List.map_toArray, List.map_cons, List.map_nil]); first | done | rfl | (simp only [List.length_drop, List.length_take]; rfl)) ?_
         with_reducible refine (laws_markText.calls k1 (wrap64 ((wrap64 (x1_1 + 1)) + 1)) t239 _ A7.out).mono ?_
         rintro e w11 ⟨rfl, hb⟩
         refine ⟨_, rfl, ?_⟩
         have n0_ := Aside0.mk (below_step (bs HB) hb)
         clear HB
         have HB := n0_
         clear n0_
         (try clear hb)
         (try clear hb2)
         (try clear hk)
         (try clear hi)
         refine hK.out _ _ ⟨((HB.out.cell (World.block_lt_of_cell? w _ hw238_0)).trans hw238_0), ((HB.out.cell (World.block_lt_of_cell? w _ hw238_1)).trans hw238_1), ((HB.out.cell (World.block_lt_of_cell? w _ hw238_2)).trans hw238_2), ((HB.out.cell (World.block_lt_of_cell? w _ hw238_3)).trans hw238_3)⟩ (fun hHeld => ?_)
         clear hK K
         refine norm_ (a' := ?_) ?_ ?_
         rotate_left
         ·
          show Act.put _ (some 36) _ = _
          simp only [Act.put, List.setIfInBounds_toArray, List.set_cons_zero, List.set_cons_succ, i64_w, i32_w]
          rfl
         refine pureS 7 37 HT_.out ?_
         refine done_ (done_of HT_.out (by kernel_rfl)) ?_
         have p240 : 0 ≤ (x5_1 : Int) := of_decide_eq_true (by first | (with_reducible assumption) | assumption)
         have q240 : x5_1 < (l0.length : Int) := of_decide_eq_true (by first | (with_reducible assumption) | assumption)
         obtain ⟨ad240, e240, hx240_0, hx240_1, hx240_2, hx240_3⟩ := at_T26 HR0.out x5_1 p240 q240
         obtain rfl : ad236 = ad240 := (by injection e240)
         replace hx240_0 := (HB.out.cell (World.block_lt_of_cell? w _ hx240_0)).trans hx240_0
         replace hx240_1 := (HB.out.cell (World.block_lt_of_cell? w _ hx240_1)).trans hx240_1
         replace hx240_2 := (HB.out.cell (World.block_lt_of_cell? w _ hx240_2)).trans hx240_2
         replace hx240_3 := (HB.out.cell (World.block_lt_of_cell? w _ hx240_3)).trans hx240_3
         replace p240 := eq_true p240
         replace q240 := eq_true q240
         try go_wp2
         go_roundg k1
         case measure => have := HK1.out; omega
         case rel => exact ⟨(wrap64 ((wrap64 ((wrap64 ((wrap64 (x1_1 + 1)) + 1)) + 1)) + 1)), (wrap64 (x5_1 + 1)), (by first | rfl | (simp; done) | (simp [*]; done)), (by first | rfl | (simp; done) | (simp [*]; done)), H', ⟨by have := HK1.out; omega⟩, ⟨bs HB⟩⟩
        ·
         rw [if_neg c9] at H
         have c9b0 : (((rd_T26 l0 x5_1).f3) == (wrap64 ((wrap64 ((wrap64 (x1_1 + 1)) + 1)) + 1))) = false := beq_eq_false_iff_ne.mpr c9
         have c9b1 : (((rd_T26 l0 x5_1).f3) != (wrap64 ((wrap64 ((wrap64 (x1_1 + 1)) + 1)) + 1))) = true := bne_iff_ne.mpr c9
         obtain rfl := Option.some.inj H
         have p236 : 0 ≤ (x5_1 : Int) := of_decide_eq_true (by first | (with_reducible assumption) | assumption)
         have q236 : x5_1 < (l0.length : Int) := of_decide_eq_true (by first | (with_reducible assumption) | assumption)
         obtain ⟨ad236, e236, hx236_0, hx236_1, hx236_2, hx236_3⟩ := at_T26 HR0.out x5_1 p236 q236
         cases e236
         replace hx236_0 := (HB.out.cell (World.block_lt_of_cell? w _ hx236_0)).trans hx236_0
         replace hx236_1 := (HB.out.cell (World.block_lt_of_cell? w _ hx236_1)).trans hx236_1
         replace hx236_2 := (HB.out.cell (World.block_lt_of_cell? w _ hx236_2)).trans hx236_2
         replace hx236_3 := (HB.out.cell (World.block_lt_of_cell? w _ hx236_3)).trans hx236_3
         replace p236 := eq_true p236
         replace q236 := eq_true q236
         have p237 : 0 ≤ (x5_1 : Int) := of_decide_eq_true (by first | (with_reducible assumption) | assumption)
         have q237 : x5_1 < (l0.length : Int) := of_decide_eq_true (by first | (with_reducible assumption) | assumption)
         obtain ⟨ad237, e237, hx237_0, hx237_1, hx237_2, hx237_3⟩ := at_T26 HR0.out x5_1 p237 q237
         obtain rfl : ad236 = ad237 := (by injection e237)
         replace hx237_0 := (HB.out.cell (World.block_lt_of_cell? w _ hx237_0)).trans hx237_0
         replace hx237_1 := (HB.out.cell (World.block_lt_of_cell? w _ hx237_1)).trans hx237_1
         replace hx237_2 := (HB.out.cell (World.block_lt_of_cell? w _ hx237_2)).trans hx237_2
         replace hx237_3 := (HB.out.cell (World.block_lt_of_cell? w _ hx237_3)).trans hx237_3
         replace p237 := eq_true p237
         replace q237 := eq_true q237
         try go_wp2
         have n0_ := Aside0.mk (below_drew1 HB.out)
         clear HB
         have HB := n0_
         clear n0_
         have p238 : 0 ≤ (x5_1 : Int) := of_decide_eq_true (by first | (with_reducible assumption) | assumption)
         have q238 : x5_1 < (l0.length : Int) := of_decide_eq_true (by first | (with_reducible assumption) | assumption)
         obtain ⟨ad238, e238, hx238_0, hx238_1, hx238_2, hx238_3⟩ := at_T26 HR0.out x5_1 p238 q238
         have hw238_3 := hx238_3
         have hw238_2 := hx238_2
         have hw238_1 := hx238_1
         have hw238_0 := hx238_0
         obtain rfl : ad236 = ad238 := (by injection e238)
         replace hx238_0 := (HB.out.cell (World.block_lt_of_cell? w _ hx238_0)).trans hx238_0
         replace hx238_1 := (HB.out.cell (World.block_lt_of_cell? w _ hx238_1)).trans hx238_1
         replace hx238_2 := (HB.out.cell (World.block_lt_of_cell? w _ hx238_2)).trans hx238_2
         replace hx238_3 := (HB.out.cell (World.block_lt_of_cell? w _ hx238_3)).trans hx238_3
         replace p238 := eq_true p238
         replace q238 := eq_true q238
         refine start_ (n := 8) (S := fun w' => w'.cell? (ad236.add ((x5_1).toNat * 4)) = some (.int .i64 ((rd_T26 l0 x5_1).f0)) ∧ w'.cell? ⟨(ad236.add ((x5_1).toNat * 4)).block, (ad236.add ((x5_1).toNat * 4)).off + 1, none⟩ = some (.int .i64 ((rd_T26 l0 x5_1).f1)) ∧ w'.cell? ⟨(ad236.add ((x5_1).toNat * 4)).block, (ad236.add ((x5_1).toNat * 4)).off + 2, none⟩ = some (.string ((rd_T26 l0 x5_1).f2)) ∧ w'.cell? ⟨(ad236.add ((x5_1).toNat * 4)).block, (ad236.add ((x5_1).toNat * 4)).off + 3, none⟩ = some (.int .i64 ((rd_T26 l0 x5_1).f3))) (ds := []) #[false, false, false, false, false, false, false, false] (by kernel_rfl) rfl rfl ⟨((HB.out.cell (World.block_lt_of_cell? w _ hw238_0)).trans hw238_0), ((HB.out.cell (World.block_lt_of_cell? w _ hw238_1)).trans hw238_1), ((HB.out.cell (World.block_lt_of_cell? w _ hw238_2)).trans hw238_2), ((HB.out.cell (World.block_lt_of_cell? w _ hw238_3)).trans hw238_3)⟩ (fun hHeld => ?_); refine with_tabW laws_heldSlotS.tab10 laws_heldSlotS.bits10 (fun HT_ HW_ => ?_)
         generalize wr.drew = w12 at HB hx238_0 hx238_1 hx238_2 hx238_3 hHeld ⊢
         refine pureS 0 30 HT_.out ?_
         refine pureS 1 31 HT_.out ?_
         refine pureS 2 32 HT_.out ?_
         refine pureS 3 33 HT_.out ?_
         refine pureS 5 35 HT_.out ?_
         refine takeS 4 34 HT_.out HW_.out hHeld (hr := by rintro w' ⟨s0, s1, s2, s3⟩; go_simp; with_reducible rfl) (h := ?_)
         refine one_ (i := 6) (N := some 36) #[true, true, true, true, true, true, true, false] rfl rfl (one_of HT_.out (by kernel_rfl)) (by decide) (fun K hK => ?_)
         refine goes_ Tryd.func63 (by kernel_rfl) rfl #[.int .i64 (wrap64 ((wrap64 (x1_1 + 1)) + 1))] (by rfl) rfl rfl (by (try simp only [List.map_toArray, List.map_cons, List.map_nil]); first | done | rfl | (simp only [List.length_drop, List.length_take]; rfl)) ?_
         with_reducible refine (laws_markText.calls k1 (wrap64 ((wrap64 (x1_1 + 1)) + 1)) t239 _ A7.out).mono ?_
         rintro e w13 ⟨rfl, hb⟩
         refine ⟨_, rfl, ?_⟩
         have n0_ := Aside0.mk (below_step (bs HB) hb)
         clear HB
         have HB := n0_
         clear n0_
         (try clear hb)
         (try clear hb2)
         (try clear hk)
         (try clear hi)
         refine hK.out _ _ ⟨((HB.out.cell (World.block_lt_of_cell? w _ hw238_0)).trans hw238_0), ((HB.out.cell (World.block_lt_of_cell? w _ hw238_1)).trans hw238_1), ((HB.out.cell (World.block_lt_of_cell? w _ hw238_2)).trans hw238_2), ((HB.out.cell (World.block_lt_of_cell? w _ hw238_3)).trans hw238_3)⟩ (fun hHeld => ?_)
         clear hK K
         refine norm_ (a' := ?_) ?_ ?_
         rotate_left
         ·
          show Act.put _ (some 36) _ = _
          simp only [Act.put, List.setIfInBounds_toArray, List.set_cons_zero, List.set_cons_succ, i64_w, i32_w]
          rfl
         refine pureS 7 37 HT_.out ?_
         refine done_ (done_of HT_.out (by kernel_rfl)) ?_
         have p240 : 0 ≤ (x5_1 : Int) := of_decide_eq_true (by first | (with_reducible assumption) | assumption)
         have q240 : x5_1 < (l0.length : Int) := of_decide_eq_true (by first | (with_reducible assumption) | assumption)
         obtain ⟨ad240, e240, hx240_0, hx240_1, hx240_2, hx240_3⟩ := at_T26 HR0.out x5_1 p240 q240
         obtain rfl : ad236 = ad240 := (by injection e240)
         replace hx240_0 := (HB.out.cell (World.block_lt_of_cell? w _ hx240_0)).trans hx240_0
         replace hx240_1 := (HB.out.cell (World.block_lt_of_cell? w _ hx240_1)).trans hx240_1
         replace hx240_2 := (HB.out.cell (World.block_lt_of_cell? w _ hx240_2)).trans hx240_2
         replace hx240_3 := (HB.out.cell (World.block_lt_of_cell? w _ hx240_3)).trans hx240_3
         replace p240 := eq_true p240
         replace q240 := eq_true q240
         try go_wp2
         go_ret
         exact ⟨by first | rfl | (simp [errW_none, errW_some] <;> rfl) | (simp [*, errW_none, errW_some] <;> rfl), bs HB⟩
       ·
        rw [if_neg c8] at H
        have c8b0 : (((rd_T26 l0 x5_1).f2).toList == t239.toList) = false := beq_eq_false_iff_ne.mpr c8
        have c8b1 : (((rd_T26 l0 x5_1).f2).toList != t239.toList) = true := bne_iff_ne.mpr c8
        obtain rfl := Option.some.inj H
        have p236 : 0 ≤ (x5_1 : Int) := of_decide_eq_true (by first | (with_reducible assumption) | assumption)
        have q236 : x5_1 < (l0.length : Int) := of_decide_eq_true (by first | (with_reducible assumption) | assumption)
        obtain ⟨ad236, e236, hx236_0, hx236_1, hx236_2, hx236_3⟩ := at_T26 HR0.out x5_1 p236 q236
        cases e236
        replace hx236_0 := (HB.out.cell (World.block_lt_of_cell? w _ hx236_0)).trans hx236_0
        replace hx236_1 := (HB.out.cell (World.block_lt_of_cell? w _ hx236_1)).trans hx236_1
        replace hx236_2 := (HB.out.cell (World.block_lt_of_cell? w _ hx236_2)).trans hx236_2
        replace hx236_3 := (HB.out.cell (World.block_lt_of_cell? w _ hx236_3)).trans hx236_3
        replace p236 := eq_true p236
        replace q236 := eq_true q236
        have p237 : 0 ≤ (x5_1 : Int) := of_decide_eq_true (by first | (with_reducible assumption) | assumption)
        have q237 : x5_1 < (l0.length : Int) := of_decide_eq_true (by first | (with_reducible assumption) | assumption)
        obtain ⟨ad237, e237, hx237_0, hx237_1, hx237_2, hx237_3⟩ := at_T26 HR0.out x5_1 p237 q237
        obtain rfl : ad236 = ad237 := (by injection e237)
        replace hx237_0 := (HB.out.cell (World.block_lt_of_cell? w _ hx237_0)).trans hx237_0
        replace hx237_1 := (HB.out.cell (World.block_lt_of_cell? w _ hx237_1)).trans hx237_1
        replace hx237_2 := (HB.out.cell (World.block_lt_of_cell? w _ hx237_2)).trans hx237_2
        replace hx237_3 := (HB.out.cell (World.block_lt_of_cell? w _ hx237_3)).trans hx237_3
        replace p237 := eq_true p237
        replace q237 := eq_true q237
        try go_wp2
        have n0_ := Aside0.mk (below_drew1 HB.out)
        clear HB
        have HB := n0_
        clear n0_
        have p238 : 0 ≤ (x5_1 : Int) := of_decide_eq_true (by first | (with_reducible assumption) | assumption)
        have q238 : x5_1 < (l0.length : Int) := of_decide_eq_true (by first | (with_reducible assumption) | assumption)
        obtain ⟨ad238, e238, hx238_0, hx238_1, hx238_2, hx238_3⟩ := at_T26 HR0.out x5_1 p238 q238
        have hw238_3 := hx238_3
        have hw238_2 := hx238_2
        have hw238_1 := hx238_1
        have hw238_0 := hx238_0
        obtain rfl : ad236 = ad238 := (by injection e238)
        replace hx238_0 := (HB.out.cell (World.block_lt_of_cell? w _ hx238_0)).trans hx238_0
        replace hx238_1 := (HB.out.cell (World.block_lt_of_cell? w _ hx238_1)).trans hx238_1
        replace hx238_2 := (HB.out.cell (World.block_lt_of_cell? w _ hx238_2)).trans hx238_2
        replace hx238_3 := (HB.out.cell (World.block_lt_of_cell? w _ hx238_3)).trans hx238_3
        replace p238 := eq_true p238
        replace q238 := eq_true q238
        refine start_ (n := 8) (S := fun w' => w'.cell? (ad236.add ((x5_1).toNat * 4)) = some (.int .i64 ((rd_T26 l0 x5_1).f0)) ∧ w'.cell? ⟨(ad236.add ((x5_1).toNat * 4)).block, (ad236.add ((x5_1).toNat * 4)).off + 1, none⟩ = some (.int .i64 ((rd_T26 l0 x5_1).f1)) ∧ w'.cell? ⟨(ad236.add ((x5_1).toNat * 4)).block, (ad236.add ((x5_1).toNat * 4)).off + 2, none⟩ = some (.string ((rd_T26 l0 x5_1).f2)) ∧ w'.cell? ⟨(ad236.add ((x5_1).toNat * 4)).block, (ad236.add ((x5_1).toNat * 4)).off + 3, none⟩ = some (.int .i64 ((rd_T26 l0 x5_1).f3))) (ds := []) #[false, false, false, false, false, false, false, false] (by kernel_rfl) rfl rfl ⟨((HB.out.cell (World.block_lt_of_cell? w _ hw238_0)).trans hw238_0), ((HB.out.cell (World.block_lt_of_cell? w _ hw238_1)).trans hw238_1), ((HB.out.cell (World.block_lt_of_cell? w _ hw238_2)).trans hw238_2), ((HB.out.cell (World.block_lt_of_cell? w _ hw238_3)).trans hw238_3)⟩ (fun hHeld => ?_); refine with_tabW laws_heldSlotS.tab10 laws_heldSlotS.bits10 (fun HT_ HW_ => ?_)
        generalize wr.drew = w14 at HB hx238_0 hx238_1 hx238_2 hx238_3 hHeld ⊢
        refine pureS 0 30 HT_.out ?_
        refine pureS 1 31 HT_.out ?_
        refine pureS 2 32 HT_.out ?_
        refine pureS 3 33 HT_.out ?_
        refine pureS 5 35 HT_.out ?_
        refine takeS 4 34 HT_.out HW_.out hHeld (hr := by rintro w' ⟨s0, s1, s2, s3⟩; go_simp; with_reducible rfl) (h := ?_)
        refine one_ (i := 6) (N := some 36) #[true, true, true, true, true, true, true, false] rfl rfl (one_of HT_.out (by kernel_rfl)) (by decide) (fun K hK => ?_)
        refine goes_ Tryd.func63 (by kernel_rfl) rfl #[.int .i64 (wrap64 ((wrap64 (x1_1 + 1)) + 1))] (by rfl) rfl rfl (by (try simp only [List.map_toArray, List.map_cons, List.map_nil]); first | done | rfl | (simp only [List.length_drop, List.length_take]; rfl)) ?_
        with_reducible refine (laws_markText.calls k1 (wrap64 ((wrap64 (x1_1 + 1)) + 1)) t239 _ A7.out).mono ?_
        rintro e w15 ⟨rfl, hb⟩
        refine ⟨_, rfl, ?_⟩
        have n0_ := Aside0.mk (below_step (bs HB) hb)
        clear HB
        have HB := n0_
        clear n0_
        (try clear hb)
        (try clear hb2)
        (try clear hk)
        (try clear hi)
        refine hK.out _ _ ⟨((HB.out.cell (World.block_lt_of_cell? w _ hw238_0)).trans hw238_0), ((HB.out.cell (World.block_lt_of_cell? w _ hw238_1)).trans hw238_1), ((HB.out.cell (World.block_lt_of_cell? w _ hw238_2)).trans hw238_2), ((HB.out.cell (World.block_lt_of_cell? w _ hw238_3)).trans hw238_3)⟩ (fun hHeld => ?_)
        clear hK K
        refine norm_ (a' := ?_) ?_ ?_
        rotate_left
        ·
         show Act.put _ (some 36) _ = _
         simp only [Act.put, List.setIfInBounds_toArray, List.set_cons_zero, List.set_cons_succ, i64_w, i32_w]
         rfl
        refine pureS 7 37 HT_.out ?_
        refine done_ (done_of HT_.out (by kernel_rfl)) ?_
        try go_wp2
        go_ret
        exact ⟨by first | rfl | (simp [errW_none, errW_some] <;> rfl) | (simp [*, errW_none, errW_some] <;> rfl), bs HB⟩
      ·
       rw [if_neg c6] at H
       have c6b0 : (((rd_T26 l0 x5_1).f1) == (wrap64 (x1_1 + 1))) = false := beq_eq_false_iff_ne.mpr c6
       have c6b1 : (((rd_T26 l0 x5_1).f1) != (wrap64 (x1_1 + 1))) = true := bne_iff_ne.mpr c6
       obtain rfl := Option.some.inj H
       have p236 : 0 ≤ (x5_1 : Int) := of_decide_eq_true (by first | (with_reducible assumption) | assumption)
       have q236 : x5_1 < (l0.length : Int) := of_decide_eq_true (by first | (with_reducible assumption) | assumption)
       obtain ⟨ad236, e236, hx236_0, hx236_1, hx236_2, hx236_3⟩ := at_T26 HR0.out x5_1 p236 q236
       cases e236
       replace hx236_0 := (HB.out.cell (World.block_lt_of_cell? w _ hx236_0)).trans hx236_0
       replace hx236_1 := (HB.out.cell (World.block_lt_of_cell? w _ hx236_1)).trans hx236_1
       replace hx236_2 := (HB.out.cell (World.block_lt_of_cell? w _ hx236_2)).trans hx236_2
       replace hx236_3 := (HB.out.cell (World.block_lt_of_cell? w _ hx236_3)).trans hx236_3
       replace p236 := eq_true p236
       replace q236 := eq_true q236
       have p237 : 0 ≤ (x5_1 : Int) := of_decide_eq_true (by first | (with_reducible assumption) | assumption)
       have q237 : x5_1 < (l0.length : Int) := of_decide_eq_true (by first | (with_reducible assumption) | assumption)
       obtain ⟨ad237, e237, hx237_0, hx237_1, hx237_2, hx237_3⟩ := at_T26 HR0.out x5_1 p237 q237
       obtain rfl : ad236 = ad237 := (by injection e237)
       replace hx237_0 := (HB.out.cell (World.block_lt_of_cell? w _ hx237_0)).trans hx237_0
       replace hx237_1 := (HB.out.cell (World.block_lt_of_cell? w _ hx237_1)).trans hx237_1
       replace hx237_2 := (HB.out.cell (World.block_lt_of_cell? w _ hx237_2)).trans hx237_2
       replace hx237_3 := (HB.out.cell (World.block_lt_of_cell? w _ hx237_3)).trans hx237_3
       replace p237 := eq_true p237
       replace q237 := eq_true q237
       go_wp2
       go_ret
       exact ⟨by first | rfl | (simp [errW_none, errW_some] <;> rfl) | (simp [*, errW_none, errW_some] <;> rfl), bs HB⟩
     ·
      rw [if_neg c5] at H
      have c5b0 : (((rd_T26 l0 x5_1).f0) == x1_1) = false := beq_eq_false_iff_ne.mpr c5
      have c5b1 : (((rd_T26 l0 x5_1).f0) != x1_1) = true := bne_iff_ne.mpr c5
      obtain rfl := Option.some.inj H
      have p236 : 0 ≤ (x5_1 : Int) := of_decide_eq_true (by first | (with_reducible assumption) | assumption)
      have q236 : x5_1 < (l0.length : Int) := of_decide_eq_true (by first | (with_reducible assumption) | assumption)
      obtain ⟨ad236, e236, hx236_0, hx236_1, hx236_2, hx236_3⟩ := at_T26 HR0.out x5_1 p236 q236
      cases e236
      replace hx236_0 := (HB.out.cell (World.block_lt_of_cell? w _ hx236_0)).trans hx236_0
      replace hx236_1 := (HB.out.cell (World.block_lt_of_cell? w _ hx236_1)).trans hx236_1
      replace hx236_2 := (HB.out.cell (World.block_lt_of_cell? w _ hx236_2)).trans hx236_2
      replace hx236_3 := (HB.out.cell (World.block_lt_of_cell? w _ hx236_3)).trans hx236_3
      replace p236 := eq_true p236
      replace q236 := eq_true q236
      go_wp2
      go_ret
      exact ⟨by first | rfl | (simp [errW_none, errW_some] <;> rfl) | (simp [*, errW_none, errW_some] <;> rfl), bs HB⟩
    ·
     rw [if_neg c4] at H
     exact absurd H (by simp)
   ·
    rw [if_neg c3] at H
    have c3b0 : decide (x5_1 < (l0.length : Int)) = false := decide_eq_false c3
    clear c3
    obtain rfl := Option.some.inj H
    go_wp2
    go_ret
    exact ⟨by first | rfl | (simp [errW_none, errW_some] <;> rfl) | (simp [*, errW_none, errW_some] <;> rfl), bs HB⟩

/-! ### laws_heldRing: function 25 -/
def laws_heldRing.f (k : Nat) (l0_0 : List (S26)) (a0_1 : Int) (a0_2 : Int) (a0_3 : Int) (a1 : Int) : Option (Int) := (laws_heldSlotS.f k l0_0 a1).bind fun t242 => (if t242 < 0 then (some (-1)) else (some t242))
theorem laws_heldRing.mono : ∀ a0 a1 a2 a3 a4 k, LeO (laws_heldRing.f k a0 a1 a2 a3 a4) (laws_heldRing.f (k + 1) a0 a1 a2 a3 a4) := by
 intro a0 a1 a2 a3 a4 k
 unfold laws_heldRing.f
 repeat' first
   | (with_reducible exact laws_heldSlotS.mono _ _ _)
   | (with_reducible exact LeO.refl _)
   | (with_reducible exact LeO.none _)
   | (with_reducible refine LeO.ite ?_ ?_)
   | (with_reducible refine LeO.bind ?_ (fun _ => ?_))
   | exact laws_heldSlotS.mono _ _ _
   | exact LeO.none _
   | refine LeO.ite ?_ ?_
   | refine LeO.bind ?_ (fun _ => ?_)
set_option maxHeartbeats 8000000 in
set_option maxRecDepth 100000 in
theorem laws_heldRing.calls (k : Nat) (A0_0 : Option Addr) (c0_0 : Nat) (l0_0 : List (S26)) (a0_1 : Int) (a0_2 : Int) (a0_3 : Int) (a1 : Int) (r : Int) (w : World) (hr0_0 : Kd.C k26 w A0_0 l0_0.length l0_0) (hc0_0 : l0_0.length ≤ c0_0) (h : laws_heldRing.f k l0_0 a0_1 a0_2 a0_3 a1 = some r) :
  Calls Tryd.prog 25 #[.agg #[.slice A0_0 l0_0.length c0_0, .int .i64 a0_1, .int .i64 a0_2, .int .i64 a0_3], .int .i64 a1] w fun e w' => e = .returned (.int .i64 r) ∧ Below w.heap.size w w' := by
 have hu36 := Tryd.underlying36
 have HR0_0 := Aside0.mk hr0_0
 have HC0_0 := Aside0.mk hc0_0
 clear hr0_0 hc0_0
 have HB := Aside0.mk (Below.refl w.heap.size w)
 have H : ((laws_heldSlotS.f k l0_0 a1).bind fun t242 => (if t242 < 0 then (some (-1)) else (some t242))) = some r := h
 clear h
 replace H := Option.bind_eq_some_iff.mp H
 obtain ⟨t242, A30, H⟩ := H
 replace H : (if t242 < 0 then (some (-1)) else (some t242)) = some r := H
 have A3 := Aside0.mk A30
 clear A30
 by_cases c4 : t242 < 0
 ·
  rw [if_pos c4] at H
  have c4b0 : decide (t242 < 0) = true := decide_eq_true c4
  clear c4
  obtain rfl := Option.some.inj H
  go_enter Tryd.func25, Tryd.ntmps25
  go_wp2_with (first | ((with_reducible refine gate_dst (N := 2) rfl ?_); refine box_event ?hg (N := 2) ?hd (cs := #[.slice A0_0 l0_0.length c0_0, .int .i64 a0_1, .int .i64 a0_2, .int .i64 a0_3]) (t := 36) ?hr ?_; (case hd => rfl); (case hg => rfl); (case hr => first | (go_simp; done) | (go_simp; rfl)); intro gb241 hg w5 hbox hb; have BK241 := Aside0.mk (hbox); have GW241 := Aside0.mk ((by rw [hg]; exact (below_size (bs HB)) : w.heap.size ≤ gb241)); have GE241 := Aside0.mk ((by rw [hg]; exact (below_size (bs HB)) : w.heap.size ≤ gb241)); replace HB := Aside0.mk (below_step (bs HB) hb); clear hb hbox hg; obtain ⟨hcz6_0, hcz6_1, hcz6_2, hcz6_3⟩ := cz4 BK241; obtain ⟨hfz6_0, hfz6_1, hfz6_2, hfz6_3⟩ := fz4 BK241) | ((with_reducible refine gate_callee (f := 62) rfl ?_); refine gL (some 8) rfl rfl Tryd.func62 (by kernel_rfl) rfl #[.slice A0_0 l0_0.length c0_0, .int .i64 a1] rfl ?_; (with_reducible refine (laws_heldSlotS.calls k _ _ l0_0 a1 t242 _ ?side1 ?side2 A3.out).mono ?_); (case side1 => exact cb HR0_0 HB); (case side2 => exact HC0_0.out); rintro e w7 ⟨rfl, hb⟩; refine ⟨_, rfl, ?_⟩; replace BK241 := nb BK241 hb; replace HB := Aside0.mk (below_step (bs1 HB GE241) hb); (try clear hb); (try clear hb2); (try clear hk); (try clear hi)))
  go_ret
  exact ⟨by first | rfl | (simp [errW_none, errW_some] <;> rfl) | (simp [*, errW_none, errW_some] <;> rfl), bs1 HB GE241⟩
 ·
  rw [if_neg c4] at H
  have c4b0 : decide (t242 < 0) = false := decide_eq_false c4
  clear c4
  obtain rfl := Option.some.inj H
  go_enter Tryd.func25, Tryd.ntmps25
  go_wp2_with (first | ((with_reducible refine gate_dst (N := 2) rfl ?_); refine box_event ?hg (N := 2) ?hd (cs := #[.slice A0_0 l0_0.length c0_0, .int .i64 a0_1, .int .i64 a0_2, .int .i64 a0_3]) (t := 36) ?hr ?_; (case hd => rfl); (case hg => rfl); (case hr => first | (go_simp; done) | (go_simp; rfl)); intro gb241 hg w8 hbox hb; have BK241 := Aside0.mk (hbox); have GW241 := Aside0.mk ((by rw [hg]; exact (below_size (bs HB)) : w.heap.size ≤ gb241)); have GE241 := Aside0.mk ((by rw [hg]; exact (below_size (bs HB)) : w.heap.size ≤ gb241)); replace HB := Aside0.mk (below_step (bs HB) hb); clear hb hbox hg; obtain ⟨hcz9_0, hcz9_1, hcz9_2, hcz9_3⟩ := cz4 BK241; obtain ⟨hfz9_0, hfz9_1, hfz9_2, hfz9_3⟩ := fz4 BK241) | ((with_reducible refine gate_callee (f := 62) rfl ?_); refine gL (some 8) rfl rfl Tryd.func62 (by kernel_rfl) rfl #[.slice A0_0 l0_0.length c0_0, .int .i64 a1] rfl ?_; (with_reducible refine (laws_heldSlotS.calls k _ _ l0_0 a1 t242 _ ?side1 ?side2 A3.out).mono ?_); (case side1 => exact cb HR0_0 HB); (case side2 => exact HC0_0.out); rintro e w10 ⟨rfl, hb⟩; refine ⟨_, rfl, ?_⟩; replace BK241 := nb BK241 hb; replace HB := Aside0.mk (below_step (bs1 HB GE241) hb); (try clear hb); (try clear hb2); (try clear hk); (try clear hi)))
  go_ret
  exact ⟨by first | rfl | (simp [errW_none, errW_some] <;> rfl) | (simp [*, errW_none, errW_some] <;> rfl), bs1 HB GE241⟩

/-! ### laws_szSlotS: function 41 -/
def laws_szSlotS.l0 : Nat → List (S23) → Int → Int → Option (Int)
 | 0, _, _, _ => none
 | k + 1, x0, x1, x5 => if x5 < (x0.length : Int) then (if 0 ≤ x5 then ((laws_szSlot.f ((rd_T23 x0 x5).f0) ((rd_T23 x0 x5).f1) ((rd_T23 x0 x5).f2) ((rd_T23 x0 x5).f3) x1).bind fun t244 => (if t244 < 0 then (some (-1)) else (laws_szSlotS.l0 k x0 t244 (wrap64 (x5 + 1))))) else (none)) else (some x1)
def laws_szSlotS.f (k : Nat) (l0 : List (S23)) (a1 : Int) : Option (Int) := if (wrap64 (a1 - (l0.length : Int))) < 0 then (some (-1)) else (laws_szSlotS.l0 k l0 (wrap64 (a1 - (l0.length : Int))) 0)
theorem laws_szSlotS.mono_l : ∀ k, (∀ y0 y1 y2, LeO (laws_szSlotS.l0 k y0 y1 y2) (laws_szSlotS.l0 (k + 1) y0 y1 y2))
 | 0 => fun _ _ _ r h => by simp [laws_szSlotS.l0] at h
 | k + 1 => by
  have ih0 := laws_szSlotS.mono_l k
  ·
   intro y0 y1 y2
   unfold laws_szSlotS.l0
   repeat' first
   | (with_reducible exact ih0 _ _ _)
   | (with_reducible exact LeO.refl _)
   | (with_reducible exact LeO.none _)
   | (with_reducible refine LeO.ite ?_ ?_)
   | (with_reducible refine LeO.bind ?_ (fun _ => ?_))
   | exact ih0 _ _ _
   | exact LeO.none _
   | refine LeO.ite ?_ ?_
   | refine LeO.bind ?_ (fun _ => ?_)
theorem laws_szSlotS.mono : ∀ a0 a1 k, LeO (laws_szSlotS.f k a0 a1) (laws_szSlotS.f (k + 1) a0 a1) := by
 intro a0 a1 k
 have ih0 := laws_szSlotS.mono_l k
 unfold laws_szSlotS.f
 repeat' first
   | (with_reducible exact ih0 _ _ _)
   | (with_reducible exact LeO.refl _)
   | (with_reducible exact LeO.none _)
   | (with_reducible refine LeO.ite ?_ ?_)
   | (with_reducible refine LeO.bind ?_ (fun _ => ?_))
   | exact ih0 _ _ _
   | exact LeO.none _
   | refine LeO.ite ?_ ?_
   | refine LeO.bind ?_ (fun _ => ?_)
set_option maxHeartbeats 8000000 in
set_option maxRecDepth 100000 in
theorem laws_szSlotS.calls (k : Nat) (A0 : Option Addr) (c0 : Nat) (l0 : List (S23)) (a1 : Int) (r : Int) (w : World) (hr0 : Kd.C k23 w A0 l0.length l0) (hc0 : l0.length ≤ c0) (h : laws_szSlotS.f k l0 a1 = some r) :
  Calls Tryd.prog 41 #[.slice A0 l0.length c0, .int .i64 a1] w fun e w' => e = .returned (.int .i64 r) ∧ Below w.heap.size w w' := by
 have hu23 := Tryd.underlying23
 have HR0 := Aside0.mk hr0
 have HC0 := Aside0.mk hc0
 clear hr0 hc0
 have HB := Aside0.mk (Below.refl w.heap.size w)
 have H : (if (wrap64 (a1 - (l0.length : Int))) < 0 then (some (-1)) else (laws_szSlotS.l0 k l0 (wrap64 (a1 - (l0.length : Int))) 0)) = some r := h
 clear h
 by_cases c3 : (wrap64 (a1 - (l0.length : Int))) < 0
 ·
  rw [if_pos c3] at H
  have c3b0 : decide ((wrap64 (a1 - (l0.length : Int))) < 0) = true := decide_eq_true c3
  clear c3
  obtain rfl := Option.some.inj H
  go_enter Tryd.func41, Tryd.ntmps41
  go_wp2
  go_ret
  exact ⟨by first | rfl | (simp [errW_none, errW_some] <;> rfl) | (simp [*, errW_none, errW_some] <;> rfl), bs HB⟩
 ·
  rw [if_neg c3] at H
  have c3b0 : decide ((wrap64 (a1 - (l0.length : Int))) < 0) = false := decide_eq_false c3
  clear c3
  have H' := Aside0.mk H
  clear H
  go_enter Tryd.func41, Tryd.ntmps41
  go_wp2
  go_loopg [1, 5] k (fun kq v1 v5 w' => ∃ (x1_1 : Int) (x5_1 : Int), v1 = .int .i64 x1_1 ∧ v5 = .int .i64 x5_1 ∧ Aside0 (laws_szSlotS.l0 kq l0 x1_1 x5_1 = some r) ∧ Aside0 (kq ≤ k) ∧ Aside0 (Below w.heap.size w w'))
  case atStart => exact ⟨(wrap64 (a1 - (l0.length : Int))), (0), (by first | rfl | (simp; done) | (simp [*]; done)), (by first | rfl | (simp; done) | (simp [*]; done)), H', ⟨Nat.le_refl _⟩, ⟨bs HB⟩⟩
  case round =>
   clear H'
   try clear p2
   try clear c3
   try clear c3b0
   obtain ⟨x1_1, x5_1, rfl, rfl, HA, HK1, HB⟩ := hrel
   cases gk with
   | zero => exact absurd HA.out (by simp [laws_szSlotS.l0])
   | succ k1 =>
    have H := HA.out
    clear HA
    simp only [laws_szSlotS.l0] at H
    by_cases c4 : x5_1 < (l0.length : Int)
    ·
     rw [if_pos c4] at H
     have c4b0 : decide (x5_1 < (l0.length : Int)) = true := decide_eq_true c4
     clear c4
     by_cases c5 : 0 ≤ x5_1
     ·
      rw [if_pos c5] at H
      have c5b0 : decide (0 ≤ x5_1) = true := decide_eq_true c5
      clear c5
      replace H := Option.bind_eq_some_iff.mp H
      obtain ⟨t244, A60, H⟩ := H
      replace H : (if t244 < 0 then (some (-1)) else (laws_szSlotS.l0 k1 l0 t244 (wrap64 (x5_1 + 1)))) = some r := H
      have A6 := Aside0.mk A60
      clear A60
      by_cases c7 : t244 < 0
      ·
       rw [if_pos c7] at H
       have c7b0 : decide (t244 < 0) = true := decide_eq_true c7
       clear c7
       obtain rfl := Option.some.inj H
       have p243 : 0 ≤ (x5_1 : Int) := of_decide_eq_true (by first | (with_reducible assumption) | assumption)
       have q243 : x5_1 < (l0.length : Int) := of_decide_eq_true (by first | (with_reducible assumption) | assumption)
       obtain ⟨ad243, e243, hx243_0, hx243_1, hx243_2, hx243_3⟩ := at_T23 HR0.out x5_1 p243 q243
       cases e243
       replace hx243_0 := (HB.out.cell (World.block_lt_of_cell? w _ hx243_0)).trans hx243_0
       replace hx243_1 := (HB.out.cell (World.block_lt_of_cell? w _ hx243_1)).trans hx243_1
       replace hx243_2 := (HB.out.cell (World.block_lt_of_cell? w _ hx243_2)).trans hx243_2
       replace hx243_3 := (HB.out.cell (World.block_lt_of_cell? w _ hx243_3)).trans hx243_3
       replace p243 := eq_true p243
       replace q243 := eq_true q243
       go_wp2_with (first | ((with_reducible refine gate_callee (f := 13) rfl ?_); refine gL (some 23) rfl rfl Tryd.func13 (by kernel_rfl) rfl #[.agg #[.int .i64 ((rd_T23 l0 x5_1).f0), .int .i64 ((rd_T23 l0 x5_1).f1), .string ((rd_T23 l0 x5_1).f2), .int .i64 ((rd_T23 l0 x5_1).f3)], .int .i64 x1_1] rfl ?_; (with_reducible refine (laws_szSlot.calls ((rd_T23 l0 x5_1).f0) ((rd_T23 l0 x5_1).f1) ((rd_T23 l0 x5_1).f2) ((rd_T23 l0 x5_1).f3) x1_1 t244 _ A6.out).mono ?_); rintro e w8 ⟨rfl, hb⟩; refine ⟨_, rfl, ?_⟩; replace HB := Aside0.mk (below_step (bs HB) hb); (try clear hb); (try clear hb2); (try clear hk); (try clear hi)))
       go_ret
       exact ⟨by first | rfl | (simp [errW_none, errW_some] <;> rfl) | (simp [*, errW_none, errW_some] <;> rfl), bs HB⟩
      ·
       rw [if_neg c7] at H
       have c7b0 : decide (t244 < 0) = false := decide_eq_false c7
       clear c7
       have H' := Aside0.mk H
       clear H
       have p243 : 0 ≤ (x5_1 : Int) := of_decide_eq_true (by first | (with_reducible assumption) | assumption)
       have q243 : x5_1 < (l0.length : Int) := of_decide_eq_true (by first | (with_reducible assumption) | assumption)
       obtain ⟨ad243, e243, hx243_0, hx243_1, hx243_2, hx243_3⟩ := at_T23 HR0.out x5_1 p243 q243
       cases e243
       replace hx243_0 := (HB.out.cell (World.block_lt_of_cell? w _ hx243_0)).trans hx243_0
       replace hx243_1 := (HB.out.cell (World.block_lt_of_cell? w _ hx243_1)).trans hx243_1
       replace hx243_2 := (HB.out.cell (World.block_lt_of_cell? w _ hx243_2)).trans hx243_2
       replace hx243_3 := (HB.out.cell (World.block_lt_of_cell? w _ hx243_3)).trans hx243_3
       replace p243 := eq_true p243
       replace q243 := eq_true q243
       go_wp2_with (first | ((with_reducible refine gate_callee (f := 13) rfl ?_); refine gL (some 23) rfl rfl Tryd.func13 (by kernel_rfl) rfl #[.agg #[.int .i64 ((rd_T23 l0 x5_1).f0), .int .i64 ((rd_T23 l0 x5_1).f1), .string ((rd_T23 l0 x5_1).f2), .int .i64 ((rd_T23 l0 x5_1).f3)], .int .i64 x1_1] rfl ?_; (with_reducible refine (laws_szSlot.calls ((rd_T23 l0 x5_1).f0) ((rd_T23 l0 x5_1).f1) ((rd_T23 l0 x5_1).f2) ((rd_T23 l0 x5_1).f3) x1_1 t244 _ A6.out).mono ?_); rintro e w9 ⟨rfl, hb⟩; refine ⟨_, rfl, ?_⟩; replace HB := Aside0.mk (below_step (bs HB) hb); (try clear hb); (try clear hb2); (try clear hk); (try clear hi)))
       go_roundg k1
       case measure => have := HK1.out; omega
       case rel => exact ⟨(t244), (wrap64 (x5_1 + 1)), (by first | rfl | (simp; done) | (simp [*]; done)), (by first | rfl | (simp; done) | (simp [*]; done)), H', ⟨by have := HK1.out; omega⟩, ⟨bs HB⟩⟩
     ·
      rw [if_neg c5] at H
      exact absurd H (by simp)
    ·
     rw [if_neg c4] at H
     have c4b0 : decide (x5_1 < (l0.length : Int)) = false := decide_eq_false c4
     clear c4
     obtain rfl := Option.some.inj H
     go_wp2
     go_ret
     exact ⟨by first | rfl | (simp [errW_none, errW_some] <;> rfl) | (simp [*, errW_none, errW_some] <;> rfl), bs HB⟩

/-! ### spec_OpenRing: function 42 -/
mutual
def spec_OpenRing.l0 : Nat → List (S26) → Int → Int → List (S26) → Int → Int → Option ((List (S26)) × Int × Int × Int × Bool)
 | 0, _, _, _, _, _, _ => none
 | k + 1, x0, x4, x5, x19, x20, x21 => if x21 < x20 then (if 0 ≤ x21 then (if x21 < (x19.length : Int) then ((spec_l10Whole.f k ((rd_T26 x19 x21).f0) ((rd_T26 x19 x21).f1) ((rd_T26 x19 x21).f2) ((rd_T26 x19 x21).f3)).bind fun t249 => (if t249 = true then (if ((rd_T26 x19 x21).f0) > 0 then (if (wrap64 ((wrap64 ((wrap64 (((rd_T26 x19 x21).f0) - 1)) * x4)) + x21)) > x5 then (spec_OpenRing.l0 k x0 x4 (wrap64 ((wrap64 ((wrap64 (((rd_T26 x19 x21).f0) - 1)) * x4)) + x21)) x19 x20 (wrap64 (x21 + 1))) else (spec_OpenRing.l0 k x0 x4 x5 x19 x20 (wrap64 (x21 + 1)))) else (spec_OpenRing.l0 k x0 x4 x5 x19 x20 (wrap64 (x21 + 1)))) else (spec_OpenRing.l0 k x0 x4 x5 x19 x20 (wrap64 (x21 + 1))))) else (none)) else (none)) else ((spec_NewRing.f k x4).bind fun bt250 => (if x5 < 0 then (some (bt250.1, bt250.2.1, bt250.2.2.1, bt250.2.2.2.1, true)) else (if x4 = 0 then (none) else (spec_OpenRing.l1 k x0 x4 x5 x5 x5 bt250.1 (wrap64 (x5 + 1)) (wrap64 ((wrap64 (Int.tdiv (wrap64 (x5 + 1)) x4)) + 1)) bt250.2.2.2.1))))
def spec_OpenRing.j3 : Nat → List (S26) → Int → Int → Int → List (S26) → Int → Int → Int → Option ((List (S26)) × Int × Int × Int × Bool)
 | 0, _, _, _, _, _, _, _, _ => none
 | k + 1, x0, x4, x5, x10, x258000, x258001, x258002, x258003 => if x4 = 0 then (none) else (if 0 ≤ (Int.tmod x5 x4) then (if (Int.tmod x5 x4) < (x0.length : Int) then (if ((rd_T26 x0 (Int.tmod x5 x4)).f1) < x10 then ((spec_GoodRing.f k x258000 x258001 x258002 x10).bind fun t263 => (if t263 = true then (some (x258000, x258001, x258002, x10, true)) else (some (([] : List (S26)), 0, 0, 0, false)))) else ((spec_GoodRing.f k x258000 x258001 x258002 ((rd_T26 x0 (Int.tmod x5 x4)).f1)).bind fun t264 => (if t264 = true then (some (x258000, x258001, x258002, (rd_T26 x0 (Int.tmod x5 x4)).f1, true)) else (some (([] : List (S26)), 0, 0, 0, false))))) else (none)) else (none))
def spec_OpenRing.l1 : Nat → List (S26) → Int → Int → Int → Int → List (S26) → Int → Int → Int → Option ((List (S26)) × Int × Int × Int × Bool)
 | 0, _, _, _, _, _, _, _, _, _ => none
 | k + 1, x0, x4, x5, x10, x11, x258000, x258001, x258002, x258003 => if x11 ≥ 0 then (spec_OpenRing.j2 k x0 x4 x5 x10 x11 (decide (x11 > (wrap64 (x5 - x4)))) x258000 x258001 x258002 x258003) else (spec_OpenRing.j2 k x0 x4 x5 x10 x11 false x258000 x258001 x258002 x258003)
def spec_OpenRing.j2 : Nat → List (S26) → Int → Int → Int → Int → Bool → List (S26) → Int → Int → Int → Option ((List (S26)) × Int × Int × Int × Bool)
 | 0, _, _, _, _, _, _, _, _, _, _ => none
 | k + 1, x0, x4, x5, x10, x11, x79, x258000, x258001, x258002, x258003 => if x79 = true then (if x4 = 0 then (none) else (if 0 ≤ (Int.tmod x11 x4) then (if (Int.tmod x11 x4) < (x0.length : Int) then ((spec_l10Whole.f k ((rd_T26 x0 (Int.tmod x11 x4)).f0) ((rd_T26 x0 (Int.tmod x11 x4)).f1) ((rd_T26 x0 (Int.tmod x11 x4)).f2) ((rd_T26 x0 (Int.tmod x11 x4)).f3)).bind fun t260 => (if t260 = true then (if ((rd_T26 x0 (Int.tmod x11 x4)).f0) = (wrap64 ((wrap64 (Int.tdiv x11 x4)) + 1)) then (if (Int.tmod x11 x4) < (x258000.length : Int) then (spec_OpenRing.l1 k x0 x4 x5 x11 (wrap64 (x11 - 1)) (x258000.set ((Int.tmod x11 x4) : Int).toNat (⟨(rd_T26 x0 (Int.tmod x11 x4)).f0, (rd_T26 x0 (Int.tmod x11 x4)).f1, (rd_T26 x0 (Int.tmod x11 x4)).f2, (rd_T26 x0 (Int.tmod x11 x4)).f3⟩ : S26)) x258001 x258002 x258003) else (none)) else (spec_OpenRing.j3 k x0 x4 x5 x10 x258000 x258001 x258002 x258003)) else (spec_OpenRing.j3 k x0 x4 x5 x10 x258000 x258001 x258002 x258003))) else (none)) else (none))) else (spec_OpenRing.j3 k x0 x4 x5 x10 x258000 x258001 x258002 x258003)
end
def spec_OpenRing.f (k : Nat) (l0 : List (S26)) : Option ((List (S26)) × Int × Int × Int × Bool) := (spec_l1In.f (l0.length : Int) 2 24).bind fun t246 => (if t246 = true then (spec_OpenRing.l0 k l0 (l0.length : Int) (-1) l0 (l0.length : Int) 0) else (some (([] : List (S26)), 0, 0, 0, false)))
theorem spec_OpenRing.mono_l : ∀ k, (∀ y0 y1 y2 y3 y4 y5, LeO (spec_OpenRing.l0 k y0 y1 y2 y3 y4 y5) (spec_OpenRing.l0 (k + 1) y0 y1 y2 y3 y4 y5)) ∧ (∀ y0 y1 y2 y3 y4 y5 y6 y7, LeO (spec_OpenRing.j3 k y0 y1 y2 y3 y4 y5 y6 y7) (spec_OpenRing.j3 (k + 1) y0 y1 y2 y3 y4 y5 y6 y7)) ∧ (∀ y0 y1 y2 y3 y4 y5 y6 y7 y8, LeO (spec_OpenRing.l1 k y0 y1 y2 y3 y4 y5 y6 y7 y8) (spec_OpenRing.l1 (k + 1) y0 y1 y2 y3 y4 y5 y6 y7 y8)) ∧ (∀ y0 y1 y2 y3 y4 y5 y6 y7 y8 y9, LeO (spec_OpenRing.j2 k y0 y1 y2 y3 y4 y5 y6 y7 y8 y9) (spec_OpenRing.j2 (k + 1) y0 y1 y2 y3 y4 y5 y6 y7 y8 y9))
 | 0 => ⟨fun _ _ _ _ _ _ r h => by simp [spec_OpenRing.l0] at h, fun _ _ _ _ _ _ _ _ r h => by simp [spec_OpenRing.j3] at h, fun _ _ _ _ _ _ _ _ _ r h => by simp [spec_OpenRing.l1] at h, fun _ _ _ _ _ _ _ _ _ _ r h => by simp [spec_OpenRing.j2] at h⟩
 | k + 1 => by
  obtain ⟨ih0, ih1, ih2, ih3⟩ := spec_OpenRing.mono_l k
  refine ⟨?_, ?_, ?_, ?_⟩
  ·
   intro y0 y1 y2 y3 y4 y5
   unfold spec_OpenRing.l0
   repeat' first
   | (with_reducible exact ih0 _ _ _ _ _ _)
   | (with_reducible exact ih1 _ _ _ _ _ _ _ _)
   | (with_reducible exact ih2 _ _ _ _ _ _ _ _ _)
   | (with_reducible exact ih3 _ _ _ _ _ _ _ _ _ _)
   | (with_reducible exact spec_GoodRing.mono _ _ _ _ _)
   | (with_reducible exact spec_NewRing.mono _ _)
   | (with_reducible exact spec_l10Whole.mono _ _ _ _ _)
   | (with_reducible exact LeO.refl _)
   | (with_reducible exact LeO.none _)
   | (with_reducible refine LeO.ite ?_ ?_)
   | (with_reducible refine LeO.bind ?_ (fun _ => ?_))
   | exact ih0 _ _ _ _ _ _
   | exact ih1 _ _ _ _ _ _ _ _
   | exact ih2 _ _ _ _ _ _ _ _ _
   | exact ih3 _ _ _ _ _ _ _ _ _ _
   | exact spec_GoodRing.mono _ _ _ _ _
   | exact spec_NewRing.mono _ _
   | exact spec_l10Whole.mono _ _ _ _ _
   | exact LeO.none _
   | refine LeO.ite ?_ ?_
   | refine LeO.bind ?_ (fun _ => ?_)
  ·
   intro y0 y1 y2 y3 y4 y5 y6 y7
   unfold spec_OpenRing.j3
   repeat' first
   | (with_reducible exact ih0 _ _ _ _ _ _)
   | (with_reducible exact ih1 _ _ _ _ _ _ _ _)
   | (with_reducible exact ih2 _ _ _ _ _ _ _ _ _)
   | (with_reducible exact ih3 _ _ _ _ _ _ _ _ _ _)
   | (with_reducible exact spec_GoodRing.mono _ _ _ _ _)
   | (with_reducible exact spec_NewRing.mono _ _)
   | (with_reducible exact spec_l10Whole.mono _ _ _ _ _)
   | (with_reducible exact LeO.refl _)
   | (with_reducible exact LeO.none _)
   | (with_reducible refine LeO.ite ?_ ?_)
   | (with_reducible refine LeO.bind ?_ (fun _ => ?_))
   | exact ih0 _ _ _ _ _ _
   | exact ih1 _ _ _ _ _ _ _ _
   | exact ih2 _ _ _ _ _ _ _ _ _
   | exact ih3 _ _ _ _ _ _ _ _ _ _
   | exact spec_GoodRing.mono _ _ _ _ _
   | exact spec_NewRing.mono _ _
   | exact spec_l10Whole.mono _ _ _ _ _
   | exact LeO.none _
   | refine LeO.ite ?_ ?_
   | refine LeO.bind ?_ (fun _ => ?_)
  ·
   intro y0 y1 y2 y3 y4 y5 y6 y7 y8
   unfold spec_OpenRing.l1
   repeat' first
   | (with_reducible exact ih0 _ _ _ _ _ _)
   | (with_reducible exact ih1 _ _ _ _ _ _ _ _)
   | (with_reducible exact ih2 _ _ _ _ _ _ _ _ _)
   | (with_reducible exact ih3 _ _ _ _ _ _ _ _ _ _)
   | (with_reducible exact spec_GoodRing.mono _ _ _ _ _)
   | (with_reducible exact spec_NewRing.mono _ _)
   | (with_reducible exact spec_l10Whole.mono _ _ _ _ _)
   | (with_reducible exact LeO.refl _)
   | (with_reducible exact LeO.none _)
   | (with_reducible refine LeO.ite ?_ ?_)
   | (with_reducible refine LeO.bind ?_ (fun _ => ?_))
   | exact ih0 _ _ _ _ _ _
   | exact ih1 _ _ _ _ _ _ _ _
   | exact ih2 _ _ _ _ _ _ _ _ _
   | exact ih3 _ _ _ _ _ _ _ _ _ _
   | exact spec_GoodRing.mono _ _ _ _ _
   | exact spec_NewRing.mono _ _
   | exact spec_l10Whole.mono _ _ _ _ _
   | exact LeO.none _
   | refine LeO.ite ?_ ?_
   | refine LeO.bind ?_ (fun _ => ?_)
  ·
   intro y0 y1 y2 y3 y4 y5 y6 y7 y8 y9
   unfold spec_OpenRing.j2
   repeat' first
   | (with_reducible exact ih0 _ _ _ _ _ _)
   | (with_reducible exact ih1 _ _ _ _ _ _ _ _)
   | (with_reducible exact ih2 _ _ _ _ _ _ _ _ _)
   | (with_reducible exact ih3 _ _ _ _ _ _ _ _ _ _)
   | (with_reducible exact spec_GoodRing.mono _ _ _ _ _)
   | (with_reducible exact spec_NewRing.mono _ _)
   | (with_reducible exact spec_l10Whole.mono _ _ _ _ _)
   | (with_reducible exact LeO.refl _)
   | (with_reducible exact LeO.none _)
   | (with_reducible refine LeO.ite ?_ ?_)
   | (with_reducible refine LeO.bind ?_ (fun _ => ?_))
   | exact ih0 _ _ _ _ _ _
   | exact ih1 _ _ _ _ _ _ _ _
   | exact ih2 _ _ _ _ _ _ _ _ _
   | exact ih3 _ _ _ _ _ _ _ _ _ _
   | exact spec_GoodRing.mono _ _ _ _ _
   | exact spec_NewRing.mono _ _
   | exact spec_l10Whole.mono _ _ _ _ _
   | exact LeO.none _
   | refine LeO.ite ?_ ?_
   | refine LeO.bind ?_ (fun _ => ?_)
theorem spec_OpenRing.mono : ∀ a0 k, LeO (spec_OpenRing.f k a0) (spec_OpenRing.f (k + 1) a0) := by
 intro a0 k
 obtain ⟨ih0, ih1, ih2, ih3⟩ := spec_OpenRing.mono_l k
 unfold spec_OpenRing.f
 repeat' first
   | (with_reducible exact ih0 _ _ _ _ _ _)
   | (with_reducible exact ih1 _ _ _ _ _ _ _ _)
   | (with_reducible exact ih2 _ _ _ _ _ _ _ _ _)
   | (with_reducible exact ih3 _ _ _ _ _ _ _ _ _ _)
   | (with_reducible exact spec_GoodRing.mono _ _ _ _ _)
   | (with_reducible exact spec_NewRing.mono _ _)
   | (with_reducible exact spec_l10Whole.mono _ _ _ _ _)
   | (with_reducible exact LeO.refl _)
   | (with_reducible exact LeO.none _)
   | (with_reducible refine LeO.ite ?_ ?_)
   | (with_reducible refine LeO.bind ?_ (fun _ => ?_))
   | exact ih0 _ _ _ _ _ _
   | exact ih1 _ _ _ _ _ _ _ _
   | exact ih2 _ _ _ _ _ _ _ _ _
   | exact ih3 _ _ _ _ _ _ _ _ _ _
   | exact spec_GoodRing.mono _ _ _ _ _
   | exact spec_NewRing.mono _ _
   | exact spec_l10Whole.mono _ _ _ _ _
   | exact LeO.none _
   | refine LeO.ite ?_ ?_
   | refine LeO.bind ?_ (fun _ => ?_)
def spec_OpenRing.T21 : Bool × List (List Nat × List Nat) := (true, [([], []), ([0], [0]), ([1], [1]), ([2, 1], [2]), ([3], [3]), ([4, 3], [3, 4]), ([3], [3]), ([3], [3]), ([6, 7, 3], [3, 6, 7]), ([8, 3], [3, 8]), ([5, 9, 3], [3, 5, 9]), ([3, 10], [3, 10])])
def spec_OpenRing.B21 : List Nat := [0, 1, 3, 7, 15, 31, 15, 15, 207, 463, 1023, 2047]
theorem spec_OpenRing.tab21 : rtab .any (opsOf Tryd.f42 21) = spec_OpenRing.T21 := by kernel_rfl
theorem spec_OpenRing.bits21 : waitsOk spec_OpenRing.T21.2 spec_OpenRing.B21 = true := by kernel_rfl
def spec_OpenRing.T22 : Bool × List (List Nat × List Nat) := (true, [([], []), ([0], [0]), ([], []), ([], []), ([2, 3], [2, 3]), ([], []), ([1, 4, 0, 1, 2, 3, 4, 5], [1, 4]), ([6, 5, 0, 1, 2, 3, 4, 5], [5, 6])])
def spec_OpenRing.B22 : List Nat := [0, 1, 0, 0, 12, 0, 63, 127]
theorem spec_OpenRing.tab22 : rtab .any (opsOf Tryd.f42 22) = spec_OpenRing.T22 := by kernel_rfl
theorem spec_OpenRing.bits22 : waitsOk spec_OpenRing.T22.2 spec_OpenRing.B22 = true := by kernel_rfl
set_option maxHeartbeats 8000000 in
set_option maxRecDepth 100000 in
theorem spec_OpenRing.calls (k : Nat) (A0 : Option Addr) (c0 : Nat) (l0 : List (S26)) (r1 : List (S26)) (r2 : Int) (r3 : Int) (r4 : Int) (r5 : Bool) (w : World) (hr0 : Kd.C k26 w A0 l0.length l0) (hc0 : l0.length ≤ c0) (h : spec_OpenRing.f k l0 = some (r1, r2, r3, r4, r5)) :
  Calls Tryd.prog 42 #[.slice A0 l0.length c0] w fun e w' => ∃ v0_ : Value, e = .returned (.tuple #[.agg #[v0_, .int .i64 r2, .int .i64 r3, .int .i64 r4], .bool r5]) ∧ Kd.R k26 26 w' w.heap.size (fun _ => True) v0_ r1 ∧ Below w.heap.size w w' := by
 have hu36 := Tryd.underlying36
 have hu26 := Tryd.underlying26
 have HR0 := Aside0.mk hr0
 have HC0 := Aside0.mk hc0
 clear hr0 hc0
 have HB := Aside0.mk (Below.refl w.heap.size w)
 have H : ((spec_l1In.f (l0.length : Int) 2 24).bind fun t246 => (if t246 = true then (spec_OpenRing.l0 k l0 (l0.length : Int) (-1) l0 (l0.length : Int) 0) else (some (([] : List (S26)), 0, 0, 0, false)))) = some (r1, r2, r3, r4, r5) := h
 clear h
 replace H := Option.bind_eq_some_iff.mp H
 obtain ⟨t246, A20, H⟩ := H
 replace H : (if t246 = true then (spec_OpenRing.l0 k l0 (l0.length : Int) (-1) l0 (l0.length : Int) 0) else (some (([] : List (S26)), 0, 0, 0, false))) = some (r1, r2, r3, r4, r5) := H
 have A2 := Aside0.mk A20
 clear A20
 by_cases c3 : t246 = true
 ·
  subst c3
  rw [if_pos rfl] at H
  have H' := Aside0.mk H
  clear H
  go_enter Tryd.func42, Tryd.ntmps42
  go_wp2_with (first | ((with_reducible refine gate_dst (N := 2) rfl ?_); refine box_event ?hg (N := 2) ?hd (cs := #[.slice none 0 0, .int .i64 0, .int .i64 0, .int .i64 0]) (t := 36) ?hr ?_; (case hd => rfl); (case hg => rfl); (case hr => first | (go_simp; done) | (go_simp; rfl)); intro gb245 hg w4 hbox hb; have BK245 := Aside0.mk (hbox); have GW245 := Aside0.mk ((by rw [hg]; exact (below_size (bs HB)) : w.heap.size ≤ gb245)); have GE245 := Aside0.mk ((by rw [hg]; exact (below_size (bs HB)) : w.heap.size ≤ gb245)); replace HB := Aside0.mk (below_step (bs HB) hb); clear hb hbox hg) | ((with_reducible refine gate_callee (f := 55) rfl ?_); refine gL (some 16) rfl rfl Tryd.func55 (by kernel_rfl) rfl #[.int .i64 (l0.length : Int), .int .i64 2, .int .i64 24] rfl ?_; (with_reducible refine (spec_l1In.calls (l0.length : Int) 2 24 true _ A2.out).mono ?_); rintro e w' ⟨rfl, ⟨nd, rfl⟩⟩; refine ⟨_, rfl, ?_⟩))
  go_loopg [5, 21] k (fun kq v5 v21 w' => ∃ (x5_1 : Int) (x21_1 : Int), v5 = .int .i64 x5_1 ∧ v21 = .int .i64 x21_1 ∧ Aside0 (spec_OpenRing.l0 kq l0 (l0.length : Int) x5_1 l0 (l0.length : Int) x21_1 = some (r1, r2, r3, r4, r5)) ∧ Aside0 (kq ≤ k) ∧ Aside0 (w'.heap[gb245]? = some (.cells #[(.slice none 0 0), .int .i64 0, .int .i64 0, .int .i64 0] 36 (0, 0))) ∧ Aside0 (Below w.heap.size w w'))
  case atStart => exact ⟨((-1)), (0), (by first | rfl | (simp; done) | (simp [*]; done)), (by first | rfl | (simp; done) | (simp [*]; done)), H', ⟨Nat.le_refl _⟩, ⟨bk BK245⟩, ⟨bs1 HB GE245⟩⟩
  case round =>
   clear H'
   try clear p2
   try clear c3
   try clear c4
   obtain ⟨x5_1, x21_1, rfl, rfl, HA, HK1, BK245, HB⟩ := hrel
   cases gk with
   | zero => exact absurd HA.out (by simp [spec_OpenRing.l0])
   | succ k1 =>
    have H := HA.out
    clear HA
    simp only [spec_OpenRing.l0] at H
    by_cases c5 : x21_1 < (l0.length : Int)
    ·
     rw [if_pos c5] at H
     have c5b0 : decide (x21_1 < (l0.length : Int)) = true := decide_eq_true c5
     clear c5
     by_cases c6 : 0 ≤ x21_1
     ·
      rw [if_pos c6] at H
      have c6b0 : decide (0 ≤ x21_1) = true := decide_eq_true c6
      clear c6
      by_cases c7 : x21_1 < (l0.length : Int)
      ·
       rw [if_pos c7] at H
       have c7b0 : decide (x21_1 < (l0.length : Int)) = true := decide_eq_true c7
       clear c7
       replace H := Option.bind_eq_some_iff.mp H
       obtain ⟨t249, A80, H⟩ := H
       replace H : (if t249 = true then (if ((rd_T26 l0 x21_1).f0) > 0 then (if (wrap64 ((wrap64 ((wrap64 (((rd_T26 l0 x21_1).f0) - 1)) * (l0.length : Int))) + x21_1)) > x5_1 then (spec_OpenRing.l0 k1 l0 (l0.length : Int) (wrap64 ((wrap64 ((wrap64 (((rd_T26 l0 x21_1).f0) - 1)) * (l0.length : Int))) + x21_1)) l0 (l0.length : Int) (wrap64 (x21_1 + 1))) else (spec_OpenRing.l0 k1 l0 (l0.length : Int) x5_1 l0 (l0.length : Int) (wrap64 (x21_1 + 1)))) else (spec_OpenRing.l0 k1 l0 (l0.length : Int) x5_1 l0 (l0.length : Int) (wrap64 (x21_1 + 1)))) else (spec_OpenRing.l0 k1 l0 (l0.length : Int) x5_1 l0 (l0.length : Int) (wrap64 (x21_1 + 1)))) = some (r1, r2, r3, r4, r5) := H
       have A8 := Aside0.mk A80
       clear A80
       by_cases c9 : t249 = true
       ·
        subst c9
        rw [if_pos rfl] at H
        by_cases c10 : ((rd_T26 l0 x21_1).f0) > 0
        ·
         rw [if_pos c10] at H
         have c10b0 : decide (0 < ((rd_T26 l0 x21_1).f0)) = true := decide_eq_true c10
         clear c10
         by_cases c11 : (wrap64 ((wrap64 ((wrap64 (((rd_T26 l0 x21_1).f0) - 1)) * (l0.length : Int))) + x21_1)) > x5_1
         ·
          rw [if_pos c11] at H
          have c11b0 : decide (x5_1 < (wrap64 ((wrap64 ((wrap64 (((rd_T26 l0 x21_1).f0) - 1)) * (l0.length : Int))) + x21_1))) = true := decide_eq_true c11
          clear c11
          have H' := Aside0.mk H
          clear H
          have p247 : 0 ≤ (x21_1 : Int) := of_decide_eq_true (by first | (with_reducible assumption) | assumption)
          have q247 : x21_1 < (l0.length : Int) := of_decide_eq_true (by first | (with_reducible assumption) | assumption)
          obtain ⟨ad247, e247, hx247_0, hx247_1, hx247_2, hx247_3⟩ := at_T26 HR0.out x21_1 p247 q247
          cases e247
          replace hx247_0 := (HB.out.cell (World.block_lt_of_cell? w _ hx247_0)).trans hx247_0
          replace hx247_1 := (HB.out.cell (World.block_lt_of_cell? w _ hx247_1)).trans hx247_1
          replace hx247_2 := (HB.out.cell (World.block_lt_of_cell? w _ hx247_2)).trans hx247_2
          replace hx247_3 := (HB.out.cell (World.block_lt_of_cell? w _ hx247_3)).trans hx247_3
          replace p247 := eq_true p247
          replace q247 := eq_true q247
          go_wp2_with (first | ((with_reducible refine gate_dst (N := 7) rfl ?_); refine box_event ?hg (N := 7) ?hd (cs := #[.int .i64 0, .int .i64 0, .string (⟨#[]⟩ : ByteArray), .int .i64 0]) (t := 26) ?hr ?_; (case hd => rfl); (case hg => rfl); (case hr => first | (go_simp; done) | (go_simp; rfl)); intro gb248 hg w12 hbox hb; have BK248 := Aside0.mk (hbox); have GW248 := Aside0.mk ((by rw [hg]; exact (below_size (bs1 HB GE245)) : w.heap.size ≤ gb248)); have GE248 := Aside0.mk ((by rw [hg]; exact (below_size (bs1 HB GE245)) : w.heap.size ≤ gb248)); replace HB := Aside0.mk (below_step (bs1 HB GE245) hb); have NB245_248 := Aside0.mk ((bn BK245 hg : gb245 ≠ gb248)); have NB248_245 := Aside0.mk ((bm BK245 hg : gb248 ≠ gb245)); replace BK245 := nb BK245 hb; clear hb hbox hg; have hnb13 := NB248_245.out; have hnc13 := NB245_248.out; obtain ⟨hcz14_0, hcz14_1, hcz14_2, hcz14_3⟩ := cz4 BK248; obtain ⟨hfz14_0, hfz14_1, hfz14_2, hfz14_3⟩ := fz4 BK248) | ((with_reducible refine gate_callee (f := 57) rfl ?_); refine gL (some 27) rfl rfl Tryd.func57 (by kernel_rfl) rfl #[.agg #[.int .i64 ((rd_T26 l0 x21_1).f0), .int .i64 ((rd_T26 l0 x21_1).f1), .string ((rd_T26 l0 x21_1).f2), .int .i64 ((rd_T26 l0 x21_1).f3)]] rfl ?_; (with_reducible refine (spec_l10Whole.calls k1 ((rd_T26 l0 x21_1).f0) ((rd_T26 l0 x21_1).f1) ((rd_T26 l0 x21_1).f2) ((rd_T26 l0 x21_1).f3) true _ A8.out).mono ?_); rintro e w15 ⟨rfl, hb⟩; refine ⟨_, rfl, ?_⟩; replace BK245 := Aside0.mk (blk_below (bf BK245 NB245_248) hb); replace BK248 := Aside0.mk (blk_below (g := gb248) (o := .cells #[.int .i64 ((rd_T26 l0 x21_1).f0), .int .i64 ((rd_T26 l0 x21_1).f1), .string ((rd_T26 l0 x21_1).f2), .int .i64 ((rd_T26 l0 x21_1).f3)] 26 (0, 0)) (by (with_reducible repeat (first | refine blk_drewN ?_ _ | refine blk_drew ?_ | refine blk_alloc ?_ _)); refine blk_put (cs := #[.int .i64 ((rd_T26 l0 x21_1).f0), .int .i64 ((rd_T26 l0 x21_1).f1), .string ((rd_T26 l0 x21_1).f2), .int .i64 0]) ?_ 3 _ rfl; (with_reducible repeat (first | refine blk_drewN ?_ _ | refine blk_drew ?_ | refine blk_alloc ?_ _)); refine blk_put (cs := #[.int .i64 ((rd_T26 l0 x21_1).f0), .int .i64 ((rd_T26 l0 x21_1).f1), .string (⟨#[]⟩ : ByteArray), .int .i64 0]) ?_ 2 _ rfl; (with_reducible repeat (first | refine blk_drewN ?_ _ | refine blk_drew ?_ | refine blk_alloc ?_ _)); refine blk_put (cs := #[.int .i64 ((rd_T26 l0 x21_1).f0), .int .i64 0, .string (⟨#[]⟩ : ByteArray), .int .i64 0]) ?_ 1 _ rfl; (with_reducible repeat (first | refine blk_drewN ?_ _ | refine blk_drew ?_ | refine blk_alloc ?_ _)); refine blk_put (cs := #[.int .i64 0, .int .i64 0, .string (⟨#[]⟩ : ByteArray), .int .i64 0]) ?_ 0 _ rfl; (with_reducible repeat (first | refine blk_drewN ?_ _ | refine blk_drew ?_ | refine blk_alloc ?_ _)); exact BK248.out) hb); replace HB := Aside0.mk (below_step (bs2 HB GE245 GE248) hb); (try clear hb); (try clear hb2); (try clear hk); (try clear hi); obtain ⟨hcz16_0, hcz16_1, hcz16_2, hcz16_3⟩ := cz4 BK248; obtain ⟨hfz16_0, hfz16_1, hfz16_2, hfz16_3⟩ := fz4 BK248))
          go_roundg k1
          case measure => have := HK1.out; omega
          case rel => exact ⟨(wrap64 ((wrap64 ((wrap64 (((rd_T26 l0 x21_1).f0) - 1)) * (l0.length : Int))) + x21_1)), (wrap64 (x21_1 + 1)), (by first | rfl | (simp; done) | (simp [*]; done)), (by first | rfl | (simp; done) | (simp [*]; done)), H', ⟨by have := HK1.out; omega⟩, ⟨bk BK245⟩, ⟨bs2 HB GE245 GE248⟩⟩
         ·
          rw [if_neg c11] at H
          have c11b0 : decide (x5_1 < (wrap64 ((wrap64 ((wrap64 (((rd_T26 l0 x21_1).f0) - 1)) * (l0.length : Int))) + x21_1))) = false := decide_eq_false c11
          clear c11
          have H' := Aside0.mk H
          clear H
          have p247 : 0 ≤ (x21_1 : Int) := of_decide_eq_true (by first | (with_reducible assumption) | assumption)
          have q247 : x21_1 < (l0.length : Int) := of_decide_eq_true (by first | (with_reducible assumption) | assumption)
          obtain ⟨ad247, e247, hx247_0, hx247_1, hx247_2, hx247_3⟩ := at_T26 HR0.out x21_1 p247 q247
          cases e247
          replace hx247_0 := (HB.out.cell (World.block_lt_of_cell? w _ hx247_0)).trans hx247_0
          replace hx247_1 := (HB.out.cell (World.block_lt_of_cell? w _ hx247_1)).trans hx247_1
          replace hx247_2 := (HB.out.cell (World.block_lt_of_cell? w _ hx247_2)).trans hx247_2
          replace hx247_3 := (HB.out.cell (World.block_lt_of_cell? w _ hx247_3)).trans hx247_3
          replace p247 := eq_true p247
          replace q247 := eq_true q247
          go_wp2_with (first | ((with_reducible refine gate_dst (N := 7) rfl ?_); refine box_event ?hg (N := 7) ?hd (cs := #[.int .i64 0, .int .i64 0, .string (⟨#[]⟩ : ByteArray), .int .i64 0]) (t := 26) ?hr ?_; (case hd => rfl); (case hg => rfl); (case hr => first | (go_simp; done) | (go_simp; rfl)); intro gb248 hg w17 hbox hb; have BK248 := Aside0.mk (hbox); have GW248 := Aside0.mk ((by rw [hg]; exact (below_size (bs1 HB GE245)) : w.heap.size ≤ gb248)); have GE248 := Aside0.mk ((by rw [hg]; exact (below_size (bs1 HB GE245)) : w.heap.size ≤ gb248)); replace HB := Aside0.mk (below_step (bs1 HB GE245) hb); have NB245_248 := Aside0.mk ((bn BK245 hg : gb245 ≠ gb248)); have NB248_245 := Aside0.mk ((bm BK245 hg : gb248 ≠ gb245)); replace BK245 := nb BK245 hb; clear hb hbox hg; have hnb18 := NB248_245.out; have hnc18 := NB245_248.out; obtain ⟨hcz19_0, hcz19_1, hcz19_2, hcz19_3⟩ := cz4 BK248; obtain ⟨hfz19_0, hfz19_1, hfz19_2, hfz19_3⟩ := fz4 BK248) | ((with_reducible refine gate_callee (f := 57) rfl ?_); refine gL (some 27) rfl rfl Tryd.func57 (by kernel_rfl) rfl #[.agg #[.int .i64 ((rd_T26 l0 x21_1).f0), .int .i64 ((rd_T26 l0 x21_1).f1), .string ((rd_T26 l0 x21_1).f2), .int .i64 ((rd_T26 l0 x21_1).f3)]] rfl ?_; (with_reducible refine (spec_l10Whole.calls k1 ((rd_T26 l0 x21_1).f0) ((rd_T26 l0 x21_1).f1) ((rd_T26 l0 x21_1).f2) ((rd_T26 l0 x21_1).f3) true _ A8.out).mono ?_); rintro e w20 ⟨rfl, hb⟩; refine ⟨_, rfl, ?_⟩; replace BK245 := Aside0.mk (blk_below (bf BK245 NB245_248) hb); replace BK248 := Aside0.mk (blk_below (g := gb248) (o := .cells #[.int .i64 ((rd_T26 l0 x21_1).f0), .int .i64 ((rd_T26 l0 x21_1).f1), .string ((rd_T26 l0 x21_1).f2), .int .i64 ((rd_T26 l0 x21_1).f3)] 26 (0, 0)) (by (with_reducible repeat (first | refine blk_drewN ?_ _ | refine blk_drew ?_ | refine blk_alloc ?_ _)); refine blk_put (cs := #[.int .i64 ((rd_T26 l0 x21_1).f0), .int .i64 ((rd_T26 l0 x21_1).f1), .string ((rd_T26 l0 x21_1).f2), .int .i64 0]) ?_ 3 _ rfl; (with_reducible repeat (first | refine blk_drewN ?_ _ | refine blk_drew ?_ | refine blk_alloc ?_ _)); refine blk_put (cs := #[.int .i64 ((rd_T26 l0 x21_1).f0), .int .i64 ((rd_T26 l0 x21_1).f1), .string (⟨#[]⟩ : ByteArray), .int .i64 0]) ?_ 2 _ rfl; (with_reducible repeat (first | refine blk_drewN ?_ _ | refine blk_drew ?_ | refine blk_alloc ?_ _)); refine blk_put (cs := #[.int .i64 ((rd_T26 l0 x21_1).f0), .int .i64 0, .string (⟨#[]⟩ : ByteArray), .int .i64 0]) ?_ 1 _ rfl; (with_reducible repeat (first | refine blk_drewN ?_ _ | refine blk_drew ?_ | refine blk_alloc ?_ _)); refine blk_put (cs := #[.int .i64 0, .int .i64 0, .string (⟨#[]⟩ : ByteArray), .int .i64 0]) ?_ 0 _ rfl; (with_reducible repeat (first | refine blk_drewN ?_ _ | refine blk_drew ?_ | refine blk_alloc ?_ _)); exact BK248.out) hb); replace HB := Aside0.mk (below_step (bs2 HB GE245 GE248) hb); (try clear hb); (try clear hb2); (try clear hk); (try clear hi); obtain ⟨hcz21_0, hcz21_1, hcz21_2, hcz21_3⟩ := cz4 BK248; obtain ⟨hfz21_0, hfz21_1, hfz21_2, hfz21_3⟩ := fz4 BK248))
          go_roundg k1
          case measure => have := HK1.out; omega
          case rel => exact ⟨(x5_1), (wrap64 (x21_1 + 1)), (by first | rfl | (simp; done) | (simp [*]; done)), (by first | rfl | (simp; done) | (simp [*]; done)), H', ⟨by have := HK1.out; omega⟩, ⟨bk BK245⟩, ⟨bs2 HB GE245 GE248⟩⟩
        ·
         rw [if_neg c10] at H
         have c10b0 : decide (0 < ((rd_T26 l0 x21_1).f0)) = false := decide_eq_false c10
         clear c10
         have H' := Aside0.mk H
         clear H
         have p247 : 0 ≤ (x21_1 : Int) := of_decide_eq_true (by first | (with_reducible assumption) | assumption)
         have q247 : x21_1 < (l0.length : Int) := of_decide_eq_true (by first | (with_reducible assumption) | assumption)
         obtain ⟨ad247, e247, hx247_0, hx247_1, hx247_2, hx247_3⟩ := at_T26 HR0.out x21_1 p247 q247
         cases e247
         replace hx247_0 := (HB.out.cell (World.block_lt_of_cell? w _ hx247_0)).trans hx247_0
         replace hx247_1 := (HB.out.cell (World.block_lt_of_cell? w _ hx247_1)).trans hx247_1
         replace hx247_2 := (HB.out.cell (World.block_lt_of_cell? w _ hx247_2)).trans hx247_2
         replace hx247_3 := (HB.out.cell (World.block_lt_of_cell? w _ hx247_3)).trans hx247_3
         replace p247 := eq_true p247
         replace q247 := eq_true q247
         go_wp2_with (first | ((with_reducible refine gate_dst (N := 7) rfl ?_); refine box_event ?hg (N := 7) ?hd (cs := #[.int .i64 0, .int .i64 0, .string (⟨#[]⟩ : ByteArray), .int .i64 0]) (t := 26) ?hr ?_; (case hd => rfl); (case hg => rfl); (case hr => first | (go_simp; done) | (go_simp; rfl)); intro gb248 hg w22 hbox hb; have BK248 := Aside0.mk (hbox); have GW248 := Aside0.mk ((by rw [hg]; exact (below_size (bs1 HB GE245)) : w.heap.size ≤ gb248)); have GE248 := Aside0.mk ((by rw [hg]; exact (below_size (bs1 HB GE245)) : w.heap.size ≤ gb248)); replace HB := Aside0.mk (below_step (bs1 HB GE245) hb); have NB245_248 := Aside0.mk ((bn BK245 hg : gb245 ≠ gb248)); have NB248_245 := Aside0.mk ((bm BK245 hg : gb248 ≠ gb245)); replace BK245 := nb BK245 hb; clear hb hbox hg; have hnb23 := NB248_245.out; have hnc23 := NB245_248.out; obtain ⟨hcz24_0, hcz24_1, hcz24_2, hcz24_3⟩ := cz4 BK248; obtain ⟨hfz24_0, hfz24_1, hfz24_2, hfz24_3⟩ := fz4 BK248) | ((with_reducible refine gate_callee (f := 57) rfl ?_); refine gL (some 27) rfl rfl Tryd.func57 (by kernel_rfl) rfl #[.agg #[.int .i64 ((rd_T26 l0 x21_1).f0), .int .i64 ((rd_T26 l0 x21_1).f1), .string ((rd_T26 l0 x21_1).f2), .int .i64 ((rd_T26 l0 x21_1).f3)]] rfl ?_; (with_reducible refine (spec_l10Whole.calls k1 ((rd_T26 l0 x21_1).f0) ((rd_T26 l0 x21_1).f1) ((rd_T26 l0 x21_1).f2) ((rd_T26 l0 x21_1).f3) true _ A8.out).mono ?_); rintro e w25 ⟨rfl, hb⟩; refine ⟨_, rfl, ?_⟩; replace BK245 := Aside0.mk (blk_below (bf BK245 NB245_248) hb); replace BK248 := Aside0.mk (blk_below (g := gb248) (o := .cells #[.int .i64 ((rd_T26 l0 x21_1).f0), .int .i64 ((rd_T26 l0 x21_1).f1), .string ((rd_T26 l0 x21_1).f2), .int .i64 ((rd_T26 l0 x21_1).f3)] 26 (0, 0)) (by (with_reducible repeat (first | refine blk_drewN ?_ _ | refine blk_drew ?_ | refine blk_alloc ?_ _)); refine blk_put (cs := #[.int .i64 ((rd_T26 l0 x21_1).f0), .int .i64 ((rd_T26 l0 x21_1).f1), .string ((rd_T26 l0 x21_1).f2), .int .i64 0]) ?_ 3 _ rfl; (with_reducible repeat (first | refine blk_drewN ?_ _ | refine blk_drew ?_ | refine blk_alloc ?_ _)); refine blk_put (cs := #[.int .i64 ((rd_T26 l0 x21_1).f0), .int .i64 ((rd_T26 l0 x21_1).f1), .string (⟨#[]⟩ : ByteArray), .int .i64 0]) ?_ 2 _ rfl; (with_reducible repeat (first | refine blk_drewN ?_ _ | refine blk_drew ?_ | refine blk_alloc ?_ _)); refine blk_put (cs := #[.int .i64 ((rd_T26 l0 x21_1).f0), .int .i64 0, .string (⟨#[]⟩ : ByteArray), .int .i64 0]) ?_ 1 _ rfl; (with_reducible repeat (first | refine blk_drewN ?_ _ | refine blk_drew ?_ | refine blk_alloc ?_ _)); refine blk_put (cs := #[.int .i64 0, .int .i64 0, .string (⟨#[]⟩ : ByteArray), .int .i64 0]) ?_ 0 _ rfl; (with_reducible repeat (first | refine blk_drewN ?_ _ | refine blk_drew ?_ | refine blk_alloc ?_ _)); exact BK248.out) hb); replace HB := Aside0.mk (below_step (bs2 HB GE245 GE248) hb); (try clear hb); (try clear hb2); (try clear hk); (try clear hi); obtain ⟨hcz26_0, hcz26_1, hcz26_2, hcz26_3⟩ := cz4 BK248; obtain ⟨hfz26_0, hfz26_1, hfz26_2, hfz26_3⟩ := fz4 BK248))
         go_roundg k1
         case measure => have := HK1.out; omega
         case rel => exact ⟨(x5_1), (wrap64 (x21_1 + 1)), (by first | rfl | (simp; done) | (simp [*]; done)), (by first | rfl | (simp; done) | (simp [*]; done)), H', ⟨by have := HK1.out; omega⟩, ⟨bk BK245⟩, ⟨bs2 HB GE245 GE248⟩⟩
       ·
        replace c9 := Bool.eq_false_iff.mpr c9
        subst c9
        rw [if_neg (show ¬ (false = true) by decide)] at H
        have H' := Aside0.mk H
        clear H
        have p247 : 0 ≤ (x21_1 : Int) := of_decide_eq_true (by first | (with_reducible assumption) | assumption)
        have q247 : x21_1 < (l0.length : Int) := of_decide_eq_true (by first | (with_reducible assumption) | assumption)
        obtain ⟨ad247, e247, hx247_0, hx247_1, hx247_2, hx247_3⟩ := at_T26 HR0.out x21_1 p247 q247
        cases e247
        replace hx247_0 := (HB.out.cell (World.block_lt_of_cell? w _ hx247_0)).trans hx247_0
        replace hx247_1 := (HB.out.cell (World.block_lt_of_cell? w _ hx247_1)).trans hx247_1
        replace hx247_2 := (HB.out.cell (World.block_lt_of_cell? w _ hx247_2)).trans hx247_2
        replace hx247_3 := (HB.out.cell (World.block_lt_of_cell? w _ hx247_3)).trans hx247_3
        replace p247 := eq_true p247
        replace q247 := eq_true q247
        go_wp2_with (first | ((with_reducible refine gate_dst (N := 7) rfl ?_); refine box_event ?hg (N := 7) ?hd (cs := #[.int .i64 0, .int .i64 0, .string (⟨#[]⟩ : ByteArray), .int .i64 0]) (t := 26) ?hr ?_; (case hd => rfl); (case hg => rfl); (case hr => first | (go_simp; done) | (go_simp; rfl)); intro gb248 hg w27 hbox hb; have BK248 := Aside0.mk (hbox); have GW248 := Aside0.mk ((by rw [hg]; exact (below_size (bs1 HB GE245)) : w.heap.size ≤ gb248)); have GE248 := Aside0.mk ((by rw [hg]; exact (below_size (bs1 HB GE245)) : w.heap.size ≤ gb248)); replace HB := Aside0.mk (below_step (bs1 HB GE245) hb); have NB245_248 := Aside0.mk ((bn BK245 hg : gb245 ≠ gb248)); have NB248_245 := Aside0.mk ((bm BK245 hg : gb248 ≠ gb245)); replace BK245 := nb BK245 hb; clear hb hbox hg; have hnb28 := NB248_245.out; have hnc28 := NB245_248.out; obtain ⟨hcz29_0, hcz29_1, hcz29_2, hcz29_3⟩ := cz4 BK248; obtain ⟨hfz29_0, hfz29_1, hfz29_2, hfz29_3⟩ := fz4 BK248) | ((with_reducible refine gate_callee (f := 57) rfl ?_); refine gL (some 27) rfl rfl Tryd.func57 (by kernel_rfl) rfl #[.agg #[.int .i64 ((rd_T26 l0 x21_1).f0), .int .i64 ((rd_T26 l0 x21_1).f1), .string ((rd_T26 l0 x21_1).f2), .int .i64 ((rd_T26 l0 x21_1).f3)]] rfl ?_; (with_reducible refine (spec_l10Whole.calls k1 ((rd_T26 l0 x21_1).f0) ((rd_T26 l0 x21_1).f1) ((rd_T26 l0 x21_1).f2) ((rd_T26 l0 x21_1).f3) false _ A8.out).mono ?_); rintro e w30 ⟨rfl, hb⟩; refine ⟨_, rfl, ?_⟩; replace BK245 := Aside0.mk (blk_below (bf BK245 NB245_248) hb); replace BK248 := Aside0.mk (blk_below (g := gb248) (o := .cells #[.int .i64 ((rd_T26 l0 x21_1).f0), .int .i64 ((rd_T26 l0 x21_1).f1), .string ((rd_T26 l0 x21_1).f2), .int .i64 ((rd_T26 l0 x21_1).f3)] 26 (0, 0)) (by (with_reducible repeat (first | refine blk_drewN ?_ _ | refine blk_drew ?_ | refine blk_alloc ?_ _)); refine blk_put (cs := #[.int .i64 ((rd_T26 l0 x21_1).f0), .int .i64 ((rd_T26 l0 x21_1).f1), .string ((rd_T26 l0 x21_1).f2), .int .i64 0]) ?_ 3 _ rfl; (with_reducible repeat (first | refine blk_drewN ?_ _ | refine blk_drew ?_ | refine blk_alloc ?_ _)); refine blk_put (cs := #[.int .i64 ((rd_T26 l0 x21_1).f0), .int .i64 ((rd_T26 l0 x21_1).f1), .string (⟨#[]⟩ : ByteArray), .int .i64 0]) ?_ 2 _ rfl; (with_reducible repeat (first | refine blk_drewN ?_ _ | refine blk_drew ?_ | refine blk_alloc ?_ _)); refine blk_put (cs := #[.int .i64 ((rd_T26 l0 x21_1).f0), .int .i64 0, .string (⟨#[]⟩ : ByteArray), .int .i64 0]) ?_ 1 _ rfl; (with_reducible repeat (first | refine blk_drewN ?_ _ | refine blk_drew ?_ | refine blk_alloc ?_ _)); refine blk_put (cs := #[.int .i64 0, .int .i64 0, .string (⟨#[]⟩ : ByteArray), .int .i64 0]) ?_ 0 _ rfl; (with_reducible repeat (first | refine blk_drewN ?_ _ | refine blk_drew ?_ | refine blk_alloc ?_ _)); exact BK248.out) hb); replace HB := Aside0.mk (below_step (bs2 HB GE245 GE248) hb); (try clear hb); (try clear hb2); (try clear hk); (try clear hi)))
        go_roundg k1
        case measure => have := HK1.out; omega
        case rel => exact ⟨(x5_1), (wrap64 (x21_1 + 1)), (by first | rfl | (simp; done) | (simp [*]; done)), (by first | rfl | (simp; done) | (simp [*]; done)), H', ⟨by have := HK1.out; omega⟩, ⟨bk BK245⟩, ⟨bs2 HB GE245 GE248⟩⟩
      ·
       rw [if_neg c7] at H
       exact absurd H (by simp)
     ·
      rw [if_neg c6] at H
      exact absurd H (by simp)
    ·
     rw [if_neg c5] at H
     have c5b0 : decide (x21_1 < (l0.length : Int)) = false := decide_eq_false c5
     clear c5
     replace H := Option.bind_eq_some_iff.mp H
     obtain ⟨⟨t250, t253, t254, t255, t256⟩, A310, H⟩ := H
     replace H : (if x5_1 < 0 then (some (t250, t253, t254, t255, true)) else (if (l0.length : Int) = 0 then (none) else (spec_OpenRing.l1 k1 l0 (l0.length : Int) x5_1 x5_1 x5_1 t250 (wrap64 (x5_1 + 1)) (wrap64 ((wrap64 (Int.tdiv (wrap64 (x5_1 + 1)) (l0.length : Int))) + 1)) t255))) = some (r1, r2, r3, r4, r5) := H
     have A31 := Aside0.mk A310
     clear A310
     by_cases c32 : x5_1 < 0
     ·
      rw [if_pos c32] at H
      have c32b0 : decide (x5_1 < 0) = true := decide_eq_true c32
      clear c32
      simp only [Option.some.injEq, Prod.mk.injEq] at H
      obtain ⟨rfl, rfl, rfl, rfl, rfl⟩ := H
      go_wp2_with (first | ((with_reducible refine gate_callee (f := 22) rfl ?_); refine gL (some 54) rfl rfl Tryd.func22 (by kernel_rfl) rfl #[.int .i64 (l0.length : Int)] rfl ?_; (with_reducible refine (spec_NewRing.calls k1 (l0.length : Int) t250 t253 t254 t255 t256 _ A31.out).mono ?_); rintro e w33 ⟨v251, rfl, ho0, hb⟩; refine ⟨_, rfl, ?_⟩; have HO252 := Aside0.mk (Kd.R_lower ho0 (below_size (bs1 HB GE245))); replace BK245 := nb BK245 hb; replace HB := Aside0.mk (below_step (bs1 HB GE245) hb); (try clear hb); (try clear hb2); (try clear hk); (try clear hi); (try clear ho0)) | ((with_reducible refine gate_dst (N := 8) rfl ?_); refine box_event ?hg (N := 8) ?hd (cs := #[.slice none 0 0, .int .i64 0, .int .i64 0, .int .i64 0]) (t := 36) ?hr ?_; (case hd => rfl); (case hg => rfl); (case hr => first | (go_simp; done) | (go_simp; rfl)); intro gb257 hg w34 hbox hb; replace HO252 := nr HO252 hb; have BK257 := Aside0.mk (hbox); have GW257 := Aside0.mk ((by rw [hg]; exact (below_size (bs1 HB GE245)) : w.heap.size ≤ gb257)); have GE257 := Aside0.mk ((by rw [hg]; exact (below_size (bs1 HB GE245)) : w.heap.size ≤ gb257)); replace HB := Aside0.mk (below_step (bs1 HB GE245) hb); have NB245_257 := Aside0.mk ((bn BK245 hg : gb245 ≠ gb257)); have NB257_245 := Aside0.mk ((bm BK245 hg : gb257 ≠ gb245)); replace BK245 := nb BK245 hb; clear hb hbox hg; obtain ⟨Ao35, co35, eo35⟩ := Kd.R_slice HO252.out; subst eo35; have hnb36 := NB257_245.out; have hnc36 := NB245_257.out; obtain ⟨hcz37_0, hcz37_1, hcz37_2, hcz37_3⟩ := cz4 BK257; obtain ⟨hfz37_0, hfz37_1, hfz37_2, hfz37_3⟩ := fz4 BK257; obtain ⟨hcz38_0, hcz38_1, hcz38_2, hcz38_3⟩ := cz4 BK245; obtain ⟨hfz38_0, hfz38_1, hfz38_2, hfz38_3⟩ := fz4 BK245))
      refine bodyPost_ret (results_ct rfl _ _ gb245 36 #[.slice Ao35 t250.length co35, .int .i64 t253, .int .i64 t254, .int .i64 t255] (0, 0) _ rfl (by (with_reducible repeat (first | refine blk_drewN ?_ _ | refine blk_drew ?_ | refine blk_alloc ?_ _)); refine blk_put (cs := #[.slice Ao35 t250.length co35, .int .i64 t253, .int .i64 t254, .int .i64 0]) ?_ 3 _ rfl; (with_reducible repeat (first | refine blk_drewN ?_ _ | refine blk_drew ?_ | refine blk_alloc ?_ _)); refine blk_put (cs := #[.slice Ao35 t250.length co35, .int .i64 t253, .int .i64 0, .int .i64 0]) ?_ 2 _ rfl; (with_reducible repeat (first | refine blk_drewN ?_ _ | refine blk_drew ?_ | refine blk_alloc ?_ _)); refine blk_put (cs := #[.slice Ao35 t250.length co35, .int .i64 0, .int .i64 0, .int .i64 0]) ?_ 1 _ rfl; (with_reducible repeat (first | refine blk_drewN ?_ _ | refine blk_drew ?_ | refine blk_alloc ?_ _)); refine blk_put (cs := #[.slice none 0 0, .int .i64 0, .int .i64 0, .int .i64 0]) ?_ 0 _ rfl; (with_reducible repeat (first | refine blk_drewN ?_ _ | refine blk_drew ?_ | refine blk_alloc ?_ _)); refine blk_far ?_ NB245_257.out _; (with_reducible repeat (first | refine blk_drewN ?_ _ | refine blk_drew ?_ | refine blk_alloc ?_ _)); refine blk_far ?_ NB245_257.out _; (with_reducible repeat (first | refine blk_drewN ?_ _ | refine blk_drew ?_ | refine blk_alloc ?_ _)); refine blk_far ?_ NB245_257.out _; (with_reducible repeat (first | refine blk_drewN ?_ _ | refine blk_drew ?_ | refine blk_alloc ?_ _)); refine blk_far ?_ NB245_257.out _; (with_reducible repeat (first | refine blk_drewN ?_ _ | refine blk_drew ?_ | refine blk_alloc ?_ _)); exact BK245.out) Tryd.underlying36 rfl (by kernel_rfl)) rfl ?_
      exact ⟨_, by first | rfl | (simp [errW_none, errW_some] <;> rfl) | (simp [*, errW_none, errW_some] <;> rfl), by (with_reducible repeat (first | apply Kd.R_alloc | apply Kd.R_drewN | apply Kd.R_drew)); exact Kd.R_mono (Kd.R_far (p := ⟨gb245, 3, none⟩) (Kd.R_far (p := ⟨gb245, 2, none⟩) (Kd.R_far (p := ⟨gb245, 1, none⟩) (Kd.R_far (p := ⟨gb245, 0, none⟩) (Kd.R_far (p := ⟨gb257, 3, none⟩) (Kd.R_far (p := ⟨gb257, 2, none⟩) (Kd.R_far (p := ⟨gb257, 1, none⟩) (Kd.R_far (p := ⟨gb257, 0, none⟩) (Kd.R_types (Kd.R_types HO252.out BK257.out (by decide)) BK245.out (by decide)) (fun _ hk => hk.1.2) (.slice Ao35 t250.length co35)) (fun _ hk => hk.1.2) (.int .i64 t253)) (fun _ hk => hk.1.2) (.int .i64 t254)) (fun _ hk => hk.1.2) (.int .i64 t255)) (fun _ hk => hk.2) (.slice Ao35 t250.length co35)) (fun _ hk => hk.2) (.int .i64 t253)) (fun _ hk => hk.2) (.int .i64 t254)) (fun _ hk => hk.2) (.int .i64 t255)) (fun _ hk => trivial), bs2 HB GE245 GE257⟩
     ·
      rw [if_neg c32] at H
      have c32b0 : decide (x5_1 < 0) = false := decide_eq_false c32
      clear c32
      by_cases c39 : (l0.length : Int) = 0
      ·
       rw [if_pos c39] at H
       exact absurd H (by simp)
      ·
       rw [if_neg c39] at H
       have c39b0 : ((l0.length : Int) == 0) = false := beq_eq_false_iff_ne.mpr c39
       have c39b1 : ((l0.length : Int) != 0) = true := bne_iff_ne.mpr c39
       have c39b2 : ¬ (l0 = []) := fun h_ => c39 (by rw [h_]; rfl)
       have HC40 := Aside0.mk H
       clear H
       go_upto_block 2 with (first | ((with_reducible refine gate_callee (f := 22) rfl ?_); refine gL (some 54) rfl rfl Tryd.func22 (by kernel_rfl) rfl #[.int .i64 (l0.length : Int)] rfl ?_; (with_reducible refine (spec_NewRing.calls k1 (l0.length : Int) t250 t253 t254 t255 t256 _ A31.out).mono ?_); rintro e w41 ⟨v251, rfl, ho0, hb⟩; refine ⟨_, rfl, ?_⟩; have HO252 := Aside0.mk (Kd.R_lower ho0 (below_size (bs1 HB GE245))); replace BK245 := nb BK245 hb; replace HB := Aside0.mk (below_step (bs1 HB GE245) hb); (try clear hb); (try clear hb2); (try clear hk); (try clear hi); (try clear ho0)) | ((with_reducible refine gate_dst (N := 8) rfl ?_); refine box_event ?hg (N := 8) ?hd (cs := #[.slice none 0 0, .int .i64 0, .int .i64 0, .int .i64 0]) (t := 36) ?hr ?_; (case hd => rfl); (case hg => rfl); (case hr => first | (go_simp; done) | (go_simp; rfl)); intro gb257 hg w42 hbox hb; replace HO252 := nr HO252 hb; have BK257 := Aside0.mk (hbox); have GW257 := Aside0.mk ((by rw [hg]; exact (below_size (bs1 HB GE245)) : w.heap.size ≤ gb257)); have GE257 := Aside0.mk ((by rw [hg]; exact (below_size (bs1 HB GE245)) : w.heap.size ≤ gb257)); replace HB := Aside0.mk (below_step (bs1 HB GE245) hb); have NB245_257 := Aside0.mk ((bn BK245 hg : gb245 ≠ gb257)); have NB257_245 := Aside0.mk ((bm BK245 hg : gb257 ≠ gb245)); replace BK245 := nb BK245 hb; clear hb hbox hg; obtain ⟨Ao43, co43, eo43⟩ := Kd.R_slice HO252.out; subst eo43; have hnb44 := NB257_245.out; have hnc44 := NB245_257.out; obtain ⟨hcz45_0, hcz45_1, hcz45_2, hcz45_3⟩ := cz4 BK257; obtain ⟨hfz45_0, hfz45_1, hfz45_2, hfz45_3⟩ := fz4 BK257))
       (try simp only [Act.put, List.setIfInBounds_toArray, List.set_cons_zero, List.set_cons_succ])
       go_cut [10] (fun v10 wc => ∃ (kq : Nat) (x10_39 : Int) (x258000_39 : List (S26)) (u258000 : Value), v10 = .int .i64 x10_39 ∧ Aside0 (spec_OpenRing.j3 kq l0 (l0.length : Int) x5_1 x10_39 x258000_39 (wrap64 (x5_1 + 1)) (wrap64 ((wrap64 (Int.tdiv (wrap64 (x5_1 + 1)) (l0.length : Int))) + 1)) t255 = some (r1, r2, r3, r4, r5)) ∧ Aside0 (kq ≤ k1) ∧ Aside0 (Kd.R k26 26 wc w.heap.size (fun _ => True) u258000 x258000_39) ∧ Aside0 (wc.heap[gb245]? = some (.cells #[(.slice none 0 0), .int .i64 0, .int .i64 0, .int .i64 0] 36 (0, 0))) ∧ Aside0 (wc.heap[gb257]? = some (.cells #[u258000, .int .i64 (wrap64 (x5_1 + 1)), .int .i64 (wrap64 ((wrap64 (Int.tdiv (wrap64 (x5_1 + 1)) (l0.length : Int))) + 1)), .int .i64 t255] 36 (0, 0))) ∧ Aside0 (Below w.heap.size w wc))
       case first =>
        have H := HC40.out
        clear HC40
        have H' := Aside0.mk H
        clear H
        go_wp2
        go_loopg [10, 11] k1 (fun kq v10 v11 w' => ∃ (x10_2 : Int) (x11_2 : Int) (x258000_2 : List (S26)) (u258000 : Value), v10 = .int .i64 x10_2 ∧ v11 = .int .i64 x11_2 ∧ Aside0 (spec_OpenRing.l1 kq l0 (l0.length : Int) x5_1 x10_2 x11_2 x258000_2 (wrap64 (x5_1 + 1)) (wrap64 ((wrap64 (Int.tdiv (wrap64 (x5_1 + 1)) (l0.length : Int))) + 1)) t255 = some (r1, r2, r3, r4, r5)) ∧ Aside0 (kq ≤ k1) ∧ Aside0 (Kd.R k26 26 w' w.heap.size (fun _ => True) u258000 x258000_2) ∧ Aside0 (w'.heap[gb245]? = some (.cells #[(.slice none 0 0), .int .i64 0, .int .i64 0, .int .i64 0] 36 (0, 0))) ∧ Aside0 (w'.heap[gb257]? = some (.cells #[u258000, .int .i64 (wrap64 (x5_1 + 1)), .int .i64 (wrap64 ((wrap64 (Int.tdiv (wrap64 (x5_1 + 1)) (l0.length : Int))) + 1)), .int .i64 t255] 36 (0, 0))) ∧ Aside0 (Below w.heap.size w w'))
        case atStart => exact ⟨(x5_1), (x5_1), (t250), (.slice Ao43 t250.length co43), (by first | rfl | (simp; done) | (simp [*]; done)), (by first | rfl | (simp; done) | (simp [*]; done)), H', ⟨Nat.le_refl _⟩, ⟨by (with_reducible repeat (first | apply Kd.R_alloc | apply Kd.R_drewN | apply Kd.R_drew)); exact Kd.R_mono (Kd.R_far (p := ⟨gb257, 2, none⟩) (Kd.R_far (p := ⟨gb257, 1, none⟩) (Kd.R_far (p := ⟨gb257, 3, none⟩) (Kd.R_far (p := ⟨gb257, 2, none⟩) (Kd.R_far (p := ⟨gb257, 1, none⟩) (Kd.R_far (p := ⟨gb257, 0, none⟩) (Kd.R_types HO252.out BK257.out (by decide)) (fun _ hk => hk.2) (.slice Ao43 t250.length co43)) (fun _ hk => hk.2) (.int .i64 t253)) (fun _ hk => hk.2) (.int .i64 t254)) (fun _ hk => hk.2) (.int .i64 t255)) (fun _ hk => hk.2) (.int .i64 (wrap64 (x5_1 + 1)))) (fun _ hk => hk.2) (.int .i64 (wrap64 ((wrap64 (Int.tdiv (wrap64 (x5_1 + 1)) (l0.length : Int))) + 1)))) (fun _ hk => trivial)⟩, ⟨bf BK245 NB245_257⟩, ⟨by (with_reducible repeat (first | refine blk_drewN ?_ _ | refine blk_drew ?_ | refine blk_alloc ?_ _)); refine blk_put (cs := #[.slice Ao43 t250.length co43, .int .i64 (wrap64 (x5_1 + 1)), .int .i64 t254, .int .i64 t255]) ?_ 2 _ rfl; (with_reducible repeat (first | refine blk_drewN ?_ _ | refine blk_drew ?_ | refine blk_alloc ?_ _)); refine blk_put (cs := #[.slice Ao43 t250.length co43, .int .i64 t253, .int .i64 t254, .int .i64 t255]) ?_ 1 _ rfl; (with_reducible repeat (first | refine blk_drewN ?_ _ | refine blk_drew ?_ | refine blk_alloc ?_ _)); refine blk_put (cs := #[.slice Ao43 t250.length co43, .int .i64 t253, .int .i64 t254, .int .i64 0]) ?_ 3 _ rfl; (with_reducible repeat (first | refine blk_drewN ?_ _ | refine blk_drew ?_ | refine blk_alloc ?_ _)); refine blk_put (cs := #[.slice Ao43 t250.length co43, .int .i64 t253, .int .i64 0, .int .i64 0]) ?_ 2 _ rfl; (with_reducible repeat (first | refine blk_drewN ?_ _ | refine blk_drew ?_ | refine blk_alloc ?_ _)); refine blk_put (cs := #[.slice Ao43 t250.length co43, .int .i64 0, .int .i64 0, .int .i64 0]) ?_ 1 _ rfl; (with_reducible repeat (first | refine blk_drewN ?_ _ | refine blk_drew ?_ | refine blk_alloc ?_ _)); refine blk_put (cs := #[.slice none 0 0, .int .i64 0, .int .i64 0, .int .i64 0]) ?_ 0 _ rfl; (with_reducible repeat (first | refine blk_drewN ?_ _ | refine blk_drew ?_ | refine blk_alloc ?_ _)); exact BK257.out⟩, ⟨bs2 HB GE245 GE257⟩⟩
        case round =>
         clear H'
         try clear c1
         try clear c2
         try clear p2
         try clear q2
         try clear hx2
         try clear c3
         try clear c4
         try clear c5
         try clear c5b0
         try clear c6
         try clear c6b0
         try clear p6
         try clear c7
         try clear c7b0
         try clear c9
         try clear c10
         try clear c10b0
         try clear c11
         try clear c11b0
         try clear c13
         try clear c18
         try clear c22
         try clear c23
         try clear p24
         try clear q24
         try clear hx24
         try clear c28
         try clear c32
         try clear c32b0
         try clear c36
         try clear c39
         try clear c39b0
         try clear c39b1
         try clear c39b2
         try clear c42
         try clear c44
         try clear hcz14_0 hcz14_1 hcz14_2 hcz14_3
         try clear hcz16_0 hcz16_1 hcz16_2 hcz16_3
         try clear hcz19_0 hcz19_1 hcz19_2 hcz19_3
         try clear hcz21_0 hcz21_1 hcz21_2 hcz21_3
         try clear hcz24_0 hcz24_1 hcz24_2 hcz24_3
         try clear hcz26_0 hcz26_1 hcz26_2 hcz26_3
         try clear hcz29_0 hcz29_1 hcz29_2 hcz29_3
         try clear hcz37_0 hcz37_1 hcz37_2 hcz37_3
         try clear hcz38_0 hcz38_1 hcz38_2 hcz38_3
         try clear hcz45_0 hcz45_1 hcz45_2 hcz45_3
         try clear hfz14_0 hfz14_1 hfz14_2 hfz14_3
         try clear hfz16_0 hfz16_1 hfz16_2 hfz16_3
         try clear hfz19_0 hfz19_1 hfz19_2 hfz19_3
         try clear hfz21_0 hfz21_1 hfz21_2 hfz21_3
         try clear hfz24_0 hfz24_1 hfz24_2 hfz24_3
         try clear hfz26_0 hfz26_1 hfz26_2 hfz26_3
         try clear hfz29_0 hfz29_1 hfz29_2 hfz29_3
         try clear hfz37_0 hfz37_1 hfz37_2 hfz37_3
         try clear hfz38_0 hfz38_1 hfz38_2 hfz38_3
         try clear hfz45_0 hfz45_1 hfz45_2 hfz45_3
         try clear hx247_0
         try clear hx247_1
         try clear hx247_2
         try clear hx247_3
         try clear p2
         try clear p247
         try clear q247
         obtain ⟨x10_2, x11_2, x258000_2, u258000, rfl, rfl, HA, HK2, HO_258000, BK245, BK257, HB⟩ := hrel
         cases gk with
         | zero => exact absurd HA.out (by simp [spec_OpenRing.l1])
         | succ k2 =>
          have H := HA.out
          clear HA
          simp only [spec_OpenRing.l1] at H
          have HC46 := Aside0.mk H
          clear H
          go_upto_region 18 with (fail)
          go_cut [79] (fun v79 wc => ∃ (kq : Nat) (x79_45 : Bool), v79 = .bool x79_45 ∧ Aside0 (spec_OpenRing.j2 kq l0 (l0.length : Int) x5_1 x10_2 x11_2 x79_45 x258000_2 (wrap64 (x5_1 + 1)) (wrap64 ((wrap64 (Int.tdiv (wrap64 (x5_1 + 1)) (l0.length : Int))) + 1)) t255 = some (r1, r2, r3, r4, r5)) ∧ Aside0 (kq ≤ k2) ∧ Aside0 (Kd.R k26 26 wc w.heap.size (fun _ => True) u258000 x258000_2) ∧ Aside0 (wc.heap[gb245]? = some (.cells #[(.slice none 0 0), .int .i64 0, .int .i64 0, .int .i64 0] 36 (0, 0))) ∧ Aside0 (wc.heap[gb257]? = some (.cells #[u258000, .int .i64 (wrap64 (x5_1 + 1)), .int .i64 (wrap64 ((wrap64 (Int.tdiv (wrap64 (x5_1 + 1)) (l0.length : Int))) + 1)), .int .i64 t255] 36 (0, 0))) ∧ Aside0 (Below w.heap.size w wc))
          case first =>
           have H := HC46.out
           clear HC46
           by_cases c47 : x11_2 ≥ 0
           ·
            rw [if_pos c47] at H
            have c47b0 : decide (0 ≤ x11_2) = true := decide_eq_true c47
            clear c47
            (first | rw [c47b0] | (simp only [i64_w, i32_w]; rw [c47b0]) | (simp only [c47b2, Bool.not_false, Bool.not_true]) | skip)
            have H' := Aside0.mk H
            clear H
            go_wp2
            go_meet
            case rel => exact ⟨_, (decide (x11_2 > (wrap64 (x5_1 - (l0.length : Int))))), (by first | rfl | (simp; done) | (simp [*]; done)), H', ⟨by have := HK1.out; have := HK2.out; first | omega | exact Nat.le_refl _⟩, ⟨rr HO_258000.out⟩, ⟨bk BK245⟩, ⟨bk BK257⟩, ⟨bs2 HB GE245 GE257⟩⟩
           ·
            rw [if_neg c47] at H
            have c47b0 : decide (0 ≤ x11_2) = false := decide_eq_false c47
            clear c47
            (first | rw [c47b0] | (simp only [i64_w, i32_w]; rw [c47b0]) | (simp only [c47b2, Bool.not_false, Bool.not_true]) | skip)
            have H' := Aside0.mk H
            clear H
            go_wp2
            go_meet
            case rel => exact ⟨_, (false), (by first | rfl | (simp; done) | (simp [*]; done)), H', ⟨by have := HK1.out; have := HK2.out; first | omega | exact Nat.le_refl _⟩, ⟨rr HO_258000.out⟩, ⟨bk BK245⟩, ⟨bk BK257⟩, ⟨bs2 HB GE245 GE257⟩⟩
          case rest =>
           clear HC46
           try clear c1
           try clear c2
           try clear p2
           try clear q2
           try clear hx2
           try clear c3
           try clear c4
           try clear c5
           try clear c5b0
           try clear c6
           try clear c6b0
           try clear p6
           try clear c7
           try clear c7b0
           try clear c9
           try clear c10
           try clear c10b0
           try clear c11
           try clear c11b0
           try clear c13
           try clear c18
           try clear c22
           try clear c23
           try clear p24
           try clear q24
           try clear hx24
           try clear c28
           try clear c32
           try clear c32b0
           try clear c36
           try clear c39
           try clear c39b0
           try clear c39b1
           try clear c39b2
           try clear c42
           try clear c44
           try clear c47
           try clear c47b0
           try clear hcz14_0 hcz14_1 hcz14_2 hcz14_3
           try clear hcz16_0 hcz16_1 hcz16_2 hcz16_3
           try clear hcz19_0 hcz19_1 hcz19_2 hcz19_3
           try clear hcz21_0 hcz21_1 hcz21_2 hcz21_3
           try clear hcz24_0 hcz24_1 hcz24_2 hcz24_3
           try clear hcz26_0 hcz26_1 hcz26_2 hcz26_3
           try clear hcz29_0 hcz29_1 hcz29_2 hcz29_3
           try clear hcz37_0 hcz37_1 hcz37_2 hcz37_3
           try clear hcz38_0 hcz38_1 hcz38_2 hcz38_3
           try clear hcz45_0 hcz45_1 hcz45_2 hcz45_3
           try clear hfz14_0 hfz14_1 hfz14_2 hfz14_3
           try clear hfz16_0 hfz16_1 hfz16_2 hfz16_3
           try clear hfz19_0 hfz19_1 hfz19_2 hfz19_3
           try clear hfz21_0 hfz21_1 hfz21_2 hfz21_3
           try clear hfz24_0 hfz24_1 hfz24_2 hfz24_3
           try clear hfz26_0 hfz26_1 hfz26_2 hfz26_3
           try clear hfz29_0 hfz29_1 hfz29_2 hfz29_3
           try clear hfz37_0 hfz37_1 hfz37_2 hfz37_3
           try clear hfz38_0 hfz38_1 hfz38_2 hfz38_3
           try clear hfz45_0 hfz45_1 hfz45_2 hfz45_3
           try clear hx247_0
           try clear hx247_1
           try clear hx247_2
           try clear hx247_3
           try clear p2
           try clear p24
           try clear p247
           try clear p6
           try clear q2
           try clear q24
           try clear q247
           obtain ⟨kq, x79_45, rfl, HA, HJ45, HO_258000, BK245, BK257, HB⟩ := hcut
           cases kq with
           | zero => exact absurd HA.out (by simp [spec_OpenRing.j2])
           | succ kj45 =>
            have H := HA.out
            clear HA
            simp only [spec_OpenRing.j2] at H
            by_cases c48 : x79_45 = true
            ·
             subst c48
             rw [if_pos rfl] at H
             by_cases c49 : (l0.length : Int) = 0
             ·
              rw [if_pos c49] at H
              exact absurd H (by simp)
             ·
              rw [if_neg c49] at H
              have c49b0 : ((l0.length : Int) == 0) = false := beq_eq_false_iff_ne.mpr c49
              have c49b1 : ((l0.length : Int) != 0) = true := bne_iff_ne.mpr c49
              have c49b2 : ¬ (l0 = []) := fun h_ => c49 (by rw [h_]; rfl)
              obtain ⟨ji50, hji50⟩ : ∃ j_ : Int, (Int.tmod x11_2 (l0.length : Int)) = j_ := ⟨_, rfl⟩
              replace H : (if 0 ≤ (ji50) then (if (ji50) < (l0.length : Int) then ((spec_l10Whole.f kj45 ((rd_T26 l0 (ji50)).f0) ((rd_T26 l0 (ji50)).f1) ((rd_T26 l0 (ji50)).f2) ((rd_T26 l0 (ji50)).f3)).bind fun t260 => (if t260 = true then (if ((rd_T26 l0 (ji50)).f0) = (wrap64 ((wrap64 (Int.tdiv x11_2 (l0.length : Int))) + 1)) then (if (ji50) < (x258000_2.length : Int) then (spec_OpenRing.l1 kj45 l0 (l0.length : Int) x5_1 x11_2 (wrap64 (x11_2 - 1)) (x258000_2.set ((ji50) : Int).toNat (⟨(rd_T26 l0 (ji50)).f0, (rd_T26 l0 (ji50)).f1, (rd_T26 l0 (ji50)).f2, (rd_T26 l0 (ji50)).f3⟩ : S26)) (wrap64 (x5_1 + 1)) (wrap64 ((wrap64 (Int.tdiv (wrap64 (x5_1 + 1)) (l0.length : Int))) + 1)) t255) else (none)) else (spec_OpenRing.j3 kj45 l0 (l0.length : Int) x5_1 x10_2 x258000_2 (wrap64 (x5_1 + 1)) (wrap64 ((wrap64 (Int.tdiv (wrap64 (x5_1 + 1)) (l0.length : Int))) + 1)) t255)) else (spec_OpenRing.j3 kj45 l0 (l0.length : Int) x5_1 x10_2 x258000_2 (wrap64 (x5_1 + 1)) (wrap64 ((wrap64 (Int.tdiv (wrap64 (x5_1 + 1)) (l0.length : Int))) + 1)) t255))) else (none)) else (none)) = some (r1, r2, r3, r4, r5) := by first | (rw [hji50] at H; exact H) | (simp only [hji50] at H ⊢; exact H)
              by_cases c51 : 0 ≤ (ji50)
              ·
               rw [if_pos c51] at H
               have c51b0 : decide (0 ≤ (ji50)) = true := decide_eq_true c51
               clear c51
               by_cases c52 : (ji50) < (l0.length : Int)
               ·
                rw [if_pos c52] at H
                have c52b0 : decide ((ji50) < (l0.length : Int)) = true := decide_eq_true c52
                clear c52
                replace H := Option.bind_eq_some_iff.mp H
                obtain ⟨t260, A530, H⟩ := H
                replace H : (if t260 = true then (if ((rd_T26 l0 (ji50)).f0) = (wrap64 ((wrap64 (Int.tdiv x11_2 (l0.length : Int))) + 1)) then (if (ji50) < (x258000_2.length : Int) then (spec_OpenRing.l1 kj45 l0 (l0.length : Int) x5_1 x11_2 (wrap64 (x11_2 - 1)) (x258000_2.set ((ji50) : Int).toNat (⟨(rd_T26 l0 (ji50)).f0, (rd_T26 l0 (ji50)).f1, (rd_T26 l0 (ji50)).f2, (rd_T26 l0 (ji50)).f3⟩ : S26)) (wrap64 (x5_1 + 1)) (wrap64 ((wrap64 (Int.tdiv (wrap64 (x5_1 + 1)) (l0.length : Int))) + 1)) t255) else (none)) else (spec_OpenRing.j3 kj45 l0 (l0.length : Int) x5_1 x10_2 x258000_2 (wrap64 (x5_1 + 1)) (wrap64 ((wrap64 (Int.tdiv (wrap64 (x5_1 + 1)) (l0.length : Int))) + 1)) t255)) else (spec_OpenRing.j3 kj45 l0 (l0.length : Int) x5_1 x10_2 x258000_2 (wrap64 (x5_1 + 1)) (wrap64 ((wrap64 (Int.tdiv (wrap64 (x5_1 + 1)) (l0.length : Int))) + 1)) t255)) = some (r1, r2, r3, r4, r5) := H
                have A53 := Aside0.mk A530
                clear A530
                by_cases c54 : t260 = true
                ·
                 subst c54
                 rw [if_pos rfl] at H
                 by_cases c55 : ((rd_T26 l0 (ji50)).f0) = (wrap64 ((wrap64 (Int.tdiv x11_2 (l0.length : Int))) + 1))
                 ·
                  rw [if_pos c55] at H
                  have c55b0 : (((rd_T26 l0 (ji50)).f0) == (wrap64 ((wrap64 (Int.tdiv x11_2 (l0.length : Int))) + 1))) = true := beq_iff_eq.mpr c55
                  have c55b1 : (((rd_T26 l0 (ji50)).f0) != (wrap64 ((wrap64 (Int.tdiv x11_2 (l0.length : Int))) + 1))) = false := bne_eq_false_iff_eq.mpr c55
                  clear c55
                  by_cases c56 : (ji50) < (x258000_2.length : Int)
                  ·
                   rw [if_pos c56] at H
                   have c56b0 : decide ((ji50) < (x258000_2.length : Int)) = true := decide_eq_true c56
                   clear c56
                   obtain ⟨y261, hy261⟩ : ∃ y_ : List (S26), y_ = (x258000_2.set ((ji50) : Int).toNat (⟨(rd_T26 l0 (ji50)).f0, (rd_T26 l0 (ji50)).f1, (rd_T26 l0 (ji50)).f2, (rd_T26 l0 (ji50)).f3⟩ : S26)) := ⟨_, rfl⟩
                   replace H : (spec_OpenRing.l1 kj45 l0 (l0.length : Int) x5_1 x11_2 (wrap64 (x11_2 - 1)) y261 (wrap64 (x5_1 + 1)) (wrap64 ((wrap64 (Int.tdiv (wrap64 (x5_1 + 1)) (l0.length : Int))) + 1)) t255) = some (r1, r2, r3, r4, r5) := by first | (rw [hy261]; with_reducible exact H) | (have H2_ := (Option.bind_some _ _).symm.trans H; rw [hy261]; with_reducible exact H2_) | (have H2_ := (Option.bind_some _ _).symm.trans H; with_reducible exact H2_) | with_reducible exact H | (rw [hy261]; exact H) | exact H
                   have Ny261 := Aside0.mk hy261
                   clear hy261
                   have H' := Aside0.mk H
                   clear H
                   have p258 : 0 ≤ ((ji50) : Int) := of_decide_eq_true (by first | (with_reducible assumption) | assumption)
                   have q258 : (ji50) < (l0.length : Int) := of_decide_eq_true (by first | (with_reducible assumption) | assumption)
                   obtain ⟨ad258, e258, hx258_0, hx258_1, hx258_2, hx258_3⟩ := at_T26 HR0.out (ji50) p258 q258
                   cases e258
                   replace hx258_0 := (HB.out.cell (World.block_lt_of_cell? w _ hx258_0)).trans hx258_0
                   replace hx258_1 := (HB.out.cell (World.block_lt_of_cell? w _ hx258_1)).trans hx258_1
                   replace hx258_2 := (HB.out.cell (World.block_lt_of_cell? w _ hx258_2)).trans hx258_2
                   replace hx258_3 := (HB.out.cell (World.block_lt_of_cell? w _ hx258_3)).trans hx258_3
                   replace p258 := eq_true p258
                   replace q258 := eq_true q258
                   try go_wp2_with (first | ((with_reducible refine gate_dst (N := 12) rfl ?_); refine box_event ?hg (N := 12) ?hd (cs := #[.int .i64 0, .int .i64 0, .string (⟨#[]⟩ : ByteArray), .int .i64 0]) (t := 26) ?hr ?_; (case hd => rfl); (case hg => rfl); (case hr => first | (go_simp; done) | (go_simp; rfl)); intro gb259 hg w58 hbox hb; replace HO_258000 := Aside0.mk (Kd.R_below (Kd.R_elderB (rr HO_258000.out) gb259 (Nat.le_of_eq hg.symm)) hb); have BK259 := Aside0.mk (hbox); have GW259 := Aside0.mk ((by rw [hg]; exact (below_size (bs2 HB GE245 GE257)) : w.heap.size ≤ gb259)); have GE259 := Aside0.mk ((by rw [hg]; exact (below_size (bs2 HB GE245 GE257)) : w.heap.size ≤ gb259)); replace HB := Aside0.mk (below_step (bs2 HB GE245 GE257) hb); have NB245_259 := Aside0.mk ((bn BK245 hg : gb245 ≠ gb259)); have NB259_245 := Aside0.mk ((bm BK245 hg : gb259 ≠ gb245)); replace BK245 := nb BK245 hb; have NB257_259 := Aside0.mk ((bn BK257 hg : gb257 ≠ gb259)); have NB259_257 := Aside0.mk ((bm BK257 hg : gb259 ≠ gb257)); replace BK257 := nb BK257 hb; clear hb hbox hg; have hnb59 := NB259_245.out; have hnc59 := NB245_259.out; have hnb60 := NB259_257.out; have hnc60 := NB257_259.out; obtain ⟨hcz61_0, hcz61_1, hcz61_2, hcz61_3⟩ := cz4 BK259; obtain ⟨hfz61_0, hfz61_1, hfz61_2, hfz61_3⟩ := fz4 BK259))
                   have n0_ : Aside0 (Kd.R k26 26 ((((w58.setCell ⟨gb259, 0, none⟩ (.int .i64 ((rd_T26 l0 (ji50)).f0))).setCell ⟨gb259, 1, none⟩ (.int .i64 ((rd_T26 l0 (ji50)).f1))).setCell ⟨gb259, 2, none⟩ (.string ((rd_T26 l0 (ji50)).f2))).setCell ⟨gb259, 3, none⟩ (.int .i64 ((rd_T26 l0 (ji50)).f3))) w.heap.size (fun k_ => k_ ≠ gb259) u258000 x258000_2) := ⟨by (with_reducible repeat (first | apply Kd.R_alloc | apply Kd.R_drewN | apply Kd.R_drew)); exact Kd.R_mono (Kd.R_far (p := ⟨gb259, 3, none⟩) (Kd.R_far (p := ⟨gb259, 2, none⟩) (Kd.R_far (p := ⟨gb259, 1, none⟩) (Kd.R_far (p := ⟨gb259, 0, none⟩) (Kd.R_mono HO_258000.out (fun k_ hk => (⟨hk, hk.2⟩ : _ ∧ k_ ≠ gb259))) (fun _ hk => hk.2) (.int .i64 ((rd_T26 l0 (ji50)).f0))) (fun _ hk => hk.2) (.int .i64 ((rd_T26 l0 (ji50)).f1))) (fun _ hk => hk.2) (.string ((rd_T26 l0 (ji50)).f2))) (fun _ hk => hk.2) (.int .i64 ((rd_T26 l0 (ji50)).f3))) (fun _ hk => hk.1.2)⟩
                   have n1_ : Aside0 (((((w58.setCell ⟨gb259, 0, none⟩ (.int .i64 ((rd_T26 l0 (ji50)).f0))).setCell ⟨gb259, 1, none⟩ (.int .i64 ((rd_T26 l0 (ji50)).f1))).setCell ⟨gb259, 2, none⟩ (.string ((rd_T26 l0 (ji50)).f2))).setCell ⟨gb259, 3, none⟩ (.int .i64 ((rd_T26 l0 (ji50)).f3))).heap[gb245]? = some (.cells #[.slice none 0 0, .int .i64 0, .int .i64 0, .int .i64 0] 36 (0, 0))) := ⟨bf BK245 NB245_259⟩
                   have n2_ : Aside0 (((((w58.setCell ⟨gb259, 0, none⟩ (.int .i64 ((rd_T26 l0 (ji50)).f0))).setCell ⟨gb259, 1, none⟩ (.int .i64 ((rd_T26 l0 (ji50)).f1))).setCell ⟨gb259, 2, none⟩ (.string ((rd_T26 l0 (ji50)).f2))).setCell ⟨gb259, 3, none⟩ (.int .i64 ((rd_T26 l0 (ji50)).f3))).heap[gb257]? = some (.cells #[u258000, .int .i64 (wrap64 (x5_1 + 1)), .int .i64 (wrap64 ((wrap64 (Int.tdiv (wrap64 (x5_1 + 1)) (l0.length : Int))) + 1)), .int .i64 t255] 36 (0, 0))) := ⟨bf BK257 NB257_259⟩
                   have n3_ : Aside0 (((((w58.setCell ⟨gb259, 0, none⟩ (.int .i64 ((rd_T26 l0 (ji50)).f0))).setCell ⟨gb259, 1, none⟩ (.int .i64 ((rd_T26 l0 (ji50)).f1))).setCell ⟨gb259, 2, none⟩ (.string ((rd_T26 l0 (ji50)).f2))).setCell ⟨gb259, 3, none⟩ (.int .i64 ((rd_T26 l0 (ji50)).f3))).heap[gb259]? = some (.cells #[.int .i64 ((rd_T26 l0 (ji50)).f0), .int .i64 ((rd_T26 l0 (ji50)).f1), .string ((rd_T26 l0 (ji50)).f2), .int .i64 ((rd_T26 l0 (ji50)).f3)] 26 (0, 0))) := ⟨by (with_reducible repeat (first | refine blk_drewN ?_ _ | refine blk_drew ?_ | refine blk_alloc ?_ _)); refine blk_put (cs := #[.int .i64 ((rd_T26 l0 (ji50)).f0), .int .i64 ((rd_T26 l0 (ji50)).f1), .string ((rd_T26 l0 (ji50)).f2), .int .i64 0]) ?_ 3 _ rfl; (with_reducible repeat (first | refine blk_drewN ?_ _ | refine blk_drew ?_ | refine blk_alloc ?_ _)); refine blk_put (cs := #[.int .i64 ((rd_T26 l0 (ji50)).f0), .int .i64 ((rd_T26 l0 (ji50)).f1), .string (⟨#[]⟩ : ByteArray), .int .i64 0]) ?_ 2 _ rfl; (with_reducible repeat (first | refine blk_drewN ?_ _ | refine blk_drew ?_ | refine blk_alloc ?_ _)); refine blk_put (cs := #[.int .i64 ((rd_T26 l0 (ji50)).f0), .int .i64 0, .string (⟨#[]⟩ : ByteArray), .int .i64 0]) ?_ 1 _ rfl; (with_reducible repeat (first | refine blk_drewN ?_ _ | refine blk_drew ?_ | refine blk_alloc ?_ _)); refine blk_put (cs := #[.int .i64 0, .int .i64 0, .string (⟨#[]⟩ : ByteArray), .int .i64 0]) ?_ 0 _ rfl; (with_reducible repeat (first | refine blk_drewN ?_ _ | refine blk_drew ?_ | refine blk_alloc ?_ _)); exact BK259.out⟩
                   have n4_ : Aside0 (Below w.heap.size w ((((w58.setCell ⟨gb259, 0, none⟩ (.int .i64 ((rd_T26 l0 (ji50)).f0))).setCell ⟨gb259, 1, none⟩ (.int .i64 ((rd_T26 l0 (ji50)).f1))).setCell ⟨gb259, 2, none⟩ (.string ((rd_T26 l0 (ji50)).f2))).setCell ⟨gb259, 3, none⟩ (.int .i64 ((rd_T26 l0 (ji50)).f3)))) := ⟨bs3 HB GE245 GE257 GE259⟩
                   (try clear HO_258000)
                   (try clear BK245)
                   (try clear BK257)
                   (try clear BK259)
                   (try clear HB)
                   generalize ((((w58.setCell ⟨gb259, 0, none⟩ (.int .i64 ((rd_T26 l0 (ji50)).f0))).setCell ⟨gb259, 1, none⟩ (.int .i64 ((rd_T26 l0 (ji50)).f1))).setCell ⟨gb259, 2, none⟩ (.string ((rd_T26 l0 (ji50)).f2))).setCell ⟨gb259, 3, none⟩ (.int .i64 ((rd_T26 l0 (ji50)).f3))) = w62 at n0_ n1_ n2_ n3_ n4_ ⊢
                   have HO_258000 := n0_
                   have BK245 := n1_
                   have BK257 := n2_
                   have BK259 := n3_
                   have HB := n4_
                   clear n0_ n1_ n2_ n3_ n4_
                   have n0_ := Aside0.mk (Kd.R_drew HO_258000.out)
                   have n1_ := Aside0.mk (blk_drew BK245.out)
                   have n2_ := Aside0.mk (blk_drew BK257.out)
                   have n3_ := Aside0.mk (blk_drew BK259.out)
                   have n4_ := Aside0.mk (below_drew1 HB.out)
                   clear HO_258000
                   clear BK245
                   clear BK257
                   clear BK259
                   clear HB
                   have HO_258000 := n0_
                   have BK245 := n1_
                   have BK257 := n2_
                   have BK259 := n3_
                   have HB := n4_
                   clear n0_ n1_ n2_ n3_ n4_
                   refine start_ (n := 12) (S := fun w' => w'.cell? ⟨gb259, 0, none⟩ = some (.int .i64 ((rd_T26 l0 (ji50)).f0)) ∧ w'.cell? ⟨gb259, 1, none⟩ = some (.int .i64 ((rd_T26 l0 (ji50)).f1)) ∧ w'.cell? ⟨gb259, 2, none⟩ = some (.string ((rd_T26 l0 (ji50)).f2)) ∧ w'.cell? ⟨gb259, 3, none⟩ = some (.int .i64 ((rd_T26 l0 (ji50)).f3))) (ds := []) #[false, false, false, false, false, false, false, false, false, false, false, false] (by kernel_rfl) rfl rfl ⟨(blk_cell BK259.out 0).trans rfl, (blk_cell BK259.out 1).trans rfl, (blk_cell BK259.out 2).trans rfl, (blk_cell BK259.out 3).trans rfl⟩ (fun hHeld => ?_); refine with_tabW spec_OpenRing.tab21 spec_OpenRing.bits21 (fun HT_ HW_ => ?_)
                   generalize w62.drew = w63 at HO_258000 BK245 BK257 BK259 HB hHeld ⊢
                   refine takeS 0 88 HT_.out HW_.out hHeld (hr := by rintro w' ⟨s0, s1, s2, s3⟩; go_simp; with_reducible rfl) (h := ?_)
                   refine one_ (i := 1) (N := some 89) #[true, true, false, false, false, false, false, false, false, false, false, false] rfl rfl (one_of HT_.out (by kernel_rfl)) (by decide) (fun K hK => ?_)
                   refine goes_ Tryd.func57 (by kernel_rfl) rfl #[.agg #[.int .i64 ((rd_T26 l0 (ji50)).f0), .int .i64 ((rd_T26 l0 (ji50)).f1), .string ((rd_T26 l0 (ji50)).f2), .int .i64 ((rd_T26 l0 (ji50)).f3)]] (by rfl) rfl rfl (by (try simp only [List.map_toArray, List.map_cons, List.map_nil]); first | done | (simp only [hji50]; rfl) | rfl | (simp only [List.length_drop, List.length_take]; rfl)) ?_
                   with_reducible refine (spec_l10Whole.calls kj45 ((rd_T26 l0 (ji50)).f0) ((rd_T26 l0 (ji50)).f1) ((rd_T26 l0 (ji50)).f2) ((rd_T26 l0 (ji50)).f3) true _ A53.out).mono ?_
                   rintro e w64 ⟨rfl, hb⟩
                   refine ⟨_, rfl, ?_⟩
                   have n0_ := Aside0.mk (Kd.R_below (rr HO_258000.out) hb)
                   have n1_ := Aside0.mk (bb BK245 hb)
                   have n2_ := Aside0.mk (bb BK257 hb)
                   have n3_ := Aside0.mk (bb BK259 hb)
                   have n4_ := Aside0.mk (below_step (bs3 HB GE245 GE257 GE259) hb)
                   clear HO_258000
                   clear BK245
                   clear BK257
                   clear BK259
                   clear HB
                   have HO_258000 := n0_
                   have BK245 := n1_
                   have BK257 := n2_
                   have BK259 := n3_
                   have HB := n4_
                   clear n0_ n1_ n2_ n3_ n4_
                   (try clear hb)
                   (try clear hb2)
                   (try clear hk)
                   (try clear hi)
                   refine hK.out _ _ ⟨(blk_cell BK259.out 0).trans rfl, (blk_cell BK259.out 1).trans rfl, (blk_cell BK259.out 2).trans rfl, (blk_cell BK259.out 3).trans rfl⟩ (fun hHeld => ?_)
                   clear hK K
                   refine norm_ (a' := ?_) ?_ ?_
                   rotate_left
                   ·
                    show Act.put _ (some 89) _ = _
                    simp only [Act.put, List.setIfInBounds_toArray, List.set_cons_zero, List.set_cons_succ, i64_w, i32_w]
                    rfl
                   refine pureS 2 90 HT_.out ?_
                   refine pureS 3 91 HT_.out ?_
                   refine pureS 4 92 HT_.out ?_
                   refine pureS 6 94 HT_.out ?_
                   refine pureS 7 95 HT_.out ?_
                   refine pureS 8 96 HT_.out ?_
                   refine pureS 9 97 HT_.out ?_
                   refine takeS 5 93 HT_.out HW_.out hHeld (hr := by rintro w' ⟨s0, s1, s2, s3⟩; go_simp; with_reducible rfl) (h := ?_)
                   refine pureS 10 98 HT_.out ?_
                   refine pureS 11 99 HT_.out ?_
                   refine done_ (done_of HT_.out (by kernel_rfl)) ?_
                   try go_wp2
                   have n0_ := Aside0.mk (Kd.R_drew HO_258000.out)
                   have n1_ := Aside0.mk (blk_drew BK245.out)
                   have n2_ := Aside0.mk (blk_drew BK257.out)
                   have n3_ := Aside0.mk (blk_drew BK259.out)
                   have n4_ := Aside0.mk (below_drew1 HB.out)
                   clear HO_258000
                   clear BK245
                   clear BK257
                   clear BK259
                   clear HB
                   have HO_258000 := n0_
                   have BK245 := n1_
                   have BK257 := n2_
                   have BK259 := n3_
                   have HB := n4_
                   clear n0_ n1_ n2_ n3_ n4_
                   have p57 : 0 ≤ ((ji50) : Int) := of_decide_eq_true (by first | (with_reducible assumption) | assumption)
                   have q57 : ((ji50) : Int) < ((x258000_2.length : Int) : Int) := of_decide_eq_true (by first | (with_reducible assumption) | assumption)
                   obtain ⟨go57, co57, eo57, gb57, gl57, cl57, HG57⟩ := Kd.R_form HO_258000.out (by omega)
                   (first | cases eo57 | (injection eo57 with ea_ en_ ec_; (first | subst ea_ | (injection ea_ with ea_; subst ea_)); subst ec_; clear en_))
                   have GB57 := Aside0.mk gb57
                   have GG57 := Aside0.mk HG57
                   clear gb57 gl57 HG57
                   obtain ⟨ce57, hcl57, hM57, hcc57, hfr57⟩ := Kd.R_elem HO_258000.out z26 ((ji50) : Int) p57 q57
                   obtain rfl := k26_openM hM57
                   have hx57_0 : World.cell? _ ⟨go57, ((ji50) : Int).toNat * 4, none⟩ = some (.int .i64 ((rd_T26 x258000_2 (ji50)).f0)) := hcc57 0 _ rfl
                   have hx57_1 : World.cell? _ ⟨go57, ((ji50) : Int).toNat * 4 + 1, none⟩ = some (.int .i64 ((rd_T26 x258000_2 (ji50)).f1)) := hcc57 1 _ rfl
                   have hx57_2 : World.cell? _ ⟨go57, ((ji50) : Int).toNat * 4 + 2, none⟩ = some (.string ((rd_T26 x258000_2 (ji50)).f2)) := hcc57 2 _ rfl
                   have hx57_3 : World.cell? _ ⟨go57, ((ji50) : Int).toNat * 4 + 3, none⟩ = some (.int .i64 ((rd_T26 x258000_2 (ji50)).f3)) := hcc57 3 _ rfl
                   have hf57_0 : World.frozen? _ ⟨go57, ((ji50) : Int).toNat * 4, none⟩ = false := hfr57 0
                   have hf57_1 : World.frozen? _ ⟨go57, ((ji50) : Int).toNat * 4 + 1, none⟩ = false := hfr57 1
                   have hf57_2 : World.frozen? _ ⟨go57, ((ji50) : Int).toNat * 4 + 2, none⟩ = false := hfr57 2
                   have hf57_3 : World.frozen? _ ⟨go57, ((ji50) : Int).toNat * 4 + 3, none⟩ = false := hfr57 3
                   clear hcl57 hcc57 hfr57 hM57
                   replace p57 := eq_true p57
                   replace q57 := eq_true q57
                   obtain ⟨ce66, hcl66, hM66, hcc66, hfr66⟩ := Kd.R_elem HO_258000.out z26 ((ji50) : Int) (of_decide_eq_true (by first | (with_reducible assumption) | assumption)) (by have h_ : ((ji50) : Int) < ((x258000_2.length : Int) : Int) := of_decide_eq_true (by first | (with_reducible assumption) | assumption); first | exact h_ | (have e_ := (Kd.R_reads' HO_258000.out).1; omega) | simpa using h_)
                   obtain rfl := k26_openM hM66
                   have HP66 := (Kd.R_seg HO_258000.out ((ji50) : Int) (of_decide_eq_true (by first | (with_reducible assumption) | assumption)) (by have h_ : ((ji50) : Int) < ((x258000_2.length : Int) : Int) := of_decide_eq_true (by first | (with_reducible assumption) | assumption); first | exact h_ | (have e_ := (Kd.R_reads' HO_258000.out).1; omega) | simpa using h_) (seg := [.int .i64 ((rd_T26 l0 (ji50)).f0), .int .i64 ((rd_T26 l0 (ji50)).f1), .string ((rd_T26 l0 (ji50)).f2), .int .i64 ((rd_T26 l0 (ji50)).f3)]) (j := 0) hcl66 hcc66 (show 4 ≤ 4 from by decide) (x' := (⟨(rd_T26 l0 (ji50)).f0, (rd_T26 l0 (ji50)).f1, (rd_T26 l0 (ji50)).f2, (rd_T26 l0 (ji50)).f3⟩ : S26)) (k26_mkM _ _ _ (⟨(rd_T26 l0 (ji50)).f0, (rd_T26 l0 (ji50)).f1, (rd_T26 l0 (ji50)).f2, (rd_T26 l0 (ji50)).f3⟩ : S26) ) (fun _ hk => hk)).1
                   rw [← Ny261.out] at HP66
                   have HQ66 := Aside0.mk HP66
                   clear hcl66 hcc66 hfr66 hM66 HP66
                   refine start_ (n := 8) (S := fun w' => w'.cell? ⟨gb257, 0, none⟩ = some (.slice (some ⟨go57, 0, none⟩) x258000_2.length co57) ∧ w'.cell? ⟨gb257, 1, none⟩ = some (.int .i64 (wrap64 (x5_1 + 1))) ∧ w'.cell? ⟨gb257, 2, none⟩ = some (.int .i64 (wrap64 ((wrap64 (Int.tdiv (wrap64 (x5_1 + 1)) (l0.length : Int))) + 1))) ∧ w'.cell? ⟨gb257, 3, none⟩ = some (.int .i64 t255) ∧ w'.cell? ⟨gb259, 0, none⟩ = some (.int .i64 ((rd_T26 l0 (ji50)).f0)) ∧ w'.cell? ⟨gb259, 1, none⟩ = some (.int .i64 ((rd_T26 l0 (ji50)).f1)) ∧ w'.cell? ⟨gb259, 2, none⟩ = some (.string ((rd_T26 l0 (ji50)).f2)) ∧ w'.cell? ⟨gb259, 3, none⟩ = some (.int .i64 ((rd_T26 l0 (ji50)).f3))) (ds := [7]) #[false, false, false, false, false, false, false, false] (by kernel_rfl) rfl rfl ⟨(blk_cell BK257.out 0).trans rfl, (blk_cell BK257.out 1).trans rfl, (blk_cell BK257.out 2).trans rfl, (blk_cell BK257.out 3).trans rfl, (blk_cell BK259.out 0).trans rfl, (blk_cell BK259.out 1).trans rfl, (blk_cell BK259.out 2).trans rfl, (blk_cell BK259.out 3).trans rfl⟩ (fun hHeld => ?_); refine with_tabW spec_OpenRing.tab22 spec_OpenRing.bits22 (fun HT_ HW_ => ?_)
                   generalize w64.drew = w65 at HO_258000 BK245 BK257 BK259 HB GG57 HQ66 hf57_0 hf57_1 hf57_2 hf57_3 hx57_0 hx57_1 hx57_2 hx57_3 hHeld ⊢
                   refine pureS 0 100 HT_.out ?_
                   refine pureS 2 102 HT_.out ?_
                   refine pureS 3 103 HT_.out ?_
                   refine pureS 4 104 HT_.out ?_
                   refine takeS 1 101 HT_.out HW_.out hHeld (hr := by rintro w' ⟨s0, s1, s2, s3, s4, s5, s6, s7⟩; go_simp; with_reducible rfl) (h := ?_)
                   refine takeS 5 105 HT_.out HW_.out hHeld (hr := by rintro w' ⟨s0, s1, s2, s3, s4, s5, s6, s7⟩; go_simp; with_reducible rfl) (h := ?_)
                   refine pureS 6 106 HT_.out ?_
                   refine last_ (i := 7) (N := none) #[true, true, true, true, true, true, true, true] rfl rfl (one_of HT_.out (by kernel_rfl)) (by decide) (fun K hK => ?_)
                   refine skip_ (w1 := ?_) (by rfl) rfl ?_ ?_
                   rotate_left
                   ·
                    go_simp
                    rfl
                   refine hK.out _ _ ?_
                   clear hK K
                   refine done_ (done_of HT_.out (by kernel_rfl)) ?_
                   try go_wp2
                   go_roundg kj45
                   case measure => have := HK1.out; have := HK2.out; have := HJ45.out; omega
                   case rel => exact ⟨(x11_2), (wrap64 (x11_2 - 1)), (y261), (.slice (some ⟨go57, 0, none⟩) x258000_2.length co57), (by first | rfl | (simp; done) | (simp [*]; done)), (by first | rfl | (simp; done) | (simp [*]; done)), H', ⟨by have := HK1.out; have := HK2.out; have := HJ45.out; omega⟩, ⟨by (with_reducible repeat (first | apply Kd.R_alloc | apply Kd.R_drewN | apply Kd.R_drew)); exact Kd.R_mono HQ66.out (fun _ hk => trivial)⟩, ⟨by (with_reducible repeat (first | refine blk_drewN ?_ _ | refine blk_drew ?_ | refine blk_alloc ?_ _)); refine blk_far ?_ (by have h_ := Kd.R_ne HO_258000.out BK245.out (by decide); intro e_; exact h_ (by rw [e_]; rfl)) _; (with_reducible repeat (first | refine blk_drewN ?_ _ | refine blk_drew ?_ | refine blk_alloc ?_ _)); refine blk_far ?_ (by have h_ := Kd.R_ne HO_258000.out BK245.out (by decide); intro e_; exact h_ (by rw [e_]; rfl)) _; (with_reducible repeat (first | refine blk_drewN ?_ _ | refine blk_drew ?_ | refine blk_alloc ?_ _)); refine blk_far ?_ (by have h_ := Kd.R_ne HO_258000.out BK245.out (by decide); intro e_; exact h_ (by rw [e_]; rfl)) _; (with_reducible repeat (first | refine blk_drewN ?_ _ | refine blk_drew ?_ | refine blk_alloc ?_ _)); refine blk_far ?_ (by have h_ := Kd.R_ne HO_258000.out BK245.out (by decide); intro e_; exact h_ (by rw [e_]; rfl)) _; (with_reducible repeat (first | refine blk_drewN ?_ _ | refine blk_drew ?_ | refine blk_alloc ?_ _)); exact BK245.out⟩, ⟨by (with_reducible repeat (first | refine blk_drewN ?_ _ | refine blk_drew ?_ | refine blk_alloc ?_ _)); refine blk_far ?_ (by have h_ := Kd.R_ne HO_258000.out BK257.out (by decide); intro e_; exact h_ (by rw [e_]; rfl)) _; (with_reducible repeat (first | refine blk_drewN ?_ _ | refine blk_drew ?_ | refine blk_alloc ?_ _)); refine blk_far ?_ (by have h_ := Kd.R_ne HO_258000.out BK257.out (by decide); intro e_; exact h_ (by rw [e_]; rfl)) _; (with_reducible repeat (first | refine blk_drewN ?_ _ | refine blk_drew ?_ | refine blk_alloc ?_ _)); refine blk_far ?_ (by have h_ := Kd.R_ne HO_258000.out BK257.out (by decide); intro e_; exact h_ (by rw [e_]; rfl)) _; (with_reducible repeat (first | refine blk_drewN ?_ _ | refine blk_drew ?_ | refine blk_alloc ?_ _)); refine blk_far ?_ (by have h_ := Kd.R_ne HO_258000.out BK257.out (by decide); intro e_; exact h_ (by rw [e_]; rfl)) _; (with_reducible repeat (first | refine blk_drewN ?_ _ | refine blk_drew ?_ | refine blk_alloc ?_ _)); exact BK257.out⟩, ⟨by repeat (first | (with_reducible first | exact HB.out | apply below_alloc | apply pw_below_drewN | apply below_drew1 | refine below_set ?_ GB57.out | refine below_set ?_ GB57.out | refine below_set ?_ GB57.out | refine below_set ?_ GB57.out | refine below_set ?_ GE245.out | refine below_set ?_ GE257.out | refine below_set ?_ GE259.out) | exact HB.out)⟩⟩
                  ·
                   rw [if_neg c56] at H
                   exact absurd H (by simp)
                 ·
                  rw [if_neg c55] at H
                  have c55b0 : (((rd_T26 l0 (ji50)).f0) == (wrap64 ((wrap64 (Int.tdiv x11_2 (l0.length : Int))) + 1))) = false := beq_eq_false_iff_ne.mpr c55
                  have c55b1 : (((rd_T26 l0 (ji50)).f0) != (wrap64 ((wrap64 (Int.tdiv x11_2 (l0.length : Int))) + 1))) = true := bne_iff_ne.mpr c55
                  have H' := Aside0.mk H
                  clear H
                  have p258 : 0 ≤ ((ji50) : Int) := of_decide_eq_true (by first | (with_reducible assumption) | assumption)
                  have q258 : (ji50) < (l0.length : Int) := of_decide_eq_true (by first | (with_reducible assumption) | assumption)
                  obtain ⟨ad258, e258, hx258_0, hx258_1, hx258_2, hx258_3⟩ := at_T26 HR0.out (ji50) p258 q258
                  cases e258
                  replace hx258_0 := (HB.out.cell (World.block_lt_of_cell? w _ hx258_0)).trans hx258_0
                  replace hx258_1 := (HB.out.cell (World.block_lt_of_cell? w _ hx258_1)).trans hx258_1
                  replace hx258_2 := (HB.out.cell (World.block_lt_of_cell? w _ hx258_2)).trans hx258_2
                  replace hx258_3 := (HB.out.cell (World.block_lt_of_cell? w _ hx258_3)).trans hx258_3
                  replace p258 := eq_true p258
                  replace q258 := eq_true q258
                  try go_wp2_with (first | ((with_reducible refine gate_dst (N := 12) rfl ?_); refine box_event ?hg (N := 12) ?hd (cs := #[.int .i64 0, .int .i64 0, .string (⟨#[]⟩ : ByteArray), .int .i64 0]) (t := 26) ?hr ?_; (case hd => rfl); (case hg => rfl); (case hr => first | (go_simp; done) | (go_simp; rfl)); intro gb259 hg w67 hbox hb; replace HO_258000 := Aside0.mk (Kd.R_below (Kd.R_elderB (rr HO_258000.out) gb259 (Nat.le_of_eq hg.symm)) hb); have BK259 := Aside0.mk (hbox); have GW259 := Aside0.mk ((by rw [hg]; exact (below_size (bs2 HB GE245 GE257)) : w.heap.size ≤ gb259)); have GE259 := Aside0.mk ((by rw [hg]; exact (below_size (bs2 HB GE245 GE257)) : w.heap.size ≤ gb259)); replace HB := Aside0.mk (below_step (bs2 HB GE245 GE257) hb); have NB245_259 := Aside0.mk ((bn BK245 hg : gb245 ≠ gb259)); have NB259_245 := Aside0.mk ((bm BK245 hg : gb259 ≠ gb245)); replace BK245 := nb BK245 hb; have NB257_259 := Aside0.mk ((bn BK257 hg : gb257 ≠ gb259)); have NB259_257 := Aside0.mk ((bm BK257 hg : gb259 ≠ gb257)); replace BK257 := nb BK257 hb; clear hb hbox hg; have hnb68 := NB259_245.out; have hnc68 := NB245_259.out; have hnb69 := NB259_257.out; have hnc69 := NB257_259.out; obtain ⟨hcz70_0, hcz70_1, hcz70_2, hcz70_3⟩ := cz4 BK259; obtain ⟨hfz70_0, hfz70_1, hfz70_2, hfz70_3⟩ := fz4 BK259))
                  have n0_ : Aside0 (Kd.R k26 26 ((((w67.setCell ⟨gb259, 0, none⟩ (.int .i64 ((rd_T26 l0 (ji50)).f0))).setCell ⟨gb259, 1, none⟩ (.int .i64 ((rd_T26 l0 (ji50)).f1))).setCell ⟨gb259, 2, none⟩ (.string ((rd_T26 l0 (ji50)).f2))).setCell ⟨gb259, 3, none⟩ (.int .i64 ((rd_T26 l0 (ji50)).f3))) w.heap.size (fun k_ => k_ ≠ gb259) u258000 x258000_2) := ⟨by (with_reducible repeat (first | apply Kd.R_alloc | apply Kd.R_drewN | apply Kd.R_drew)); exact Kd.R_mono (Kd.R_far (p := ⟨gb259, 3, none⟩) (Kd.R_far (p := ⟨gb259, 2, none⟩) (Kd.R_far (p := ⟨gb259, 1, none⟩) (Kd.R_far (p := ⟨gb259, 0, none⟩) (Kd.R_mono HO_258000.out (fun k_ hk => (⟨hk, hk.2⟩ : _ ∧ k_ ≠ gb259))) (fun _ hk => hk.2) (.int .i64 ((rd_T26 l0 (ji50)).f0))) (fun _ hk => hk.2) (.int .i64 ((rd_T26 l0 (ji50)).f1))) (fun _ hk => hk.2) (.string ((rd_T26 l0 (ji50)).f2))) (fun _ hk => hk.2) (.int .i64 ((rd_T26 l0 (ji50)).f3))) (fun _ hk => hk.1.2)⟩
                  have n1_ : Aside0 (((((w67.setCell ⟨gb259, 0, none⟩ (.int .i64 ((rd_T26 l0 (ji50)).f0))).setCell ⟨gb259, 1, none⟩ (.int .i64 ((rd_T26 l0 (ji50)).f1))).setCell ⟨gb259, 2, none⟩ (.string ((rd_T26 l0 (ji50)).f2))).setCell ⟨gb259, 3, none⟩ (.int .i64 ((rd_T26 l0 (ji50)).f3))).heap[gb245]? = some (.cells #[.slice none 0 0, .int .i64 0, .int .i64 0, .int .i64 0] 36 (0, 0))) := ⟨bf BK245 NB245_259⟩
                  have n2_ : Aside0 (((((w67.setCell ⟨gb259, 0, none⟩ (.int .i64 ((rd_T26 l0 (ji50)).f0))).setCell ⟨gb259, 1, none⟩ (.int .i64 ((rd_T26 l0 (ji50)).f1))).setCell ⟨gb259, 2, none⟩ (.string ((rd_T26 l0 (ji50)).f2))).setCell ⟨gb259, 3, none⟩ (.int .i64 ((rd_T26 l0 (ji50)).f3))).heap[gb257]? = some (.cells #[u258000, .int .i64 (wrap64 (x5_1 + 1)), .int .i64 (wrap64 ((wrap64 (Int.tdiv (wrap64 (x5_1 + 1)) (l0.length : Int))) + 1)), .int .i64 t255] 36 (0, 0))) := ⟨bf BK257 NB257_259⟩
                  have n3_ : Aside0 (((((w67.setCell ⟨gb259, 0, none⟩ (.int .i64 ((rd_T26 l0 (ji50)).f0))).setCell ⟨gb259, 1, none⟩ (.int .i64 ((rd_T26 l0 (ji50)).f1))).setCell ⟨gb259, 2, none⟩ (.string ((rd_T26 l0 (ji50)).f2))).setCell ⟨gb259, 3, none⟩ (.int .i64 ((rd_T26 l0 (ji50)).f3))).heap[gb259]? = some (.cells #[.int .i64 ((rd_T26 l0 (ji50)).f0), .int .i64 ((rd_T26 l0 (ji50)).f1), .string ((rd_T26 l0 (ji50)).f2), .int .i64 ((rd_T26 l0 (ji50)).f3)] 26 (0, 0))) := ⟨by (with_reducible repeat (first | refine blk_drewN ?_ _ | refine blk_drew ?_ | refine blk_alloc ?_ _)); refine blk_put (cs := #[.int .i64 ((rd_T26 l0 (ji50)).f0), .int .i64 ((rd_T26 l0 (ji50)).f1), .string ((rd_T26 l0 (ji50)).f2), .int .i64 0]) ?_ 3 _ rfl; (with_reducible repeat (first | refine blk_drewN ?_ _ | refine blk_drew ?_ | refine blk_alloc ?_ _)); refine blk_put (cs := #[.int .i64 ((rd_T26 l0 (ji50)).f0), .int .i64 ((rd_T26 l0 (ji50)).f1), .string (⟨#[]⟩ : ByteArray), .int .i64 0]) ?_ 2 _ rfl; (with_reducible repeat (first | refine blk_drewN ?_ _ | refine blk_drew ?_ | refine blk_alloc ?_ _)); refine blk_put (cs := #[.int .i64 ((rd_T26 l0 (ji50)).f0), .int .i64 0, .string (⟨#[]⟩ : ByteArray), .int .i64 0]) ?_ 1 _ rfl; (with_reducible repeat (first | refine blk_drewN ?_ _ | refine blk_drew ?_ | refine blk_alloc ?_ _)); refine blk_put (cs := #[.int .i64 0, .int .i64 0, .string (⟨#[]⟩ : ByteArray), .int .i64 0]) ?_ 0 _ rfl; (with_reducible repeat (first | refine blk_drewN ?_ _ | refine blk_drew ?_ | refine blk_alloc ?_ _)); exact BK259.out⟩
                  have n4_ : Aside0 (Below w.heap.size w ((((w67.setCell ⟨gb259, 0, none⟩ (.int .i64 ((rd_T26 l0 (ji50)).f0))).setCell ⟨gb259, 1, none⟩ (.int .i64 ((rd_T26 l0 (ji50)).f1))).setCell ⟨gb259, 2, none⟩ (.string ((rd_T26 l0 (ji50)).f2))).setCell ⟨gb259, 3, none⟩ (.int .i64 ((rd_T26 l0 (ji50)).f3)))) := ⟨bs3 HB GE245 GE257 GE259⟩
                  (try clear HO_258000)
                  (try clear BK245)
                  (try clear BK257)
                  (try clear BK259)
                  (try clear HB)
                  generalize ((((w67.setCell ⟨gb259, 0, none⟩ (.int .i64 ((rd_T26 l0 (ji50)).f0))).setCell ⟨gb259, 1, none⟩ (.int .i64 ((rd_T26 l0 (ji50)).f1))).setCell ⟨gb259, 2, none⟩ (.string ((rd_T26 l0 (ji50)).f2))).setCell ⟨gb259, 3, none⟩ (.int .i64 ((rd_T26 l0 (ji50)).f3))) = w71 at n0_ n1_ n2_ n3_ n4_ ⊢
                  have HO_258000 := n0_
                  have BK245 := n1_
                  have BK257 := n2_
                  have BK259 := n3_
                  have HB := n4_
                  clear n0_ n1_ n2_ n3_ n4_
                  have n0_ := Aside0.mk (Kd.R_drew HO_258000.out)
                  have n1_ := Aside0.mk (blk_drew BK245.out)
                  have n2_ := Aside0.mk (blk_drew BK257.out)
                  have n3_ := Aside0.mk (blk_drew BK259.out)
                  have n4_ := Aside0.mk (below_drew1 HB.out)
                  clear HO_258000
                  clear BK245
                  clear BK257
                  clear BK259
                  clear HB
                  have HO_258000 := n0_
                  have BK245 := n1_
                  have BK257 := n2_
                  have BK259 := n3_
                  have HB := n4_
                  clear n0_ n1_ n2_ n3_ n4_
                  refine start_ (n := 12) (S := fun w' => w'.cell? ⟨gb259, 0, none⟩ = some (.int .i64 ((rd_T26 l0 (ji50)).f0)) ∧ w'.cell? ⟨gb259, 1, none⟩ = some (.int .i64 ((rd_T26 l0 (ji50)).f1)) ∧ w'.cell? ⟨gb259, 2, none⟩ = some (.string ((rd_T26 l0 (ji50)).f2)) ∧ w'.cell? ⟨gb259, 3, none⟩ = some (.int .i64 ((rd_T26 l0 (ji50)).f3))) (ds := []) #[false, false, false, false, false, false, false, false, false, false, false, false] (by kernel_rfl) rfl rfl ⟨(blk_cell BK259.out 0).trans rfl, (blk_cell BK259.out 1).trans rfl, (blk_cell BK259.out 2).trans rfl, (blk_cell BK259.out 3).trans rfl⟩ (fun hHeld => ?_); refine with_tabW spec_OpenRing.tab21 spec_OpenRing.bits21 (fun HT_ HW_ => ?_)
                  generalize w71.drew = w72 at HO_258000 BK245 BK257 BK259 HB hHeld ⊢
                  refine takeS 0 88 HT_.out HW_.out hHeld (hr := by rintro w' ⟨s0, s1, s2, s3⟩; go_simp; with_reducible rfl) (h := ?_)
                  refine one_ (i := 1) (N := some 89) #[true, true, false, false, false, false, false, false, false, false, false, false] rfl rfl (one_of HT_.out (by kernel_rfl)) (by decide) (fun K hK => ?_)
                  refine goes_ Tryd.func57 (by kernel_rfl) rfl #[.agg #[.int .i64 ((rd_T26 l0 (ji50)).f0), .int .i64 ((rd_T26 l0 (ji50)).f1), .string ((rd_T26 l0 (ji50)).f2), .int .i64 ((rd_T26 l0 (ji50)).f3)]] (by rfl) rfl rfl (by (try simp only [List.map_toArray, List.map_cons, List.map_nil]); first | done | (simp only [hji50]; rfl) | rfl | (simp only [List.length_drop, List.length_take]; rfl)) ?_
                  with_reducible refine (spec_l10Whole.calls kj45 ((rd_T26 l0 (ji50)).f0) ((rd_T26 l0 (ji50)).f1) ((rd_T26 l0 (ji50)).f2) ((rd_T26 l0 (ji50)).f3) true _ A53.out).mono ?_
                  rintro e w73 ⟨rfl, hb⟩
                  refine ⟨_, rfl, ?_⟩
                  have n0_ := Aside0.mk (Kd.R_below (rr HO_258000.out) hb)
                  have n1_ := Aside0.mk (bb BK245 hb)
                  have n2_ := Aside0.mk (bb BK257 hb)
                  have n3_ := Aside0.mk (bb BK259 hb)
                  have n4_ := Aside0.mk (below_step (bs3 HB GE245 GE257 GE259) hb)
                  clear HO_258000
                  clear BK245
                  clear BK257
                  clear BK259
                  clear HB
                  have HO_258000 := n0_
                  have BK245 := n1_
                  have BK257 := n2_
                  have BK259 := n3_
                  have HB := n4_
                  clear n0_ n1_ n2_ n3_ n4_
                  (try clear hb)
                  (try clear hb2)
                  (try clear hk)
                  (try clear hi)
                  refine hK.out _ _ ⟨(blk_cell BK259.out 0).trans rfl, (blk_cell BK259.out 1).trans rfl, (blk_cell BK259.out 2).trans rfl, (blk_cell BK259.out 3).trans rfl⟩ (fun hHeld => ?_)
                  clear hK K
                  refine norm_ (a' := ?_) ?_ ?_
                  rotate_left
                  ·
                   show Act.put _ (some 89) _ = _
                   simp only [Act.put, List.setIfInBounds_toArray, List.set_cons_zero, List.set_cons_succ, i64_w, i32_w]
                   rfl
                  refine pureS 2 90 HT_.out ?_
                  refine pureS 3 91 HT_.out ?_
                  refine pureS 4 92 HT_.out ?_
                  refine pureS 6 94 HT_.out ?_
                  refine pureS 7 95 HT_.out ?_
                  refine pureS 8 96 HT_.out ?_
                  refine pureS 9 97 HT_.out ?_
                  refine takeS 5 93 HT_.out HW_.out hHeld (hr := by rintro w' ⟨s0, s1, s2, s3⟩; go_simp; with_reducible rfl) (h := ?_)
                  refine pureS 10 98 HT_.out ?_
                  refine pureS 11 99 HT_.out ?_
                  refine done_ (done_of HT_.out (by kernel_rfl)) ?_
                  try go_wp2
                  go_meet
                  case rel => exact ⟨_, (x10_2), (x258000_2), (u258000), (by first | rfl | (simp; done) | (simp [*]; done)), H', ⟨by have := HK1.out; have := HK2.out; have := HJ45.out; first | omega | exact Nat.le_refl _⟩, rm HO_258000 (fun _ hk => trivial), ⟨bk BK245⟩, ⟨bk BK257⟩, ⟨bs3 HB GE245 GE257 GE259⟩⟩
                ·
                 replace c54 := Bool.eq_false_iff.mpr c54
                 subst c54
                 rw [if_neg (show ¬ (false = true) by decide)] at H
                 have H' := Aside0.mk H
                 clear H
                 have p258 : 0 ≤ ((ji50) : Int) := of_decide_eq_true (by first | (with_reducible assumption) | assumption)
                 have q258 : (ji50) < (l0.length : Int) := of_decide_eq_true (by first | (with_reducible assumption) | assumption)
                 obtain ⟨ad258, e258, hx258_0, hx258_1, hx258_2, hx258_3⟩ := at_T26 HR0.out (ji50) p258 q258
                 cases e258
                 replace hx258_0 := (HB.out.cell (World.block_lt_of_cell? w _ hx258_0)).trans hx258_0
                 replace hx258_1 := (HB.out.cell (World.block_lt_of_cell? w _ hx258_1)).trans hx258_1
                 replace hx258_2 := (HB.out.cell (World.block_lt_of_cell? w _ hx258_2)).trans hx258_2
                 replace hx258_3 := (HB.out.cell (World.block_lt_of_cell? w _ hx258_3)).trans hx258_3
                 replace p258 := eq_true p258
                 replace q258 := eq_true q258
                 try go_wp2_with (first | ((with_reducible refine gate_dst (N := 12) rfl ?_); refine box_event ?hg (N := 12) ?hd (cs := #[.int .i64 0, .int .i64 0, .string (⟨#[]⟩ : ByteArray), .int .i64 0]) (t := 26) ?hr ?_; (case hd => rfl); (case hg => rfl); (case hr => first | (go_simp; done) | (go_simp; rfl)); intro gb259 hg w74 hbox hb; replace HO_258000 := Aside0.mk (Kd.R_below (Kd.R_elderB (rr HO_258000.out) gb259 (Nat.le_of_eq hg.symm)) hb); have BK259 := Aside0.mk (hbox); have GW259 := Aside0.mk ((by rw [hg]; exact (below_size (bs2 HB GE245 GE257)) : w.heap.size ≤ gb259)); have GE259 := Aside0.mk ((by rw [hg]; exact (below_size (bs2 HB GE245 GE257)) : w.heap.size ≤ gb259)); replace HB := Aside0.mk (below_step (bs2 HB GE245 GE257) hb); have NB245_259 := Aside0.mk ((bn BK245 hg : gb245 ≠ gb259)); have NB259_245 := Aside0.mk ((bm BK245 hg : gb259 ≠ gb245)); replace BK245 := nb BK245 hb; have NB257_259 := Aside0.mk ((bn BK257 hg : gb257 ≠ gb259)); have NB259_257 := Aside0.mk ((bm BK257 hg : gb259 ≠ gb257)); replace BK257 := nb BK257 hb; clear hb hbox hg; have hnb75 := NB259_245.out; have hnc75 := NB245_259.out; have hnb76 := NB259_257.out; have hnc76 := NB257_259.out; obtain ⟨hcz77_0, hcz77_1, hcz77_2, hcz77_3⟩ := cz4 BK259; obtain ⟨hfz77_0, hfz77_1, hfz77_2, hfz77_3⟩ := fz4 BK259))
                 have n0_ : Aside0 (Kd.R k26 26 ((((w74.setCell ⟨gb259, 0, none⟩ (.int .i64 ((rd_T26 l0 (ji50)).f0))).setCell ⟨gb259, 1, none⟩ (.int .i64 ((rd_T26 l0 (ji50)).f1))).setCell ⟨gb259, 2, none⟩ (.string ((rd_T26 l0 (ji50)).f2))).setCell ⟨gb259, 3, none⟩ (.int .i64 ((rd_T26 l0 (ji50)).f3))) w.heap.size (fun k_ => k_ ≠ gb259) u258000 x258000_2) := ⟨by (with_reducible repeat (first | apply Kd.R_alloc | apply Kd.R_drewN | apply Kd.R_drew)); exact Kd.R_mono (Kd.R_far (p := ⟨gb259, 3, none⟩) (Kd.R_far (p := ⟨gb259, 2, none⟩) (Kd.R_far (p := ⟨gb259, 1, none⟩) (Kd.R_far (p := ⟨gb259, 0, none⟩) (Kd.R_mono HO_258000.out (fun k_ hk => (⟨hk, hk.2⟩ : _ ∧ k_ ≠ gb259))) (fun _ hk => hk.2) (.int .i64 ((rd_T26 l0 (ji50)).f0))) (fun _ hk => hk.2) (.int .i64 ((rd_T26 l0 (ji50)).f1))) (fun _ hk => hk.2) (.string ((rd_T26 l0 (ji50)).f2))) (fun _ hk => hk.2) (.int .i64 ((rd_T26 l0 (ji50)).f3))) (fun _ hk => hk.1.2)⟩
                 have n1_ : Aside0 (((((w74.setCell ⟨gb259, 0, none⟩ (.int .i64 ((rd_T26 l0 (ji50)).f0))).setCell ⟨gb259, 1, none⟩ (.int .i64 ((rd_T26 l0 (ji50)).f1))).setCell ⟨gb259, 2, none⟩ (.string ((rd_T26 l0 (ji50)).f2))).setCell ⟨gb259, 3, none⟩ (.int .i64 ((rd_T26 l0 (ji50)).f3))).heap[gb245]? = some (.cells #[.slice none 0 0, .int .i64 0, .int .i64 0, .int .i64 0] 36 (0, 0))) := ⟨bf BK245 NB245_259⟩
                 have n2_ : Aside0 (((((w74.setCell ⟨gb259, 0, none⟩ (.int .i64 ((rd_T26 l0 (ji50)).f0))).setCell ⟨gb259, 1, none⟩ (.int .i64 ((rd_T26 l0 (ji50)).f1))).setCell ⟨gb259, 2, none⟩ (.string ((rd_T26 l0 (ji50)).f2))).setCell ⟨gb259, 3, none⟩ (.int .i64 ((rd_T26 l0 (ji50)).f3))).heap[gb257]? = some (.cells #[u258000, .int .i64 (wrap64 (x5_1 + 1)), .int .i64 (wrap64 ((wrap64 (Int.tdiv (wrap64 (x5_1 + 1)) (l0.length : Int))) + 1)), .int .i64 t255] 36 (0, 0))) := ⟨bf BK257 NB257_259⟩
                 have n3_ : Aside0 (((((w74.setCell ⟨gb259, 0, none⟩ (.int .i64 ((rd_T26 l0 (ji50)).f0))).setCell ⟨gb259, 1, none⟩ (.int .i64 ((rd_T26 l0 (ji50)).f1))).setCell ⟨gb259, 2, none⟩ (.string ((rd_T26 l0 (ji50)).f2))).setCell ⟨gb259, 3, none⟩ (.int .i64 ((rd_T26 l0 (ji50)).f3))).heap[gb259]? = some (.cells #[.int .i64 ((rd_T26 l0 (ji50)).f0), .int .i64 ((rd_T26 l0 (ji50)).f1), .string ((rd_T26 l0 (ji50)).f2), .int .i64 ((rd_T26 l0 (ji50)).f3)] 26 (0, 0))) := ⟨by (with_reducible repeat (first | refine blk_drewN ?_ _ | refine blk_drew ?_ | refine blk_alloc ?_ _)); refine blk_put (cs := #[.int .i64 ((rd_T26 l0 (ji50)).f0), .int .i64 ((rd_T26 l0 (ji50)).f1), .string ((rd_T26 l0 (ji50)).f2), .int .i64 0]) ?_ 3 _ rfl; (with_reducible repeat (first | refine blk_drewN ?_ _ | refine blk_drew ?_ | refine blk_alloc ?_ _)); refine blk_put (cs := #[.int .i64 ((rd_T26 l0 (ji50)).f0), .int .i64 ((rd_T26 l0 (ji50)).f1), .string (⟨#[]⟩ : ByteArray), .int .i64 0]) ?_ 2 _ rfl; (with_reducible repeat (first | refine blk_drewN ?_ _ | refine blk_drew ?_ | refine blk_alloc ?_ _)); refine blk_put (cs := #[.int .i64 ((rd_T26 l0 (ji50)).f0), .int .i64 0, .string (⟨#[]⟩ : ByteArray), .int .i64 0]) ?_ 1 _ rfl; (with_reducible repeat (first | refine blk_drewN ?_ _ | refine blk_drew ?_ | refine blk_alloc ?_ _)); refine blk_put (cs := #[.int .i64 0, .int .i64 0, .string (⟨#[]⟩ : ByteArray), .int .i64 0]) ?_ 0 _ rfl; (with_reducible repeat (first | refine blk_drewN ?_ _ | refine blk_drew ?_ | refine blk_alloc ?_ _)); exact BK259.out⟩
                 have n4_ : Aside0 (Below w.heap.size w ((((w74.setCell ⟨gb259, 0, none⟩ (.int .i64 ((rd_T26 l0 (ji50)).f0))).setCell ⟨gb259, 1, none⟩ (.int .i64 ((rd_T26 l0 (ji50)).f1))).setCell ⟨gb259, 2, none⟩ (.string ((rd_T26 l0 (ji50)).f2))).setCell ⟨gb259, 3, none⟩ (.int .i64 ((rd_T26 l0 (ji50)).f3)))) := ⟨bs3 HB GE245 GE257 GE259⟩
                 (try clear HO_258000)
                 (try clear BK245)
                 (try clear BK257)
                 (try clear BK259)
                 (try clear HB)
                 generalize ((((w74.setCell ⟨gb259, 0, none⟩ (.int .i64 ((rd_T26 l0 (ji50)).f0))).setCell ⟨gb259, 1, none⟩ (.int .i64 ((rd_T26 l0 (ji50)).f1))).setCell ⟨gb259, 2, none⟩ (.string ((rd_T26 l0 (ji50)).f2))).setCell ⟨gb259, 3, none⟩ (.int .i64 ((rd_T26 l0 (ji50)).f3))) = w78 at n0_ n1_ n2_ n3_ n4_ ⊢
                 have HO_258000 := n0_
                 have BK245 := n1_
                 have BK257 := n2_
                 have BK259 := n3_
                 have HB := n4_
                 clear n0_ n1_ n2_ n3_ n4_
                 have n0_ := Aside0.mk (Kd.R_drew HO_258000.out)
                 have n1_ := Aside0.mk (blk_drew BK245.out)
                 have n2_ := Aside0.mk (blk_drew BK257.out)
                 have n3_ := Aside0.mk (blk_drew BK259.out)
                 have n4_ := Aside0.mk (below_drew1 HB.out)
                 clear HO_258000
                 clear BK245
                 clear BK257
                 clear BK259
                 clear HB
                 have HO_258000 := n0_
                 have BK245 := n1_
                 have BK257 := n2_
                 have BK259 := n3_
                 have HB := n4_
                 clear n0_ n1_ n2_ n3_ n4_
                 refine start_ (n := 12) (S := fun w' => w'.cell? ⟨gb259, 0, none⟩ = some (.int .i64 ((rd_T26 l0 (ji50)).f0)) ∧ w'.cell? ⟨gb259, 1, none⟩ = some (.int .i64 ((rd_T26 l0 (ji50)).f1)) ∧ w'.cell? ⟨gb259, 2, none⟩ = some (.string ((rd_T26 l0 (ji50)).f2)) ∧ w'.cell? ⟨gb259, 3, none⟩ = some (.int .i64 ((rd_T26 l0 (ji50)).f3))) (ds := []) #[false, false, false, false, false, false, false, false, false, false, false, false] (by kernel_rfl) rfl rfl ⟨(blk_cell BK259.out 0).trans rfl, (blk_cell BK259.out 1).trans rfl, (blk_cell BK259.out 2).trans rfl, (blk_cell BK259.out 3).trans rfl⟩ (fun hHeld => ?_); refine with_tabW spec_OpenRing.tab21 spec_OpenRing.bits21 (fun HT_ HW_ => ?_)
                 generalize w78.drew = w79 at HO_258000 BK245 BK257 BK259 HB hHeld ⊢
                 refine takeS 0 88 HT_.out HW_.out hHeld (hr := by rintro w' ⟨s0, s1, s2, s3⟩; go_simp; with_reducible rfl) (h := ?_)
                 refine one_ (i := 1) (N := some 89) #[true, true, false, false, false, false, false, false, false, false, false, false] rfl rfl (one_of HT_.out (by kernel_rfl)) (by decide) (fun K hK => ?_)
                 refine goes_ Tryd.func57 (by kernel_rfl) rfl #[.agg #[.int .i64 ((rd_T26 l0 (ji50)).f0), .int .i64 ((rd_T26 l0 (ji50)).f1), .string ((rd_T26 l0 (ji50)).f2), .int .i64 ((rd_T26 l0 (ji50)).f3)]] (by rfl) rfl rfl (by (try simp only [List.map_toArray, List.map_cons, List.map_nil]); first | done | (simp only [hji50]; rfl) | rfl | (simp only [List.length_drop, List.length_take]; rfl)) ?_
                 with_reducible refine (spec_l10Whole.calls kj45 ((rd_T26 l0 (ji50)).f0) ((rd_T26 l0 (ji50)).f1) ((rd_T26 l0 (ji50)).f2) ((rd_T26 l0 (ji50)).f3) false _ A53.out).mono ?_
                 rintro e w80 ⟨rfl, hb⟩
                 refine ⟨_, rfl, ?_⟩
                 have n0_ := Aside0.mk (Kd.R_below (rr HO_258000.out) hb)
                 have n1_ := Aside0.mk (bb BK245 hb)
                 have n2_ := Aside0.mk (bb BK257 hb)
                 have n3_ := Aside0.mk (bb BK259 hb)
                 have n4_ := Aside0.mk (below_step (bs3 HB GE245 GE257 GE259) hb)
                 clear HO_258000
                 clear BK245
                 clear BK257
                 clear BK259
                 clear HB
                 have HO_258000 := n0_
                 have BK245 := n1_
                 have BK257 := n2_
                 have BK259 := n3_
                 have HB := n4_
                 clear n0_ n1_ n2_ n3_ n4_
                 (try clear hb)
                 (try clear hb2)
                 (try clear hk)
                 (try clear hi)
                 refine hK.out _ _ ⟨(blk_cell BK259.out 0).trans rfl, (blk_cell BK259.out 1).trans rfl, (blk_cell BK259.out 2).trans rfl, (blk_cell BK259.out 3).trans rfl⟩ (fun hHeld => ?_)
                 clear hK K
                 refine norm_ (a' := ?_) ?_ ?_
                 rotate_left
                 ·
                  show Act.put _ (some 89) _ = _
                  simp only [Act.put, List.setIfInBounds_toArray, List.set_cons_zero, List.set_cons_succ, i64_w, i32_w]
                  rfl
                 refine pureS 2 90 HT_.out ?_
                 refine pureS 3 91 HT_.out ?_
                 refine pureU 4 92 HT_.out ?_
                 refine pureU 5 93 HT_.out ?_
                 refine pureU 6 94 HT_.out ?_
                 refine pureU 7 95 HT_.out ?_
                 refine pureU 8 96 HT_.out ?_
                 refine pureU 9 97 HT_.out ?_
                 refine pureU 10 98 HT_.out ?_
                 refine pureS 11 99 HT_.out ?_
                 refine done_ (done_of HT_.out (by kernel_rfl)) ?_
                 try go_wp2
                 go_meet
                 case rel => exact ⟨_, (x10_2), (x258000_2), (u258000), (by first | rfl | (simp; done) | (simp [*]; done)), H', ⟨by have := HK1.out; have := HK2.out; have := HJ45.out; first | omega | exact Nat.le_refl _⟩, rm HO_258000 (fun _ hk => trivial), ⟨bk BK245⟩, ⟨bk BK257⟩, ⟨bs3 HB GE245 GE257 GE259⟩⟩
               ·
                rw [if_neg c52] at H
                exact absurd H (by simp)
              ·
               rw [if_neg c51] at H
               exact absurd H (by simp)
            ·
             replace c48 := Bool.eq_false_iff.mpr c48
             subst c48
             rw [if_neg (show ¬ (false = true) by decide)] at H
             have H' := Aside0.mk H
             clear H
             go_wp2
             go_meet
             case rel => exact ⟨_, (x10_2), (x258000_2), (u258000), (by first | rfl | (simp; done) | (simp [*]; done)), H', ⟨by have := HK1.out; have := HK2.out; have := HJ45.out; first | omega | exact Nat.le_refl _⟩, ⟨rr HO_258000.out⟩, ⟨bk BK245⟩, ⟨bk BK257⟩, ⟨bs2 HB GE245 GE257⟩⟩
       case rest =>
        clear HC40
        try clear p2
        try clear q2
        try clear hx2
        try clear c4
        try clear c5
        try clear p5
        try clear q5
        try clear hx5
        try clear hf5
        try clear c6
        try clear p6
        try clear c7
        try clear p25
        try clear q25
        try clear hx25
        try clear c48
        try clear c51
        try clear c52
        try clear c54
        try clear c55
        try clear c55b0
        try clear c55b1
        try clear c56
        try clear c57
        try clear p57
        try clear q57
        try clear hx57
        try clear hf57
        try clear p64
        try clear c66
        try clear c68
        try clear c69
        try clear c75
        try clear c76
        try clear hcz70_0 hcz70_1 hcz70_2 hcz70_3
        try clear hcz77_0 hcz77_1 hcz77_2 hcz77_3
        try clear hfz70_0 hfz70_1 hfz70_2 hfz70_3
        try clear hfz77_0 hfz77_1 hfz77_2 hfz77_3
        try clear hx258_0
        try clear hx258_1
        try clear hx258_2
        try clear hx258_3
        try clear hx57_0
        try clear hx57_1
        try clear hx57_2
        try clear hx57_3
        try clear p258
        try clear p57
        try clear q258
        try clear q57
        obtain ⟨kq, x10_39, x258000_39, u258000, rfl, HA, HJ39, HO_258000, BK245, BK257, HB⟩ := hcut
        cases kq with
        | zero => exact absurd HA.out (by simp [spec_OpenRing.j3])
        | succ kj39 =>
         have H := HA.out
         clear HA
         simp only [spec_OpenRing.j3] at H
         by_cases c81 : (l0.length : Int) = 0
         ·
          rw [if_pos c81] at H
          exact absurd H (by simp)
         ·
          rw [if_neg c81] at H
          have c81b0 : ((l0.length : Int) == 0) = false := beq_eq_false_iff_ne.mpr c81
          have c81b1 : ((l0.length : Int) != 0) = true := bne_iff_ne.mpr c81
          have c81b2 : ¬ (l0 = []) := fun h_ => c81 (by rw [h_]; rfl)
          obtain ⟨ji82, hji82⟩ : ∃ j_ : Int, (Int.tmod x5_1 (l0.length : Int)) = j_ := ⟨_, rfl⟩
          replace H : (if 0 ≤ (ji82) then (if (ji82) < (l0.length : Int) then (if ((rd_T26 l0 (ji82)).f1) < x10_39 then ((spec_GoodRing.f kj39 x258000_39 (wrap64 (x5_1 + 1)) (wrap64 ((wrap64 (Int.tdiv (wrap64 (x5_1 + 1)) (l0.length : Int))) + 1)) x10_39).bind fun t263 => (if t263 = true then (some (x258000_39, (wrap64 (x5_1 + 1)), (wrap64 ((wrap64 (Int.tdiv (wrap64 (x5_1 + 1)) (l0.length : Int))) + 1)), x10_39, true)) else (some (([] : List (S26)), 0, 0, 0, false)))) else ((spec_GoodRing.f kj39 x258000_39 (wrap64 (x5_1 + 1)) (wrap64 ((wrap64 (Int.tdiv (wrap64 (x5_1 + 1)) (l0.length : Int))) + 1)) ((rd_T26 l0 (ji82)).f1)).bind fun t264 => (if t264 = true then (some (x258000_39, (wrap64 (x5_1 + 1)), (wrap64 ((wrap64 (Int.tdiv (wrap64 (x5_1 + 1)) (l0.length : Int))) + 1)), (rd_T26 l0 (ji82)).f1, true)) else (some (([] : List (S26)), 0, 0, 0, false))))) else (none)) else (none)) = some (r1, r2, r3, r4, r5) := by first | (rw [hji82] at H; exact H) | (simp only [hji82] at H ⊢; exact H)
          by_cases c83 : 0 ≤ (ji82)
          ·
           rw [if_pos c83] at H
           have c83b0 : decide (0 ≤ (ji82)) = true := decide_eq_true c83
           clear c83
           by_cases c84 : (ji82) < (l0.length : Int)
           ·
            rw [if_pos c84] at H
            have c84b0 : decide ((ji82) < (l0.length : Int)) = true := decide_eq_true c84
            clear c84
            by_cases c85 : ((rd_T26 l0 (ji82)).f1) < x10_39
            ·
             rw [if_pos c85] at H
             have c85b0 : decide (((rd_T26 l0 (ji82)).f1) < x10_39) = true := decide_eq_true c85
             clear c85
             replace H := Option.bind_eq_some_iff.mp H
             obtain ⟨t263, A860, H⟩ := H
             replace H : (if t263 = true then (some (x258000_39, (wrap64 (x5_1 + 1)), (wrap64 ((wrap64 (Int.tdiv (wrap64 (x5_1 + 1)) (l0.length : Int))) + 1)), x10_39, true)) else (some (([] : List (S26)), 0, 0, 0, false))) = some (r1, r2, r3, r4, r5) := H
             have A86 := Aside0.mk A860
             clear A860
             by_cases c87 : t263 = true
             ·
              subst c87
              rw [if_pos rfl] at H
              simp only [Option.some.injEq, Prod.mk.injEq] at H
              obtain ⟨rfl, rfl, rfl, rfl, rfl⟩ := H
              have p262 : 0 ≤ ((ji82) : Int) := of_decide_eq_true (by first | (with_reducible assumption) | assumption)
              have q262 : (ji82) < (l0.length : Int) := of_decide_eq_true (by first | (with_reducible assumption) | assumption)
              obtain ⟨ad262, e262, hx262_0, hx262_1, hx262_2, hx262_3⟩ := at_T26 HR0.out (ji82) p262 q262
              cases e262
              replace hx262_0 := (HB.out.cell (World.block_lt_of_cell? w _ hx262_0)).trans hx262_0
              replace hx262_1 := (HB.out.cell (World.block_lt_of_cell? w _ hx262_1)).trans hx262_1
              replace hx262_2 := (HB.out.cell (World.block_lt_of_cell? w _ hx262_2)).trans hx262_2
              replace hx262_3 := (HB.out.cell (World.block_lt_of_cell? w _ hx262_3)).trans hx262_3
              replace p262 := eq_true p262
              replace q262 := eq_true q262
              have hnb88 := NB257_245.out
              have hnc88 := NB245_257.out
              obtain ⟨hcz89_0, hcz89_1, hcz89_2, hcz89_3⟩ := cz4 BK257
              obtain ⟨hfz89_0, hfz89_1, hfz89_2, hfz89_3⟩ := fz4 BK257
              obtain ⟨Ao90, co90, eo90⟩ := Kd.R_slice HO_258000.out
              subst eo90
              go_wp2_with (first | ((with_reducible refine gate_callee (f := 18) rfl ?_); refine gL (some 123) rfl rfl Tryd.func18 (by kernel_rfl) rfl #[.agg #[.slice Ao90 x258000_39.length co90, .int .i64 (wrap64 (x5_1 + 1)), .int .i64 (wrap64 ((wrap64 (Int.tdiv (wrap64 (x5_1 + 1)) (l0.length : Int))) + 1)), .int .i64 x10_39]] rfl ?_; (with_reducible refine (spec_GoodRing.calls kj39 _ _ x258000_39 (wrap64 (x5_1 + 1)) (wrap64 ((wrap64 (Int.tdiv (wrap64 (x5_1 + 1)) (l0.length : Int))) + 1)) x10_39 true _ ?side1 ?side2 A86.out).mono ?_); (case side1 => refine (Kd.R_reads' (e := 26) (base := w.heap.size) (ok := fun k_ => True) (n := x258000_39.length) (c := co90) ?_).2.2; exact (by (with_reducible repeat (first | apply Kd.R_alloc | apply Kd.R_drewN | apply Kd.R_drew)); exact (Kd.R_mono (Kd.R_far (p := ⟨gb257, 3, none⟩) (Kd.R_far (p := ⟨gb257, 3, none⟩) (Kd.R_types HO_258000.out BK257.out (by decide)) (fun _ hk => hk.2) (.int .i64 ((rd_T26 l0 (ji82)).f1))) (fun _ hk => hk.2) (.int .i64 x10_39)) (fun _ h_ => h_.1)))); (case side2 => exact (Kd.R_reads' HO_258000.out).2.1); rintro e w91 ⟨rfl, hb⟩; refine ⟨_, rfl, ?_⟩; replace HO_258000 := Aside0.mk (Kd.R_below (by (with_reducible repeat (first | apply Kd.R_alloc | apply Kd.R_drewN | apply Kd.R_drew)); exact (Kd.R_mono (Kd.R_far (p := ⟨gb257, 3, none⟩) (Kd.R_far (p := ⟨gb257, 3, none⟩) (Kd.R_types HO_258000.out BK257.out (by decide)) (fun _ hk => hk.2) (.int .i64 ((rd_T26 l0 (ji82)).f1))) (fun _ hk => hk.2) (.int .i64 x10_39)) (fun _ h_ => h_.1))) hb); replace BK245 := Aside0.mk (blk_below (bf BK245 NB245_257) hb); replace BK257 := Aside0.mk (blk_below (g := gb257) (o := .cells #[.slice Ao90 x258000_39.length co90, .int .i64 (wrap64 (x5_1 + 1)), .int .i64 (wrap64 ((wrap64 (Int.tdiv (wrap64 (x5_1 + 1)) (l0.length : Int))) + 1)), .int .i64 x10_39] 36 (0, 0)) (by (with_reducible repeat (first | refine blk_drewN ?_ _ | refine blk_drew ?_ | refine blk_alloc ?_ _)); refine blk_put (cs := #[.slice Ao90 x258000_39.length co90, .int .i64 (wrap64 (x5_1 + 1)), .int .i64 (wrap64 ((wrap64 (Int.tdiv (wrap64 (x5_1 + 1)) (l0.length : Int))) + 1)), .int .i64 ((rd_T26 l0 (ji82)).f1)]) ?_ 3 _ rfl; (with_reducible repeat (first | refine blk_drewN ?_ _ | refine blk_drew ?_ | refine blk_alloc ?_ _)); refine blk_put (cs := #[.slice Ao90 x258000_39.length co90, .int .i64 (wrap64 (x5_1 + 1)), .int .i64 (wrap64 ((wrap64 (Int.tdiv (wrap64 (x5_1 + 1)) (l0.length : Int))) + 1)), .int .i64 t255]) ?_ 3 _ rfl; (with_reducible repeat (first | refine blk_drewN ?_ _ | refine blk_drew ?_ | refine blk_alloc ?_ _)); exact BK257.out) hb); replace HB := Aside0.mk (below_step (bs2 HB GE245 GE257) hb); (try clear hb); (try clear hb2); (try clear hk); (try clear hi); obtain ⟨hcz92_0, hcz92_1, hcz92_2, hcz92_3⟩ := cz4 BK257; obtain ⟨hfz92_0, hfz92_1, hfz92_2, hfz92_3⟩ := fz4 BK257; obtain ⟨hcz93_0, hcz93_1, hcz93_2, hcz93_3⟩ := cz4 BK245; obtain ⟨hfz93_0, hfz93_1, hfz93_2, hfz93_3⟩ := fz4 BK245))
              refine bodyPost_ret (results_ct rfl _ _ gb245 36 #[.slice Ao90 x258000_39.length co90, .int .i64 (wrap64 (x5_1 + 1)), .int .i64 (wrap64 ((wrap64 (Int.tdiv (wrap64 (x5_1 + 1)) (l0.length : Int))) + 1)), .int .i64 x10_39] (0, 0) _ rfl (by (with_reducible repeat (first | refine blk_drewN ?_ _ | refine blk_drew ?_ | refine blk_alloc ?_ _)); refine blk_put (cs := #[.slice Ao90 x258000_39.length co90, .int .i64 (wrap64 (x5_1 + 1)), .int .i64 (wrap64 ((wrap64 (Int.tdiv (wrap64 (x5_1 + 1)) (l0.length : Int))) + 1)), .int .i64 0]) ?_ 3 _ rfl; (with_reducible repeat (first | refine blk_drewN ?_ _ | refine blk_drew ?_ | refine blk_alloc ?_ _)); refine blk_put (cs := #[.slice Ao90 x258000_39.length co90, .int .i64 (wrap64 (x5_1 + 1)), .int .i64 0, .int .i64 0]) ?_ 2 _ rfl; (with_reducible repeat (first | refine blk_drewN ?_ _ | refine blk_drew ?_ | refine blk_alloc ?_ _)); refine blk_put (cs := #[.slice Ao90 x258000_39.length co90, .int .i64 0, .int .i64 0, .int .i64 0]) ?_ 1 _ rfl; (with_reducible repeat (first | refine blk_drewN ?_ _ | refine blk_drew ?_ | refine blk_alloc ?_ _)); refine blk_put (cs := #[.slice none 0 0, .int .i64 0, .int .i64 0, .int .i64 0]) ?_ 0 _ rfl; (with_reducible repeat (first | refine blk_drewN ?_ _ | refine blk_drew ?_ | refine blk_alloc ?_ _)); exact BK245.out) Tryd.underlying36 rfl (by kernel_rfl)) rfl ?_
              exact ⟨_, by first | rfl | (simp [errW_none, errW_some] <;> rfl) | (simp only [← hji82]; first | rfl | (simp [errW_none, errW_some] <;> rfl)) | (simp [*, errW_none, errW_some] <;> rfl), by (with_reducible repeat (first | apply Kd.R_alloc | apply Kd.R_drewN | apply Kd.R_drew)); exact Kd.R_mono (Kd.R_far (p := ⟨gb245, 3, none⟩) (Kd.R_far (p := ⟨gb245, 2, none⟩) (Kd.R_far (p := ⟨gb245, 1, none⟩) (Kd.R_far (p := ⟨gb245, 0, none⟩) (Kd.R_types HO_258000.out BK245.out (by decide)) (fun _ hk => hk.2) (.slice Ao90 x258000_39.length co90)) (fun _ hk => hk.2) (.int .i64 (wrap64 (x5_1 + 1)))) (fun _ hk => hk.2) (.int .i64 (wrap64 ((wrap64 (Int.tdiv (wrap64 (x5_1 + 1)) (l0.length : Int))) + 1)))) (fun _ hk => hk.2) (.int .i64 x10_39)) (fun _ hk => trivial), bs2 HB GE245 GE257⟩
             ·
              replace c87 := Bool.eq_false_iff.mpr c87
              subst c87
              rw [if_neg (show ¬ (false = true) by decide)] at H
              simp only [Option.some.injEq, Prod.mk.injEq] at H
              obtain ⟨rfl, rfl, rfl, rfl, rfl⟩ := H
              have p262 : 0 ≤ ((ji82) : Int) := of_decide_eq_true (by first | (with_reducible assumption) | assumption)
              have q262 : (ji82) < (l0.length : Int) := of_decide_eq_true (by first | (with_reducible assumption) | assumption)
              obtain ⟨ad262, e262, hx262_0, hx262_1, hx262_2, hx262_3⟩ := at_T26 HR0.out (ji82) p262 q262
              cases e262
              replace hx262_0 := (HB.out.cell (World.block_lt_of_cell? w _ hx262_0)).trans hx262_0
              replace hx262_1 := (HB.out.cell (World.block_lt_of_cell? w _ hx262_1)).trans hx262_1
              replace hx262_2 := (HB.out.cell (World.block_lt_of_cell? w _ hx262_2)).trans hx262_2
              replace hx262_3 := (HB.out.cell (World.block_lt_of_cell? w _ hx262_3)).trans hx262_3
              replace p262 := eq_true p262
              replace q262 := eq_true q262
              have hnb94 := NB257_245.out
              have hnc94 := NB245_257.out
              obtain ⟨hcz95_0, hcz95_1, hcz95_2, hcz95_3⟩ := cz4 BK257
              obtain ⟨hfz95_0, hfz95_1, hfz95_2, hfz95_3⟩ := fz4 BK257
              obtain ⟨Ao96, co96, eo96⟩ := Kd.R_slice HO_258000.out
              subst eo96
              go_wp2_with (first | ((with_reducible refine gate_callee (f := 18) rfl ?_); refine gL (some 123) rfl rfl Tryd.func18 (by kernel_rfl) rfl #[.agg #[.slice Ao96 x258000_39.length co96, .int .i64 (wrap64 (x5_1 + 1)), .int .i64 (wrap64 ((wrap64 (Int.tdiv (wrap64 (x5_1 + 1)) (l0.length : Int))) + 1)), .int .i64 x10_39]] rfl ?_; (with_reducible refine (spec_GoodRing.calls kj39 _ _ x258000_39 (wrap64 (x5_1 + 1)) (wrap64 ((wrap64 (Int.tdiv (wrap64 (x5_1 + 1)) (l0.length : Int))) + 1)) x10_39 false _ ?side1 ?side2 A86.out).mono ?_); (case side1 => refine (Kd.R_reads' (e := 26) (base := w.heap.size) (ok := fun k_ => True) (n := x258000_39.length) (c := co96) ?_).2.2; exact (by (with_reducible repeat (first | apply Kd.R_alloc | apply Kd.R_drewN | apply Kd.R_drew)); exact (Kd.R_mono (Kd.R_far (p := ⟨gb257, 3, none⟩) (Kd.R_far (p := ⟨gb257, 3, none⟩) (Kd.R_types HO_258000.out BK257.out (by decide)) (fun _ hk => hk.2) (.int .i64 ((rd_T26 l0 (ji82)).f1))) (fun _ hk => hk.2) (.int .i64 x10_39)) (fun _ h_ => h_.1)))); (case side2 => exact (Kd.R_reads' HO_258000.out).2.1); rintro e w97 ⟨rfl, hb⟩; refine ⟨_, rfl, ?_⟩; replace HO_258000 := Aside0.mk (Kd.R_below (by (with_reducible repeat (first | apply Kd.R_alloc | apply Kd.R_drewN | apply Kd.R_drew)); exact (Kd.R_mono (Kd.R_far (p := ⟨gb257, 3, none⟩) (Kd.R_far (p := ⟨gb257, 3, none⟩) (Kd.R_types HO_258000.out BK257.out (by decide)) (fun _ hk => hk.2) (.int .i64 ((rd_T26 l0 (ji82)).f1))) (fun _ hk => hk.2) (.int .i64 x10_39)) (fun _ h_ => h_.1))) hb); replace BK245 := Aside0.mk (blk_below (bf BK245 NB245_257) hb); replace BK257 := Aside0.mk (blk_below (g := gb257) (o := .cells #[.slice Ao96 x258000_39.length co96, .int .i64 (wrap64 (x5_1 + 1)), .int .i64 (wrap64 ((wrap64 (Int.tdiv (wrap64 (x5_1 + 1)) (l0.length : Int))) + 1)), .int .i64 x10_39] 36 (0, 0)) (by (with_reducible repeat (first | refine blk_drewN ?_ _ | refine blk_drew ?_ | refine blk_alloc ?_ _)); refine blk_put (cs := #[.slice Ao96 x258000_39.length co96, .int .i64 (wrap64 (x5_1 + 1)), .int .i64 (wrap64 ((wrap64 (Int.tdiv (wrap64 (x5_1 + 1)) (l0.length : Int))) + 1)), .int .i64 ((rd_T26 l0 (ji82)).f1)]) ?_ 3 _ rfl; (with_reducible repeat (first | refine blk_drewN ?_ _ | refine blk_drew ?_ | refine blk_alloc ?_ _)); refine blk_put (cs := #[.slice Ao96 x258000_39.length co96, .int .i64 (wrap64 (x5_1 + 1)), .int .i64 (wrap64 ((wrap64 (Int.tdiv (wrap64 (x5_1 + 1)) (l0.length : Int))) + 1)), .int .i64 t255]) ?_ 3 _ rfl; (with_reducible repeat (first | refine blk_drewN ?_ _ | refine blk_drew ?_ | refine blk_alloc ?_ _)); exact BK257.out) hb); replace HB := Aside0.mk (below_step (bs2 HB GE245 GE257) hb); (try clear hb); (try clear hb2); (try clear hk); (try clear hi); obtain ⟨hcz98_0, hcz98_1, hcz98_2, hcz98_3⟩ := cz4 BK245; obtain ⟨hfz98_0, hfz98_1, hfz98_2, hfz98_3⟩ := fz4 BK245))
              refine bodyPost_ret (results_ct rfl _ _ gb245 36 #[.slice none 0 0, .int .i64 0, .int .i64 0, .int .i64 0] (0, 0) _ rfl (by (with_reducible repeat (first | refine blk_drewN ?_ _ | refine blk_drew ?_ | refine blk_alloc ?_ _)); refine blk_put (cs := #[.slice none 0 0, .int .i64 0, .int .i64 0, .int .i64 0]) ?_ 3 _ rfl; (with_reducible repeat (first | refine blk_drewN ?_ _ | refine blk_drew ?_ | refine blk_alloc ?_ _)); refine blk_put (cs := #[.slice none 0 0, .int .i64 0, .int .i64 0, .int .i64 0]) ?_ 2 _ rfl; (with_reducible repeat (first | refine blk_drewN ?_ _ | refine blk_drew ?_ | refine blk_alloc ?_ _)); refine blk_put (cs := #[.slice none 0 0, .int .i64 0, .int .i64 0, .int .i64 0]) ?_ 1 _ rfl; (with_reducible repeat (first | refine blk_drewN ?_ _ | refine blk_drew ?_ | refine blk_alloc ?_ _)); refine blk_put (cs := #[.slice none 0 0, .int .i64 0, .int .i64 0, .int .i64 0]) ?_ 0 _ rfl; (with_reducible repeat (first | refine blk_drewN ?_ _ | refine blk_drew ?_ | refine blk_alloc ?_ _)); exact BK245.out) Tryd.underlying36 rfl (by kernel_rfl)) rfl ?_
              exact ⟨_, by first | rfl | (simp [errW_none, errW_some] <;> rfl) | (simp only [← hji82]; first | rfl | (simp [errW_none, errW_some] <;> rfl)) | (simp [*, errW_none, errW_some] <;> rfl), by first | exact Kd.R_nil _ _ _ _ _ | exact Kd.N_nil _ _ _ _ _ | exact Kd.V_nil _ _ _ _ _ | exact Kd.Q_nil _ _ _ _ _ | exact Kd.S_nil _ _ _ _ _, bs2 HB GE245 GE257⟩
            ·
             rw [if_neg c85] at H
             have c85b0 : decide (((rd_T26 l0 (ji82)).f1) < x10_39) = false := decide_eq_false c85
             clear c85
             replace H := Option.bind_eq_some_iff.mp H
             obtain ⟨t264, A990, H⟩ := H
             replace H : (if t264 = true then (some (x258000_39, (wrap64 (x5_1 + 1)), (wrap64 ((wrap64 (Int.tdiv (wrap64 (x5_1 + 1)) (l0.length : Int))) + 1)), (rd_T26 l0 (ji82)).f1, true)) else (some (([] : List (S26)), 0, 0, 0, false))) = some (r1, r2, r3, r4, r5) := H
             have A99 := Aside0.mk A990
             clear A990
             by_cases c100 : t264 = true
             ·
              subst c100
              rw [if_pos rfl] at H
              simp only [Option.some.injEq, Prod.mk.injEq] at H
              obtain ⟨rfl, rfl, rfl, rfl, rfl⟩ := H
              have p262 : 0 ≤ ((ji82) : Int) := of_decide_eq_true (by first | (with_reducible assumption) | assumption)
              have q262 : (ji82) < (l0.length : Int) := of_decide_eq_true (by first | (with_reducible assumption) | assumption)
              obtain ⟨ad262, e262, hx262_0, hx262_1, hx262_2, hx262_3⟩ := at_T26 HR0.out (ji82) p262 q262
              cases e262
              replace hx262_0 := (HB.out.cell (World.block_lt_of_cell? w _ hx262_0)).trans hx262_0
              replace hx262_1 := (HB.out.cell (World.block_lt_of_cell? w _ hx262_1)).trans hx262_1
              replace hx262_2 := (HB.out.cell (World.block_lt_of_cell? w _ hx262_2)).trans hx262_2
              replace hx262_3 := (HB.out.cell (World.block_lt_of_cell? w _ hx262_3)).trans hx262_3
              replace p262 := eq_true p262
              replace q262 := eq_true q262
              have hnb101 := NB257_245.out
              have hnc101 := NB245_257.out
              obtain ⟨hcz102_0, hcz102_1, hcz102_2, hcz102_3⟩ := cz4 BK257
              obtain ⟨hfz102_0, hfz102_1, hfz102_2, hfz102_3⟩ := fz4 BK257
              obtain ⟨Ao103, co103, eo103⟩ := Kd.R_slice HO_258000.out
              subst eo103
              go_wp2_with (first | ((with_reducible refine gate_callee (f := 18) rfl ?_); refine goesL_ (some 123) rfl rfl Tryd.func18 (by kernel_rfl) rfl #[.agg #[.slice Ao103 x258000_39.length co103, .int .i64 (wrap64 (x5_1 + 1)), .int .i64 (wrap64 ((wrap64 (Int.tdiv (wrap64 (x5_1 + 1)) (l0.length : Int))) + 1)), .int .i64 ((rd_T26 l0 (ji82)).f1)]] rfl (by (try simp only [List.map_toArray, List.map_cons, List.map_nil]); first | done | (simp only [hji82]; rfl) | rfl | (simp only [List.length_drop, List.length_take]; rfl)) ?_; (with_reducible refine (spec_GoodRing.calls kj39 _ _ x258000_39 (wrap64 (x5_1 + 1)) (wrap64 ((wrap64 (Int.tdiv (wrap64 (x5_1 + 1)) (l0.length : Int))) + 1)) ((rd_T26 l0 (ji82)).f1) true _ ?side1 ?side2 A99.out).mono ?_); (case side1 => refine (Kd.R_reads' (e := 26) (base := w.heap.size) (ok := fun k_ => True) (n := x258000_39.length) (c := co103) ?_).2.2; exact (by (with_reducible repeat (first | apply Kd.R_alloc | apply Kd.R_drewN | apply Kd.R_drew)); exact (Kd.R_mono (Kd.R_far (p := ⟨gb257, 3, none⟩) (Kd.R_types HO_258000.out BK257.out (by decide)) (fun _ hk => hk.2) (.int .i64 ((rd_T26 l0 (ji82)).f1))) (fun _ h_ => h_.1)))); (case side2 => exact (Kd.R_reads' HO_258000.out).2.1); rintro e w104 ⟨rfl, hb⟩; refine ⟨_, rfl, ?_⟩; replace HO_258000 := Aside0.mk (Kd.R_below (by (with_reducible repeat (first | apply Kd.R_alloc | apply Kd.R_drewN | apply Kd.R_drew)); exact (Kd.R_mono (Kd.R_far (p := ⟨gb257, 3, none⟩) (Kd.R_types HO_258000.out BK257.out (by decide)) (fun _ hk => hk.2) (.int .i64 ((rd_T26 l0 (ji82)).f1))) (fun _ h_ => h_.1))) hb); replace BK245 := Aside0.mk (blk_below (bf BK245 NB245_257) hb); replace BK257 := Aside0.mk (blk_below (g := gb257) (o := .cells #[.slice Ao103 x258000_39.length co103, .int .i64 (wrap64 (x5_1 + 1)), .int .i64 (wrap64 ((wrap64 (Int.tdiv (wrap64 (x5_1 + 1)) (l0.length : Int))) + 1)), .int .i64 ((rd_T26 l0 (ji82)).f1)] 36 (0, 0)) (by (with_reducible repeat (first | refine blk_drewN ?_ _ | refine blk_drew ?_ | refine blk_alloc ?_ _)); refine blk_put (cs := #[.slice Ao103 x258000_39.length co103, .int .i64 (wrap64 (x5_1 + 1)), .int .i64 (wrap64 ((wrap64 (Int.tdiv (wrap64 (x5_1 + 1)) (l0.length : Int))) + 1)), .int .i64 t255]) ?_ 3 _ rfl; (with_reducible repeat (first | refine blk_drewN ?_ _ | refine blk_drew ?_ | refine blk_alloc ?_ _)); exact BK257.out) hb); replace HB := Aside0.mk (below_step (bs2 HB GE245 GE257) hb); (try clear hb); (try clear hb2); (try clear hk); (try clear hi); obtain ⟨hcz105_0, hcz105_1, hcz105_2, hcz105_3⟩ := cz4 BK257; obtain ⟨hfz105_0, hfz105_1, hfz105_2, hfz105_3⟩ := fz4 BK257; obtain ⟨hcz106_0, hcz106_1, hcz106_2, hcz106_3⟩ := cz4 BK245; obtain ⟨hfz106_0, hfz106_1, hfz106_2, hfz106_3⟩ := fz4 BK245))
              refine bodyPost_ret (results_ct rfl _ _ gb245 36 #[.slice Ao103 x258000_39.length co103, .int .i64 (wrap64 (x5_1 + 1)), .int .i64 (wrap64 ((wrap64 (Int.tdiv (wrap64 (x5_1 + 1)) (l0.length : Int))) + 1)), .int .i64 ((rd_T26 l0 (ji82)).f1)] (0, 0) _ rfl (by (with_reducible repeat (first | refine blk_drewN ?_ _ | refine blk_drew ?_ | refine blk_alloc ?_ _)); refine blk_put (cs := #[.slice Ao103 x258000_39.length co103, .int .i64 (wrap64 (x5_1 + 1)), .int .i64 (wrap64 ((wrap64 (Int.tdiv (wrap64 (x5_1 + 1)) (l0.length : Int))) + 1)), .int .i64 0]) ?_ 3 _ rfl; (with_reducible repeat (first | refine blk_drewN ?_ _ | refine blk_drew ?_ | refine blk_alloc ?_ _)); refine blk_put (cs := #[.slice Ao103 x258000_39.length co103, .int .i64 (wrap64 (x5_1 + 1)), .int .i64 0, .int .i64 0]) ?_ 2 _ rfl; (with_reducible repeat (first | refine blk_drewN ?_ _ | refine blk_drew ?_ | refine blk_alloc ?_ _)); refine blk_put (cs := #[.slice Ao103 x258000_39.length co103, .int .i64 0, .int .i64 0, .int .i64 0]) ?_ 1 _ rfl; (with_reducible repeat (first | refine blk_drewN ?_ _ | refine blk_drew ?_ | refine blk_alloc ?_ _)); refine blk_put (cs := #[.slice none 0 0, .int .i64 0, .int .i64 0, .int .i64 0]) ?_ 0 _ rfl; (with_reducible repeat (first | refine blk_drewN ?_ _ | refine blk_drew ?_ | refine blk_alloc ?_ _)); exact BK245.out) Tryd.underlying36 rfl (by kernel_rfl)) rfl ?_
              exact ⟨_, by first | rfl | (simp [errW_none, errW_some] <;> rfl) | (simp only [← hji82]; first | rfl | (simp [errW_none, errW_some] <;> rfl)) | (simp [*, errW_none, errW_some] <;> rfl), by (with_reducible repeat (first | apply Kd.R_alloc | apply Kd.R_drewN | apply Kd.R_drew)); exact Kd.R_mono (Kd.R_far (p := ⟨gb245, 3, none⟩) (Kd.R_far (p := ⟨gb245, 2, none⟩) (Kd.R_far (p := ⟨gb245, 1, none⟩) (Kd.R_far (p := ⟨gb245, 0, none⟩) (Kd.R_types HO_258000.out BK245.out (by decide)) (fun _ hk => hk.2) (.slice Ao103 x258000_39.length co103)) (fun _ hk => hk.2) (.int .i64 (wrap64 (x5_1 + 1)))) (fun _ hk => hk.2) (.int .i64 (wrap64 ((wrap64 (Int.tdiv (wrap64 (x5_1 + 1)) (l0.length : Int))) + 1)))) (fun _ hk => hk.2) (.int .i64 ((rd_T26 l0 (ji82)).f1))) (fun _ hk => trivial), bs2 HB GE245 GE257⟩
             ·
              replace c100 := Bool.eq_false_iff.mpr c100
              subst c100
              rw [if_neg (show ¬ (false = true) by decide)] at H
              simp only [Option.some.injEq, Prod.mk.injEq] at H
              obtain ⟨rfl, rfl, rfl, rfl, rfl⟩ := H
              have p262 : 0 ≤ ((ji82) : Int) := of_decide_eq_true (by first | (with_reducible assumption) | assumption)
              have q262 : (ji82) < (l0.length : Int) := of_decide_eq_true (by first | (with_reducible assumption) | assumption)
              obtain ⟨ad262, e262, hx262_0, hx262_1, hx262_2, hx262_3⟩ := at_T26 HR0.out (ji82) p262 q262
              cases e262
              replace hx262_0 := (HB.out.cell (World.block_lt_of_cell? w _ hx262_0)).trans hx262_0
              replace hx262_1 := (HB.out.cell (World.block_lt_of_cell? w _ hx262_1)).trans hx262_1
              replace hx262_2 := (HB.out.cell (World.block_lt_of_cell? w _ hx262_2)).trans hx262_2
              replace hx262_3 := (HB.out.cell (World.block_lt_of_cell? w _ hx262_3)).trans hx262_3
              replace p262 := eq_true p262
              replace q262 := eq_true q262
              have hnb107 := NB257_245.out
              have hnc107 := NB245_257.out
              obtain ⟨hcz108_0, hcz108_1, hcz108_2, hcz108_3⟩ := cz4 BK257
              obtain ⟨hfz108_0, hfz108_1, hfz108_2, hfz108_3⟩ := fz4 BK257
              obtain ⟨Ao109, co109, eo109⟩ := Kd.R_slice HO_258000.out
              subst eo109
              go_wp2_with (first | ((with_reducible refine gate_callee (f := 18) rfl ?_); refine goesL_ (some 123) rfl rfl Tryd.func18 (by kernel_rfl) rfl #[.agg #[.slice Ao109 x258000_39.length co109, .int .i64 (wrap64 (x5_1 + 1)), .int .i64 (wrap64 ((wrap64 (Int.tdiv (wrap64 (x5_1 + 1)) (l0.length : Int))) + 1)), .int .i64 ((rd_T26 l0 (ji82)).f1)]] rfl (by (try simp only [List.map_toArray, List.map_cons, List.map_nil]); first | done | (simp only [hji82]; rfl) | rfl | (simp only [List.length_drop, List.length_take]; rfl)) ?_; (with_reducible refine (spec_GoodRing.calls kj39 _ _ x258000_39 (wrap64 (x5_1 + 1)) (wrap64 ((wrap64 (Int.tdiv (wrap64 (x5_1 + 1)) (l0.length : Int))) + 1)) ((rd_T26 l0 (ji82)).f1) false _ ?side1 ?side2 A99.out).mono ?_); (case side1 => refine (Kd.R_reads' (e := 26) (base := w.heap.size) (ok := fun k_ => True) (n := x258000_39.length) (c := co109) ?_).2.2; exact (by (with_reducible repeat (first | apply Kd.R_alloc | apply Kd.R_drewN | apply Kd.R_drew)); exact (Kd.R_mono (Kd.R_far (p := ⟨gb257, 3, none⟩) (Kd.R_types HO_258000.out BK257.out (by decide)) (fun _ hk => hk.2) (.int .i64 ((rd_T26 l0 (ji82)).f1))) (fun _ h_ => h_.1)))); (case side2 => exact (Kd.R_reads' HO_258000.out).2.1); rintro e w110 ⟨rfl, hb⟩; refine ⟨_, rfl, ?_⟩; replace HO_258000 := Aside0.mk (Kd.R_below (by (with_reducible repeat (first | apply Kd.R_alloc | apply Kd.R_drewN | apply Kd.R_drew)); exact (Kd.R_mono (Kd.R_far (p := ⟨gb257, 3, none⟩) (Kd.R_types HO_258000.out BK257.out (by decide)) (fun _ hk => hk.2) (.int .i64 ((rd_T26 l0 (ji82)).f1))) (fun _ h_ => h_.1))) hb); replace BK245 := Aside0.mk (blk_below (bf BK245 NB245_257) hb); replace BK257 := Aside0.mk (blk_below (g := gb257) (o := .cells #[.slice Ao109 x258000_39.length co109, .int .i64 (wrap64 (x5_1 + 1)), .int .i64 (wrap64 ((wrap64 (Int.tdiv (wrap64 (x5_1 + 1)) (l0.length : Int))) + 1)), .int .i64 ((rd_T26 l0 (ji82)).f1)] 36 (0, 0)) (by (with_reducible repeat (first | refine blk_drewN ?_ _ | refine blk_drew ?_ | refine blk_alloc ?_ _)); refine blk_put (cs := #[.slice Ao109 x258000_39.length co109, .int .i64 (wrap64 (x5_1 + 1)), .int .i64 (wrap64 ((wrap64 (Int.tdiv (wrap64 (x5_1 + 1)) (l0.length : Int))) + 1)), .int .i64 t255]) ?_ 3 _ rfl; (with_reducible repeat (first | refine blk_drewN ?_ _ | refine blk_drew ?_ | refine blk_alloc ?_ _)); exact BK257.out) hb); replace HB := Aside0.mk (below_step (bs2 HB GE245 GE257) hb); (try clear hb); (try clear hb2); (try clear hk); (try clear hi); obtain ⟨hcz111_0, hcz111_1, hcz111_2, hcz111_3⟩ := cz4 BK245; obtain ⟨hfz111_0, hfz111_1, hfz111_2, hfz111_3⟩ := fz4 BK245))
              refine bodyPost_ret (results_ct rfl _ _ gb245 36 #[.slice none 0 0, .int .i64 0, .int .i64 0, .int .i64 0] (0, 0) _ rfl (by (with_reducible repeat (first | refine blk_drewN ?_ _ | refine blk_drew ?_ | refine blk_alloc ?_ _)); refine blk_put (cs := #[.slice none 0 0, .int .i64 0, .int .i64 0, .int .i64 0]) ?_ 3 _ rfl; (with_reducible repeat (first | refine blk_drewN ?_ _ | refine blk_drew ?_ | refine blk_alloc ?_ _)); refine blk_put (cs := #[.slice none 0 0, .int .i64 0, .int .i64 0, .int .i64 0]) ?_ 2 _ rfl; (with_reducible repeat (first | refine blk_drewN ?_ _ | refine blk_drew ?_ | refine blk_alloc ?_ _)); refine blk_put (cs := #[.slice none 0 0, .int .i64 0, .int .i64 0, .int .i64 0]) ?_ 1 _ rfl; (with_reducible repeat (first | refine blk_drewN ?_ _ | refine blk_drew ?_ | refine blk_alloc ?_ _)); refine blk_put (cs := #[.slice none 0 0, .int .i64 0, .int .i64 0, .int .i64 0]) ?_ 0 _ rfl; (with_reducible repeat (first | refine blk_drewN ?_ _ | refine blk_drew ?_ | refine blk_alloc ?_ _)); exact BK245.out) Tryd.underlying36 rfl (by kernel_rfl)) rfl ?_
              exact ⟨_, by first | rfl | (simp [errW_none, errW_some] <;> rfl) | (simp only [← hji82]; first | rfl | (simp [errW_none, errW_some] <;> rfl)) | (simp [*, errW_none, errW_some] <;> rfl), by first | exact Kd.R_nil _ _ _ _ _ | exact Kd.N_nil _ _ _ _ _ | exact Kd.V_nil _ _ _ _ _ | exact Kd.Q_nil _ _ _ _ _ | exact Kd.S_nil _ _ _ _ _, bs2 HB GE245 GE257⟩
           ·
            rw [if_neg c84] at H
            exact absurd H (by simp)
          ·
           rw [if_neg c83] at H
           exact absurd H (by simp)
 ·
  replace c3 := Bool.eq_false_iff.mpr c3
  subst c3
  rw [if_neg (show ¬ (false = true) by decide)] at H
  simp only [Option.some.injEq, Prod.mk.injEq] at H
  obtain ⟨rfl, rfl, rfl, rfl, rfl⟩ := H
  go_enter Tryd.func42, Tryd.ntmps42
  go_wp2_with (first | ((with_reducible refine gate_dst (N := 2) rfl ?_); refine box_event ?hg (N := 2) ?hd (cs := #[.slice none 0 0, .int .i64 0, .int .i64 0, .int .i64 0]) (t := 36) ?hr ?_; (case hd => rfl); (case hg => rfl); (case hr => first | (go_simp; done) | (go_simp; rfl)); intro gb245 hg w112 hbox hb; have BK245 := Aside0.mk (hbox); have GW245 := Aside0.mk ((by rw [hg]; exact (below_size (bs HB)) : w.heap.size ≤ gb245)); have GE245 := Aside0.mk ((by rw [hg]; exact (below_size (bs HB)) : w.heap.size ≤ gb245)); replace HB := Aside0.mk (below_step (bs HB) hb); clear hb hbox hg) | ((with_reducible refine gate_callee (f := 55) rfl ?_); refine gL (some 16) rfl rfl Tryd.func55 (by kernel_rfl) rfl #[.int .i64 (l0.length : Int), .int .i64 2, .int .i64 24] rfl ?_; (with_reducible refine (spec_l1In.calls (l0.length : Int) 2 24 false _ A2.out).mono ?_); rintro e w' ⟨rfl, ⟨nd, rfl⟩⟩; refine ⟨_, rfl, ?_⟩; (try (rw [drewN_self w112]; generalize hq_ : World.drewN w112 _ = w112; have n0_ : Aside0 (w112.heap[gb245]? = some (.cells #[.slice none 0 0, .int .i64 0, .int .i64 0, .int .i64 0] 36 (0, 0))) := ⟨by rw [← hq_]; exact (bk BK245)⟩; have n1_ : Aside0 (Below w.heap.size w w112) := ⟨by rw [← hq_]; exact (bs1 HB GE245)⟩; clear BK245 HB hq_; have BK245 := n0_; have HB := n1_; clear n0_ n1_)); obtain ⟨hcz113_0, hcz113_1, hcz113_2, hcz113_3⟩ := cz4 BK245; obtain ⟨hfz113_0, hfz113_1, hfz113_2, hfz113_3⟩ := fz4 BK245))
  refine bodyPost_ret (results_ct rfl _ _ gb245 36 #[.slice none 0 0, .int .i64 0, .int .i64 0, .int .i64 0] (0, 0) _ rfl (by (with_reducible repeat (first | refine blk_drewN ?_ _ | refine blk_drew ?_ | refine blk_alloc ?_ _)); refine blk_put (cs := #[.slice none 0 0, .int .i64 0, .int .i64 0, .int .i64 0]) ?_ 3 _ rfl; (with_reducible repeat (first | refine blk_drewN ?_ _ | refine blk_drew ?_ | refine blk_alloc ?_ _)); refine blk_put (cs := #[.slice none 0 0, .int .i64 0, .int .i64 0, .int .i64 0]) ?_ 2 _ rfl; (with_reducible repeat (first | refine blk_drewN ?_ _ | refine blk_drew ?_ | refine blk_alloc ?_ _)); refine blk_put (cs := #[.slice none 0 0, .int .i64 0, .int .i64 0, .int .i64 0]) ?_ 1 _ rfl; (with_reducible repeat (first | refine blk_drewN ?_ _ | refine blk_drew ?_ | refine blk_alloc ?_ _)); refine blk_put (cs := #[.slice none 0 0, .int .i64 0, .int .i64 0, .int .i64 0]) ?_ 0 _ rfl; (with_reducible repeat (first | refine blk_drewN ?_ _ | refine blk_drew ?_ | refine blk_alloc ?_ _)); exact BK245.out) Tryd.underlying36 rfl (by kernel_rfl)) rfl ?_
  exact ⟨_, by first | rfl | (simp [errW_none, errW_some] <;> rfl) | (simp [*, errW_none, errW_some] <;> rfl), by first | exact Kd.R_nil _ _ _ _ _ | exact Kd.N_nil _ _ _ _ _ | exact Kd.V_nil _ _ _ _ _ | exact Kd.Q_nil _ _ _ _ _ | exact Kd.S_nil _ _ _ _ _, bs1 HB GE245⟩

/-! ### laws_toSlotS: function 43 -/
def laws_toSlotS.l0 : Nat → List (S23) → List (S26) → Int → Option ((List (S26)))
 | 0, _, _, _ => none
 | k + 1, x0, x3, x4 => if x4 < (x0.length : Int) then (if 0 ≤ x4 then ((laws_toSlot.f ((rd_T23 x0 x4).f0) ((rd_T23 x0 x4).f1) ((rd_T23 x0 x4).f2) ((rd_T23 x0 x4).f3)).bind fun bt269 => (if x4 < (x3.length : Int) then (laws_toSlotS.l0 k x0 (x3.set (x4 : Int).toNat (⟨bt269.1, bt269.2.1, bt269.2.2.1, bt269.2.2.2⟩ : S26)) (wrap64 (x4 + 1))) else (none))) else (none)) else (some x3)
def laws_toSlotS.f (k : Nat) (l0 : List (S23)) : Option ((List (S26))) := if 0 ≤ (l0.length : Int) then (if ((l0.length : Int) : Int).toNat ≤ 7036874417766 then (laws_toSlotS.l0 k l0 (List.replicate ((l0.length : Int) : Int).toNat z26) 0) else (none)) else (none)
theorem laws_toSlotS.mono_l : ∀ k, (∀ y0 y1 y2, LeO (laws_toSlotS.l0 k y0 y1 y2) (laws_toSlotS.l0 (k + 1) y0 y1 y2))
 | 0 => fun _ _ _ r h => by simp [laws_toSlotS.l0] at h
 | k + 1 => by
  have ih0 := laws_toSlotS.mono_l k
  ·
   intro y0 y1 y2
   unfold laws_toSlotS.l0
   repeat' first
   | (with_reducible exact ih0 _ _ _)
   | (with_reducible exact LeO.refl _)
   | (with_reducible exact LeO.none _)
   | (with_reducible refine LeO.ite ?_ ?_)
   | (with_reducible refine LeO.bind ?_ (fun _ => ?_))
   | exact ih0 _ _ _
   | exact LeO.none _
   | refine LeO.ite ?_ ?_
   | refine LeO.bind ?_ (fun _ => ?_)
theorem laws_toSlotS.mono : ∀ a0 k, LeO (laws_toSlotS.f k a0) (laws_toSlotS.f (k + 1) a0) := by
 intro a0 k
 have ih0 := laws_toSlotS.mono_l k
 unfold laws_toSlotS.f
 repeat' first
   | (with_reducible exact ih0 _ _ _)
   | (with_reducible exact LeO.refl _)
   | (with_reducible exact LeO.none _)
   | (with_reducible refine LeO.ite ?_ ?_)
   | (with_reducible refine LeO.bind ?_ (fun _ => ?_))
   | exact ih0 _ _ _
   | exact LeO.none _
   | refine LeO.ite ?_ ?_
   | refine LeO.bind ?_ (fun _ => ?_)
set_option maxHeartbeats 8000000 in
set_option maxRecDepth 100000 in
theorem laws_toSlotS.calls (k : Nat) (A0 : Option Addr) (c0 : Nat) (l0 : List (S23)) (r : List (S26)) (w : World) (hr0 : Kd.C k23 w A0 l0.length l0) (hc0 : l0.length ≤ c0) (h : laws_toSlotS.f k l0 = some r) :
  Calls Tryd.prog 43 #[.slice A0 l0.length c0] w fun e w' => ∃ v0_ : Value, e = .returned (v0_) ∧ Kd.R k26 26 w' w.heap.size (fun _ => True) v0_ r ∧ Below w.heap.size w w' := by
 have hu23 := Tryd.underlying23
 have hu26 := Tryd.underlying26
 have HR0 := Aside0.mk hr0
 have HC0 := Aside0.mk hc0
 clear hr0 hc0
 have HB := Aside0.mk (Below.refl w.heap.size w)
 have H : (if 0 ≤ (l0.length : Int) then (if ((l0.length : Int) : Int).toNat ≤ 7036874417766 then (laws_toSlotS.l0 k l0 (List.replicate ((l0.length : Int) : Int).toNat z26) 0) else (none)) else (none)) = some r := h
 clear h
 by_cases c2 : 0 ≤ (l0.length : Int)
 ·
  rw [if_pos c2] at H
  have c2b0 := eq_true c2
  have c2b1 : decide (0 ≤ (l0.length : Int)) = true := decide_eq_true c2
  clear c2
  by_cases c3 : ((l0.length : Int) : Int).toNat ≤ 7036874417766
  ·
   rw [if_pos c3] at H
   have c3b0 := eq_true c3
   have c3b1 : decide (((l0.length : Int) : Int).toNat ≤ 7036874417766) = true := decide_eq_true c3
   clear c3
   obtain ⟨y265, hy265⟩ : ∃ y_ : List (S26), y_ = (List.replicate ((l0.length : Int) : Int).toNat z26) := ⟨_, rfl⟩
   replace H : (laws_toSlotS.l0 k l0 y265 0) = some r := by first | (rw [hy265]; with_reducible exact H) | (have H2_ := (Option.bind_some _ _).symm.trans H; rw [hy265]; with_reducible exact H2_) | (have H2_ := (Option.bind_some _ _).symm.trans H; with_reducible exact H2_) | with_reducible exact H | (rw [hy265]; exact H) | exact H
   have Ny265 := Aside0.mk hy265
   clear hy265
   have H' := Aside0.mk H
   clear H
   go_enter Tryd.func43, Tryd.ntmps43
   go_wp2_with (first | ((with_reducible refine gate_dst (N := 7) rfl ?_); refine Kd.R_make k26 _ 26 rfl (N := 7) rfl 34 _ _ rfl (l0.length : Int) rfl rfl Tryd.underlying34 (.agg #[(.int .i64 0), (.int .i64 0), (.string ⟨#[]⟩), (.int .i64 0)]) 40 info26 rfl (by decide) (by omega) z26 (ok := fun _ => True) (okp := fun _ => True) (k26_mkM _ _ _ z26 ) (fun _ hk => hk) trivial (of_decide_eq_true (by first | (with_reducible assumption) | assumption)) (Nat.le_trans (Nat.mul_le_mul_right _ (of_decide_eq_true (by first | (with_reducible assumption) | assumption) : (l0.length : Int).toNat ≤ 7036874417766)) (by omega)) (Below.refl _ _) (Nat.le_refl _) ?_; intro v266 w4 ho5 hb hg_ hnew_; clear hg_ hnew_; (first | rw [← Ny265.out] at ho5 | (simp only [Int.reduceToNat] at ho5; rw [← Ny265.out] at ho5)); have HO267 := Aside0.mk (Kd.R_lower ho5 (below_size (bs HB))); replace HB := Aside0.mk (below_step (bs HB) hb); clear hb ho5))
   go_loopg [4] k (fun kq v4 w' => ∃ (x3_1 : List (S26)) (x4_1 : Int), v4 = .int .i64 x4_1 ∧ Aside0 (laws_toSlotS.l0 kq l0 x3_1 x4_1 = some r) ∧ Aside0 (kq ≤ k) ∧ Aside0 (Kd.R k26 26 w' w.heap.size (fun _ => True) v266 x3_1) ∧ Aside0 (Below w.heap.size w w'))
   case atStart => exact ⟨(y265), (0), (by first | rfl | (simp; done) | (simp [*]; done)), H', ⟨Nat.le_refl _⟩, ⟨rr HO267.out⟩, ⟨bs HB⟩⟩
   case round =>
    clear H'
    try clear c2
    try clear c2b0
    try clear c2b1
    try clear p2
    try clear c3
    try clear c3b0
    try clear c3b1
    try clear c4
    obtain ⟨x3_1, x4_1, rfl, HA, HK1, HO_3, HB⟩ := hrel
    cases gk with
    | zero => exact absurd HA.out (by simp [laws_toSlotS.l0])
    | succ k1 =>
     have H := HA.out
     clear HA
     simp only [laws_toSlotS.l0] at H
     by_cases c6 : x4_1 < (l0.length : Int)
     ·
      rw [if_pos c6] at H
      have c6b0 : decide (x4_1 < (l0.length : Int)) = true := decide_eq_true c6
      clear c6
      by_cases c7 : 0 ≤ x4_1
      ·
       rw [if_pos c7] at H
       have c7b0 : decide (0 ≤ x4_1) = true := decide_eq_true c7
       clear c7
       replace H := Option.bind_eq_some_iff.mp H
       obtain ⟨⟨t269, t270, t271, t272⟩, A80, H⟩ := H
       replace H : (if x4_1 < (x3_1.length : Int) then (laws_toSlotS.l0 k1 l0 (x3_1.set (x4_1 : Int).toNat (⟨t269, t270, t271, t272⟩ : S26)) (wrap64 (x4_1 + 1))) else (none)) = some r := H
       have A8 := Aside0.mk A80
       clear A80
       by_cases c9 : x4_1 < (x3_1.length : Int)
       ·
        rw [if_pos c9] at H
        have c9b0 : decide (x4_1 < (x3_1.length : Int)) = true := decide_eq_true c9
        clear c9
        obtain ⟨y273, hy273⟩ : ∃ y_ : List (S26), y_ = (x3_1.set (x4_1 : Int).toNat (⟨t269, t270, t271, t272⟩ : S26)) := ⟨_, rfl⟩
        replace H : (laws_toSlotS.l0 k1 l0 y273 (wrap64 (x4_1 + 1))) = some r := by first | (rw [hy273]; with_reducible exact H) | (have H2_ := (Option.bind_some _ _).symm.trans H; rw [hy273]; with_reducible exact H2_) | (have H2_ := (Option.bind_some _ _).symm.trans H; with_reducible exact H2_) | with_reducible exact H | (rw [hy273]; exact H) | exact H
        have Ny273 := Aside0.mk hy273
        clear hy273
        have H' := Aside0.mk H
        clear H
        have p268 : 0 ≤ (x4_1 : Int) := of_decide_eq_true (by first | (with_reducible assumption) | assumption)
        have q268 : x4_1 < (l0.length : Int) := of_decide_eq_true (by first | (with_reducible assumption) | assumption)
        obtain ⟨ad268, e268, hx268_0, hx268_1, hx268_2, hx268_3⟩ := at_T23 HR0.out x4_1 p268 q268
        cases e268
        replace hx268_0 := (HB.out.cell (World.block_lt_of_cell? w _ hx268_0)).trans hx268_0
        replace hx268_1 := (HB.out.cell (World.block_lt_of_cell? w _ hx268_1)).trans hx268_1
        replace hx268_2 := (HB.out.cell (World.block_lt_of_cell? w _ hx268_2)).trans hx268_2
        replace hx268_3 := (HB.out.cell (World.block_lt_of_cell? w _ hx268_3)).trans hx268_3
        replace p268 := eq_true p268
        replace q268 := eq_true q268
        go_wp2_with (first | ((with_reducible refine gate_callee (f := 15) rfl ?_); refine gL (some 20) rfl rfl Tryd.func15 (by kernel_rfl) rfl #[.agg #[.int .i64 ((rd_T23 l0 x4_1).f0), .int .i64 ((rd_T23 l0 x4_1).f1), .string ((rd_T23 l0 x4_1).f2), .int .i64 ((rd_T23 l0 x4_1).f3)]] rfl ?_; (with_reducible refine (laws_toSlot.calls ((rd_T23 l0 x4_1).f0) ((rd_T23 l0 x4_1).f1) ((rd_T23 l0 x4_1).f2) ((rd_T23 l0 x4_1).f3) t269 t270 t271 t272 _ A8.out).mono ?_); rintro e w11 ⟨rfl, hb⟩; refine ⟨_, rfl, ?_⟩; replace HO_3 := nr HO_3 hb; replace HB := Aside0.mk (below_step (bs HB) hb); (try clear hb); (try clear hb2); (try clear hk); (try clear hi); have p10 : 0 ≤ (x4_1 : Int) := of_decide_eq_true (by first | (with_reducible assumption) | assumption); have q10 : (x4_1 : Int) < ((x3_1.length : Int) : Int) := of_decide_eq_true (by first | (with_reducible assumption) | assumption); obtain ⟨go10, co10, eo10, gb10, gl10, cl10, HG10⟩ := Kd.R_form HO_3.out (by omega); (first | cases eo10 | (injection eo10 with ea_ en_ ec_; (first | subst ea_ | (injection ea_ with ea_; subst ea_)); subst ec_; clear en_)); have GB10 := Aside0.mk gb10; have GG10 := Aside0.mk HG10; clear gb10 gl10 HG10; obtain ⟨ce10, hcl10, hM10, hcc10, hfr10⟩ := Kd.R_elem HO_3.out z26 (x4_1 : Int) p10 q10; obtain rfl := k26_openM hM10; have hx10_0 : w11.cell? ⟨go10, (x4_1 : Int).toNat * 4, none⟩ = some (.int .i64 ((rd_T26 x3_1 x4_1).f0)) := hcc10 0 _ rfl; have hx10_1 : w11.cell? ⟨go10, (x4_1 : Int).toNat * 4 + 1, none⟩ = some (.int .i64 ((rd_T26 x3_1 x4_1).f1)) := hcc10 1 _ rfl; have hx10_2 : w11.cell? ⟨go10, (x4_1 : Int).toNat * 4 + 2, none⟩ = some (.string ((rd_T26 x3_1 x4_1).f2)) := hcc10 2 _ rfl; have hx10_3 : w11.cell? ⟨go10, (x4_1 : Int).toNat * 4 + 3, none⟩ = some (.int .i64 ((rd_T26 x3_1 x4_1).f3)) := hcc10 3 _ rfl; have hf10_0 : w11.frozen? ⟨go10, (x4_1 : Int).toNat * 4, none⟩ = false := hfr10 0; have hf10_1 : w11.frozen? ⟨go10, (x4_1 : Int).toNat * 4 + 1, none⟩ = false := hfr10 1; have hf10_2 : w11.frozen? ⟨go10, (x4_1 : Int).toNat * 4 + 2, none⟩ = false := hfr10 2; have hf10_3 : w11.frozen? ⟨go10, (x4_1 : Int).toNat * 4 + 3, none⟩ = false := hfr10 3; clear hcl10 hcc10 hfr10 hM10; replace p10 := eq_true p10; replace q10 := eq_true q10; have HX12 := Aside0.mk (show Kd.R k26 26 w11 w.heap.size (fun _ => True) (.slice (some ⟨go10, 0, none⟩) x3_1.length co10) x3_1 from (rr HO_3.out)); obtain ⟨ce12, hcl12, hM12, hcc12, hfr12⟩ := Kd.R_elem HX12.out z26 (x4_1 : Int) (of_decide_eq_true (by first | (with_reducible assumption) | assumption)) (by have h_ : (x4_1 : Int) < ((x3_1.length : Int) : Int) := of_decide_eq_true (by first | (with_reducible assumption) | assumption); first | exact h_ | (have e_ := (Kd.R_reads' HO_3.out).1; omega) | simpa using h_); obtain rfl := k26_openM hM12; have HP12 := Kd.R_seg HX12.out (x4_1 : Int) (of_decide_eq_true (by first | (with_reducible assumption) | assumption)) (by have h_ : (x4_1 : Int) < ((x3_1.length : Int) : Int) := of_decide_eq_true (by first | (with_reducible assumption) | assumption); first | exact h_ | (have e_ := (Kd.R_reads' HO_3.out).1; omega) | simpa using h_) (seg := [.int .i64 t269, .int .i64 t270, .string t271, .int .i64 t272]) (j := 0) hcl12 hcc12 (show 4 ≤ 4 from by decide) (x' := (⟨t269, t270, t271, t272⟩ : S26)) (k26_mkM _ _ _ (⟨t269, t270, t271, t272⟩ : S26) ) (fun _ hk => hk); have hx12_0 := hcc12 0 _ rfl; (try simp only [show (k26).sz = 4 from rfl, Nat.mul_one, Nat.add_zero] at hx12_0); have hf12_0 := hfr12 0; (try simp only [show (k26).sz = 4 from rfl, Nat.mul_one, Nat.add_zero] at hf12_0); have hx12_1 := hcc12 1 _ rfl; (try simp only [show (k26).sz = 4 from rfl, Nat.mul_one, Nat.add_zero] at hx12_1); have hf12_1 := hfr12 1; (try simp only [show (k26).sz = 4 from rfl, Nat.mul_one, Nat.add_zero] at hf12_1); have hx12_2 := hcc12 2 _ rfl; (try simp only [show (k26).sz = 4 from rfl, Nat.mul_one, Nat.add_zero] at hx12_2); have hf12_2 := hfr12 2; (try simp only [show (k26).sz = 4 from rfl, Nat.mul_one, Nat.add_zero] at hf12_2); have hx12_3 := hcc12 3 _ rfl; (try simp only [show (k26).sz = 4 from rfl, Nat.mul_one, Nat.add_zero] at hx12_3); have hf12_3 := hfr12 3; (try simp only [show (k26).sz = 4 from rfl, Nat.mul_one, Nat.add_zero] at hf12_3); clear hcl12 hcc12 hfr12 hM12) | ((with_reducible refine gate_store (t := 26) (p := 21) rfl ?_); refine store_event (t := 26) (p := 21) (v := ?vo_w13) (w1 := ((((w11.setCell ⟨go10, (x4_1 : Int).toNat * 4, none⟩ (.int .i64 t269)).setCell ⟨go10, (x4_1 : Int).toNat * 4 + 1, none⟩ (.int .i64 t270)).setCell ⟨go10, (x4_1 : Int).toNat * 4 + 2, none⟩ (.string t271)).setCell ⟨go10, (x4_1 : Int).toNat * 4 + 3, none⟩ (.int .i64 t272))) ?hg ?ho ?hn ?hr ?_; (case ho => rfl); (case hg => rfl); (case hn => rfl); (case hr => first | (go_simp; done) | (go_simp; rfl)); intro w13 hw; have hg : w11.grownBy w13 (some go10) := (by rw [hw]; exact HP12.2); have hp_ : Kd.R k26 26 w13 w.heap.size (fun _ => True) (.slice (some ⟨go10, 0, none⟩) x3_1.length co10) y273 := (by rw [hw, Ny273.out]; exact HP12.1); clear HP12; replace HO_3 := Aside0.mk (hp_); replace HB := Aside0.mk ((by rw [hw]; exact below_set (below_set (below_set (below_set (HB.out) GB10.out) GB10.out) GB10.out) GB10.out : Below w.heap.size w w13)); clear hg hw hp_))
        go_roundg k1
        case measure => have := HK1.out; omega
        case rel => exact ⟨(y273), (wrap64 (x4_1 + 1)), (by first | rfl | (simp; done) | (simp [*]; done)), H', ⟨by have := HK1.out; omega⟩, ⟨rr HO_3.out⟩, ⟨bs HB⟩⟩
       ·
        rw [if_neg c9] at H
        exact absurd H (by simp)
      ·
       rw [if_neg c7] at H
       exact absurd H (by simp)
     ·
      rw [if_neg c6] at H
      have c6b0 : decide (x4_1 < (l0.length : Int)) = false := decide_eq_false c6
      clear c6
      obtain rfl := Option.some.inj H
      go_wp2
      go_ret
      exact ⟨_, by first | rfl | (simp [errW_none, errW_some] <;> rfl) | (simp [*, errW_none, errW_some] <;> rfl), by (with_reducible repeat (first | apply Kd.R_alloc | apply Kd.R_drewN | apply Kd.R_drew)); exact HO_3.out, bs HB⟩
  ·
   rw [if_neg c3] at H
   exact absurd H (by simp)
 ·
  rw [if_neg c2] at H
  exact absurd H (by simp)

end Go.Proofs.YthlifcbkpafofaaDoor.G
