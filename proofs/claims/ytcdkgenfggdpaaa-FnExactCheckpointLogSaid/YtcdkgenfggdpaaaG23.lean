-- Printed by a program of this session (drive.py, by way of the kit's print). Not trusted: Lean checks it.
import Derived.Test.YtcdkgenfggdpaaaG0
import Derived.Test.YtcdkgenfggdpaaaG6
import Derived.Test.YtcdkgenfggdpaaaG7
import Derived.Test.YtcdkgenfggdpaaaG9
import Derived.Test.YtcdkgenfggdpaaaG11
import Derived.Test.YtcdkgenfggdpaaaG12
namespace Go.Proofs.Ytcdkgenfggdpaaa.G
open Go.RowKit Go.Proofs.YtcdkgenfggdpaaaW.PrintWords Go.Proofs.YtcdkgenfggdpaaaW.PrintLast Go.Proofs.YtcdkgenfggdpaaaW.PrintMore
attribute [local go_sem] max2_int min2_int max_two min_two max_three min_three max_four min_four   -- for this text's walks alone
set_option linter.unusedVariables false
set_option linter.unusedSimpArgs false

/-! ### spec_FlushDevice: function 94 -/
def spec_FlushDevice.f (k : Nat) (l0_0 : List ByteArray) (l0_1 : List (S72)) : Option (List ByteArray × (List (S72)) × Bool) := (spec_GoodDevice.f k l0_0 l0_1).bind fun t1064 => (if t1064 = true then ((spec_l1Done.f k l0_0 l0_1).bind fun t1065 => (some (t1065, ([] : List (S72)), true))) else (some (([] : List ByteArray), ([] : List (S72)), false)))
theorem spec_FlushDevice.mono : ∀ a0 a1 k, LeO (spec_FlushDevice.f k a0 a1) (spec_FlushDevice.f (k + 1) a0 a1) := by
 intro a0 a1 k
 unfold spec_FlushDevice.f
 repeat' first
   | (with_reducible exact spec_GoodDevice.mono _ _ _)
   | (with_reducible exact spec_l1Done.mono _ _ _)
   | (with_reducible exact LeO.refl _)
   | (with_reducible exact LeO.none _)
   | (with_reducible refine LeO.ite ?_ ?_)
   | (with_reducible refine LeO.bind ?_ (fun _ => ?_))
   | exact spec_GoodDevice.mono _ _ _
   | exact spec_l1Done.mono _ _ _
   | exact LeO.none _
   | refine LeO.ite ?_ ?_
   | refine LeO.bind ?_ (fun _ => ?_)
set_option maxHeartbeats 8000000 in
set_option maxRecDepth 100000 in
theorem spec_FlushDevice.calls (k : Nat) (A0_0 : Option Addr) (c0_0 : Nat) (l0_0 : List ByteArray) (A0_1 : Option Addr) (c0_1 : Nat) (l0_1 : List (S72)) (r1 : List ByteArray) (r2 : List (S72)) (r3 : Bool) (w : World) (hr0_0 : Kd.C Kd.string w A0_0 l0_0.length l0_0) (hc0_0 : l0_0.length ≤ c0_0) (hr0_1 : Kd.C k72 w A0_1 l0_1.length l0_1) (hc0_1 : l0_1.length ≤ c0_1) (h : spec_FlushDevice.f k l0_0 l0_1 = some (r1, r2, r3)) :
  Calls Try.prog 94 #[.agg #[.slice A0_0 l0_0.length c0_0, .slice A0_1 l0_1.length c0_1]] w fun e w' => ∃ v0_ v1_ : Value, e = .returned (.tuple #[.agg #[v0_, v1_], .bool r3]) ∧ Kd.R Kd.string 9 w' w.heap.size (fun _ => True) v0_ r1 ∧ Kd.R k72 72 w' w.heap.size (fun _ => True) v1_ r2 ∧ Below w.heap.size w w' := by
 have hu42 := Try.underlying42
 have HR0_0 := Aside0.mk hr0_0
 have HC0_0 := Aside0.mk hc0_0
 clear hr0_0 hc0_0
 have HR0_1 := Aside0.mk hr0_1
 have HC0_1 := Aside0.mk hc0_1
 clear hr0_1 hc0_1
 have HB := Aside0.mk (Below.refl w.heap.size w)
 have H : ((spec_GoodDevice.f k l0_0 l0_1).bind fun t1064 => (if t1064 = true then ((spec_l1Done.f k l0_0 l0_1).bind fun t1065 => (some (t1065, ([] : List (S72)), true))) else (some (([] : List ByteArray), ([] : List (S72)), false)))) = some (r1, r2, r3) := h
 clear h
 replace H := Option.bind_eq_some_iff.mp H
 obtain ⟨t1064, A20, H⟩ := H
 replace H : (if t1064 = true then ((spec_l1Done.f k l0_0 l0_1).bind fun t1065 => (some (t1065, ([] : List (S72)), true))) else (some (([] : List ByteArray), ([] : List (S72)), false))) = some (r1, r2, r3) := H
 have A2 := Aside0.mk A20
 clear A20
 by_cases c3 : t1064 = true
 ·
  subst c3
  rw [if_pos rfl] at H
  replace H := Option.bind_eq_some_iff.mp H
  obtain ⟨t1065, A40, H⟩ := H
  replace H : (some (t1065, ([] : List (S72)), true)) = some (r1, r2, r3) := H
  have A4 := Aside0.mk A40
  clear A40
  simp only [Option.some.injEq, Prod.mk.injEq] at H
  obtain ⟨rfl, rfl, rfl⟩ := H
  go_enter Try.func94, Try.ntmps94
  go_wp2_with (first | ((with_reducible refine gate_dst (N := 1) rfl ?_); refine box_event ?hg (N := 1) ?hd (cs := #[.slice A0_0 l0_0.length c0_0, .slice A0_1 l0_1.length c0_1]) (t := 42) ?hr ?_; (case hd => rfl); (case hg => rfl); (case hr => first | (go_simp; done) | (go_simp; rfl)); intro gb1062 hg w5 hbox hb; have BK1062 := Aside0.mk (hbox); have GW1062 := Aside0.mk ((by rw [hg]; exact (below_size (bs HB)) : w.heap.size ≤ gb1062)); have GE1062 := Aside0.mk ((by rw [hg]; exact (below_size (bs HB)) : w.heap.size ≤ gb1062)); replace HB := Aside0.mk (below_step (bs HB) hb); clear hb hbox hg) | ((with_reducible refine gate_dst (N := 2) rfl ?_); refine box_event ?hg (N := 2) ?hd (cs := #[.slice none 0 0, .slice none 0 0]) (t := 42) ?hr ?_; (case hd => rfl); (case hg => rfl); (case hr => first | (go_simp; done) | (go_simp; rfl)); intro gb1063 hg w6 hbox hb; have BK1063 := Aside0.mk (hbox); have GW1063 := Aside0.mk ((by rw [hg]; exact (below_size (bs1 HB GE1062)) : w.heap.size ≤ gb1063)); have GE1063 := Aside0.mk ((by rw [hg]; exact (below_size (bs1 HB GE1062)) : w.heap.size ≤ gb1063)); replace HB := Aside0.mk (below_step (bs1 HB GE1062) hb); have NB1062_1063 := Aside0.mk ((bn BK1062 hg : gb1062 ≠ gb1063)); have NB1063_1062 := Aside0.mk ((bm BK1062 hg : gb1063 ≠ gb1062)); replace BK1062 := nb BK1062 hb; clear hb hbox hg; have hnb7 := NB1062_1063.out; have hnc7 := NB1063_1062.out; obtain ⟨hcz8_0, hcz8_1⟩ := cz2 BK1062; obtain ⟨hfz8_0, hfz8_1⟩ := fz2 BK1062) | ((with_reducible refine gate_callee (f := 71) rfl ?_); refine gL (some 5) rfl rfl Try.func71 (by kernel_rfl) rfl #[.agg #[.slice A0_0 l0_0.length c0_0, .slice A0_1 l0_1.length c0_1]] rfl ?_; (with_reducible refine (spec_GoodDevice.calls k _ _ l0_0 _ _ l0_1 true _ ?side1 ?side2 ?side3 ?side4 A2.out).mono ?_); (case side1 => exact cb HR0_0 HB); (case side2 => exact HC0_0.out); (case side3 => exact cb HR0_1 HB); (case side4 => exact HC0_1.out); rintro e w9 ⟨rfl, hb⟩; refine ⟨_, rfl, ?_⟩; replace BK1062 := nb BK1062 hb; replace BK1063 := nb BK1063 hb; replace HB := Aside0.mk (below_step (bs2 HB GE1062 GE1063) hb); (try clear hb); (try clear hb2); (try clear hk); (try clear hi); obtain ⟨hcz10_0, hcz10_1⟩ := cz2 BK1062; obtain ⟨hfz10_0, hfz10_1⟩ := fz2 BK1062) | ((with_reducible refine gate_callee (f := 87) rfl ?_); refine gL (some 12) rfl rfl Try.func87 (by kernel_rfl) rfl #[.slice A0_0 l0_0.length c0_0, .slice A0_1 l0_1.length c0_1] rfl ?_; (with_reducible refine (spec_l1Done.calls k _ _ l0_0 _ _ l0_1 t1065 _ ?side1 ?side2 ?side3 ?side4 A4.out).mono ?_); (case side1 => exact cb HR0_0 HB); (case side2 => exact HC0_0.out); (case side3 => exact cb HR0_1 HB); (case side4 => exact HC0_1.out); rintro e w11 ⟨v1066, rfl, ho0, hb⟩; refine ⟨_, rfl, ?_⟩; have HO1067 := Aside0.mk (Kd.R_lower ho0 (below_size (bs2 HB GE1062 GE1063))); replace BK1062 := nb BK1062 hb; replace BK1063 := nb BK1063 hb; replace HB := Aside0.mk (below_step (bs2 HB GE1062 GE1063) hb); (try clear hb); (try clear hb2); (try clear hk); (try clear hi); (try clear ho0); obtain ⟨Ao12, co12, eo12⟩ := Kd.R_slice HO1067.out; subst eo12; obtain ⟨hcz13_0, hcz13_1⟩ := cz2 BK1063; obtain ⟨hfz13_0, hfz13_1⟩ := fz2 BK1063))
  refine bodyPost_ret (results_ct rfl _ _ gb1063 42 #[.slice Ao12 t1065.length co12, .slice none 0 0] (0, 0) _ rfl (by (with_reducible repeat (first | refine blk_drewN ?_ _ | refine blk_drew ?_ | refine blk_alloc ?_ _)); refine blk_put (cs := #[.slice Ao12 t1065.length co12, .slice none 0 0]) ?_ 1 _ rfl; (with_reducible repeat (first | refine blk_drewN ?_ _ | refine blk_drew ?_ | refine blk_alloc ?_ _)); refine blk_put (cs := #[.slice none 0 0, .slice none 0 0]) ?_ 0 _ rfl; (with_reducible repeat (first | refine blk_drewN ?_ _ | refine blk_drew ?_ | refine blk_alloc ?_ _)); exact BK1063.out) Try.underlying42 rfl (by kernel_rfl)) rfl ?_
  exact ⟨_, _, by first | rfl | (simp [errW_none, errW_some] <;> rfl) | (simp [*, errW_none, errW_some] <;> rfl), by (with_reducible repeat (first | apply Kd.R_alloc | apply Kd.R_drewN | apply Kd.R_drew)); exact Kd.R_mono (Kd.R_far (p := ⟨gb1063, 1, none⟩) (Kd.R_far (p := ⟨gb1063, 0, none⟩) (Kd.R_types HO1067.out BK1063.out (by decide)) (fun _ hk => hk.2) (.slice Ao12 t1065.length co12)) (fun _ hk => hk.2) (.slice none 0 0)) (fun _ hk => trivial), by first | exact Kd.R_nil _ _ _ _ _ | exact Kd.N_nil _ _ _ _ _ | exact Kd.V_nil _ _ _ _ _ | exact Kd.Q_nil _ _ _ _ _ | exact Kd.S_nil _ _ _ _ _, bs2 HB GE1062 GE1063⟩
 ·
  replace c3 := Bool.eq_false_iff.mpr c3
  subst c3
  rw [if_neg (show ¬ (false = true) by decide)] at H
  simp only [Option.some.injEq, Prod.mk.injEq] at H
  obtain ⟨rfl, rfl, rfl⟩ := H
  go_enter Try.func94, Try.ntmps94
  go_wp2_with (first | ((with_reducible refine gate_dst (N := 1) rfl ?_); refine box_event ?hg (N := 1) ?hd (cs := #[.slice A0_0 l0_0.length c0_0, .slice A0_1 l0_1.length c0_1]) (t := 42) ?hr ?_; (case hd => rfl); (case hg => rfl); (case hr => first | (go_simp; done) | (go_simp; rfl)); intro gb1062 hg w14 hbox hb; have BK1062 := Aside0.mk (hbox); have GW1062 := Aside0.mk ((by rw [hg]; exact (below_size (bs HB)) : w.heap.size ≤ gb1062)); have GE1062 := Aside0.mk ((by rw [hg]; exact (below_size (bs HB)) : w.heap.size ≤ gb1062)); replace HB := Aside0.mk (below_step (bs HB) hb); clear hb hbox hg) | ((with_reducible refine gate_dst (N := 2) rfl ?_); refine box_event ?hg (N := 2) ?hd (cs := #[.slice none 0 0, .slice none 0 0]) (t := 42) ?hr ?_; (case hd => rfl); (case hg => rfl); (case hr => first | (go_simp; done) | (go_simp; rfl)); intro gb1063 hg w15 hbox hb; have BK1063 := Aside0.mk (hbox); have GW1063 := Aside0.mk ((by rw [hg]; exact (below_size (bs1 HB GE1062)) : w.heap.size ≤ gb1063)); have GE1063 := Aside0.mk ((by rw [hg]; exact (below_size (bs1 HB GE1062)) : w.heap.size ≤ gb1063)); replace HB := Aside0.mk (below_step (bs1 HB GE1062) hb); have NB1062_1063 := Aside0.mk ((bn BK1062 hg : gb1062 ≠ gb1063)); have NB1063_1062 := Aside0.mk ((bm BK1062 hg : gb1063 ≠ gb1062)); replace BK1062 := nb BK1062 hb; clear hb hbox hg; have hnb16 := NB1062_1063.out; have hnc16 := NB1063_1062.out; obtain ⟨hcz17_0, hcz17_1⟩ := cz2 BK1062; obtain ⟨hfz17_0, hfz17_1⟩ := fz2 BK1062) | ((with_reducible refine gate_callee (f := 71) rfl ?_); refine gL (some 5) rfl rfl Try.func71 (by kernel_rfl) rfl #[.agg #[.slice A0_0 l0_0.length c0_0, .slice A0_1 l0_1.length c0_1]] rfl ?_; (with_reducible refine (spec_GoodDevice.calls k _ _ l0_0 _ _ l0_1 false _ ?side1 ?side2 ?side3 ?side4 A2.out).mono ?_); (case side1 => exact cb HR0_0 HB); (case side2 => exact HC0_0.out); (case side3 => exact cb HR0_1 HB); (case side4 => exact HC0_1.out); rintro e w18 ⟨rfl, hb⟩; refine ⟨_, rfl, ?_⟩; replace BK1062 := nb BK1062 hb; replace BK1063 := nb BK1063 hb; replace HB := Aside0.mk (below_step (bs2 HB GE1062 GE1063) hb); (try clear hb); (try clear hb2); (try clear hk); (try clear hi); obtain ⟨hcz19_0, hcz19_1⟩ := cz2 BK1063; obtain ⟨hfz19_0, hfz19_1⟩ := fz2 BK1063))
  refine bodyPost_ret (results_ct rfl _ _ gb1063 42 #[.slice none 0 0, .slice none 0 0] (0, 0) _ rfl (by (with_reducible repeat (first | refine blk_drewN ?_ _ | refine blk_drew ?_ | refine blk_alloc ?_ _)); refine blk_put (cs := #[.slice none 0 0, .slice none 0 0]) ?_ 1 _ rfl; (with_reducible repeat (first | refine blk_drewN ?_ _ | refine blk_drew ?_ | refine blk_alloc ?_ _)); refine blk_put (cs := #[.slice none 0 0, .slice none 0 0]) ?_ 0 _ rfl; (with_reducible repeat (first | refine blk_drewN ?_ _ | refine blk_drew ?_ | refine blk_alloc ?_ _)); exact BK1063.out) Try.underlying42 rfl (by kernel_rfl)) rfl ?_
  exact ⟨_, _, by first | rfl | (simp [errW_none, errW_some] <;> rfl) | (simp [*, errW_none, errW_some] <;> rfl), by first | exact Kd.R_nil _ _ _ _ _ | exact Kd.N_nil _ _ _ _ _ | exact Kd.V_nil _ _ _ _ _ | exact Kd.Q_nil _ _ _ _ _ | exact Kd.S_nil _ _ _ _ _, by first | exact Kd.R_nil _ _ _ _ _ | exact Kd.N_nil _ _ _ _ _ | exact Kd.V_nil _ _ _ _ _ | exact Kd.Q_nil _ _ _ _ _ | exact Kd.S_nil _ _ _ _ _, bs2 HB GE1062 GE1063⟩

/-! ### spec_l11Same: function 95 -/
def spec_l11Same.l0 : Nat → List ByteArray → List ByteArray → Int → Int → Option (Bool)
 | 0, _, _, _, _ => none
 | k + 1, x0, x1, x7, x8 => if x8 < x7 then (if 0 ≤ x8 then (if x8 < (x0.length : Int) then (if x8 < (x1.length : Int) then (if (rdOf ByteArray.empty x0 x8).toList = (rdOf ByteArray.empty x1 x8).toList then (spec_l11Same.l0 k x0 x1 x7 (wrap64 (x8 + 1))) else (some false)) else (none)) else (none)) else (none)) else (some ((x0.length : Int) == (x1.length : Int)))
def spec_l11Same.f (k : Nat) (l0 : List ByteArray) (l1 : List ByteArray) : Option (Bool) := spec_l11Same.l0 k l0 l1 (l0.length : Int) 0
theorem spec_l11Same.mono_l : ∀ k, (∀ y0 y1 y2 y3, LeO (spec_l11Same.l0 k y0 y1 y2 y3) (spec_l11Same.l0 (k + 1) y0 y1 y2 y3))
 | 0 => fun _ _ _ _ r h => by simp [spec_l11Same.l0] at h
 | k + 1 => by
  have ih0 := spec_l11Same.mono_l k
  ·
   intro y0 y1 y2 y3
   unfold spec_l11Same.l0
   repeat' first
   | (with_reducible exact ih0 _ _ _ _)
   | (with_reducible exact LeO.refl _)
   | (with_reducible exact LeO.none _)
   | (with_reducible refine LeO.ite ?_ ?_)
   | (with_reducible refine LeO.bind ?_ (fun _ => ?_))
   | exact ih0 _ _ _ _
   | exact LeO.none _
   | refine LeO.ite ?_ ?_
   | refine LeO.bind ?_ (fun _ => ?_)
theorem spec_l11Same.mono : ∀ a0 a1 k, LeO (spec_l11Same.f k a0 a1) (spec_l11Same.f (k + 1) a0 a1) := by
 intro a0 a1 k
 have ih0 := spec_l11Same.mono_l k
 unfold spec_l11Same.f
 repeat' first
   | (with_reducible exact ih0 _ _ _ _)
   | (with_reducible exact LeO.refl _)
   | (with_reducible exact LeO.none _)
   | (with_reducible refine LeO.ite ?_ ?_)
   | (with_reducible refine LeO.bind ?_ (fun _ => ?_))
   | exact ih0 _ _ _ _
   | exact LeO.none _
   | refine LeO.ite ?_ ?_
   | refine LeO.bind ?_ (fun _ => ?_)
set_option maxHeartbeats 8000000 in
set_option maxRecDepth 100000 in
theorem spec_l11Same.calls (k : Nat) (A0 : Option Addr) (c0 : Nat) (l0 : List ByteArray) (A1 : Option Addr) (c1 : Nat) (l1 : List ByteArray) (r : Bool) (w : World) (hr0 : Kd.C Kd.string w A0 l0.length l0) (hc0 : l0.length ≤ c0) (hr1 : Kd.C Kd.string w A1 l1.length l1) (hc1 : l1.length ≤ c1) (h : spec_l11Same.f k l0 l1 = some r) :
  Calls Try.prog 95 #[.slice A0 l0.length c0, .slice A1 l1.length c1] w fun e w' => e = .returned (.bool r) ∧ Drawn0 w w' := by
 have HR0 := Aside0.mk hr0
 have HC0 := Aside0.mk hc0
 clear hr0 hc0
 have HR1 := Aside0.mk hr1
 have HC1 := Aside0.mk hc1
 clear hr1 hc1
 have H : (spec_l11Same.l0 k l0 l1 (l0.length : Int) 0) = some r := h
 clear h
 have H' := Aside0.mk H
 clear H
 go_enter Try.func95, Try.ntmps95
 go_wp2
 repeat (go_quiet (fail); try go_wp2)
 go_loopg [8] k (fun kq v8 w' => ∃ (x8_1 : Int), v8 = .int .i64 x8_1 ∧ Aside0 (spec_l11Same.l0 kq l0 l1 (l0.length : Int) x8_1 = some r) ∧ Aside0 (kq ≤ k) ∧ Drawn0 w w')
 case atStart => exact ⟨(0), (by first | rfl | (simp; done) | (simp [*]; done)), H', ⟨Nat.le_refl _⟩, by repeat (first | exact Drawn0.refl _ | apply Drawn0.step)⟩
 case round =>
  clear H'
  try clear c1
  try clear p2
  obtain ⟨x8_1, rfl, HA, HK1, ⟨m1, rfl⟩⟩ := hrel
  cases gk with
  | zero => exact absurd HA.out (by simp [spec_l11Same.l0])
  | succ k1 =>
   have H := HA.out
   clear HA
   simp only [spec_l11Same.l0] at H
   by_cases c3 : x8_1 < (l0.length : Int)
   ·
    rw [if_pos c3] at H
    have c3b0 : decide (x8_1 < (l0.length : Int)) = true := decide_eq_true c3
    clear c3
    by_cases c4 : 0 ≤ x8_1
    ·
     rw [if_pos c4] at H
     have c4b0 : decide (0 ≤ x8_1) = true := decide_eq_true c4
     clear c4
     by_cases c5 : x8_1 < (l0.length : Int)
     ·
      rw [if_pos c5] at H
      have c5b0 : decide (x8_1 < (l0.length : Int)) = true := decide_eq_true c5
      clear c5
      by_cases c6 : x8_1 < (l1.length : Int)
      ·
       rw [if_pos c6] at H
       have c6b0 : decide (x8_1 < (l1.length : Int)) = true := decide_eq_true c6
       clear c6
       by_cases c7 : (rdOf ByteArray.empty l0 x8_1).toList = (rdOf ByteArray.empty l1 x8_1).toList
       ·
        rw [if_pos c7] at H
        have c7b0 : ((rdOf ByteArray.empty l0 x8_1).toList == (rdOf ByteArray.empty l1 x8_1).toList) = true := beq_iff_eq.mpr c7
        have c7b1 : ((rdOf ByteArray.empty l0 x8_1).toList != (rdOf ByteArray.empty l1 x8_1).toList) = false := bne_eq_false_iff_eq.mpr c7
        clear c7
        have H' := Aside0.mk H
        clear H
        have p1068 : 0 ≤ (x8_1 : Int) := of_decide_eq_true (by first | (with_reducible assumption) | assumption)
        have q1068 : x8_1 < (l0.length : Int) := of_decide_eq_true (by first | (with_reducible assumption) | assumption)
        obtain ⟨ad1068, e1068, hx1068_0⟩ := Kd.at_string HR0.out x8_1 p1068 q1068
        cases e1068
        replace p1068 := eq_true p1068
        replace q1068 := eq_true q1068
        have p1069 : 0 ≤ (x8_1 : Int) := of_decide_eq_true (by first | (with_reducible assumption) | assumption)
        have q1069 : x8_1 < (l1.length : Int) := of_decide_eq_true (by first | (with_reducible assumption) | assumption)
        obtain ⟨ad1069, e1069, hx1069_0⟩ := Kd.at_string HR1.out x8_1 p1069 q1069
        cases e1069
        replace p1069 := eq_true p1069
        replace q1069 := eq_true q1069
        go_wp2
        repeat (go_quiet (fail); try go_wp2)
        go_roundg k1
        case measure => have := HK1.out; omega
        case rel => exact ⟨(wrap64 (x8_1 + 1)), (by first | rfl | (simp; done) | (simp [*]; done)), H', ⟨by have := HK1.out; omega⟩, by repeat (first | exact Drawn0.refl _ | apply Drawn0.step)⟩
       ·
        rw [if_neg c7] at H
        have c7b0 : ((rdOf ByteArray.empty l0 x8_1).toList == (rdOf ByteArray.empty l1 x8_1).toList) = false := beq_eq_false_iff_ne.mpr c7
        have c7b1 : ((rdOf ByteArray.empty l0 x8_1).toList != (rdOf ByteArray.empty l1 x8_1).toList) = true := bne_iff_ne.mpr c7
        obtain rfl := Option.some.inj H
        have p1068 : 0 ≤ (x8_1 : Int) := of_decide_eq_true (by first | (with_reducible assumption) | assumption)
        have q1068 : x8_1 < (l0.length : Int) := of_decide_eq_true (by first | (with_reducible assumption) | assumption)
        obtain ⟨ad1068, e1068, hx1068_0⟩ := Kd.at_string HR0.out x8_1 p1068 q1068
        cases e1068
        replace p1068 := eq_true p1068
        replace q1068 := eq_true q1068
        have p1069 : 0 ≤ (x8_1 : Int) := of_decide_eq_true (by first | (with_reducible assumption) | assumption)
        have q1069 : x8_1 < (l1.length : Int) := of_decide_eq_true (by first | (with_reducible assumption) | assumption)
        obtain ⟨ad1069, e1069, hx1069_0⟩ := Kd.at_string HR1.out x8_1 p1069 q1069
        cases e1069
        replace p1069 := eq_true p1069
        replace q1069 := eq_true q1069
        go_wp2
        repeat (go_quiet (fail); try go_wp2)
        go_ret
        exact ⟨by first | rfl | (simp; done) | (simp [*]; done), by repeat (first | exact Drawn0.refl _ | apply Drawn0.step)⟩
      ·
       rw [if_neg c6] at H
       exact absurd H (by simp)
     ·
      rw [if_neg c5] at H
      exact absurd H (by simp)
    ·
     rw [if_neg c4] at H
     exact absurd H (by simp)
   ·
    rw [if_neg c3] at H
    have c3b0 : decide (x8_1 < (l0.length : Int)) = false := decide_eq_false c3
    clear c3
    obtain rfl := Option.some.inj H
    go_wp2
    repeat (go_quiet (fail); try go_wp2)
    go_ret
    exact ⟨by first | rfl | (simp; done) | (simp [*]; done), by repeat (first | exact Drawn0.refl _ | apply Drawn0.step)⟩

/-! ### spec_CheckpointLog: function 47 -/
def spec_CheckpointLog.f (k : Nat) (l0_0 : List ByteArray) (l0_1 : List (S72)) (l0_2 : List ByteArray) (a0_3 : Int) : Option (List ByteArray × (List (S72)) × List ByteArray × Int × Bool) := (spec_GoodStore.f k l0_0 l0_1 l0_2 a0_3).bind fun t1072 => (if t1072 = true then (if 0 ≤ a0_3 then (if a0_3 ≤ (l0_2.length : Int) then ((spec_l11Writes.f k (l0_2.take (a0_3 : Int).toNat) (l0_0.length : Int)).bind fun bt1074 => ((spec_FlushDevice.f k l0_0 l0_1).bind fun bt1078 => ((spec_l1Done.f k bt1078.1 bt1074.1).bind fun t1086 => ((spec_l11Same.f k bt1078.1 t1086).bind fun t1089 => (if t1089 = true then ((some (([] : List ByteArray) : List ByteArray)).bind fun y1090 => (if y1090.length + (l0_2.drop (a0_3 : Int).toNat).length < 8796093022208 then (some (bt1078.1, bt1078.2.1, (y1090 ++ (l0_2.drop (a0_3 : Int).toNat)), 0, true)) else (none))) else (some (([] : List ByteArray), ([] : List (S72)), ([] : List ByteArray), 0, false))))))) else (none)) else (none)) else (some (([] : List ByteArray), ([] : List (S72)), ([] : List ByteArray), 0, false)))
theorem spec_CheckpointLog.mono : ∀ a0 a1 a2 a3 k, LeO (spec_CheckpointLog.f k a0 a1 a2 a3) (spec_CheckpointLog.f (k + 1) a0 a1 a2 a3) := by
 intro a0 a1 a2 a3 k
 unfold spec_CheckpointLog.f
 repeat' first
   | (with_reducible exact spec_FlushDevice.mono _ _ _)
   | (with_reducible exact spec_GoodStore.mono _ _ _ _ _)
   | (with_reducible exact spec_l11Same.mono _ _ _)
   | (with_reducible exact spec_l11Writes.mono _ _ _)
   | (with_reducible exact spec_l1Done.mono _ _ _)
   | (with_reducible exact LeO.refl _)
   | (with_reducible exact LeO.none _)
   | (with_reducible refine LeO.ite ?_ ?_)
   | (with_reducible refine LeO.bind ?_ (fun _ => ?_))
   | exact spec_FlushDevice.mono _ _ _
   | exact spec_GoodStore.mono _ _ _ _ _
   | exact spec_l11Same.mono _ _ _
   | exact spec_l11Writes.mono _ _ _
   | exact spec_l1Done.mono _ _ _
   | exact LeO.none _
   | refine LeO.ite ?_ ?_
   | refine LeO.bind ?_ (fun _ => ?_)
def spec_CheckpointLog.T3 : Bool × List (List Nat × List Nat) := (true, [([], []), ([0], [0]), ([], []), ([2], [2]), ([1, 3], [1, 3]), ([], []), ([5], [5]), ([6], [6]), ([7], [7]), ([4, 8], [4, 8]), ([9], [9]), ([10], [10]), ([10], [10]), ([11, 9, 0, 1, 2, 3, 4, 5, 6, 7, 8, 9, 10, 11], [11]), ([12, 13, 0, 1, 2, 3, 4, 5, 6, 7, 8, 9, 10, 11, 12, 13], [12])])
def spec_CheckpointLog.B3 : List Nat := [0, 1, 0, 4, 15, 0, 32, 96, 224, 511, 1023, 2047, 2047, 4095, 16383]
theorem spec_CheckpointLog.tab3 : rtab .any (opsOf Try.f47 3) = spec_CheckpointLog.T3 := by kernel_rfl
theorem spec_CheckpointLog.bits3 : waitsOk spec_CheckpointLog.T3.2 spec_CheckpointLog.B3 = true := by kernel_rfl
def spec_CheckpointLog.T5 : Bool × List (List Nat × List Nat) := (true, [([], []), ([0], [0]), ([], []), ([2], [2]), ([], []), ([3, 4], [3, 4]), ([1, 5, 5], [1, 5]), ([6], [6])])
def spec_CheckpointLog.B5 : List Nat := [0, 1, 0, 4, 0, 28, 63, 127]
theorem spec_CheckpointLog.tab5 : rtab .any (opsOf Try.f47 5) = spec_CheckpointLog.T5 := by kernel_rfl
theorem spec_CheckpointLog.bits5 : waitsOk spec_CheckpointLog.T5.2 spec_CheckpointLog.B5 = true := by kernel_rfl
def spec_CheckpointLog.T7 : Bool × List (List Nat × List Nat) := (true, [([], []), ([], []), ([], []), ([2], [2]), ([], []), ([4], [4]), ([3, 5], [3, 5]), ([1, 6], [1, 6]), ([0, 7], [0, 7]), ([8, 7, 0, 1, 2, 3, 4, 5, 6, 7, 8], [8]), ([9, 0, 1, 2, 3, 4, 5, 6, 7, 8, 9], [])])
def spec_CheckpointLog.B7 : List Nat := [0, 0, 0, 4, 0, 16, 60, 126, 255, 511, 1023]
theorem spec_CheckpointLog.tab7 : rtab .any (opsOf Try.f47 7) = spec_CheckpointLog.T7 := by kernel_rfl
theorem spec_CheckpointLog.bits7 : waitsOk spec_CheckpointLog.T7.2 spec_CheckpointLog.B7 = true := by kernel_rfl
set_option maxHeartbeats 8000000 in
set_option maxRecDepth 100000 in
theorem spec_CheckpointLog.calls (k : Nat) (A0_0 : Option Addr) (c0_0 : Nat) (l0_0 : List ByteArray) (A0_1 : Option Addr) (c0_1 : Nat) (l0_1 : List (S72)) (A0_2 : Option Addr) (c0_2 : Nat) (l0_2 : List ByteArray) (a0_3 : Int) (r1 : List ByteArray) (r2 : List (S72)) (r3 : List ByteArray) (r4 : Int) (r5 : Bool) (w : World) (hr0_0 : Kd.C Kd.string w A0_0 l0_0.length l0_0) (hc0_0 : l0_0.length ≤ c0_0) (hr0_1 : Kd.C k72 w A0_1 l0_1.length l0_1) (hc0_1 : l0_1.length ≤ c0_1) (hr0_2 : Kd.C Kd.string w A0_2 l0_2.length l0_2) (hc0_2 : l0_2.length ≤ c0_2) (h : spec_CheckpointLog.f k l0_0 l0_1 l0_2 a0_3 = some (r1, r2, r3, r4, r5)) :
  Calls Try.prog 47 #[.agg #[.slice A0_0 l0_0.length c0_0, .slice A0_1 l0_1.length c0_1, .slice A0_2 l0_2.length c0_2, .int .i64 a0_3]] w fun e w' => ∃ v0_ v1_ v2_ : Value, e = .returned (.tuple #[.agg #[v0_, v1_, v2_, .int .i64 r4], .bool r5]) ∧ Kd.R Kd.string 9 w' w.heap.size (fun k_ => some k_ ≠ (v2_ : Value).ownBlock) v0_ r1 ∧ Kd.R k72 72 w' w.heap.size (fun _ => True) v1_ r2 ∧ Kd.R Kd.string 9 w' w.heap.size (fun k_ => some k_ ≠ (v0_ : Value).ownBlock) v2_ r3 ∧ Below w.heap.size w w' := by
 have hu44 := Try.underlying44
 have hu42 := Try.underlying42
 have HR0_0 := Aside0.mk hr0_0
 have HC0_0 := Aside0.mk hc0_0
 clear hr0_0 hc0_0
 have HR0_1 := Aside0.mk hr0_1
 have HC0_1 := Aside0.mk hc0_1
 clear hr0_1 hc0_1
 have HR0_2 := Aside0.mk hr0_2
 have HC0_2 := Aside0.mk hc0_2
 clear hr0_2 hc0_2
 have HB := Aside0.mk (Below.refl w.heap.size w)
 have H : ((spec_GoodStore.f k l0_0 l0_1 l0_2 a0_3).bind fun t1072 => (if t1072 = true then (if 0 ≤ a0_3 then (if a0_3 ≤ (l0_2.length : Int) then ((spec_l11Writes.f k (l0_2.take (a0_3 : Int).toNat) (l0_0.length : Int)).bind fun bt1074 => ((spec_FlushDevice.f k l0_0 l0_1).bind fun bt1078 => ((spec_l1Done.f k bt1078.1 bt1074.1).bind fun t1086 => ((spec_l11Same.f k bt1078.1 t1086).bind fun t1089 => (if t1089 = true then ((some (([] : List ByteArray) : List ByteArray)).bind fun y1090 => (if y1090.length + (l0_2.drop (a0_3 : Int).toNat).length < 8796093022208 then (some (bt1078.1, bt1078.2.1, (y1090 ++ (l0_2.drop (a0_3 : Int).toNat)), 0, true)) else (none))) else (some (([] : List ByteArray), ([] : List (S72)), ([] : List ByteArray), 0, false))))))) else (none)) else (none)) else (some (([] : List ByteArray), ([] : List (S72)), ([] : List ByteArray), 0, false)))) = some (r1, r2, r3, r4, r5) := h
 clear h
 replace H := Option.bind_eq_some_iff.mp H
 obtain ⟨t1072, A20, H⟩ := H
 replace H : (if t1072 = true then (if 0 ≤ a0_3 then (if a0_3 ≤ (l0_2.length : Int) then ((spec_l11Writes.f k (l0_2.take (a0_3 : Int).toNat) (l0_0.length : Int)).bind fun bt1074 => ((spec_FlushDevice.f k l0_0 l0_1).bind fun bt1078 => ((spec_l1Done.f k bt1078.1 bt1074.1).bind fun t1086 => ((spec_l11Same.f k bt1078.1 t1086).bind fun t1089 => (if t1089 = true then ((some (([] : List ByteArray) : List ByteArray)).bind fun y1090 => (if y1090.length + (l0_2.drop (a0_3 : Int).toNat).length < 8796093022208 then (some (bt1078.1, bt1078.2.1, (y1090 ++ (l0_2.drop (a0_3 : Int).toNat)), 0, true)) else (none))) else (some (([] : List ByteArray), ([] : List (S72)), ([] : List ByteArray), 0, false))))))) else (none)) else (none)) else (some (([] : List ByteArray), ([] : List (S72)), ([] : List ByteArray), 0, false))) = some (r1, r2, r3, r4, r5) := H
 have A2 := Aside0.mk A20
 clear A20
 by_cases c3 : t1072 = true
 ·
  subst c3
  rw [if_pos rfl] at H
  by_cases c4 : 0 ≤ a0_3
  ·
   rw [if_pos c4] at H
   have c4b0 := eq_true c4
   have c4b1 : decide (0 ≤ a0_3) = true := decide_eq_true c4
   clear c4
   by_cases c5 : a0_3 ≤ (l0_2.length : Int)
   ·
    rw [if_pos c5] at H
    have c5b0 := eq_true c5
    have c5b1 : decide (a0_3 ≤ (l0_2.length : Int)) = true := decide_eq_true c5
    clear c5
    replace H := Option.bind_eq_some_iff.mp H
    obtain ⟨⟨t1074, t1075⟩, A60, H⟩ := H
    replace H : ((spec_FlushDevice.f k l0_0 l0_1).bind fun bt1078 => ((spec_l1Done.f k bt1078.1 t1074).bind fun t1086 => ((spec_l11Same.f k bt1078.1 t1086).bind fun t1089 => (if t1089 = true then ((some (([] : List ByteArray) : List ByteArray)).bind fun y1090 => (if y1090.length + (l0_2.drop (a0_3 : Int).toNat).length < 8796093022208 then (some (bt1078.1, bt1078.2.1, (y1090 ++ (l0_2.drop (a0_3 : Int).toNat)), 0, true)) else (none))) else (some (([] : List ByteArray), ([] : List (S72)), ([] : List ByteArray), 0, false)))))) = some (r1, r2, r3, r4, r5) := H
    have A6 := Aside0.mk A60
    clear A60
    replace H := Option.bind_eq_some_iff.mp H
    obtain ⟨⟨t1078, t1081, t1084⟩, A70, H⟩ := H
    replace H : ((spec_l1Done.f k t1078 t1074).bind fun t1086 => ((spec_l11Same.f k t1078 t1086).bind fun t1089 => (if t1089 = true then ((some (([] : List ByteArray) : List ByteArray)).bind fun y1090 => (if y1090.length + (l0_2.drop (a0_3 : Int).toNat).length < 8796093022208 then (some (t1078, t1081, (y1090 ++ (l0_2.drop (a0_3 : Int).toNat)), 0, true)) else (none))) else (some (([] : List ByteArray), ([] : List (S72)), ([] : List ByteArray), 0, false))))) = some (r1, r2, r3, r4, r5) := H
    have A7 := Aside0.mk A70
    clear A70
    replace H := Option.bind_eq_some_iff.mp H
    obtain ⟨t1086, A80, H⟩ := H
    replace H : ((spec_l11Same.f k t1078 t1086).bind fun t1089 => (if t1089 = true then ((some (([] : List ByteArray) : List ByteArray)).bind fun y1090 => (if y1090.length + (l0_2.drop (a0_3 : Int).toNat).length < 8796093022208 then (some (t1078, t1081, (y1090 ++ (l0_2.drop (a0_3 : Int).toNat)), 0, true)) else (none))) else (some (([] : List ByteArray), ([] : List (S72)), ([] : List ByteArray), 0, false)))) = some (r1, r2, r3, r4, r5) := H
    have A8 := Aside0.mk A80
    clear A80
    replace H := Option.bind_eq_some_iff.mp H
    obtain ⟨t1089, A90, H⟩ := H
    replace H : (if t1089 = true then ((some (([] : List ByteArray) : List ByteArray)).bind fun y1090 => (if y1090.length + (l0_2.drop (a0_3 : Int).toNat).length < 8796093022208 then (some (t1078, t1081, (y1090 ++ (l0_2.drop (a0_3 : Int).toNat)), 0, true)) else (none))) else (some (([] : List ByteArray), ([] : List (S72)), ([] : List ByteArray), 0, false))) = some (r1, r2, r3, r4, r5) := H
    have A9 := Aside0.mk A90
    clear A90
    by_cases c10 : t1089 = true
    ·
     subst c10
     rw [if_pos rfl] at H
     obtain ⟨y1090, hy1090⟩ : ∃ y_ : List ByteArray, y_ = (([] : List ByteArray)) := ⟨_, rfl⟩
     replace H : (if y1090.length + (l0_2.drop (a0_3 : Int).toNat).length < 8796093022208 then (some (t1078, t1081, (y1090 ++ (l0_2.drop (a0_3 : Int).toNat)), 0, true)) else (none)) = some (r1, r2, r3, r4, r5) := by first | (rw [hy1090]; with_reducible exact H) | (have H2_ := (Option.bind_some _ _).symm.trans H; rw [hy1090]; with_reducible exact H2_) | (have H2_ := (Option.bind_some _ _).symm.trans H; with_reducible exact H2_) | with_reducible exact H | (rw [hy1090]; exact H) | exact H
     have Ny1090 := Aside0.mk hy1090
     clear hy1090
     have c11b0 := eq_true (of_decide_eq_true (by first | (with_reducible assumption) | assumption) : 0 ≤ a0_3)
     have c12b0 := eq_true (of_decide_eq_true (by first | (with_reducible assumption) | assumption) : a0_3 ≤ (l0_2.length : Int))
     by_cases c13 : y1090.length + (l0_2.drop (a0_3 : Int).toNat).length < 8796093022208
     ·
      rw [if_pos c13] at H
      have LMc13 := Aside0.mk c13
      clear c13
      obtain ⟨y1094, hy1094⟩ : ∃ y_ : List ByteArray, y_ = (y1090 ++ (l0_2.drop (a0_3 : Int).toNat)) := ⟨_, rfl⟩
      replace H : (some (t1078, t1081, y1094, 0, true)) = some (r1, r2, r3, r4, r5) := by first | (rw [hy1094]; with_reducible exact H) | (have H2_ := (Option.bind_some _ _).symm.trans H; rw [hy1094]; with_reducible exact H2_) | (have H2_ := (Option.bind_some _ _).symm.trans H; with_reducible exact H2_) | with_reducible exact H | (rw [hy1094]; exact H) | exact H
      have Ny1094 := Aside0.mk hy1094
      clear hy1094
      simp only [Option.some.injEq, Prod.mk.injEq] at H
      obtain ⟨rfl, rfl, rfl, rfl, rfl⟩ := H
      go_enter Try.func47, Try.ntmps47
      try go_wp2_with (first | ((with_reducible refine gate_dst (N := 1) rfl ?_); refine box_event ?hg (N := 1) ?hd (cs := #[.slice A0_0 l0_0.length c0_0, .slice A0_1 l0_1.length c0_1, .slice A0_2 l0_2.length c0_2, .int .i64 a0_3]) (t := 44) ?hr ?_; (case hd => rfl); (case hg => rfl); (case hr => first | (go_simp; done) | (go_simp; rfl)); intro gb1070 hg w14 hbox hb; have BK1070 := Aside0.mk (hbox); have GW1070 := Aside0.mk ((by rw [hg]; exact (below_size (bs HB)) : w.heap.size ≤ gb1070)); have GE1070 := Aside0.mk ((by rw [hg]; exact (below_size (bs HB)) : w.heap.size ≤ gb1070)); replace HB := Aside0.mk (below_step (bs HB) hb); clear hb hbox hg) | ((with_reducible refine gate_dst (N := 2) rfl ?_); refine box_event ?hg (N := 2) ?hd (cs := #[.slice none 0 0, .slice none 0 0, .slice none 0 0, .int .i64 0]) (t := 44) ?hr ?_; (case hd => rfl); (case hg => rfl); (case hr => first | (go_simp; done) | (go_simp; rfl)); intro gb1071 hg w15 hbox hb; have BK1071 := Aside0.mk (hbox); have GW1071 := Aside0.mk ((by rw [hg]; exact (below_size (bs1 HB GE1070)) : w.heap.size ≤ gb1071)); have GE1071 := Aside0.mk ((by rw [hg]; exact (below_size (bs1 HB GE1070)) : w.heap.size ≤ gb1071)); replace HB := Aside0.mk (below_step (bs1 HB GE1070) hb); have NB1070_1071 := Aside0.mk ((bn BK1070 hg : gb1070 ≠ gb1071)); have NB1071_1070 := Aside0.mk ((bm BK1070 hg : gb1071 ≠ gb1070)); replace BK1070 := nb BK1070 hb; clear hb hbox hg; have hnb16 := NB1070_1071.out; have hnc16 := NB1071_1070.out; obtain ⟨hcz17_0, hcz17_1, hcz17_2, hcz17_3⟩ := cz4 BK1070; obtain ⟨hfz17_0, hfz17_1, hfz17_2, hfz17_3⟩ := fz4 BK1070) | ((with_reducible refine gate_callee (f := 26) rfl ?_); refine gL (some 9) rfl rfl Try.func26 (by kernel_rfl) rfl #[.agg #[.slice A0_0 l0_0.length c0_0, .slice A0_1 l0_1.length c0_1, .slice A0_2 l0_2.length c0_2, .int .i64 a0_3]] rfl ?_; (with_reducible refine (spec_GoodStore.calls k _ _ l0_0 _ _ l0_1 _ _ l0_2 a0_3 true _ ?side1 ?side2 ?side3 ?side4 ?side5 ?side6 A2.out).mono ?_); (case side1 => exact cb HR0_0 HB); (case side2 => exact HC0_0.out); (case side3 => exact cb HR0_1 HB); (case side4 => exact HC0_1.out); (case side5 => exact cb HR0_2 HB); (case side6 => exact HC0_2.out); rintro e w18 ⟨rfl, hb⟩; refine ⟨_, rfl, ?_⟩; replace BK1070 := nb BK1070 hb; replace BK1071 := nb BK1071 hb; replace HB := Aside0.mk (below_step (bs2 HB GE1070 GE1071) hb); (try clear hb); (try clear hb2); (try clear hk); (try clear hi)))
      have n0_ := Aside0.mk (blk_drew BK1070.out)
      have n1_ := Aside0.mk (blk_drew BK1071.out)
      have n2_ := Aside0.mk (below_drew1 HB.out)
      clear BK1070
      clear BK1071
      clear HB
      have BK1070 := n0_
      have BK1071 := n1_
      have HB := n2_
      clear n0_ n1_ n2_
      obtain ⟨i020, hi020, _, hsz20, _⟩ := info_parts info9
      obtain ⟨hcut20, hA20, hC20⟩ := print_take_of (P := Try.prog) Value.string (⟨#[]⟩ : ByteArray) 34 9 .i64 Try.underlying34 hi020 hsz20 A0_2 c0_2 l0_2 a0_3 (of_decide_eq_true (by first | (with_reducible assumption) | assumption)) (of_decide_eq_true (by first | (with_reducible assumption) | assumption)) HC0_2.out
      have HR1073 := Aside0.mk (Kd.C_of_reads (h1 := fun _ => rfl) (hA20 _ (Kd.reads_of_C HR0_2.out)))
      have HC1073 := Aside0.mk hC20
      clear hA20 hC20 hi020 hsz20
      refine start_ (n := 15) (S := fun w' => w'.cell? ⟨gb1070, 0, none⟩ = some (.slice A0_0 l0_0.length c0_0) ∧ w'.cell? ⟨gb1070, 1, none⟩ = some (.slice A0_1 l0_1.length c0_1) ∧ w'.cell? ⟨gb1070, 2, none⟩ = some (.slice A0_2 l0_2.length c0_2) ∧ w'.cell? ⟨gb1070, 3, none⟩ = some (.int .i64 a0_3)) (ds := []) #[false, false, false, false, false, false, false, false, false, false, false, false, false, false, false] (by kernel_rfl) rfl rfl ⟨(blk_cell BK1070.out 0).trans rfl, (blk_cell BK1070.out 1).trans rfl, (blk_cell BK1070.out 2).trans rfl, (blk_cell BK1070.out 3).trans rfl⟩ (fun hHeld => ?_); refine with_tabW spec_CheckpointLog.tab3 spec_CheckpointLog.bits3 (fun HT_ HW_ => ?_)
      generalize w18.drew = w19 at BK1070 BK1071 HB HR1073 hHeld ⊢
      refine pure_ (i := 0) (N := some 13) (v := ?_) (a' := ?_) #[true, false, false, false, false, false, false, false, false, false, false, false, false, false, false] rfl rfl (any_of HT_.out (by kernel_rfl)) (fun _ _ _ h => h) (Or.inl ⟨by rfl, ?_⟩) ?_ ?_
      rotate_left
      ·
       intro w'
       go_simp
       with_reducible rfl
      rotate_left
      ·
       simp only [Act.put, List.setIfInBounds_toArray, List.set_cons_zero, List.set_cons_succ, i64_w, i32_w]
       rfl
      refine pure_ (i := 2) (N := some 15) (v := ?_) (a' := ?_) #[true, false, true, false, false, false, false, false, false, false, false, false, false, false, false] rfl rfl (any_of HT_.out (by kernel_rfl)) (fun _ _ _ h => h) (Or.inl ⟨by rfl, ?_⟩) ?_ ?_
      rotate_left
      ·
       intro w'
       go_simp
       with_reducible rfl
      rotate_left
      ·
       simp only [Act.put, List.setIfInBounds_toArray, List.set_cons_zero, List.set_cons_succ, i64_w, i32_w]
       rfl
      refine pure_ (i := 5) (N := some 18) (v := ?_) (a' := ?_) #[true, false, true, false, false, true, false, false, false, false, false, false, false, false, false] rfl rfl (any_of HT_.out (by kernel_rfl)) (fun _ _ _ h => h) (Or.inl ⟨by rfl, ?_⟩) ?_ ?_
      rotate_left
      ·
       intro w'
       go_simp
       with_reducible rfl
      rotate_left
      ·
       simp only [Act.put, List.setIfInBounds_toArray, List.set_cons_zero, List.set_cons_succ, i64_w, i32_w]
       rfl
      refine pure_ (i := 6) (N := some 19) (v := ?_) (a' := ?_) #[true, false, true, false, false, true, true, false, false, false, false, false, false, false, false] rfl rfl (any_of HT_.out (by kernel_rfl)) (fun _ _ _ h => h) (Or.inl ⟨by rfl, ?_⟩) ?_ ?_
      rotate_left
      ·
       intro w'
       go_simp
       with_reducible rfl
      rotate_left
      ·
       simp only [Act.put, List.setIfInBounds_toArray, List.set_cons_zero, List.set_cons_succ, i64_w, i32_w]
       rfl
      refine take_ (i := 1) (N := some 14) (v := ?_) (a' := ?_) #[true, true, true, false, false, true, true, false, false, false, false, false, false, false, false] rfl rfl (take_ofW HT_.out HW_.out (by kernel_rfl)) (fun _ _ _ h => h) (Or.inl ⟨by rfl, ?_⟩) hHeld ?_ ?_
      rotate_left
      ·
       rintro w' ⟨s0, s1, s2, s3⟩
       go_simp
       with_reducible rfl
      rotate_left
      ·
       simp only [Act.put, List.setIfInBounds_toArray, List.set_cons_zero, List.set_cons_succ, i64_w, i32_w]
       rfl
      refine take_ (i := 3) (N := some 16) (v := ?_) (a' := ?_) #[true, true, true, true, false, true, true, false, false, false, false, false, false, false, false] rfl rfl (take_ofW HT_.out HW_.out (by kernel_rfl)) (fun _ _ _ h => h) (Or.inl ⟨by rfl, ?_⟩) hHeld ?_ ?_
      rotate_left
      ·
       rintro w' ⟨s0, s1, s2, s3⟩
       go_simp
       with_reducible rfl
      rotate_left
      ·
       simp only [Act.put, List.setIfInBounds_toArray, List.set_cons_zero, List.set_cons_succ, i64_w, i32_w]
       rfl
      refine pure_ (i := 4) (N := some 17) (v := ?_) (a' := ?_) #[true, true, true, true, true, true, true, false, false, false, false, false, false, false, false] rfl rfl (any_of HT_.out (by kernel_rfl)) (fun _ _ _ h => h) (Or.inl ⟨by rfl, ?_⟩) ?_ ?_
      rotate_left
      ·
       intro w'
       go_simp
       with_reducible rfl
      rotate_left
      ·
       simp only [Act.put, List.setIfInBounds_toArray, List.set_cons_zero, List.set_cons_succ, i64_w, i32_w]
       rfl
      refine take_ (i := 7) (N := some 20) (v := ?_) (a' := ?_) #[true, true, true, true, true, true, true, true, false, false, false, false, false, false, false] rfl rfl (take_ofW HT_.out HW_.out (by kernel_rfl)) (fun _ _ _ h => h) (Or.inl ⟨by rfl, ?_⟩) hHeld ?_ ?_
      rotate_left
      ·
       rintro w' ⟨s0, s1, s2, s3⟩
       go_simp
       with_reducible rfl
      rotate_left
      ·
       simp only [Act.put, List.setIfInBounds_toArray, List.set_cons_zero, List.set_cons_succ, i64_w, i32_w]
       rfl
      refine pure_ (i := 8) (N := some 21) (v := ?_) (a' := ?_) #[true, true, true, true, true, true, true, true, true, false, false, false, false, false, false] rfl rfl (any_of HT_.out (by kernel_rfl)) (fun _ _ _ h => h) (Or.inl ⟨by rfl, ?_⟩) ?_ ?_
      rotate_left
      ·
       intro w'
       go_simp
       with_reducible rfl
      rotate_left
      ·
       simp only [Act.put, List.setIfInBounds_toArray, List.set_cons_zero, List.set_cons_succ, i64_w, i32_w]
       rfl
      refine one_ (i := 9) (N := some 22) #[true, true, true, true, true, true, true, true, true, true, false, false, false, false, false] rfl rfl (one_of HT_.out (by kernel_rfl)) (by decide) (fun K hK => ?_)
      refine goes_ Try.func73 (by kernel_rfl) rfl #[.slice A0_2 (l0_2.take (a0_3 : Int).toNat).length c0_2, .int .i64 (l0_0.length : Int)] (by rfl) rfl rfl (by (try simp only [List.map_toArray, List.map_cons, List.map_nil]); first | done | (rw [show (l0_2.take (a0_3 : Int).toNat).length = a0_3.toNat from (by rw [List.length_take]; have h_ : (a0_3 : Int) ≤ (l0_2.length : Int) := of_decide_eq_true (by first | (with_reducible assumption) | assumption); omega)] <;> rfl) | rfl | (simp only [List.length_drop, List.length_take]; rfl)) ?_
      with_reducible refine (spec_l11Writes.calls k _ _ (l0_2.take (a0_3 : Int).toNat) (l0_0.length : Int) t1074 t1075 _ ?side1 ?side2 A6.out).mono ?_
      (case side1 => exact cb HR1073 HB)
      (case side2 => exact HC1073.out)
      rintro e w21 ⟨v1076, rfl, ho0, hb⟩
      refine ⟨_, rfl, ?_⟩
      have n0_ := Aside0.mk (Kd.R_lower ho0 (below_size (bs2 HB GE1070 GE1071)))
      have n1_ := Aside0.mk (bb BK1070 hb)
      have n2_ := Aside0.mk (bb BK1071 hb)
      have n3_ := Aside0.mk (below_step (bs2 HB GE1070 GE1071) hb)
      clear BK1070
      clear BK1071
      clear HB
      have HO1077 := n0_
      have BK1070 := n1_
      have BK1071 := n2_
      have HB := n3_
      clear n0_ n1_ n2_ n3_
      (try clear hb)
      (try clear hb2)
      (try clear hk)
      (try clear hi)
      (try clear ho0)
      refine hK.out _ _ ⟨(blk_cell BK1070.out 0).trans rfl, (blk_cell BK1070.out 1).trans rfl, (blk_cell BK1070.out 2).trans rfl, (blk_cell BK1070.out 3).trans rfl⟩ (fun hHeld => ?_)
      clear hK K
      refine norm_ (a' := ?_) ?_ ?_
      rotate_left
      ·
       show Act.put _ (some 22) _ = _
       simp only [Act.put, List.setIfInBounds_toArray, List.set_cons_zero, List.set_cons_succ, i64_w, i32_w]
       rfl
      refine pure_ (i := 10) (N := some 12) (v := ?_) (a' := ?_) #[true, true, true, true, true, true, true, true, true, true, true, false, false, false, false] rfl rfl (any_of HT_.out (by kernel_rfl)) (fun _ _ _ h => h) (Or.inl ⟨by rfl, ?_⟩) ?_ ?_
      rotate_left
      ·
       intro w'
       go_simp
       with_reducible rfl
      rotate_left
      ·
       simp only [Act.put, List.setIfInBounds_toArray, List.set_cons_zero, List.set_cons_succ, i64_w, i32_w]
       rfl
      refine pure_ (i := 11) (N := some 23) (v := ?_) (a' := ?_) #[true, true, true, true, true, true, true, true, true, true, true, true, false, false, false] rfl rfl (any_of HT_.out (by kernel_rfl)) (fun _ _ _ h => h) (Or.inl ⟨by rfl, ?_⟩) ?_ ?_
      rotate_left
      ·
       intro w'
       go_simp
       with_reducible rfl
      rotate_left
      ·
       simp only [Act.put, List.setIfInBounds_toArray, List.set_cons_zero, List.set_cons_succ, i64_w, i32_w]
       rfl
      refine pure_ (i := 12) (N := some 24) (v := ?_) (a' := ?_) #[true, true, true, true, true, true, true, true, true, true, true, true, true, false, false] rfl rfl (any_of HT_.out (by kernel_rfl)) (fun _ _ _ h => h) (Or.inl ⟨by rfl, ?_⟩) ?_ ?_
      rotate_left
      ·
       intro w'
       go_simp
       with_reducible rfl
      rotate_left
      ·
       simp only [Act.put, List.setIfInBounds_toArray, List.set_cons_zero, List.set_cons_succ, i64_w, i32_w]
       rfl
      refine pure_ (i := 13) (N := some 4) (v := ?_) (a' := ?_) #[true, true, true, true, true, true, true, true, true, true, true, true, true, true, false] rfl rfl (any_of HT_.out (by kernel_rfl)) (fun _ _ _ h => h) (Or.inl ⟨by rfl, ?_⟩) ?_ ?_
      rotate_left
      ·
       intro w'
       go_simp
       with_reducible rfl
      rotate_left
      ·
       simp only [Act.put, List.setIfInBounds_toArray, List.set_cons_zero, List.set_cons_succ, i64_w, i32_w]
       rfl
      refine pure_ (i := 14) (N := some 5) (v := ?_) (a' := ?_) #[true, true, true, true, true, true, true, true, true, true, true, true, true, true, true] rfl rfl (any_of HT_.out (by kernel_rfl)) (fun _ _ _ h => h) (Or.inl ⟨by rfl, ?_⟩) ?_ ?_
      rotate_left
      ·
       intro w'
       go_simp
       with_reducible rfl
      rotate_left
      ·
       simp only [Act.put, List.setIfInBounds_toArray, List.set_cons_zero, List.set_cons_succ, i64_w, i32_w]
       rfl
      refine done_ (done_of HT_.out (by kernel_rfl)) ?_
      obtain ⟨hcz22_0, hcz22_1, hcz22_2, hcz22_3⟩ := cz4 BK1070
      obtain ⟨hfz22_0, hfz22_1, hfz22_2, hfz22_3⟩ := fz4 BK1070
      try go_wp2_with (first | ((with_reducible refine gate_callee (f := 94) rfl ?_); refine gL (some 28) rfl rfl Try.func94 (by kernel_rfl) rfl #[.agg #[.slice A0_0 l0_0.length c0_0, .slice A0_1 l0_1.length c0_1]] rfl ?_; (with_reducible refine (spec_FlushDevice.calls k _ _ l0_0 _ _ l0_1 t1078 t1081 t1084 _ ?side1 ?side2 ?side3 ?side4 A7.out).mono ?_); (case side1 => exact cb HR0_0 HB); (case side2 => exact HC0_0.out); (case side3 => exact cb HR0_1 HB); (case side4 => exact HC0_1.out); rintro e w23 ⟨v1079, v1082, rfl, ho0, ho1, hb⟩; refine ⟨_, rfl, ?_⟩; have HO1080 := Aside0.mk (Kd.R_lower ho0 (below_size (bs2 HB GE1070 GE1071))); have HO1083 := Aside0.mk (Kd.R_lower (Kd.R_new' ho1 (Kd.R_lt (rr HO1077.out))) (below_size (bs2 HB GE1070 GE1071))); replace HO1077 := Aside0.mk (Kd.R_elder' (rr HO1077.out) (Kd.R_base ho1) hb); replace BK1070 := nb BK1070 hb; replace BK1071 := nb BK1071 hb; replace HB := Aside0.mk (below_step (bs2 HB GE1070 GE1071) hb); (try clear hb); (try clear hb2); (try clear hk); (try clear hi); (try clear ho0); (try clear ho1)) | ((with_reducible refine gate_dst (N := 6) rfl ?_); refine box_event ?hg (N := 6) ?hd (cs := #[.slice none 0 0, .slice none 0 0]) (t := 42) ?hr ?_; (case hd => rfl); (case hg => rfl); (case hr => first | (go_simp; done) | (go_simp; rfl)); intro gb1085 hg w24 hbox hb; replace HO1077 := nr HO1077 hb; replace HO1080 := nr HO1080 hb; replace HO1083 := nr HO1083 hb; have BK1085 := Aside0.mk (hbox); have GW1085 := Aside0.mk ((by rw [hg]; exact (below_size (bs2 HB GE1070 GE1071)) : w.heap.size ≤ gb1085)); have GE1085 := Aside0.mk ((by rw [hg]; exact (below_size (bs2 HB GE1070 GE1071)) : w.heap.size ≤ gb1085)); replace HB := Aside0.mk (below_step (bs2 HB GE1070 GE1071) hb); have NB1070_1085 := Aside0.mk ((bn BK1070 hg : gb1070 ≠ gb1085)); have NB1085_1070 := Aside0.mk ((bm BK1070 hg : gb1085 ≠ gb1070)); replace BK1070 := nb BK1070 hb; have NB1071_1085 := Aside0.mk ((bn BK1071 hg : gb1071 ≠ gb1085)); have NB1085_1071 := Aside0.mk ((bm BK1071 hg : gb1085 ≠ gb1071)); replace BK1071 := nb BK1071 hb; clear hb hbox hg; obtain ⟨Ao25, co25, eo25⟩ := Kd.R_slice HO1080.out; subst eo25; have hnb26 := NB1085_1070.out; have hnc26 := NB1070_1085.out; have hnb27 := NB1085_1071.out; have hnc27 := NB1071_1085.out; obtain ⟨hcz28_0, hcz28_1⟩ := cz2 BK1085; obtain ⟨hfz28_0, hfz28_1⟩ := fz2 BK1085; obtain ⟨Ao29, co29, eo29⟩ := Kd.R_slice HO1083.out; subst eo29))
      have n0_ : Aside0 (Kd.R k72 72 ((w24.setCell ⟨gb1085, 0, none⟩ (.slice Ao25 t1078.length co25)).setCell ⟨gb1085, 1, none⟩ (.slice Ao29 t1081.length co29)) w.heap.size (fun k_ => some k_ ≠ (.slice Ao29 t1081.length co29 : Value).ownBlock) v1076 t1074) := ⟨by (with_reducible repeat (first | apply Kd.R_alloc | apply Kd.R_drewN | apply Kd.R_drew)); exact Kd.R_mono (Kd.R_far (p := ⟨gb1085, 1, none⟩) (Kd.R_far (p := ⟨gb1085, 0, none⟩) (Kd.R_types HO1077.out BK1085.out (by decide)) (fun _ hk => hk.2) (.slice Ao25 t1078.length co25)) (fun _ hk => hk.2) (.slice Ao29 t1081.length co29)) (fun _ hk => hk.1.2)⟩
      have n1_ : Aside0 (Kd.R Kd.string 9 ((w24.setCell ⟨gb1085, 0, none⟩ (.slice Ao25 t1078.length co25)).setCell ⟨gb1085, 1, none⟩ (.slice Ao29 t1081.length co29)) w.heap.size (fun _ => True) (.slice Ao25 t1078.length co25) t1078) := ⟨by (with_reducible repeat (first | apply Kd.R_alloc | apply Kd.R_drewN | apply Kd.R_drew)); exact Kd.R_mono (Kd.R_far (p := ⟨gb1085, 1, none⟩) (Kd.R_far (p := ⟨gb1085, 0, none⟩) (Kd.R_types HO1080.out BK1085.out (by decide)) (fun _ hk => hk.2) (.slice Ao25 t1078.length co25)) (fun _ hk => hk.2) (.slice Ao29 t1081.length co29)) (fun _ hk => trivial)⟩
      have n2_ : Aside0 (Kd.R k72 72 ((w24.setCell ⟨gb1085, 0, none⟩ (.slice Ao25 t1078.length co25)).setCell ⟨gb1085, 1, none⟩ (.slice Ao29 t1081.length co29)) w.heap.size (fun k_ => some k_ ≠ (v1076 : Value).ownBlock) (.slice Ao29 t1081.length co29) t1081) := ⟨by (with_reducible repeat (first | apply Kd.R_alloc | apply Kd.R_drewN | apply Kd.R_drew)); exact Kd.R_mono (Kd.R_far (p := ⟨gb1085, 1, none⟩) (Kd.R_far (p := ⟨gb1085, 0, none⟩) (Kd.R_types HO1083.out BK1085.out (by decide)) (fun _ hk => hk.2) (.slice Ao25 t1078.length co25)) (fun _ hk => hk.2) (.slice Ao29 t1081.length co29)) (fun _ hk => hk.1.2)⟩
      have n3_ : Aside0 (((w24.setCell ⟨gb1085, 0, none⟩ (.slice Ao25 t1078.length co25)).setCell ⟨gb1085, 1, none⟩ (.slice Ao29 t1081.length co29)).heap[gb1070]? = some (.cells #[.slice A0_0 l0_0.length c0_0, .slice A0_1 l0_1.length c0_1, .slice A0_2 l0_2.length c0_2, .int .i64 a0_3] 44 (0, 0))) := ⟨bf BK1070 NB1070_1085⟩
      have n4_ : Aside0 (((w24.setCell ⟨gb1085, 0, none⟩ (.slice Ao25 t1078.length co25)).setCell ⟨gb1085, 1, none⟩ (.slice Ao29 t1081.length co29)).heap[gb1071]? = some (.cells #[.slice none 0 0, .slice none 0 0, .slice none 0 0, .int .i64 0] 44 (0, 0))) := ⟨bf BK1071 NB1071_1085⟩
      have n5_ : Aside0 (((w24.setCell ⟨gb1085, 0, none⟩ (.slice Ao25 t1078.length co25)).setCell ⟨gb1085, 1, none⟩ (.slice Ao29 t1081.length co29)).heap[gb1085]? = some (.cells #[.slice Ao25 t1078.length co25, .slice Ao29 t1081.length co29] 42 (0, 0))) := ⟨by (with_reducible repeat (first | refine blk_drewN ?_ _ | refine blk_drew ?_ | refine blk_alloc ?_ _)); refine blk_put (cs := #[.slice Ao25 t1078.length co25, .slice none 0 0]) ?_ 1 _ rfl; (with_reducible repeat (first | refine blk_drewN ?_ _ | refine blk_drew ?_ | refine blk_alloc ?_ _)); refine blk_put (cs := #[.slice none 0 0, .slice none 0 0]) ?_ 0 _ rfl; (with_reducible repeat (first | refine blk_drewN ?_ _ | refine blk_drew ?_ | refine blk_alloc ?_ _)); exact BK1085.out⟩
      have n6_ : Aside0 (Below w.heap.size w ((w24.setCell ⟨gb1085, 0, none⟩ (.slice Ao25 t1078.length co25)).setCell ⟨gb1085, 1, none⟩ (.slice Ao29 t1081.length co29))) := ⟨bs3 HB GE1070 GE1071 GE1085⟩
      (try clear HO1077)
      (try clear HO1080)
      (try clear HO1083)
      (try clear BK1070)
      (try clear BK1071)
      (try clear BK1085)
      (try clear HB)
      generalize ((w24.setCell ⟨gb1085, 0, none⟩ (.slice Ao25 t1078.length co25)).setCell ⟨gb1085, 1, none⟩ (.slice Ao29 t1081.length co29)) = w30 at n0_ n1_ n2_ n3_ n4_ n5_ n6_ ⊢
      have HO1077 := n0_
      have HO1080 := n1_
      have HO1083 := n2_
      have BK1070 := n3_
      have BK1071 := n4_
      have BK1085 := n5_
      have HB := n6_
      clear n0_ n1_ n2_ n3_ n4_ n5_ n6_
      have n0_ := Aside0.mk (Kd.R_drew HO1077.out)
      have n1_ := Aside0.mk (Kd.R_drew HO1080.out)
      have n2_ := Aside0.mk (Kd.R_drew HO1083.out)
      have n3_ := Aside0.mk (blk_drew BK1070.out)
      have n4_ := Aside0.mk (blk_drew BK1071.out)
      have n5_ := Aside0.mk (blk_drew BK1085.out)
      have n6_ := Aside0.mk (below_drew1 HB.out)
      clear HO1077
      clear HO1080
      clear HO1083
      clear BK1070
      clear BK1071
      clear BK1085
      clear HB
      have HO1077 := n0_
      have HO1080 := n1_
      have HO1083 := n2_
      have BK1070 := n3_
      have BK1071 := n4_
      have BK1085 := n5_
      have HB := n6_
      clear n0_ n1_ n2_ n3_ n4_ n5_ n6_
      obtain ⟨Ao32, co32, eo32⟩ := Kd.R_slice HO1077.out
      (first | subst eo32 | (injection eo32 with f1_ f2_ f3_; have f4_ := f1_.symm; have f5_ := f3_.symm; clear f1_ f2_ f3_; subst f4_; subst f5_))
      refine start_ (n := 8) (S := fun w' => w'.cell? ⟨gb1085, 0, none⟩ = some (.slice Ao25 t1078.length co25) ∧ w'.cell? ⟨gb1085, 1, none⟩ = some (.slice Ao29 t1081.length co29)) (ds := []) #[false, false, false, false, false, false, false, false] (by kernel_rfl) rfl rfl ⟨(blk_cell BK1085.out 0).trans rfl, (blk_cell BK1085.out 1).trans rfl⟩ (fun hHeld => ?_); refine with_tabW spec_CheckpointLog.tab5 spec_CheckpointLog.bits5 (fun HT_ HW_ => ?_)
      generalize w30.drew = w31 at HO1077 HO1080 HO1083 BK1070 BK1071 BK1085 HB hHeld ⊢
      refine pure_ (i := 0) (N := some 31) (v := ?_) (a' := ?_) #[true, false, false, false, false, false, false, false] rfl rfl (any_of HT_.out (by kernel_rfl)) (fun _ _ _ h => h) (Or.inl ⟨by rfl, ?_⟩) ?_ ?_
      rotate_left
      ·
       intro w'
       go_simp
       with_reducible rfl
      rotate_left
      ·
       simp only [Act.put, List.setIfInBounds_toArray, List.set_cons_zero, List.set_cons_succ, i64_w, i32_w]
       rfl
      refine pure_ (i := 2) (N := some 33) (v := ?_) (a' := ?_) #[true, false, true, false, false, false, false, false] rfl rfl (any_of HT_.out (by kernel_rfl)) (fun _ _ _ h => h) (Or.inl ⟨by rfl, ?_⟩) ?_ ?_
      rotate_left
      ·
       intro w'
       go_simp
       with_reducible rfl
      rotate_left
      ·
       simp only [Act.put, List.setIfInBounds_toArray, List.set_cons_zero, List.set_cons_succ, i64_w, i32_w]
       rfl
      refine pure_ (i := 4) (N := some 35) (v := ?_) (a' := ?_) #[true, false, true, false, true, false, false, false] rfl rfl (any_of HT_.out (by kernel_rfl)) (fun _ _ _ h => h) (Or.inl ⟨by rfl, ?_⟩) ?_ ?_
      rotate_left
      ·
       intro w'
       go_simp
       with_reducible rfl
      rotate_left
      ·
       simp only [Act.put, List.setIfInBounds_toArray, List.set_cons_zero, List.set_cons_succ, i64_w, i32_w]
       rfl
      refine take_ (i := 1) (N := some 32) (v := ?_) (a' := ?_) #[true, true, true, false, true, false, false, false] rfl rfl (take_ofW HT_.out HW_.out (by kernel_rfl)) (fun _ _ _ h => h) (Or.inl ⟨by rfl, ?_⟩) hHeld ?_ ?_
      rotate_left
      ·
       rintro w' ⟨s0, s1⟩
       go_simp
       with_reducible rfl
      rotate_left
      ·
       simp only [Act.put, List.setIfInBounds_toArray, List.set_cons_zero, List.set_cons_succ, i64_w, i32_w]
       rfl
      refine take_ (i := 3) (N := some 34) (v := ?_) (a' := ?_) #[true, true, true, true, true, false, false, false] rfl rfl (take_ofW HT_.out HW_.out (by kernel_rfl)) (fun _ _ _ h => h) (Or.inl ⟨by rfl, ?_⟩) hHeld ?_ ?_
      rotate_left
      ·
       rintro w' ⟨s0, s1⟩
       go_simp
       with_reducible rfl
      rotate_left
      ·
       simp only [Act.put, List.setIfInBounds_toArray, List.set_cons_zero, List.set_cons_succ, i64_w, i32_w]
       rfl
      refine one_ (i := 5) (N := some 36) #[true, true, true, true, true, true, false, false] rfl rfl (one_of HT_.out (by kernel_rfl)) (by decide) (fun K hK => ?_)
      refine goes_ Try.func87 (by kernel_rfl) rfl #[.slice Ao25 t1078.length co25, .slice Ao32 t1074.length co32] (by rfl) rfl rfl (by (try simp only [List.map_toArray, List.map_cons, List.map_nil]); first | done | rfl | (simp only [List.length_drop, List.length_take]; rfl)) ?_
      with_reducible refine (spec_l1Done.calls k _ _ t1078 _ _ t1074 t1086 _ ?side1 ?side2 ?side3 ?side4 A8.out).mono ?_
      (case side1 => exact rc0 HO1080)
      (case side2 => exact (Kd.R_reads' HO1080.out).2.1)
      (case side3 => exact rc0 HO1077)
      (case side4 => exact (Kd.R_reads' HO1077.out).2.1)
      rintro e w33 ⟨v1087, rfl, ho0, hb⟩
      refine ⟨_, rfl, ?_⟩
      have n0_ := Aside0.mk (Kd.R_below (rr HO1077.out) hb)
      have n1_ := Aside0.mk (Kd.R_elder' (rr HO1080.out) (Kd.R_base ho0) hb)
      have n2_ := Aside0.mk (Kd.R_below (rr HO1083.out) hb)
      have n3_ := Aside0.mk (Kd.R_lower (Kd.R_new' ho0 (Kd.R_lt (rr HO1080.out))) (below_size (bs3 HB GE1070 GE1071 GE1085)))
      have n4_ := Aside0.mk (bb BK1070 hb)
      have n5_ := Aside0.mk (bb BK1071 hb)
      have n6_ := Aside0.mk (bb BK1085 hb)
      have n7_ := Aside0.mk (below_step (bs3 HB GE1070 GE1071 GE1085) hb)
      clear HO1077
      clear HO1080
      clear HO1083
      clear BK1070
      clear BK1071
      clear BK1085
      clear HB
      have HO1077 := n0_
      have HO1080 := n1_
      have HO1083 := n2_
      have HO1088 := n3_
      have BK1070 := n4_
      have BK1071 := n5_
      have BK1085 := n6_
      have HB := n7_
      clear n0_ n1_ n2_ n3_ n4_ n5_ n6_ n7_
      (try clear hb)
      (try clear hb2)
      (try clear hk)
      (try clear hi)
      (try clear ho0)
      obtain ⟨Ao34, co34, eo34⟩ := Kd.R_slice HO1088.out
      (first | subst eo34 | (injection eo34 with f1_ f2_ f3_; have f4_ := f1_.symm; have f5_ := f3_.symm; clear f1_ f2_ f3_; subst f4_; subst f5_))
      refine hK.out _ _ ⟨(blk_cell BK1085.out 0).trans rfl, (blk_cell BK1085.out 1).trans rfl⟩ (fun hHeld => ?_)
      clear hK K
      refine norm_ (a' := ?_) ?_ ?_
      rotate_left
      ·
       show Act.put _ (some 36) _ = _
       simp only [Act.put, List.setIfInBounds_toArray, List.set_cons_zero, List.set_cons_succ, i64_w, i32_w]
       rfl
      refine one_ (i := 6) (N := some 37) #[true, true, true, true, true, true, true, false] rfl rfl (one_of HT_.out (by kernel_rfl)) (by decide) (fun K hK => ?_)
      refine goes_ Try.func95 (by kernel_rfl) rfl #[.slice Ao25 t1078.length co25, .slice Ao34 t1086.length co34] (by rfl) rfl rfl (by (try simp only [List.map_toArray, List.map_cons, List.map_nil]); first | done | rfl | (simp only [List.length_drop, List.length_take]; rfl)) ?_
      with_reducible refine (spec_l11Same.calls k _ _ t1078 _ _ t1086 true _ ?side1 ?side2 ?side3 ?side4 A9.out).mono ?_
      (case side1 => exact rc0 HO1080)
      (case side2 => exact (Kd.R_reads' HO1080.out).2.1)
      (case side3 => exact rc0 HO1088)
      (case side4 => exact (Kd.R_reads' HO1088.out).2.1)
      rintro e w' ⟨rfl, ⟨nd, rfl⟩⟩
      refine ⟨_, rfl, ?_⟩
      refine hK.out _ _ ⟨(blk_cell BK1085.out 0).trans rfl, (blk_cell BK1085.out 1).trans rfl⟩ (fun hHeld => ?_)
      clear hK K
      refine norm_ (a' := ?_) ?_ ?_
      rotate_left
      ·
       show Act.put _ (some 37) _ = _
       simp only [Act.put, List.setIfInBounds_toArray, List.set_cons_zero, List.set_cons_succ, i64_w, i32_w]
       rfl
      refine pure_ (i := 7) (N := some 38) (v := ?_) (a' := ?_) #[true, true, true, true, true, true, true, true] rfl rfl (any_of HT_.out (by kernel_rfl)) (fun _ _ _ h => h) (Or.inl ⟨by rfl, ?_⟩) ?_ ?_
      rotate_left
      ·
       intro w'
       go_simp
       with_reducible rfl
      rotate_left
      ·
       simp only [Act.put, List.setIfInBounds_toArray, List.set_cons_zero, List.set_cons_succ, i64_w, i32_w]
       rfl
      refine done_ (done_of HT_.out (by kernel_rfl)) ?_
      try go_wp2
      (try (rw [drewN_self w33]; generalize hq_ : World.drewN w33 _ = w33; have n0_ : Aside0 (Kd.R k72 72 w33 w.heap.size (fun k_ => some k_ ≠ (.slice Ao29 t1081.length co29 : Value).ownBlock) (.slice Ao32 t1074.length co32) t1074) := ⟨by rw [← hq_]; exact (rr HO1077.out)⟩; have n1_ : Aside0 (Kd.R Kd.string 9 w33 w.heap.size (fun k_ => some k_ ≠ (.slice Ao34 t1086.length co34 : Value).ownBlock) (.slice Ao25 t1078.length co25) t1078) := ⟨by rw [← hq_]; exact (by (with_reducible repeat (first | apply Kd.R_alloc | apply Kd.R_drewN | apply Kd.R_drew)); exact Kd.R_mono HO1080.out (fun _ hk => hk.2))⟩; have n2_ : Aside0 (Kd.R k72 72 w33 w.heap.size (fun k_ => some k_ ≠ (.slice Ao32 t1074.length co32 : Value).ownBlock) (.slice Ao29 t1081.length co29) t1081) := ⟨by rw [← hq_]; exact (rr HO1083.out)⟩; have n3_ : Aside0 (Kd.R Kd.string 9 w33 w.heap.size (fun k_ => some k_ ≠ (.slice Ao25 t1078.length co25 : Value).ownBlock) (.slice Ao34 t1086.length co34) t1086) := ⟨by rw [← hq_]; exact (by (with_reducible repeat (first | apply Kd.R_alloc | apply Kd.R_drewN | apply Kd.R_drew)); exact Kd.R_mono HO1088.out (fun _ hk => hk.2))⟩; have n4_ : Aside0 (w33.heap[gb1070]? = some (.cells #[.slice A0_0 l0_0.length c0_0, .slice A0_1 l0_1.length c0_1, .slice A0_2 l0_2.length c0_2, .int .i64 a0_3] 44 (0, 0))) := ⟨by rw [← hq_]; exact (bk BK1070)⟩; have n5_ : Aside0 (w33.heap[gb1071]? = some (.cells #[.slice none 0 0, .slice none 0 0, .slice none 0 0, .int .i64 0] 44 (0, 0))) := ⟨by rw [← hq_]; exact (bk BK1071)⟩; have n6_ : Aside0 (w33.heap[gb1085]? = some (.cells #[.slice Ao25 t1078.length co25, .slice Ao29 t1081.length co29] 42 (0, 0))) := ⟨by rw [← hq_]; exact (bk BK1085)⟩; have n7_ : Aside0 (Below w.heap.size w w33) := ⟨by rw [← hq_]; exact (bs3 HB GE1070 GE1071 GE1085)⟩; clear HO1077 HO1080 HO1083 HO1088 BK1070 BK1071 BK1085 HB hq_; have HO1077 := n0_; have HO1080 := n1_; have HO1083 := n2_; have HO1088 := n3_; have BK1070 := n4_; have BK1071 := n5_; have BK1085 := n6_; have HB := n7_; clear n0_ n1_ n2_ n3_ n4_ n5_ n6_ n7_))
      have n0_ := Aside0.mk (Kd.R_drew HO1077.out)
      have n1_ := Aside0.mk (Kd.R_drew HO1080.out)
      have n2_ := Aside0.mk (Kd.R_drew HO1083.out)
      have n3_ := Aside0.mk (Kd.R_drew HO1088.out)
      have n4_ := Aside0.mk (blk_drew BK1070.out)
      have n5_ := Aside0.mk (blk_drew BK1071.out)
      have n6_ := Aside0.mk (blk_drew BK1085.out)
      have n7_ := Aside0.mk (below_drew1 HB.out)
      clear HO1077
      clear HO1080
      clear HO1083
      clear HO1088
      clear BK1070
      clear BK1071
      clear BK1085
      clear HB
      have HO1077 := n0_
      have HO1080 := n1_
      have HO1083 := n2_
      have HO1088 := n3_
      have BK1070 := n4_
      have BK1071 := n5_
      have BK1085 := n6_
      have HB := n7_
      clear n0_ n1_ n2_ n3_ n4_ n5_ n6_ n7_
      obtain ⟨i036, hi036, _, hsz36, _⟩ := info_parts info9
      obtain ⟨A36, hcut36, hA36, hC36⟩ := print_drop_of (P := Try.prog) Value.string (⟨#[]⟩ : ByteArray) 34 9 .i64 Try.underlying34 hi036 hsz36 A0_2 c0_2 l0_2 a0_3 (of_decide_eq_true (by first | (with_reducible assumption) | assumption)) (of_decide_eq_true (by first | (with_reducible assumption) | assumption)) HC0_2.out
      have HR1093 := Aside0.mk (Kd.C_of_reads (h1 := fun _ => rfl) (hA36 _ (Kd.reads_of_C HR0_2.out)))
      have HC1093 := Aside0.mk hC36
      clear hA36 hC36 hi036 hsz36
      refine start_ (n := 11) (S := fun w' => w'.cell? ⟨gb1085, 0, none⟩ = some (.slice Ao25 t1078.length co25) ∧ w'.cell? ⟨gb1085, 1, none⟩ = some (.slice Ao29 t1081.length co29) ∧ w'.cell? ⟨gb1070, 0, none⟩ = some (.slice A0_0 l0_0.length c0_0) ∧ w'.cell? ⟨gb1070, 1, none⟩ = some (.slice A0_1 l0_1.length c0_1) ∧ w'.cell? ⟨gb1070, 2, none⟩ = some (.slice A0_2 l0_2.length c0_2) ∧ w'.cell? ⟨gb1070, 3, none⟩ = some (.int .i64 a0_3)) (ds := []) #[false, false, false, false, false, false, false, false, false, false, false] (by kernel_rfl) rfl rfl ⟨(blk_cell BK1085.out 0).trans rfl, (blk_cell BK1085.out 1).trans rfl, (blk_cell BK1070.out 0).trans rfl, (blk_cell BK1070.out 1).trans rfl, (blk_cell BK1070.out 2).trans rfl, (blk_cell BK1070.out 3).trans rfl⟩ (fun hHeld => ?_); refine with_tabW spec_CheckpointLog.tab7 spec_CheckpointLog.bits7 (fun HT_ HW_ => ?_)
      generalize w33.drew = w35 at HO1077 HO1080 HO1083 HO1088 BK1070 BK1071 BK1085 HB HR1093 hHeld ⊢
      refine pure_ (i := 2) (N := some 42) (v := ?_) (a' := ?_) #[false, false, true, false, false, false, false, false, false, false, false] rfl rfl (any_of HT_.out (by kernel_rfl)) (fun _ _ _ h => h) (Or.inl ⟨by rfl, ?_⟩) ?_ ?_
      rotate_left
      ·
       intro w'
       go_simp
       with_reducible rfl
      rotate_left
      ·
       simp only [Act.put, List.setIfInBounds_toArray, List.set_cons_zero, List.set_cons_succ, i64_w, i32_w]
       rfl
      refine pure_ (i := 4) (N := some 44) (v := ?_) (a' := ?_) #[false, false, true, false, true, false, false, false, false, false, false] rfl rfl (any_of HT_.out (by kernel_rfl)) (fun _ _ _ h => h) (Or.inl ⟨by rfl, ?_⟩) ?_ ?_
      rotate_left
      ·
       intro w'
       go_simp
       with_reducible rfl
      rotate_left
      ·
       simp only [Act.put, List.setIfInBounds_toArray, List.set_cons_zero, List.set_cons_succ, i64_w, i32_w]
       rfl
      refine take_ (i := 0) (N := some 40) (v := ?_) (a' := ?_) #[true, false, true, false, true, false, false, false, false, false, false] rfl rfl (take_ofW HT_.out HW_.out (by kernel_rfl)) (fun _ _ _ h => h) (Or.inl ⟨by rfl, ?_⟩) hHeld ?_ ?_
      rotate_left
      ·
       rintro w' ⟨s0, s1, s2, s3, s4, s5⟩
       go_simp
       with_reducible rfl
      rotate_left
      ·
       simp only [Act.put, List.setIfInBounds_toArray, List.set_cons_zero, List.set_cons_succ, i64_w, i32_w]
       rfl
      refine take_ (i := 3) (N := some 43) (v := ?_) (a' := ?_) #[true, false, true, true, true, false, false, false, false, false, false] rfl rfl (take_ofW HT_.out HW_.out (by kernel_rfl)) (fun _ _ _ h => h) (Or.inl ⟨by rfl, ?_⟩) hHeld ?_ ?_
      rotate_left
      ·
       rintro w' ⟨s0, s1, s2, s3, s4, s5⟩
       go_simp
       with_reducible rfl
      rotate_left
      ·
       simp only [Act.put, List.setIfInBounds_toArray, List.set_cons_zero, List.set_cons_succ, i64_w, i32_w]
       rfl
      refine take_ (i := 5) (N := some 45) (v := ?_) (a' := ?_) #[true, false, true, true, true, true, false, false, false, false, false] rfl rfl (take_ofW HT_.out HW_.out (by kernel_rfl)) (fun _ _ _ h => h) (Or.inl ⟨by rfl, ?_⟩) hHeld ?_ ?_
      rotate_left
      ·
       rintro w' ⟨s0, s1, s2, s3, s4, s5⟩
       go_simp
       with_reducible rfl
      rotate_left
      ·
       simp only [Act.put, List.setIfInBounds_toArray, List.set_cons_zero, List.set_cons_succ, i64_w, i32_w]
       rfl
      refine pure_ (i := 6) (N := some 46) (v := ?_) (a' := ?_) #[true, false, true, true, true, true, true, false, false, false, false] rfl rfl (any_of HT_.out (by kernel_rfl)) (fun _ _ _ h => h) (Or.inl ⟨by rfl, ?_⟩) ?_ ?_
      rotate_left
      ·
       intro w'
       go_simp
       with_reducible rfl
      rotate_left
      ·
       simp only [Act.put, List.setIfInBounds_toArray, List.set_cons_zero, List.set_cons_succ, i64_w, i32_w]
       rfl
      refine one_ (i := 1) (N := some 41) #[true, true, true, true, true, true, true, false, false, false, false] rfl rfl (one_of HT_.out (by kernel_rfl)) (by decide) (fun K hK => ?_)
      refine Kd.R_lit_step Kd.string _ 9 ?hg (N := 41) ?hd (xs := ([] : List ByteArray)) (inner := []) (ok := fun _ => True) (okp := fun _ => True) ?hr ?hp (fun _ hk => hk) trivial (Below.refl _ _) (Nat.le_refl _) (by simp) ?_; (case hd => rfl); (case hg => rfl); (case hr => first | (go_simp; done) | (go_simp; rfl)); (case hp => exact (Reps.none _ _))
      intro v1091 w37 ho38 hb hg_ hnew_
      clear hg_ hnew_
      (first | rw [← Ny1090.out] at ho38 | (simp only [Int.reduceToNat] at ho38; rw [← Ny1090.out] at ho38))
      have n0_ := Aside0.mk (Kd.R_below (rr HO1077.out) hb)
      have n1_ := Aside0.mk (Kd.R_elder' (rr HO1080.out) (Kd.R_base ho38) hb)
      have n2_ := Aside0.mk (Kd.R_below (rr HO1083.out) hb)
      have n3_ := Aside0.mk (Kd.R_elder' (rr HO1088.out) (Kd.R_base ho38) hb)
      have n4_ := Aside0.mk (Kd.R_lower (Kd.R_new' (Kd.R_new' ho38 (Kd.R_lt (rr HO1080.out))) (Kd.R_lt (rr HO1088.out))) (below_size (bs3 HB GE1070 GE1071 GE1085)))
      have n5_ := Aside0.mk (bb BK1070 hb)
      have n6_ := Aside0.mk (bb BK1071 hb)
      have n7_ := Aside0.mk (bb BK1085 hb)
      have n8_ := Aside0.mk (below_step (bs3 HB GE1070 GE1071 GE1085) hb)
      clear HO1077
      clear HO1080
      clear HO1083
      clear HO1088
      clear BK1070
      clear BK1071
      clear BK1085
      clear HB
      have HO1077 := n0_
      have HO1080 := n1_
      have HO1083 := n2_
      have HO1088 := n3_
      have HO1092 := n4_
      have BK1070 := n5_
      have BK1071 := n6_
      have BK1085 := n7_
      have HB := n8_
      clear n0_ n1_ n2_ n3_ n4_ n5_ n6_ n7_ n8_
      clear hb ho38
      refine hK.out _ _ ⟨(blk_cell BK1085.out 0).trans rfl, (blk_cell BK1085.out 1).trans rfl, (blk_cell BK1070.out 0).trans rfl, (blk_cell BK1070.out 1).trans rfl, (blk_cell BK1070.out 2).trans rfl, (blk_cell BK1070.out 3).trans rfl⟩ (fun hHeld => ?_)
      clear hK K
      refine norm_ (a' := ?_) ?_ ?_
      rotate_left
      ·
       show Act.put _ (some 41) _ = _
       simp only [Act.put, List.setIfInBounds_toArray, List.set_cons_zero, List.set_cons_succ, i64_w, i32_w]
       rfl
      refine one_ (i := 7) (N := some 47) #[true, true, true, true, true, true, true, true, false, false, false] rfl rfl (one_of HT_.out (by kernel_rfl)) (by decide) (fun K hK => ?_)
      refine Kd.R_append_rows_step Kd.string (w0 := w) w.heap.size (by rfl) (.tmp 41) (.tmp 46) 34 9 (.string ⟨#[]⟩) 16 rfl Try.underlying34 info9 rfl (by decide) (by omega) v1091 y1090 (l0_2.drop (a0_3 : Int).toNat) _ _ _ (fun k_ => some k_ ≠ (.slice Ao25 t1078.length co25 : Value).ownBlock ∧ some k_ ≠ (.slice Ao34 t1086.length co34 : Value).ownBlock) (fun _ => False) rfl rfl ?aO ?aR (fun _ _ h => h) (fun _ h => h.elim) ?aF ?aB ?aS ?aL ?_
      (case aR => first | (rw [← show (l0_2.drop (a0_3 : Int).toNat).length = (l0_2.length - a0_3.toNat) from List.length_drop]; exact cb HR1093 HB) | (exact cb HR1093 HB))
      (case aB => exact (bs3 HB GE1070 GE1071 GE1085))
      (case aF => exact (fun k_ hk => ⟨Kd.fresh' (Kd.R_lt (rr HO1080.out)) k_ hk, Kd.fresh' (Kd.R_lt (rr HO1088.out)) k_ hk⟩))
      (case aO => exact (by (with_reducible repeat (first | apply Kd.R_alloc | apply Kd.R_drewN | apply Kd.R_drew)); exact Kd.R_mono HO1092.out (fun _ hk => ⟨hk.1.2, hk.2⟩)))
      (case aS => exact (below_size (bs3 HB GE1070 GE1071 GE1085)))
      (case aL => have := LMc13.out; have hlx_ := (show (l0_2.drop (a0_3 : Int).toNat).length = (l0_2.length - a0_3.toNat) from List.length_drop); omega)
      intro v1095 w39 ho hb hg hat
      rw [← Ny1094.out] at ho
      have n0_ := Aside0.mk (blk_grown (g := gb1070) (o := .cells #[.slice A0_0 l0_0.length c0_0, .slice A0_1 l0_1.length c0_1, .slice A0_2 l0_2.length c0_2, .int .i64 a0_3] 44 (0, 0)) (bk BK1070) hg (Kd.R_ne HO1092.out BK1070.out (by decide)))
      have n1_ := Aside0.mk (blk_grown (g := gb1071) (o := .cells #[.slice none 0 0, .slice none 0 0, .slice none 0 0, .int .i64 0] 44 (0, 0)) (bk BK1071) hg (Kd.R_ne HO1092.out BK1071.out (by decide)))
      have n2_ := Aside0.mk (Kd.R_over' (rr HO1077.out) (Kd.R_typed (rr HO1092.out)) (by decide) hg)
      have n3_ := Aside0.mk (Kd.R_after (ok := (fun k_ => some k_ ≠ (.slice Ao34 t1086.length co34 : Value).ownBlock)) (by (with_reducible repeat (first | apply Kd.R_alloc | apply Kd.R_drewN | apply Kd.R_drew)); exact Kd.R_mono HO1080.out (fun _ hk => by first | exact hk | exact ⟨hk.1.2, hk.2⟩)) hg hat)
      have n4_ := Aside0.mk (Kd.R_over' (rr HO1083.out) (Kd.R_typed (rr HO1092.out)) (by decide) hg)
      have n5_ := Aside0.mk (blk_grown (g := gb1085) (o := .cells #[.slice Ao25 t1078.length co25, .slice Ao29 t1081.length co29] 42 (0, 0)) (bk BK1085) hg (Kd.R_ne HO1092.out BK1085.out (by decide)))
      have n6_ := Aside0.mk (Kd.R_after (ok := (fun k_ => some k_ ≠ (.slice Ao25 t1078.length co25 : Value).ownBlock)) (by (with_reducible repeat (first | apply Kd.R_alloc | apply Kd.R_drewN | apply Kd.R_drew)); exact Kd.R_mono HO1088.out (fun _ hk => by first | exact hk | exact ⟨hk.1.2, hk.2⟩)) hg hat)
      have n7_ := Aside0.mk (hb)
      have n8_ := Aside0.mk (ho)
      clear BK1070
      clear BK1071
      clear HO1077
      clear HO1080
      clear HO1083
      clear BK1085
      clear HO1088
      clear HB
      clear HO1092
      have BK1070 := n0_
      have BK1071 := n1_
      have HO1077 := n2_
      have HO1080 := n3_
      have HO1083 := n4_
      have BK1085 := n5_
      have HO1088 := n6_
      have HB := n7_
      have HO1096 := n8_
      clear n0_ n1_ n2_ n3_ n4_ n5_ n6_ n7_ n8_
      clear ho hb hg hat
      obtain ⟨Ao40, co40, eo40⟩ := Kd.R_slice HO1096.out
      (first | subst eo40 | (injection eo40 with f1_ f2_ f3_; have f4_ := f1_.symm; have f5_ := f3_.symm; clear f1_ f2_ f3_; subst f4_; subst f5_))
      refine hK.out _ _ ⟨(blk_cell BK1085.out 0).trans rfl, (blk_cell BK1085.out 1).trans rfl, (blk_cell BK1070.out 0).trans rfl, (blk_cell BK1070.out 1).trans rfl, (blk_cell BK1070.out 2).trans rfl, (blk_cell BK1070.out 3).trans rfl⟩ (fun hHeld => ?_)
      clear hK K
      refine norm_ (a' := ?_) ?_ ?_
      rotate_left
      ·
       show Act.put _ (some 47) _ = _
       simp only [Act.put, List.setIfInBounds_toArray, List.set_cons_zero, List.set_cons_succ, i64_w, i32_w]
       rfl
      refine pure_ (i := 8) (N := some 48) (v := ?_) (a' := ?_) #[true, true, true, true, true, true, true, true, true, false, false] rfl rfl (any_of HT_.out (by kernel_rfl)) (fun _ _ _ h => h) (Or.inl ⟨by rfl, ?_⟩) ?_ ?_
      rotate_left
      ·
       intro w'
       go_simp
       with_reducible rfl
      rotate_left
      ·
       simp only [Act.put, List.setIfInBounds_toArray, List.set_cons_zero, List.set_cons_succ, i64_w, i32_w]
       rfl
      refine one_ (i := 9) (N := none) #[true, true, true, true, true, true, true, true, true, true, false] rfl rfl (one_of HT_.out (by kernel_rfl)) (by decide) (fun K hK => ?_)
      have hs41 : w39.cell? ⟨gb1071, 0, none⟩ = some (.slice none 0 0) := (blk_cell BK1071.out 0).trans rfl
      have hfs41 := blk_frozen BK1071.out 0
      have hns41_0 := NB1070_1071.out
      have hns41_2 := NB1085_1071.out
      have hms41_0 := NB1071_1070.out
      have hms41_2 := NB1071_1085.out
      have hs42 : w39.cell? ⟨gb1071, 1, none⟩ = some (.slice none 0 0) := (blk_cell BK1071.out 1).trans rfl
      have hfs42 := blk_frozen BK1071.out 1
      have hns42_0 := NB1070_1071.out
      have hns42_2 := NB1085_1071.out
      have hms42_0 := NB1071_1070.out
      have hms42_2 := NB1071_1085.out
      have hs43 : w39.cell? ⟨gb1071, 2, none⟩ = some (.slice none 0 0) := (blk_cell BK1071.out 2).trans rfl
      have hfs43 := blk_frozen BK1071.out 2
      have hns43_0 := NB1070_1071.out
      have hns43_2 := NB1085_1071.out
      have hms43_0 := NB1071_1070.out
      have hms43_2 := NB1071_1085.out
      have hs44 : w39.cell? ⟨gb1071, 3, none⟩ = some (.int .i64 0) := (blk_cell BK1071.out 3).trans rfl
      have hfs44 := blk_frozen BK1071.out 3
      have hns44_0 := NB1070_1071.out
      have hns44_2 := NB1085_1071.out
      have hms44_0 := NB1071_1070.out
      have hms44_2 := NB1071_1085.out
      refine skip_ (w1 := ?_) (by rfl) rfl ?_ ?_
      rotate_left
      ·
       go_simp
       rfl
      refine hK.out _ _ ⟨((cell_far (p := ⟨gb1071, _, none⟩) NB1085_1071.out _).trans (((cell_far (p := ⟨gb1071, _, none⟩) NB1085_1071.out _).trans (((cell_far (p := ⟨gb1071, _, none⟩) NB1085_1071.out _).trans (((cell_far (p := ⟨gb1071, _, none⟩) NB1085_1071.out _).trans (hHeld.1)))))))), ((cell_far (p := ⟨gb1071, _, none⟩) NB1085_1071.out _).trans (((cell_far (p := ⟨gb1071, _, none⟩) NB1085_1071.out _).trans (((cell_far (p := ⟨gb1071, _, none⟩) NB1085_1071.out _).trans (((cell_far (p := ⟨gb1071, _, none⟩) NB1085_1071.out _).trans (hHeld.2.1)))))))), ((cell_far (p := ⟨gb1071, _, none⟩) NB1070_1071.out _).trans (((cell_far (p := ⟨gb1071, _, none⟩) NB1070_1071.out _).trans (((cell_far (p := ⟨gb1071, _, none⟩) NB1070_1071.out _).trans (((cell_far (p := ⟨gb1071, _, none⟩) NB1070_1071.out _).trans (hHeld.2.2.1)))))))), ((cell_far (p := ⟨gb1071, _, none⟩) NB1070_1071.out _).trans (((cell_far (p := ⟨gb1071, _, none⟩) NB1070_1071.out _).trans (((cell_far (p := ⟨gb1071, _, none⟩) NB1070_1071.out _).trans (((cell_far (p := ⟨gb1071, _, none⟩) NB1070_1071.out _).trans (hHeld.2.2.2.1)))))))), ((cell_far (p := ⟨gb1071, _, none⟩) NB1070_1071.out _).trans (((cell_far (p := ⟨gb1071, _, none⟩) NB1070_1071.out _).trans (((cell_far (p := ⟨gb1071, _, none⟩) NB1070_1071.out _).trans (((cell_far (p := ⟨gb1071, _, none⟩) NB1070_1071.out _).trans (hHeld.2.2.2.2.1)))))))), ((cell_far (p := ⟨gb1071, _, none⟩) NB1070_1071.out _).trans (((cell_far (p := ⟨gb1071, _, none⟩) NB1070_1071.out _).trans (((cell_far (p := ⟨gb1071, _, none⟩) NB1070_1071.out _).trans (((cell_far (p := ⟨gb1071, _, none⟩) NB1070_1071.out _).trans (hHeld.2.2.2.2.2))))))))⟩ (fun hHeld => ?_)
      clear hK K
      refine pure_ (i := 10) (N := some 3) (v := ?_) (a' := ?_) #[true, true, true, true, true, true, true, true, true, true, true] rfl rfl (any_of HT_.out (by kernel_rfl)) (fun _ _ _ h => h) (Or.inl ⟨by rfl, ?_⟩) ?_ ?_
      rotate_left
      ·
       intro w'
       go_simp
       with_reducible rfl
      rotate_left
      ·
       simp only [Act.put, List.setIfInBounds_toArray, List.set_cons_zero, List.set_cons_succ, i64_w, i32_w]
       rfl
      refine done_ (done_of HT_.out (by kernel_rfl)) ?_
      try go_wp2
      refine bodyPost_ret (results_ct rfl _ _ gb1071 44 #[.slice Ao25 t1078.length co25, .slice Ao29 t1081.length co29, .slice Ao40 y1094.length co40, .int .i64 0] (0, 0) _ rfl (by (with_reducible repeat (first | refine blk_drewN ?_ _ | refine blk_drew ?_ | refine blk_alloc ?_ _)); refine blk_put (cs := #[.slice Ao25 t1078.length co25, .slice Ao29 t1081.length co29, .slice Ao40 y1094.length co40, .int .i64 0]) ?_ 3 _ rfl; (with_reducible repeat (first | refine blk_drewN ?_ _ | refine blk_drew ?_ | refine blk_alloc ?_ _)); refine blk_put (cs := #[.slice Ao25 t1078.length co25, .slice Ao29 t1081.length co29, .slice none 0 0, .int .i64 0]) ?_ 2 _ rfl; (with_reducible repeat (first | refine blk_drewN ?_ _ | refine blk_drew ?_ | refine blk_alloc ?_ _)); refine blk_put (cs := #[.slice Ao25 t1078.length co25, .slice none 0 0, .slice none 0 0, .int .i64 0]) ?_ 1 _ rfl; (with_reducible repeat (first | refine blk_drewN ?_ _ | refine blk_drew ?_ | refine blk_alloc ?_ _)); refine blk_put (cs := #[.slice none 0 0, .slice none 0 0, .slice none 0 0, .int .i64 0]) ?_ 0 _ rfl; (with_reducible repeat (first | refine blk_drewN ?_ _ | refine blk_drew ?_ | refine blk_alloc ?_ _)); exact BK1071.out) Try.underlying44 rfl (by kernel_rfl)) rfl ?_
      exact ⟨_, _, _, by first | rfl | (simp [errW_none, errW_some] <;> rfl) | (simp [*, errW_none, errW_some] <;> rfl), by (with_reducible repeat (first | apply Kd.R_alloc | apply Kd.R_drewN | apply Kd.R_drew)); exact Kd.R_mono (Kd.R_far (p := ⟨gb1071, 3, none⟩) (Kd.R_far (p := ⟨gb1071, 2, none⟩) (Kd.R_far (p := ⟨gb1071, 1, none⟩) (Kd.R_far (p := ⟨gb1071, 0, none⟩) (Kd.R_types HO1080.out BK1071.out (by decide)) (fun _ hk => hk.2) (.slice Ao25 t1078.length co25)) (fun _ hk => hk.2) (.slice Ao29 t1081.length co29)) (fun _ hk => hk.2) (.slice Ao40 y1094.length co40)) (fun _ hk => hk.2) (.int .i64 0)) (fun _ hk => hk.1.2), by (with_reducible repeat (first | apply Kd.R_alloc | apply Kd.R_drewN | apply Kd.R_drew)); exact Kd.R_mono (Kd.R_far (p := ⟨gb1071, 3, none⟩) (Kd.R_far (p := ⟨gb1071, 2, none⟩) (Kd.R_far (p := ⟨gb1071, 1, none⟩) (Kd.R_far (p := ⟨gb1071, 0, none⟩) (Kd.R_types HO1083.out BK1071.out (by decide)) (fun _ hk => hk.2) (.slice Ao25 t1078.length co25)) (fun _ hk => hk.2) (.slice Ao29 t1081.length co29)) (fun _ hk => hk.2) (.slice Ao40 y1094.length co40)) (fun _ hk => hk.2) (.int .i64 0)) (fun _ hk => trivial), by (with_reducible repeat (first | apply Kd.R_alloc | apply Kd.R_drewN | apply Kd.R_drew)); exact Kd.R_mono (Kd.R_far (p := ⟨gb1071, 3, none⟩) (Kd.R_far (p := ⟨gb1071, 2, none⟩) (Kd.R_far (p := ⟨gb1071, 1, none⟩) (Kd.R_far (p := ⟨gb1071, 0, none⟩) (Kd.R_types HO1096.out BK1071.out (by decide)) (fun _ hk => hk.2) (.slice Ao25 t1078.length co25)) (fun _ hk => hk.2) (.slice Ao29 t1081.length co29)) (fun _ hk => hk.2) (.slice Ao40 y1094.length co40)) (fun _ hk => hk.2) (.int .i64 0)) (fun _ hk => hk.1.1), bs3 HB GE1070 GE1071 GE1085⟩
     ·
      rw [if_neg c13] at H
      exact absurd H (by simp)
    ·
     replace c10 := Bool.eq_false_iff.mpr c10
     subst c10
     rw [if_neg (show ¬ (false = true) by decide)] at H
     simp only [Option.some.injEq, Prod.mk.injEq] at H
     obtain ⟨rfl, rfl, rfl, rfl, rfl⟩ := H
     go_enter Try.func47, Try.ntmps47
     try go_wp2_with (first | ((with_reducible refine gate_dst (N := 1) rfl ?_); refine box_event ?hg (N := 1) ?hd (cs := #[.slice A0_0 l0_0.length c0_0, .slice A0_1 l0_1.length c0_1, .slice A0_2 l0_2.length c0_2, .int .i64 a0_3]) (t := 44) ?hr ?_; (case hd => rfl); (case hg => rfl); (case hr => first | (go_simp; done) | (go_simp; rfl)); intro gb1070 hg w45 hbox hb; have BK1070 := Aside0.mk (hbox); have GW1070 := Aside0.mk ((by rw [hg]; exact (below_size (bs HB)) : w.heap.size ≤ gb1070)); have GE1070 := Aside0.mk ((by rw [hg]; exact (below_size (bs HB)) : w.heap.size ≤ gb1070)); replace HB := Aside0.mk (below_step (bs HB) hb); clear hb hbox hg) | ((with_reducible refine gate_dst (N := 2) rfl ?_); refine box_event ?hg (N := 2) ?hd (cs := #[.slice none 0 0, .slice none 0 0, .slice none 0 0, .int .i64 0]) (t := 44) ?hr ?_; (case hd => rfl); (case hg => rfl); (case hr => first | (go_simp; done) | (go_simp; rfl)); intro gb1071 hg w46 hbox hb; have BK1071 := Aside0.mk (hbox); have GW1071 := Aside0.mk ((by rw [hg]; exact (below_size (bs1 HB GE1070)) : w.heap.size ≤ gb1071)); have GE1071 := Aside0.mk ((by rw [hg]; exact (below_size (bs1 HB GE1070)) : w.heap.size ≤ gb1071)); replace HB := Aside0.mk (below_step (bs1 HB GE1070) hb); have NB1070_1071 := Aside0.mk ((bn BK1070 hg : gb1070 ≠ gb1071)); have NB1071_1070 := Aside0.mk ((bm BK1070 hg : gb1071 ≠ gb1070)); replace BK1070 := nb BK1070 hb; clear hb hbox hg; have hnb47 := NB1070_1071.out; have hnc47 := NB1071_1070.out; obtain ⟨hcz48_0, hcz48_1, hcz48_2, hcz48_3⟩ := cz4 BK1070; obtain ⟨hfz48_0, hfz48_1, hfz48_2, hfz48_3⟩ := fz4 BK1070) | ((with_reducible refine gate_callee (f := 26) rfl ?_); refine gL (some 9) rfl rfl Try.func26 (by kernel_rfl) rfl #[.agg #[.slice A0_0 l0_0.length c0_0, .slice A0_1 l0_1.length c0_1, .slice A0_2 l0_2.length c0_2, .int .i64 a0_3]] rfl ?_; (with_reducible refine (spec_GoodStore.calls k _ _ l0_0 _ _ l0_1 _ _ l0_2 a0_3 true _ ?side1 ?side2 ?side3 ?side4 ?side5 ?side6 A2.out).mono ?_); (case side1 => exact cb HR0_0 HB); (case side2 => exact HC0_0.out); (case side3 => exact cb HR0_1 HB); (case side4 => exact HC0_1.out); (case side5 => exact cb HR0_2 HB); (case side6 => exact HC0_2.out); rintro e w49 ⟨rfl, hb⟩; refine ⟨_, rfl, ?_⟩; replace BK1070 := nb BK1070 hb; replace BK1071 := nb BK1071 hb; replace HB := Aside0.mk (below_step (bs2 HB GE1070 GE1071) hb); (try clear hb); (try clear hb2); (try clear hk); (try clear hi)))
     have n0_ := Aside0.mk (blk_drew BK1070.out)
     have n1_ := Aside0.mk (blk_drew BK1071.out)
     have n2_ := Aside0.mk (below_drew1 HB.out)
     clear BK1070
     clear BK1071
     clear HB
     have BK1070 := n0_
     have BK1071 := n1_
     have HB := n2_
     clear n0_ n1_ n2_
     obtain ⟨i051, hi051, _, hsz51, _⟩ := info_parts info9
     obtain ⟨hcut51, hA51, hC51⟩ := print_take_of (P := Try.prog) Value.string (⟨#[]⟩ : ByteArray) 34 9 .i64 Try.underlying34 hi051 hsz51 A0_2 c0_2 l0_2 a0_3 (of_decide_eq_true (by first | (with_reducible assumption) | assumption)) (of_decide_eq_true (by first | (with_reducible assumption) | assumption)) HC0_2.out
     have HR1073 := Aside0.mk (Kd.C_of_reads (h1 := fun _ => rfl) (hA51 _ (Kd.reads_of_C HR0_2.out)))
     have HC1073 := Aside0.mk hC51
     clear hA51 hC51 hi051 hsz51
     refine start_ (n := 15) (S := fun w' => w'.cell? ⟨gb1070, 0, none⟩ = some (.slice A0_0 l0_0.length c0_0) ∧ w'.cell? ⟨gb1070, 1, none⟩ = some (.slice A0_1 l0_1.length c0_1) ∧ w'.cell? ⟨gb1070, 2, none⟩ = some (.slice A0_2 l0_2.length c0_2) ∧ w'.cell? ⟨gb1070, 3, none⟩ = some (.int .i64 a0_3)) (ds := []) #[false, false, false, false, false, false, false, false, false, false, false, false, false, false, false] (by kernel_rfl) rfl rfl ⟨(blk_cell BK1070.out 0).trans rfl, (blk_cell BK1070.out 1).trans rfl, (blk_cell BK1070.out 2).trans rfl, (blk_cell BK1070.out 3).trans rfl⟩ (fun hHeld => ?_); refine with_tabW spec_CheckpointLog.tab3 spec_CheckpointLog.bits3 (fun HT_ HW_ => ?_)
     generalize w49.drew = w50 at BK1070 BK1071 HB HR1073 hHeld ⊢
     refine pure_ (i := 0) (N := some 13) (v := ?_) (a' := ?_) #[true, false, false, false, false, false, false, false, false, false, false, false, false, false, false] rfl rfl (any_of HT_.out (by kernel_rfl)) (fun _ _ _ h => h) (Or.inl ⟨by rfl, ?_⟩) ?_ ?_
     rotate_left
     ·
      intro w'
      go_simp
      with_reducible rfl
     rotate_left
     ·
      simp only [Act.put, List.setIfInBounds_toArray, List.set_cons_zero, List.set_cons_succ, i64_w, i32_w]
      rfl
     refine pure_ (i := 2) (N := some 15) (v := ?_) (a' := ?_) #[true, false, true, false, false, false, false, false, false, false, false, false, false, false, false] rfl rfl (any_of HT_.out (by kernel_rfl)) (fun _ _ _ h => h) (Or.inl ⟨by rfl, ?_⟩) ?_ ?_
     rotate_left
     ·
      intro w'
      go_simp
      with_reducible rfl
     rotate_left
     ·
      simp only [Act.put, List.setIfInBounds_toArray, List.set_cons_zero, List.set_cons_succ, i64_w, i32_w]
      rfl
     refine pure_ (i := 5) (N := some 18) (v := ?_) (a' := ?_) #[true, false, true, false, false, true, false, false, false, false, false, false, false, false, false] rfl rfl (any_of HT_.out (by kernel_rfl)) (fun _ _ _ h => h) (Or.inl ⟨by rfl, ?_⟩) ?_ ?_
     rotate_left
     ·
      intro w'
      go_simp
      with_reducible rfl
     rotate_left
     ·
      simp only [Act.put, List.setIfInBounds_toArray, List.set_cons_zero, List.set_cons_succ, i64_w, i32_w]
      rfl
     refine pure_ (i := 6) (N := some 19) (v := ?_) (a' := ?_) #[true, false, true, false, false, true, true, false, false, false, false, false, false, false, false] rfl rfl (any_of HT_.out (by kernel_rfl)) (fun _ _ _ h => h) (Or.inl ⟨by rfl, ?_⟩) ?_ ?_
     rotate_left
     ·
      intro w'
      go_simp
      with_reducible rfl
     rotate_left
     ·
      simp only [Act.put, List.setIfInBounds_toArray, List.set_cons_zero, List.set_cons_succ, i64_w, i32_w]
      rfl
     refine take_ (i := 1) (N := some 14) (v := ?_) (a' := ?_) #[true, true, true, false, false, true, true, false, false, false, false, false, false, false, false] rfl rfl (take_ofW HT_.out HW_.out (by kernel_rfl)) (fun _ _ _ h => h) (Or.inl ⟨by rfl, ?_⟩) hHeld ?_ ?_
     rotate_left
     ·
      rintro w' ⟨s0, s1, s2, s3⟩
      go_simp
      with_reducible rfl
     rotate_left
     ·
      simp only [Act.put, List.setIfInBounds_toArray, List.set_cons_zero, List.set_cons_succ, i64_w, i32_w]
      rfl
     refine take_ (i := 3) (N := some 16) (v := ?_) (a' := ?_) #[true, true, true, true, false, true, true, false, false, false, false, false, false, false, false] rfl rfl (take_ofW HT_.out HW_.out (by kernel_rfl)) (fun _ _ _ h => h) (Or.inl ⟨by rfl, ?_⟩) hHeld ?_ ?_
     rotate_left
     ·
      rintro w' ⟨s0, s1, s2, s3⟩
      go_simp
      with_reducible rfl
     rotate_left
     ·
      simp only [Act.put, List.setIfInBounds_toArray, List.set_cons_zero, List.set_cons_succ, i64_w, i32_w]
      rfl
     refine pure_ (i := 4) (N := some 17) (v := ?_) (a' := ?_) #[true, true, true, true, true, true, true, false, false, false, false, false, false, false, false] rfl rfl (any_of HT_.out (by kernel_rfl)) (fun _ _ _ h => h) (Or.inl ⟨by rfl, ?_⟩) ?_ ?_
     rotate_left
     ·
      intro w'
      go_simp
      with_reducible rfl
     rotate_left
     ·
      simp only [Act.put, List.setIfInBounds_toArray, List.set_cons_zero, List.set_cons_succ, i64_w, i32_w]
      rfl
     refine take_ (i := 7) (N := some 20) (v := ?_) (a' := ?_) #[true, true, true, true, true, true, true, true, false, false, false, false, false, false, false] rfl rfl (take_ofW HT_.out HW_.out (by kernel_rfl)) (fun _ _ _ h => h) (Or.inl ⟨by rfl, ?_⟩) hHeld ?_ ?_
     rotate_left
     ·
      rintro w' ⟨s0, s1, s2, s3⟩
      go_simp
      with_reducible rfl
     rotate_left
     ·
      simp only [Act.put, List.setIfInBounds_toArray, List.set_cons_zero, List.set_cons_succ, i64_w, i32_w]
      rfl
     refine pure_ (i := 8) (N := some 21) (v := ?_) (a' := ?_) #[true, true, true, true, true, true, true, true, true, false, false, false, false, false, false] rfl rfl (any_of HT_.out (by kernel_rfl)) (fun _ _ _ h => h) (Or.inl ⟨by rfl, ?_⟩) ?_ ?_
     rotate_left
     ·
      intro w'
      go_simp
      with_reducible rfl
     rotate_left
     ·
      simp only [Act.put, List.setIfInBounds_toArray, List.set_cons_zero, List.set_cons_succ, i64_w, i32_w]
      rfl
     refine one_ (i := 9) (N := some 22) #[true, true, true, true, true, true, true, true, true, true, false, false, false, false, false] rfl rfl (one_of HT_.out (by kernel_rfl)) (by decide) (fun K hK => ?_)
     refine goes_ Try.func73 (by kernel_rfl) rfl #[.slice A0_2 (l0_2.take (a0_3 : Int).toNat).length c0_2, .int .i64 (l0_0.length : Int)] (by rfl) rfl rfl (by (try simp only [List.map_toArray, List.map_cons, List.map_nil]); first | done | (rw [show (l0_2.take (a0_3 : Int).toNat).length = a0_3.toNat from (by rw [List.length_take]; have h_ : (a0_3 : Int) ≤ (l0_2.length : Int) := of_decide_eq_true (by first | (with_reducible assumption) | assumption); omega)] <;> rfl) | rfl | (simp only [List.length_drop, List.length_take]; rfl)) ?_
     with_reducible refine (spec_l11Writes.calls k _ _ (l0_2.take (a0_3 : Int).toNat) (l0_0.length : Int) t1074 t1075 _ ?side1 ?side2 A6.out).mono ?_
     (case side1 => exact cb HR1073 HB)
     (case side2 => exact HC1073.out)
     rintro e w52 ⟨v1076, rfl, ho0, hb⟩
     refine ⟨_, rfl, ?_⟩
     have n0_ := Aside0.mk (Kd.R_lower ho0 (below_size (bs2 HB GE1070 GE1071)))
     have n1_ := Aside0.mk (bb BK1070 hb)
     have n2_ := Aside0.mk (bb BK1071 hb)
     have n3_ := Aside0.mk (below_step (bs2 HB GE1070 GE1071) hb)
     clear BK1070
     clear BK1071
     clear HB
     have HO1077 := n0_
     have BK1070 := n1_
     have BK1071 := n2_
     have HB := n3_
     clear n0_ n1_ n2_ n3_
     (try clear hb)
     (try clear hb2)
     (try clear hk)
     (try clear hi)
     (try clear ho0)
     refine hK.out _ _ ⟨(blk_cell BK1070.out 0).trans rfl, (blk_cell BK1070.out 1).trans rfl, (blk_cell BK1070.out 2).trans rfl, (blk_cell BK1070.out 3).trans rfl⟩ (fun hHeld => ?_)
     clear hK K
     refine norm_ (a' := ?_) ?_ ?_
     rotate_left
     ·
      show Act.put _ (some 22) _ = _
      simp only [Act.put, List.setIfInBounds_toArray, List.set_cons_zero, List.set_cons_succ, i64_w, i32_w]
      rfl
     refine pure_ (i := 10) (N := some 12) (v := ?_) (a' := ?_) #[true, true, true, true, true, true, true, true, true, true, true, false, false, false, false] rfl rfl (any_of HT_.out (by kernel_rfl)) (fun _ _ _ h => h) (Or.inl ⟨by rfl, ?_⟩) ?_ ?_
     rotate_left
     ·
      intro w'
      go_simp
      with_reducible rfl
     rotate_left
     ·
      simp only [Act.put, List.setIfInBounds_toArray, List.set_cons_zero, List.set_cons_succ, i64_w, i32_w]
      rfl
     refine pure_ (i := 11) (N := some 23) (v := ?_) (a' := ?_) #[true, true, true, true, true, true, true, true, true, true, true, true, false, false, false] rfl rfl (any_of HT_.out (by kernel_rfl)) (fun _ _ _ h => h) (Or.inl ⟨by rfl, ?_⟩) ?_ ?_
     rotate_left
     ·
      intro w'
      go_simp
      with_reducible rfl
     rotate_left
     ·
      simp only [Act.put, List.setIfInBounds_toArray, List.set_cons_zero, List.set_cons_succ, i64_w, i32_w]
      rfl
     refine pure_ (i := 12) (N := some 24) (v := ?_) (a' := ?_) #[true, true, true, true, true, true, true, true, true, true, true, true, true, false, false] rfl rfl (any_of HT_.out (by kernel_rfl)) (fun _ _ _ h => h) (Or.inl ⟨by rfl, ?_⟩) ?_ ?_
     rotate_left
     ·
      intro w'
      go_simp
      with_reducible rfl
     rotate_left
     ·
      simp only [Act.put, List.setIfInBounds_toArray, List.set_cons_zero, List.set_cons_succ, i64_w, i32_w]
      rfl
     refine pure_ (i := 13) (N := some 4) (v := ?_) (a' := ?_) #[true, true, true, true, true, true, true, true, true, true, true, true, true, true, false] rfl rfl (any_of HT_.out (by kernel_rfl)) (fun _ _ _ h => h) (Or.inl ⟨by rfl, ?_⟩) ?_ ?_
     rotate_left
     ·
      intro w'
      go_simp
      with_reducible rfl
     rotate_left
     ·
      simp only [Act.put, List.setIfInBounds_toArray, List.set_cons_zero, List.set_cons_succ, i64_w, i32_w]
      rfl
     refine pure_ (i := 14) (N := some 5) (v := ?_) (a' := ?_) #[true, true, true, true, true, true, true, true, true, true, true, true, true, true, true] rfl rfl (any_of HT_.out (by kernel_rfl)) (fun _ _ _ h => h) (Or.inl ⟨by rfl, ?_⟩) ?_ ?_
     rotate_left
     ·
      intro w'
      go_simp
      with_reducible rfl
     rotate_left
     ·
      simp only [Act.put, List.setIfInBounds_toArray, List.set_cons_zero, List.set_cons_succ, i64_w, i32_w]
      rfl
     refine done_ (done_of HT_.out (by kernel_rfl)) ?_
     obtain ⟨hcz53_0, hcz53_1, hcz53_2, hcz53_3⟩ := cz4 BK1070
     obtain ⟨hfz53_0, hfz53_1, hfz53_2, hfz53_3⟩ := fz4 BK1070
     try go_wp2_with (first | ((with_reducible refine gate_callee (f := 94) rfl ?_); refine gL (some 28) rfl rfl Try.func94 (by kernel_rfl) rfl #[.agg #[.slice A0_0 l0_0.length c0_0, .slice A0_1 l0_1.length c0_1]] rfl ?_; (with_reducible refine (spec_FlushDevice.calls k _ _ l0_0 _ _ l0_1 t1078 t1081 t1084 _ ?side1 ?side2 ?side3 ?side4 A7.out).mono ?_); (case side1 => exact cb HR0_0 HB); (case side2 => exact HC0_0.out); (case side3 => exact cb HR0_1 HB); (case side4 => exact HC0_1.out); rintro e w54 ⟨v1079, v1082, rfl, ho0, ho1, hb⟩; refine ⟨_, rfl, ?_⟩; have HO1080 := Aside0.mk (Kd.R_lower ho0 (below_size (bs2 HB GE1070 GE1071))); have HO1083 := Aside0.mk (Kd.R_lower (Kd.R_new' ho1 (Kd.R_lt (rr HO1077.out))) (below_size (bs2 HB GE1070 GE1071))); replace HO1077 := Aside0.mk (Kd.R_elder' (rr HO1077.out) (Kd.R_base ho1) hb); replace BK1070 := nb BK1070 hb; replace BK1071 := nb BK1071 hb; replace HB := Aside0.mk (below_step (bs2 HB GE1070 GE1071) hb); (try clear hb); (try clear hb2); (try clear hk); (try clear hi); (try clear ho0); (try clear ho1)) | ((with_reducible refine gate_dst (N := 6) rfl ?_); refine box_event ?hg (N := 6) ?hd (cs := #[.slice none 0 0, .slice none 0 0]) (t := 42) ?hr ?_; (case hd => rfl); (case hg => rfl); (case hr => first | (go_simp; done) | (go_simp; rfl)); intro gb1085 hg w55 hbox hb; replace HO1077 := nr HO1077 hb; replace HO1080 := nr HO1080 hb; replace HO1083 := nr HO1083 hb; have BK1085 := Aside0.mk (hbox); have GW1085 := Aside0.mk ((by rw [hg]; exact (below_size (bs2 HB GE1070 GE1071)) : w.heap.size ≤ gb1085)); have GE1085 := Aside0.mk ((by rw [hg]; exact (below_size (bs2 HB GE1070 GE1071)) : w.heap.size ≤ gb1085)); replace HB := Aside0.mk (below_step (bs2 HB GE1070 GE1071) hb); have NB1070_1085 := Aside0.mk ((bn BK1070 hg : gb1070 ≠ gb1085)); have NB1085_1070 := Aside0.mk ((bm BK1070 hg : gb1085 ≠ gb1070)); replace BK1070 := nb BK1070 hb; have NB1071_1085 := Aside0.mk ((bn BK1071 hg : gb1071 ≠ gb1085)); have NB1085_1071 := Aside0.mk ((bm BK1071 hg : gb1085 ≠ gb1071)); replace BK1071 := nb BK1071 hb; clear hb hbox hg; obtain ⟨Ao56, co56, eo56⟩ := Kd.R_slice HO1080.out; subst eo56; have hnb57 := NB1085_1070.out; have hnc57 := NB1070_1085.out; have hnb58 := NB1085_1071.out; have hnc58 := NB1071_1085.out; obtain ⟨hcz59_0, hcz59_1⟩ := cz2 BK1085; obtain ⟨hfz59_0, hfz59_1⟩ := fz2 BK1085; obtain ⟨Ao60, co60, eo60⟩ := Kd.R_slice HO1083.out; subst eo60))
     have n0_ : Aside0 (Kd.R k72 72 ((w55.setCell ⟨gb1085, 0, none⟩ (.slice Ao56 t1078.length co56)).setCell ⟨gb1085, 1, none⟩ (.slice Ao60 t1081.length co60)) w.heap.size (fun k_ => some k_ ≠ (.slice Ao60 t1081.length co60 : Value).ownBlock) v1076 t1074) := ⟨by (with_reducible repeat (first | apply Kd.R_alloc | apply Kd.R_drewN | apply Kd.R_drew)); exact Kd.R_mono (Kd.R_far (p := ⟨gb1085, 1, none⟩) (Kd.R_far (p := ⟨gb1085, 0, none⟩) (Kd.R_types HO1077.out BK1085.out (by decide)) (fun _ hk => hk.2) (.slice Ao56 t1078.length co56)) (fun _ hk => hk.2) (.slice Ao60 t1081.length co60)) (fun _ hk => hk.1.2)⟩
     have n1_ : Aside0 (Kd.R Kd.string 9 ((w55.setCell ⟨gb1085, 0, none⟩ (.slice Ao56 t1078.length co56)).setCell ⟨gb1085, 1, none⟩ (.slice Ao60 t1081.length co60)) w.heap.size (fun _ => True) (.slice Ao56 t1078.length co56) t1078) := ⟨by (with_reducible repeat (first | apply Kd.R_alloc | apply Kd.R_drewN | apply Kd.R_drew)); exact Kd.R_mono (Kd.R_far (p := ⟨gb1085, 1, none⟩) (Kd.R_far (p := ⟨gb1085, 0, none⟩) (Kd.R_types HO1080.out BK1085.out (by decide)) (fun _ hk => hk.2) (.slice Ao56 t1078.length co56)) (fun _ hk => hk.2) (.slice Ao60 t1081.length co60)) (fun _ hk => trivial)⟩
     have n2_ : Aside0 (Kd.R k72 72 ((w55.setCell ⟨gb1085, 0, none⟩ (.slice Ao56 t1078.length co56)).setCell ⟨gb1085, 1, none⟩ (.slice Ao60 t1081.length co60)) w.heap.size (fun k_ => some k_ ≠ (v1076 : Value).ownBlock) (.slice Ao60 t1081.length co60) t1081) := ⟨by (with_reducible repeat (first | apply Kd.R_alloc | apply Kd.R_drewN | apply Kd.R_drew)); exact Kd.R_mono (Kd.R_far (p := ⟨gb1085, 1, none⟩) (Kd.R_far (p := ⟨gb1085, 0, none⟩) (Kd.R_types HO1083.out BK1085.out (by decide)) (fun _ hk => hk.2) (.slice Ao56 t1078.length co56)) (fun _ hk => hk.2) (.slice Ao60 t1081.length co60)) (fun _ hk => hk.1.2)⟩
     have n3_ : Aside0 (((w55.setCell ⟨gb1085, 0, none⟩ (.slice Ao56 t1078.length co56)).setCell ⟨gb1085, 1, none⟩ (.slice Ao60 t1081.length co60)).heap[gb1070]? = some (.cells #[.slice A0_0 l0_0.length c0_0, .slice A0_1 l0_1.length c0_1, .slice A0_2 l0_2.length c0_2, .int .i64 a0_3] 44 (0, 0))) := ⟨bf BK1070 NB1070_1085⟩
     have n4_ : Aside0 (((w55.setCell ⟨gb1085, 0, none⟩ (.slice Ao56 t1078.length co56)).setCell ⟨gb1085, 1, none⟩ (.slice Ao60 t1081.length co60)).heap[gb1071]? = some (.cells #[.slice none 0 0, .slice none 0 0, .slice none 0 0, .int .i64 0] 44 (0, 0))) := ⟨bf BK1071 NB1071_1085⟩
     have n5_ : Aside0 (((w55.setCell ⟨gb1085, 0, none⟩ (.slice Ao56 t1078.length co56)).setCell ⟨gb1085, 1, none⟩ (.slice Ao60 t1081.length co60)).heap[gb1085]? = some (.cells #[.slice Ao56 t1078.length co56, .slice Ao60 t1081.length co60] 42 (0, 0))) := ⟨by (with_reducible repeat (first | refine blk_drewN ?_ _ | refine blk_drew ?_ | refine blk_alloc ?_ _)); refine blk_put (cs := #[.slice Ao56 t1078.length co56, .slice none 0 0]) ?_ 1 _ rfl; (with_reducible repeat (first | refine blk_drewN ?_ _ | refine blk_drew ?_ | refine blk_alloc ?_ _)); refine blk_put (cs := #[.slice none 0 0, .slice none 0 0]) ?_ 0 _ rfl; (with_reducible repeat (first | refine blk_drewN ?_ _ | refine blk_drew ?_ | refine blk_alloc ?_ _)); exact BK1085.out⟩
     have n6_ : Aside0 (Below w.heap.size w ((w55.setCell ⟨gb1085, 0, none⟩ (.slice Ao56 t1078.length co56)).setCell ⟨gb1085, 1, none⟩ (.slice Ao60 t1081.length co60))) := ⟨bs3 HB GE1070 GE1071 GE1085⟩
     (try clear HO1077)
     (try clear HO1080)
     (try clear HO1083)
     (try clear BK1070)
     (try clear BK1071)
     (try clear BK1085)
     (try clear HB)
     generalize ((w55.setCell ⟨gb1085, 0, none⟩ (.slice Ao56 t1078.length co56)).setCell ⟨gb1085, 1, none⟩ (.slice Ao60 t1081.length co60)) = w61 at n0_ n1_ n2_ n3_ n4_ n5_ n6_ ⊢
     have HO1077 := n0_
     have HO1080 := n1_
     have HO1083 := n2_
     have BK1070 := n3_
     have BK1071 := n4_
     have BK1085 := n5_
     have HB := n6_
     clear n0_ n1_ n2_ n3_ n4_ n5_ n6_
     have n0_ := Aside0.mk (Kd.R_drew HO1077.out)
     have n1_ := Aside0.mk (Kd.R_drew HO1080.out)
     have n2_ := Aside0.mk (Kd.R_drew HO1083.out)
     have n3_ := Aside0.mk (blk_drew BK1070.out)
     have n4_ := Aside0.mk (blk_drew BK1071.out)
     have n5_ := Aside0.mk (blk_drew BK1085.out)
     have n6_ := Aside0.mk (below_drew1 HB.out)
     clear HO1077
     clear HO1080
     clear HO1083
     clear BK1070
     clear BK1071
     clear BK1085
     clear HB
     have HO1077 := n0_
     have HO1080 := n1_
     have HO1083 := n2_
     have BK1070 := n3_
     have BK1071 := n4_
     have BK1085 := n5_
     have HB := n6_
     clear n0_ n1_ n2_ n3_ n4_ n5_ n6_
     obtain ⟨Ao63, co63, eo63⟩ := Kd.R_slice HO1077.out
     (first | subst eo63 | (injection eo63 with f1_ f2_ f3_; have f4_ := f1_.symm; have f5_ := f3_.symm; clear f1_ f2_ f3_; subst f4_; subst f5_))
     refine start_ (n := 8) (S := fun w' => w'.cell? ⟨gb1085, 0, none⟩ = some (.slice Ao56 t1078.length co56) ∧ w'.cell? ⟨gb1085, 1, none⟩ = some (.slice Ao60 t1081.length co60)) (ds := []) #[false, false, false, false, false, false, false, false] (by kernel_rfl) rfl rfl ⟨(blk_cell BK1085.out 0).trans rfl, (blk_cell BK1085.out 1).trans rfl⟩ (fun hHeld => ?_); refine with_tabW spec_CheckpointLog.tab5 spec_CheckpointLog.bits5 (fun HT_ HW_ => ?_)
     generalize w61.drew = w62 at HO1077 HO1080 HO1083 BK1070 BK1071 BK1085 HB hHeld ⊢
     refine pure_ (i := 0) (N := some 31) (v := ?_) (a' := ?_) #[true, false, false, false, false, false, false, false] rfl rfl (any_of HT_.out (by kernel_rfl)) (fun _ _ _ h => h) (Or.inl ⟨by rfl, ?_⟩) ?_ ?_
     rotate_left
     ·
      intro w'
      go_simp
      with_reducible rfl
     rotate_left
     ·
      simp only [Act.put, List.setIfInBounds_toArray, List.set_cons_zero, List.set_cons_succ, i64_w, i32_w]
      rfl
     refine pure_ (i := 2) (N := some 33) (v := ?_) (a' := ?_) #[true, false, true, false, false, false, false, false] rfl rfl (any_of HT_.out (by kernel_rfl)) (fun _ _ _ h => h) (Or.inl ⟨by rfl, ?_⟩) ?_ ?_
     rotate_left
     ·
      intro w'
      go_simp
      with_reducible rfl
     rotate_left
     ·
      simp only [Act.put, List.setIfInBounds_toArray, List.set_cons_zero, List.set_cons_succ, i64_w, i32_w]
      rfl
     refine pure_ (i := 4) (N := some 35) (v := ?_) (a' := ?_) #[true, false, true, false, true, false, false, false] rfl rfl (any_of HT_.out (by kernel_rfl)) (fun _ _ _ h => h) (Or.inl ⟨by rfl, ?_⟩) ?_ ?_
     rotate_left
     ·
      intro w'
      go_simp
      with_reducible rfl
     rotate_left
     ·
      simp only [Act.put, List.setIfInBounds_toArray, List.set_cons_zero, List.set_cons_succ, i64_w, i32_w]
      rfl
     refine take_ (i := 1) (N := some 32) (v := ?_) (a' := ?_) #[true, true, true, false, true, false, false, false] rfl rfl (take_ofW HT_.out HW_.out (by kernel_rfl)) (fun _ _ _ h => h) (Or.inl ⟨by rfl, ?_⟩) hHeld ?_ ?_
     rotate_left
     ·
      rintro w' ⟨s0, s1⟩
      go_simp
      with_reducible rfl
     rotate_left
     ·
      simp only [Act.put, List.setIfInBounds_toArray, List.set_cons_zero, List.set_cons_succ, i64_w, i32_w]
      rfl
     refine take_ (i := 3) (N := some 34) (v := ?_) (a' := ?_) #[true, true, true, true, true, false, false, false] rfl rfl (take_ofW HT_.out HW_.out (by kernel_rfl)) (fun _ _ _ h => h) (Or.inl ⟨by rfl, ?_⟩) hHeld ?_ ?_
     rotate_left
     ·
      rintro w' ⟨s0, s1⟩
      go_simp
      with_reducible rfl
     rotate_left
     ·
      simp only [Act.put, List.setIfInBounds_toArray, List.set_cons_zero, List.set_cons_succ, i64_w, i32_w]
      rfl
     refine one_ (i := 5) (N := some 36) #[true, true, true, true, true, true, false, false] rfl rfl (one_of HT_.out (by kernel_rfl)) (by decide) (fun K hK => ?_)
     refine goes_ Try.func87 (by kernel_rfl) rfl #[.slice Ao56 t1078.length co56, .slice Ao63 t1074.length co63] (by rfl) rfl rfl (by (try simp only [List.map_toArray, List.map_cons, List.map_nil]); first | done | rfl | (simp only [List.length_drop, List.length_take]; rfl)) ?_
     with_reducible refine (spec_l1Done.calls k _ _ t1078 _ _ t1074 t1086 _ ?side1 ?side2 ?side3 ?side4 A8.out).mono ?_
     (case side1 => exact rc0 HO1080)
     (case side2 => exact (Kd.R_reads' HO1080.out).2.1)
     (case side3 => exact rc0 HO1077)
     (case side4 => exact (Kd.R_reads' HO1077.out).2.1)
     rintro e w64 ⟨v1087, rfl, ho0, hb⟩
     refine ⟨_, rfl, ?_⟩
     have n0_ := Aside0.mk (Kd.R_below (rr HO1077.out) hb)
     have n1_ := Aside0.mk (Kd.R_elder' (rr HO1080.out) (Kd.R_base ho0) hb)
     have n2_ := Aside0.mk (Kd.R_below (rr HO1083.out) hb)
     have n3_ := Aside0.mk (Kd.R_lower (Kd.R_new' ho0 (Kd.R_lt (rr HO1080.out))) (below_size (bs3 HB GE1070 GE1071 GE1085)))
     have n4_ := Aside0.mk (bb BK1070 hb)
     have n5_ := Aside0.mk (bb BK1071 hb)
     have n6_ := Aside0.mk (bb BK1085 hb)
     have n7_ := Aside0.mk (below_step (bs3 HB GE1070 GE1071 GE1085) hb)
     clear HO1077
     clear HO1080
     clear HO1083
     clear BK1070
     clear BK1071
     clear BK1085
     clear HB
     have HO1077 := n0_
     have HO1080 := n1_
     have HO1083 := n2_
     have HO1088 := n3_
     have BK1070 := n4_
     have BK1071 := n5_
     have BK1085 := n6_
     have HB := n7_
     clear n0_ n1_ n2_ n3_ n4_ n5_ n6_ n7_
     (try clear hb)
     (try clear hb2)
     (try clear hk)
     (try clear hi)
     (try clear ho0)
     obtain ⟨Ao65, co65, eo65⟩ := Kd.R_slice HO1088.out
     (first | subst eo65 | (injection eo65 with f1_ f2_ f3_; have f4_ := f1_.symm; have f5_ := f3_.symm; clear f1_ f2_ f3_; subst f4_; subst f5_))
     refine hK.out _ _ ⟨(blk_cell BK1085.out 0).trans rfl, (blk_cell BK1085.out 1).trans rfl⟩ (fun hHeld => ?_)
     clear hK K
     refine norm_ (a' := ?_) ?_ ?_
     rotate_left
     ·
      show Act.put _ (some 36) _ = _
      simp only [Act.put, List.setIfInBounds_toArray, List.set_cons_zero, List.set_cons_succ, i64_w, i32_w]
      rfl
     refine one_ (i := 6) (N := some 37) #[true, true, true, true, true, true, true, false] rfl rfl (one_of HT_.out (by kernel_rfl)) (by decide) (fun K hK => ?_)
     refine goes_ Try.func95 (by kernel_rfl) rfl #[.slice Ao56 t1078.length co56, .slice Ao65 t1086.length co65] (by rfl) rfl rfl (by (try simp only [List.map_toArray, List.map_cons, List.map_nil]); first | done | rfl | (simp only [List.length_drop, List.length_take]; rfl)) ?_
     with_reducible refine (spec_l11Same.calls k _ _ t1078 _ _ t1086 false _ ?side1 ?side2 ?side3 ?side4 A9.out).mono ?_
     (case side1 => exact rc0 HO1080)
     (case side2 => exact (Kd.R_reads' HO1080.out).2.1)
     (case side3 => exact rc0 HO1088)
     (case side4 => exact (Kd.R_reads' HO1088.out).2.1)
     rintro e w' ⟨rfl, ⟨nd, rfl⟩⟩
     refine ⟨_, rfl, ?_⟩
     refine hK.out _ _ ⟨(blk_cell BK1085.out 0).trans rfl, (blk_cell BK1085.out 1).trans rfl⟩ (fun hHeld => ?_)
     clear hK K
     refine norm_ (a' := ?_) ?_ ?_
     rotate_left
     ·
      show Act.put _ (some 37) _ = _
      simp only [Act.put, List.setIfInBounds_toArray, List.set_cons_zero, List.set_cons_succ, i64_w, i32_w]
      rfl
     refine pure_ (i := 7) (N := some 38) (v := ?_) (a' := ?_) #[true, true, true, true, true, true, true, true] rfl rfl (any_of HT_.out (by kernel_rfl)) (fun _ _ _ h => h) (Or.inl ⟨by rfl, ?_⟩) ?_ ?_
     rotate_left
     ·
      intro w'
      go_simp
      with_reducible rfl
     rotate_left
     ·
      simp only [Act.put, List.setIfInBounds_toArray, List.set_cons_zero, List.set_cons_succ, i64_w, i32_w]
      rfl
     refine done_ (done_of HT_.out (by kernel_rfl)) ?_
     obtain ⟨hcz66_0, hcz66_1, hcz66_2, hcz66_3⟩ := cz4 BK1071
     obtain ⟨hfz66_0, hfz66_1, hfz66_2, hfz66_3⟩ := fz4 BK1071
     try go_wp2
     refine bodyPost_ret (results_ct rfl _ _ gb1071 44 #[.slice none 0 0, .slice none 0 0, .slice none 0 0, .int .i64 0] (0, 0) _ rfl (by (with_reducible repeat (first | refine blk_drewN ?_ _ | refine blk_drew ?_ | refine blk_alloc ?_ _)); refine blk_put (cs := #[.slice none 0 0, .slice none 0 0, .slice none 0 0, .int .i64 0]) ?_ 3 _ rfl; (with_reducible repeat (first | refine blk_drewN ?_ _ | refine blk_drew ?_ | refine blk_alloc ?_ _)); refine blk_put (cs := #[.slice none 0 0, .slice none 0 0, .slice none 0 0, .int .i64 0]) ?_ 2 _ rfl; (with_reducible repeat (first | refine blk_drewN ?_ _ | refine blk_drew ?_ | refine blk_alloc ?_ _)); refine blk_put (cs := #[.slice none 0 0, .slice none 0 0, .slice none 0 0, .int .i64 0]) ?_ 1 _ rfl; (with_reducible repeat (first | refine blk_drewN ?_ _ | refine blk_drew ?_ | refine blk_alloc ?_ _)); refine blk_put (cs := #[.slice none 0 0, .slice none 0 0, .slice none 0 0, .int .i64 0]) ?_ 0 _ rfl; (with_reducible repeat (first | refine blk_drewN ?_ _ | refine blk_drew ?_ | refine blk_alloc ?_ _)); exact BK1071.out) Try.underlying44 rfl (by kernel_rfl)) rfl ?_
     exact ⟨_, _, _, by first | rfl | (simp [errW_none, errW_some] <;> rfl) | (simp [*, errW_none, errW_some] <;> rfl), by first | exact Kd.R_nil _ _ _ _ _ | exact Kd.N_nil _ _ _ _ _ | exact Kd.V_nil _ _ _ _ _ | exact Kd.Q_nil _ _ _ _ _ | exact Kd.S_nil _ _ _ _ _, by first | exact Kd.R_nil _ _ _ _ _ | exact Kd.N_nil _ _ _ _ _ | exact Kd.V_nil _ _ _ _ _ | exact Kd.Q_nil _ _ _ _ _ | exact Kd.S_nil _ _ _ _ _, by first | exact Kd.R_nil _ _ _ _ _ | exact Kd.N_nil _ _ _ _ _ | exact Kd.V_nil _ _ _ _ _ | exact Kd.Q_nil _ _ _ _ _ | exact Kd.S_nil _ _ _ _ _, bs3 HB GE1070 GE1071 GE1085⟩
   ·
    rw [if_neg c5] at H
    exact absurd H (by simp)
  ·
   rw [if_neg c4] at H
   exact absurd H (by simp)
 ·
  replace c3 := Bool.eq_false_iff.mpr c3
  subst c3
  rw [if_neg (show ¬ (false = true) by decide)] at H
  simp only [Option.some.injEq, Prod.mk.injEq] at H
  obtain ⟨rfl, rfl, rfl, rfl, rfl⟩ := H
  go_enter Try.func47, Try.ntmps47
  go_wp2_with (first | ((with_reducible refine gate_dst (N := 1) rfl ?_); refine box_event ?hg (N := 1) ?hd (cs := #[.slice A0_0 l0_0.length c0_0, .slice A0_1 l0_1.length c0_1, .slice A0_2 l0_2.length c0_2, .int .i64 a0_3]) (t := 44) ?hr ?_; (case hd => rfl); (case hg => rfl); (case hr => first | (go_simp; done) | (go_simp; rfl)); intro gb1070 hg w67 hbox hb; have BK1070 := Aside0.mk (hbox); have GW1070 := Aside0.mk ((by rw [hg]; exact (below_size (bs HB)) : w.heap.size ≤ gb1070)); have GE1070 := Aside0.mk ((by rw [hg]; exact (below_size (bs HB)) : w.heap.size ≤ gb1070)); replace HB := Aside0.mk (below_step (bs HB) hb); clear hb hbox hg) | ((with_reducible refine gate_dst (N := 2) rfl ?_); refine box_event ?hg (N := 2) ?hd (cs := #[.slice none 0 0, .slice none 0 0, .slice none 0 0, .int .i64 0]) (t := 44) ?hr ?_; (case hd => rfl); (case hg => rfl); (case hr => first | (go_simp; done) | (go_simp; rfl)); intro gb1071 hg w68 hbox hb; have BK1071 := Aside0.mk (hbox); have GW1071 := Aside0.mk ((by rw [hg]; exact (below_size (bs1 HB GE1070)) : w.heap.size ≤ gb1071)); have GE1071 := Aside0.mk ((by rw [hg]; exact (below_size (bs1 HB GE1070)) : w.heap.size ≤ gb1071)); replace HB := Aside0.mk (below_step (bs1 HB GE1070) hb); have NB1070_1071 := Aside0.mk ((bn BK1070 hg : gb1070 ≠ gb1071)); have NB1071_1070 := Aside0.mk ((bm BK1070 hg : gb1071 ≠ gb1070)); replace BK1070 := nb BK1070 hb; clear hb hbox hg; have hnb69 := NB1070_1071.out; have hnc69 := NB1071_1070.out; obtain ⟨hcz70_0, hcz70_1, hcz70_2, hcz70_3⟩ := cz4 BK1070; obtain ⟨hfz70_0, hfz70_1, hfz70_2, hfz70_3⟩ := fz4 BK1070) | ((with_reducible refine gate_callee (f := 26) rfl ?_); refine gL (some 9) rfl rfl Try.func26 (by kernel_rfl) rfl #[.agg #[.slice A0_0 l0_0.length c0_0, .slice A0_1 l0_1.length c0_1, .slice A0_2 l0_2.length c0_2, .int .i64 a0_3]] rfl ?_; (with_reducible refine (spec_GoodStore.calls k _ _ l0_0 _ _ l0_1 _ _ l0_2 a0_3 false _ ?side1 ?side2 ?side3 ?side4 ?side5 ?side6 A2.out).mono ?_); (case side1 => exact cb HR0_0 HB); (case side2 => exact HC0_0.out); (case side3 => exact cb HR0_1 HB); (case side4 => exact HC0_1.out); (case side5 => exact cb HR0_2 HB); (case side6 => exact HC0_2.out); rintro e w71 ⟨rfl, hb⟩; refine ⟨_, rfl, ?_⟩; replace BK1070 := nb BK1070 hb; replace BK1071 := nb BK1071 hb; replace HB := Aside0.mk (below_step (bs2 HB GE1070 GE1071) hb); (try clear hb); (try clear hb2); (try clear hk); (try clear hi); obtain ⟨hcz72_0, hcz72_1, hcz72_2, hcz72_3⟩ := cz4 BK1071; obtain ⟨hfz72_0, hfz72_1, hfz72_2, hfz72_3⟩ := fz4 BK1071))
  refine bodyPost_ret (results_ct rfl _ _ gb1071 44 #[.slice none 0 0, .slice none 0 0, .slice none 0 0, .int .i64 0] (0, 0) _ rfl (by (with_reducible repeat (first | refine blk_drewN ?_ _ | refine blk_drew ?_ | refine blk_alloc ?_ _)); refine blk_put (cs := #[.slice none 0 0, .slice none 0 0, .slice none 0 0, .int .i64 0]) ?_ 3 _ rfl; (with_reducible repeat (first | refine blk_drewN ?_ _ | refine blk_drew ?_ | refine blk_alloc ?_ _)); refine blk_put (cs := #[.slice none 0 0, .slice none 0 0, .slice none 0 0, .int .i64 0]) ?_ 2 _ rfl; (with_reducible repeat (first | refine blk_drewN ?_ _ | refine blk_drew ?_ | refine blk_alloc ?_ _)); refine blk_put (cs := #[.slice none 0 0, .slice none 0 0, .slice none 0 0, .int .i64 0]) ?_ 1 _ rfl; (with_reducible repeat (first | refine blk_drewN ?_ _ | refine blk_drew ?_ | refine blk_alloc ?_ _)); refine blk_put (cs := #[.slice none 0 0, .slice none 0 0, .slice none 0 0, .int .i64 0]) ?_ 0 _ rfl; (with_reducible repeat (first | refine blk_drewN ?_ _ | refine blk_drew ?_ | refine blk_alloc ?_ _)); exact BK1071.out) Try.underlying44 rfl (by kernel_rfl)) rfl ?_
  exact ⟨_, _, _, by first | rfl | (simp [errW_none, errW_some] <;> rfl) | (simp [*, errW_none, errW_some] <;> rfl), by first | exact Kd.R_nil _ _ _ _ _ | exact Kd.N_nil _ _ _ _ _ | exact Kd.V_nil _ _ _ _ _ | exact Kd.Q_nil _ _ _ _ _ | exact Kd.S_nil _ _ _ _ _, by first | exact Kd.R_nil _ _ _ _ _ | exact Kd.N_nil _ _ _ _ _ | exact Kd.V_nil _ _ _ _ _ | exact Kd.Q_nil _ _ _ _ _ | exact Kd.S_nil _ _ _ _ _, by first | exact Kd.R_nil _ _ _ _ _ | exact Kd.N_nil _ _ _ _ _ | exact Kd.V_nil _ _ _ _ _ | exact Kd.Q_nil _ _ _ _ _ | exact Kd.S_nil _ _ _ _ _, bs2 HB GE1070 GE1071⟩

/-! ### slices_Equal_string_string: function 96 -/
def slices_Equal_string_string.l0 : Nat → List ByteArray → List ByteArray → Int → Int → Option (Bool)
 | 0, _, _, _, _ => none
 | k + 1, x0, x1, x12, x13 => if x13 < x12 then (if 0 ≤ x13 then (if x13 < (x0.length : Int) then (if x13 < (x1.length : Int) then (if (rdOf ByteArray.empty x0 x13).toList = (rdOf ByteArray.empty x1 x13).toList then (slices_Equal_string_string.l0 k x0 x1 x12 (wrap64 (x13 + 1))) else (some false)) else (none)) else (none)) else (none)) else (some true)
def slices_Equal_string_string.f (k : Nat) (l0 : List ByteArray) (l1 : List ByteArray) : Option (Bool) := if (l0.length : Int) = (l1.length : Int) then (slices_Equal_string_string.l0 k l0 l1 (l0.length : Int) 0) else (some false)
theorem slices_Equal_string_string.mono_l : ∀ k, (∀ y0 y1 y2 y3, LeO (slices_Equal_string_string.l0 k y0 y1 y2 y3) (slices_Equal_string_string.l0 (k + 1) y0 y1 y2 y3))
 | 0 => fun _ _ _ _ r h => by simp [slices_Equal_string_string.l0] at h
 | k + 1 => by
  have ih0 := slices_Equal_string_string.mono_l k
  ·
   intro y0 y1 y2 y3
   unfold slices_Equal_string_string.l0
   repeat' first
   | (with_reducible exact ih0 _ _ _ _)
   | (with_reducible exact LeO.refl _)
   | (with_reducible exact LeO.none _)
   | (with_reducible refine LeO.ite ?_ ?_)
   | (with_reducible refine LeO.bind ?_ (fun _ => ?_))
   | exact ih0 _ _ _ _
   | exact LeO.none _
   | refine LeO.ite ?_ ?_
   | refine LeO.bind ?_ (fun _ => ?_)
theorem slices_Equal_string_string.mono : ∀ a0 a1 k, LeO (slices_Equal_string_string.f k a0 a1) (slices_Equal_string_string.f (k + 1) a0 a1) := by
 intro a0 a1 k
 have ih0 := slices_Equal_string_string.mono_l k
 unfold slices_Equal_string_string.f
 repeat' first
   | (with_reducible exact ih0 _ _ _ _)
   | (with_reducible exact LeO.refl _)
   | (with_reducible exact LeO.none _)
   | (with_reducible refine LeO.ite ?_ ?_)
   | (with_reducible refine LeO.bind ?_ (fun _ => ?_))
   | exact ih0 _ _ _ _
   | exact LeO.none _
   | refine LeO.ite ?_ ?_
   | refine LeO.bind ?_ (fun _ => ?_)
set_option maxHeartbeats 8000000 in
set_option maxRecDepth 100000 in
theorem slices_Equal_string_string.calls (k : Nat) (A0 : Option Addr) (c0 : Nat) (l0 : List ByteArray) (A1 : Option Addr) (c1 : Nat) (l1 : List ByteArray) (r : Bool) (w : World) (hr0 : Kd.C Kd.string w A0 l0.length l0) (hc0 : l0.length ≤ c0) (hr1 : Kd.C Kd.string w A1 l1.length l1) (hc1 : l1.length ≤ c1) (h : slices_Equal_string_string.f k l0 l1 = some r) :
  Calls Try.prog 96 #[.slice A0 l0.length c0, .slice A1 l1.length c1] w fun e w' => e = .returned (.bool r) ∧ Drawn0 w w' := by
 have HR0 := Aside0.mk hr0
 have HC0 := Aside0.mk hc0
 clear hr0 hc0
 have HR1 := Aside0.mk hr1
 have HC1 := Aside0.mk hc1
 clear hr1 hc1
 have H : (if (l0.length : Int) = (l1.length : Int) then (slices_Equal_string_string.l0 k l0 l1 (l0.length : Int) 0) else (some false)) = some r := h
 clear h
 by_cases c3 : (l0.length : Int) = (l1.length : Int)
 ·
  rw [if_pos c3] at H
  have c3b0 : ((l0.length : Int) == (l1.length : Int)) = true := beq_iff_eq.mpr c3
  have c3b1 : ((l0.length : Int) != (l1.length : Int)) = false := bne_eq_false_iff_eq.mpr c3
  have c3b2 : (l0.length == l1.length) = true := by first | simpa using c3 | (simp at c3 ⊢; omega)
  clear c3
  have H' := Aside0.mk H
  clear H
  go_enter Try.func96, Try.ntmps96
  go_wp2
  repeat (go_quiet (fail); try go_wp2)
  go_loopg [13] k (fun kq v13 w' => ∃ (x13_1 : Int), v13 = .int .i64 x13_1 ∧ Aside0 (slices_Equal_string_string.l0 kq l0 l1 (l0.length : Int) x13_1 = some r) ∧ Aside0 (kq ≤ k) ∧ Drawn0 w w')
  case atStart => exact ⟨(0), (by first | rfl | (simp; done) | (simp [*]; done)), H', ⟨Nat.le_refl _⟩, by repeat (first | exact Drawn0.refl _ | apply Drawn0.step)⟩
  case round =>
   clear H'
   try clear c1
   try clear p2
   try clear c3
   try clear c3b0
   try clear c3b1
   try clear c3b2
   obtain ⟨x13_1, rfl, HA, HK1, ⟨m1, rfl⟩⟩ := hrel
   cases gk with
   | zero => exact absurd HA.out (by simp [slices_Equal_string_string.l0])
   | succ k1 =>
    have H := HA.out
    clear HA
    simp only [slices_Equal_string_string.l0] at H
    by_cases c4 : x13_1 < (l0.length : Int)
    ·
     rw [if_pos c4] at H
     have c4b0 : decide (x13_1 < (l0.length : Int)) = true := decide_eq_true c4
     clear c4
     by_cases c5 : 0 ≤ x13_1
     ·
      rw [if_pos c5] at H
      have c5b0 : decide (0 ≤ x13_1) = true := decide_eq_true c5
      clear c5
      by_cases c6 : x13_1 < (l0.length : Int)
      ·
       rw [if_pos c6] at H
       have c6b0 : decide (x13_1 < (l0.length : Int)) = true := decide_eq_true c6
       clear c6
       by_cases c7 : x13_1 < (l1.length : Int)
       ·
        rw [if_pos c7] at H
        have c7b0 : decide (x13_1 < (l1.length : Int)) = true := decide_eq_true c7
        clear c7
        by_cases c8 : (rdOf ByteArray.empty l0 x13_1).toList = (rdOf ByteArray.empty l1 x13_1).toList
        ·
         rw [if_pos c8] at H
         have c8b0 : ((rdOf ByteArray.empty l0 x13_1).toList == (rdOf ByteArray.empty l1 x13_1).toList) = true := beq_iff_eq.mpr c8
         have c8b1 : ((rdOf ByteArray.empty l0 x13_1).toList != (rdOf ByteArray.empty l1 x13_1).toList) = false := bne_eq_false_iff_eq.mpr c8
         clear c8
         have H' := Aside0.mk H
         clear H
         have p1097 : 0 ≤ (x13_1 : Int) := of_decide_eq_true (by first | (with_reducible assumption) | assumption)
         have q1097 : x13_1 < (l0.length : Int) := of_decide_eq_true (by first | (with_reducible assumption) | assumption)
         obtain ⟨ad1097, e1097, hx1097_0⟩ := Kd.at_string HR0.out x13_1 p1097 q1097
         cases e1097
         replace p1097 := eq_true p1097
         replace q1097 := eq_true q1097
         have p1098 : 0 ≤ (x13_1 : Int) := of_decide_eq_true (by first | (with_reducible assumption) | assumption)
         have q1098 : x13_1 < (l1.length : Int) := of_decide_eq_true (by first | (with_reducible assumption) | assumption)
         obtain ⟨ad1098, e1098, hx1098_0⟩ := Kd.at_string HR1.out x13_1 p1098 q1098
         cases e1098
         replace p1098 := eq_true p1098
         replace q1098 := eq_true q1098
         go_wp2
         repeat (go_quiet (fail); try go_wp2)
         go_roundg k1
         case measure => have := HK1.out; omega
         case rel => exact ⟨(wrap64 (x13_1 + 1)), (by first | rfl | (simp; done) | (simp [*]; done)), H', ⟨by have := HK1.out; omega⟩, by repeat (first | exact Drawn0.refl _ | apply Drawn0.step)⟩
        ·
         rw [if_neg c8] at H
         have c8b0 : ((rdOf ByteArray.empty l0 x13_1).toList == (rdOf ByteArray.empty l1 x13_1).toList) = false := beq_eq_false_iff_ne.mpr c8
         have c8b1 : ((rdOf ByteArray.empty l0 x13_1).toList != (rdOf ByteArray.empty l1 x13_1).toList) = true := bne_iff_ne.mpr c8
         obtain rfl := Option.some.inj H
         have p1097 : 0 ≤ (x13_1 : Int) := of_decide_eq_true (by first | (with_reducible assumption) | assumption)
         have q1097 : x13_1 < (l0.length : Int) := of_decide_eq_true (by first | (with_reducible assumption) | assumption)
         obtain ⟨ad1097, e1097, hx1097_0⟩ := Kd.at_string HR0.out x13_1 p1097 q1097
         cases e1097
         replace p1097 := eq_true p1097
         replace q1097 := eq_true q1097
         have p1098 : 0 ≤ (x13_1 : Int) := of_decide_eq_true (by first | (with_reducible assumption) | assumption)
         have q1098 : x13_1 < (l1.length : Int) := of_decide_eq_true (by first | (with_reducible assumption) | assumption)
         obtain ⟨ad1098, e1098, hx1098_0⟩ := Kd.at_string HR1.out x13_1 p1098 q1098
         cases e1098
         replace p1098 := eq_true p1098
         replace q1098 := eq_true q1098
         go_wp2
         repeat (go_quiet (fail); try go_wp2)
         go_ret
         exact ⟨by first | rfl | (simp; done) | (simp [*]; done), by repeat (first | exact Drawn0.refl _ | apply Drawn0.step)⟩
       ·
        rw [if_neg c7] at H
        exact absurd H (by simp)
      ·
       rw [if_neg c6] at H
       exact absurd H (by simp)
     ·
      rw [if_neg c5] at H
      exact absurd H (by simp)
    ·
     rw [if_neg c4] at H
     have c4b0 : decide (x13_1 < (l0.length : Int)) = false := decide_eq_false c4
     clear c4
     obtain rfl := Option.some.inj H
     go_wp2
     repeat (go_quiet (fail); try go_wp2)
     go_ret
     exact ⟨by first | rfl | (simp; done) | (simp [*]; done), by repeat (first | exact Drawn0.refl _ | apply Drawn0.step)⟩
 ·
  rw [if_neg c3] at H
  have c3b0 : ((l0.length : Int) == (l1.length : Int)) = false := beq_eq_false_iff_ne.mpr c3
  have c3b1 : ((l0.length : Int) != (l1.length : Int)) = true := bne_iff_ne.mpr c3
  have c3b2 : (l0.length == l1.length) = false := by first | simpa using c3 | (simp at c3 ⊢; omega)
  obtain rfl := Option.some.inj H
  go_enter Try.func96, Try.ntmps96
  go_wp2
  repeat (go_quiet (fail); try go_wp2)
  go_ret
  exact ⟨by first | rfl | (simp; done) | (simp [*]; done), by repeat (first | exact Drawn0.refl _ | apply Drawn0.step)⟩

/-! ### impl_CheckpointLog: function 48 -/
def impl_CheckpointLog.f (k : Nat) (l0_0 : List ByteArray) (l0_1 : List (S72)) (l0_2 : List ByteArray) (a0_3 : Int) : Option (List ByteArray × (List (S72)) × List ByteArray × Int × Bool) := (impl_GoodStore.f k l0_0 l0_1 l0_2 a0_3).bind fun t1101 => (if t1101 = true then ((impl_performed_at_impl_all.f k l0_0 l0_1).bind fun t1102 => (if 0 ≤ a0_3 then (if a0_3 ≤ (l0_2.length : Int) then ((impl_writesOf.f k (l0_2.take (a0_3 : Int).toNat)).bind fun t1106 => ((impl_changedBy.f k t1102 t1106).bind fun t1109 => ((slices_Equal_string_string.f k t1109 t1102).bind fun t1112 => (if t1112 = true then ((slices_Clone_string_string.f (l0_2.drop (a0_3 : Int).toNat)).bind fun t1114 => (some (t1102, ([] : List (S72)), t1114, 0, true))) else (some (([] : List ByteArray), ([] : List (S72)), ([] : List ByteArray), 0, false)))))) else (none)) else (none))) else (some (([] : List ByteArray), ([] : List (S72)), ([] : List ByteArray), 0, false)))
theorem impl_CheckpointLog.mono : ∀ a0 a1 a2 a3 k, LeO (impl_CheckpointLog.f k a0 a1 a2 a3) (impl_CheckpointLog.f (k + 1) a0 a1 a2 a3) := by
 intro a0 a1 a2 a3 k
 unfold impl_CheckpointLog.f
 repeat' first
   | (with_reducible exact impl_GoodStore.mono _ _ _ _ _)
   | (with_reducible exact impl_changedBy.mono _ _ _)
   | (with_reducible exact impl_performed_at_impl_all.mono _ _ _)
   | (with_reducible exact impl_writesOf.mono _ _)
   | (with_reducible exact slices_Equal_string_string.mono _ _ _)
   | (with_reducible exact LeO.refl _)
   | (with_reducible exact LeO.none _)
   | (with_reducible refine LeO.ite ?_ ?_)
   | (with_reducible refine LeO.bind ?_ (fun _ => ?_))
   | exact impl_GoodStore.mono _ _ _ _ _
   | exact impl_changedBy.mono _ _ _
   | exact impl_performed_at_impl_all.mono _ _ _
   | exact impl_writesOf.mono _ _
   | exact slices_Equal_string_string.mono _ _ _
   | exact LeO.none _
   | refine LeO.ite ?_ ?_
   | refine LeO.bind ?_ (fun _ => ?_)
set_option maxHeartbeats 8000000 in
set_option maxRecDepth 100000 in
theorem impl_CheckpointLog.calls (k : Nat) (A0_0 : Option Addr) (c0_0 : Nat) (l0_0 : List ByteArray) (A0_1 : Option Addr) (c0_1 : Nat) (l0_1 : List (S72)) (A0_2 : Option Addr) (c0_2 : Nat) (l0_2 : List ByteArray) (a0_3 : Int) (r1 : List ByteArray) (r2 : List (S72)) (r3 : List ByteArray) (r4 : Int) (r5 : Bool) (w : World) (hr0_0 : Kd.C Kd.string w A0_0 l0_0.length l0_0) (hc0_0 : l0_0.length ≤ c0_0) (hr0_1 : Kd.C k72 w A0_1 l0_1.length l0_1) (hc0_1 : l0_1.length ≤ c0_1) (hr0_2 : Kd.C Kd.string w A0_2 l0_2.length l0_2) (hc0_2 : l0_2.length ≤ c0_2) (h : impl_CheckpointLog.f k l0_0 l0_1 l0_2 a0_3 = some (r1, r2, r3, r4, r5)) :
  Calls Try.prog 48 #[.agg #[.slice A0_0 l0_0.length c0_0, .slice A0_1 l0_1.length c0_1, .slice A0_2 l0_2.length c0_2, .int .i64 a0_3]] w fun e w' => ∃ v0_ v1_ v2_ : Value, e = .returned (.tuple #[.agg #[v0_, v1_, v2_, .int .i64 r4], .bool r5]) ∧ Kd.R Kd.string 9 w' w.heap.size (fun k_ => some k_ ≠ (v2_ : Value).ownBlock) v0_ r1 ∧ Kd.R k72 72 w' w.heap.size (fun _ => True) v1_ r2 ∧ Kd.R Kd.string 9 w' w.heap.size (fun k_ => some k_ ≠ (v0_ : Value).ownBlock) v2_ r3 ∧ Below w.heap.size w w' := by
 have hu44 := Try.underlying44
 have hu42 := Try.underlying42
 have HR0_0 := Aside0.mk hr0_0
 have HC0_0 := Aside0.mk hc0_0
 clear hr0_0 hc0_0
 have HR0_1 := Aside0.mk hr0_1
 have HC0_1 := Aside0.mk hc0_1
 clear hr0_1 hc0_1
 have HR0_2 := Aside0.mk hr0_2
 have HC0_2 := Aside0.mk hc0_2
 clear hr0_2 hc0_2
 have HB := Aside0.mk (Below.refl w.heap.size w)
 have H : ((impl_GoodStore.f k l0_0 l0_1 l0_2 a0_3).bind fun t1101 => (if t1101 = true then ((impl_performed_at_impl_all.f k l0_0 l0_1).bind fun t1102 => (if 0 ≤ a0_3 then (if a0_3 ≤ (l0_2.length : Int) then ((impl_writesOf.f k (l0_2.take (a0_3 : Int).toNat)).bind fun t1106 => ((impl_changedBy.f k t1102 t1106).bind fun t1109 => ((slices_Equal_string_string.f k t1109 t1102).bind fun t1112 => (if t1112 = true then ((slices_Clone_string_string.f (l0_2.drop (a0_3 : Int).toNat)).bind fun t1114 => (some (t1102, ([] : List (S72)), t1114, 0, true))) else (some (([] : List ByteArray), ([] : List (S72)), ([] : List ByteArray), 0, false)))))) else (none)) else (none))) else (some (([] : List ByteArray), ([] : List (S72)), ([] : List ByteArray), 0, false)))) = some (r1, r2, r3, r4, r5) := h
 clear h
 replace H := Option.bind_eq_some_iff.mp H
 obtain ⟨t1101, A20, H⟩ := H
 replace H : (if t1101 = true then ((impl_performed_at_impl_all.f k l0_0 l0_1).bind fun t1102 => (if 0 ≤ a0_3 then (if a0_3 ≤ (l0_2.length : Int) then ((impl_writesOf.f k (l0_2.take (a0_3 : Int).toNat)).bind fun t1106 => ((impl_changedBy.f k t1102 t1106).bind fun t1109 => ((slices_Equal_string_string.f k t1109 t1102).bind fun t1112 => (if t1112 = true then ((slices_Clone_string_string.f (l0_2.drop (a0_3 : Int).toNat)).bind fun t1114 => (some (t1102, ([] : List (S72)), t1114, 0, true))) else (some (([] : List ByteArray), ([] : List (S72)), ([] : List ByteArray), 0, false)))))) else (none)) else (none))) else (some (([] : List ByteArray), ([] : List (S72)), ([] : List ByteArray), 0, false))) = some (r1, r2, r3, r4, r5) := H
 have A2 := Aside0.mk A20
 clear A20
 by_cases c3 : t1101 = true
 ·
  subst c3
  rw [if_pos rfl] at H
  replace H := Option.bind_eq_some_iff.mp H
  obtain ⟨t1102, A40, H⟩ := H
  replace H : (if 0 ≤ a0_3 then (if a0_3 ≤ (l0_2.length : Int) then ((impl_writesOf.f k (l0_2.take (a0_3 : Int).toNat)).bind fun t1106 => ((impl_changedBy.f k t1102 t1106).bind fun t1109 => ((slices_Equal_string_string.f k t1109 t1102).bind fun t1112 => (if t1112 = true then ((slices_Clone_string_string.f (l0_2.drop (a0_3 : Int).toNat)).bind fun t1114 => (some (t1102, ([] : List (S72)), t1114, 0, true))) else (some (([] : List ByteArray), ([] : List (S72)), ([] : List ByteArray), 0, false)))))) else (none)) else (none)) = some (r1, r2, r3, r4, r5) := H
  have A4 := Aside0.mk A40
  clear A40
  by_cases c5 : 0 ≤ a0_3
  ·
   rw [if_pos c5] at H
   have c5b0 := eq_true c5
   have c5b1 : decide (0 ≤ a0_3) = true := decide_eq_true c5
   clear c5
   by_cases c6 : a0_3 ≤ (l0_2.length : Int)
   ·
    rw [if_pos c6] at H
    have c6b0 := eq_true c6
    have c6b1 : decide (a0_3 ≤ (l0_2.length : Int)) = true := decide_eq_true c6
    clear c6
    replace H := Option.bind_eq_some_iff.mp H
    obtain ⟨t1106, A70, H⟩ := H
    replace H : ((impl_changedBy.f k t1102 t1106).bind fun t1109 => ((slices_Equal_string_string.f k t1109 t1102).bind fun t1112 => (if t1112 = true then ((slices_Clone_string_string.f (l0_2.drop (a0_3 : Int).toNat)).bind fun t1114 => (some (t1102, ([] : List (S72)), t1114, 0, true))) else (some (([] : List ByteArray), ([] : List (S72)), ([] : List ByteArray), 0, false))))) = some (r1, r2, r3, r4, r5) := H
    have A7 := Aside0.mk A70
    clear A70
    replace H := Option.bind_eq_some_iff.mp H
    obtain ⟨t1109, A80, H⟩ := H
    replace H : ((slices_Equal_string_string.f k t1109 t1102).bind fun t1112 => (if t1112 = true then ((slices_Clone_string_string.f (l0_2.drop (a0_3 : Int).toNat)).bind fun t1114 => (some (t1102, ([] : List (S72)), t1114, 0, true))) else (some (([] : List ByteArray), ([] : List (S72)), ([] : List ByteArray), 0, false)))) = some (r1, r2, r3, r4, r5) := H
    have A8 := Aside0.mk A80
    clear A80
    replace H := Option.bind_eq_some_iff.mp H
    obtain ⟨t1112, A90, H⟩ := H
    replace H : (if t1112 = true then ((slices_Clone_string_string.f (l0_2.drop (a0_3 : Int).toNat)).bind fun t1114 => (some (t1102, ([] : List (S72)), t1114, 0, true))) else (some (([] : List ByteArray), ([] : List (S72)), ([] : List ByteArray), 0, false))) = some (r1, r2, r3, r4, r5) := H
    have A9 := Aside0.mk A90
    clear A90
    by_cases c10 : t1112 = true
    ·
     subst c10
     rw [if_pos rfl] at H
     have c11b0 := eq_true (of_decide_eq_true (by first | (with_reducible assumption) | assumption) : 0 ≤ a0_3)
     have c12b0 := eq_true (of_decide_eq_true (by first | (with_reducible assumption) | assumption) : a0_3 ≤ (l0_2.length : Int))
     replace H := Option.bind_eq_some_iff.mp H
     obtain ⟨t1114, A130, H⟩ := H
     replace H : (some (t1102, ([] : List (S72)), t1114, 0, true)) = some (r1, r2, r3, r4, r5) := H
     have A13 := Aside0.mk A130
     clear A130
     simp only [Option.some.injEq, Prod.mk.injEq] at H
     obtain ⟨rfl, rfl, rfl, rfl, rfl⟩ := H
     go_enter Try.func48, Try.ntmps48
     go_wp2_with (first | ((with_reducible refine gate_dst (N := 1) rfl ?_); refine box_event ?hg (N := 1) ?hd (cs := #[.slice A0_0 l0_0.length c0_0, .slice A0_1 l0_1.length c0_1, .slice A0_2 l0_2.length c0_2, .int .i64 a0_3]) (t := 44) ?hr ?_; (case hd => rfl); (case hg => rfl); (case hr => first | (go_simp; done) | (go_simp; rfl)); intro gb1099 hg w14 hbox hb; have BK1099 := Aside0.mk (hbox); have GW1099 := Aside0.mk ((by rw [hg]; exact (below_size (bs HB)) : w.heap.size ≤ gb1099)); have GE1099 := Aside0.mk ((by rw [hg]; exact (below_size (bs HB)) : w.heap.size ≤ gb1099)); replace HB := Aside0.mk (below_step (bs HB) hb); clear hb hbox hg) | ((with_reducible refine gate_dst (N := 2) rfl ?_); refine box_event ?hg (N := 2) ?hd (cs := #[.slice none 0 0, .slice none 0 0, .slice none 0 0, .int .i64 0]) (t := 44) ?hr ?_; (case hd => rfl); (case hg => rfl); (case hr => first | (go_simp; done) | (go_simp; rfl)); intro gb1100 hg w15 hbox hb; have BK1100 := Aside0.mk (hbox); have GW1100 := Aside0.mk ((by rw [hg]; exact (below_size (bs1 HB GE1099)) : w.heap.size ≤ gb1100)); have GE1100 := Aside0.mk ((by rw [hg]; exact (below_size (bs1 HB GE1099)) : w.heap.size ≤ gb1100)); replace HB := Aside0.mk (below_step (bs1 HB GE1099) hb); have NB1099_1100 := Aside0.mk ((bn BK1099 hg : gb1099 ≠ gb1100)); have NB1100_1099 := Aside0.mk ((bm BK1099 hg : gb1100 ≠ gb1099)); replace BK1099 := nb BK1099 hb; clear hb hbox hg; have hnb16 := NB1099_1100.out; have hnc16 := NB1100_1099.out; obtain ⟨hcz17_0, hcz17_1, hcz17_2, hcz17_3⟩ := cz4 BK1099; obtain ⟨hfz17_0, hfz17_1, hfz17_2, hfz17_3⟩ := fz4 BK1099) | ((with_reducible refine gate_callee (f := 28) rfl ?_); refine gL (some 6) rfl rfl Try.func28 (by kernel_rfl) rfl #[.agg #[.slice A0_0 l0_0.length c0_0, .slice A0_1 l0_1.length c0_1, .slice A0_2 l0_2.length c0_2, .int .i64 a0_3]] rfl ?_; (with_reducible refine (impl_GoodStore.calls k _ _ l0_0 _ _ l0_1 _ _ l0_2 a0_3 true _ ?side1 ?side2 ?side3 ?side4 ?side5 ?side6 A2.out).mono ?_); (case side1 => exact cb HR0_0 HB); (case side2 => exact HC0_0.out); (case side3 => exact cb HR0_1 HB); (case side4 => exact HC0_1.out); (case side5 => exact cb HR0_2 HB); (case side6 => exact HC0_2.out); rintro e w18 ⟨rfl, hb⟩; refine ⟨_, rfl, ?_⟩; replace BK1099 := nb BK1099 hb; replace BK1100 := nb BK1100 hb; replace HB := Aside0.mk (below_step (bs2 HB GE1099 GE1100) hb); (try clear hb); (try clear hb2); (try clear hk); (try clear hi); obtain ⟨hcz19_0, hcz19_1, hcz19_2, hcz19_3⟩ := cz4 BK1099; obtain ⟨hfz19_0, hfz19_1, hfz19_2, hfz19_3⟩ := fz4 BK1099) | ((with_reducible refine gate_callee (f := 89) rfl ?_); refine gL (some 11) rfl rfl Try.func89 (by kernel_rfl) rfl #[.agg #[.slice A0_0 l0_0.length c0_0, .slice A0_1 l0_1.length c0_1], .func (.func 90) #[] #[]] rfl ?_; (with_reducible refine (impl_performed_at_impl_all.calls k _ _ l0_0 _ _ l0_1  t1102 _ ?side1 ?side2 ?side3 ?side4 A4.out).mono ?_); (case side1 => exact cb HR0_0 HB); (case side2 => exact HC0_0.out); (case side3 => exact cb HR0_1 HB); (case side4 => exact HC0_1.out); rintro e w20 ⟨v1103, rfl, ho0, hb⟩; refine ⟨_, rfl, ?_⟩; have HO1104 := Aside0.mk (Kd.R_lower ho0 (below_size (bs2 HB GE1099 GE1100))); replace BK1099 := nb BK1099 hb; replace BK1100 := nb BK1100 hb; replace HB := Aside0.mk (below_step (bs2 HB GE1099 GE1100) hb); (try clear hb); (try clear hb2); (try clear hk); (try clear hi); (try clear ho0); obtain ⟨hcz21_0, hcz21_1, hcz21_2, hcz21_3⟩ := cz4 BK1099; obtain ⟨hfz21_0, hfz21_1, hfz21_2, hfz21_3⟩ := fz4 BK1099; obtain ⟨i022, hi022, _, hsz22, _⟩ := info_parts info9; obtain ⟨hcut22, hA22, hC22⟩ := print_take_of (P := Try.prog) Value.string (⟨#[]⟩ : ByteArray) 34 9 .i64 Try.underlying34 hi022 hsz22 A0_2 c0_2 l0_2 a0_3 (of_decide_eq_true (by first | (with_reducible assumption) | assumption)) (of_decide_eq_true (by first | (with_reducible assumption) | assumption)) HC0_2.out; have HR1105 := Aside0.mk (Kd.C_of_reads (h1 := fun _ => rfl) (hA22 _ (Kd.reads_of_C HR0_2.out))); have HC1105 := Aside0.mk hC22; clear hA22 hC22 hi022 hsz22) | ((with_reducible refine gate_callee (f := 78) rfl ?_); refine goesL_ (some 18) rfl rfl Try.func78 (by kernel_rfl) rfl #[.slice A0_2 (l0_2.take (a0_3 : Int).toNat).length c0_2] rfl (by (try simp only [List.map_toArray, List.map_cons, List.map_nil]); first | done | (rw [show (l0_2.take (a0_3 : Int).toNat).length = a0_3.toNat from (by rw [List.length_take]; have h_ : (a0_3 : Int) ≤ (l0_2.length : Int) := of_decide_eq_true (by first | (with_reducible assumption) | assumption); omega)] <;> rfl) | rfl | (simp only [List.length_drop, List.length_take]; rfl)) ?_; (with_reducible refine (impl_writesOf.calls k _ _ (l0_2.take (a0_3 : Int).toNat) t1106 _ ?side1 ?side2 A7.out).mono ?_); (case side1 => exact cb HR1105 HB); (case side2 => exact HC1105.out); rintro e w23 ⟨v1107, rfl, ho0, hb⟩; refine ⟨_, rfl, ?_⟩; replace HO1104 := nr HO1104 hb; have HO1108 := Aside0.mk (Kd.R_lower ho0 (below_size (bs2 HB GE1099 GE1100))); replace BK1099 := nb BK1099 hb; replace BK1100 := nb BK1100 hb; replace HB := Aside0.mk (below_step (bs2 HB GE1099 GE1100) hb); (try clear hb); (try clear hb2); (try clear hk); (try clear hi); (try clear ho0); obtain ⟨Ao24, co24, eo24⟩ := Kd.R_slice HO1104.out; subst eo24; obtain ⟨Ao25, co25, eo25⟩ := Kd.R_slice HO1108.out; subst eo25) | ((with_reducible refine gate_callee (f := 88) rfl ?_); refine gL (some 19) rfl rfl Try.func88 (by kernel_rfl) rfl #[.slice Ao24 t1102.length co24, .slice Ao25 t1106.length co25] rfl ?_; (with_reducible refine (impl_changedBy.calls k _ _ t1102 _ _ t1106 t1109 _ ?side1 ?side2 ?side3 ?side4 A8.out).mono ?_); (case side1 => exact rc0 HO1104); (case side2 => exact (Kd.R_reads' HO1104.out).2.1); (case side3 => exact rc0 HO1108); (case side4 => exact (Kd.R_reads' HO1108.out).2.1); rintro e w26 ⟨v1110, rfl, ho0, hb⟩; refine ⟨_, rfl, ?_⟩; replace HO1108 := nr HO1108 hb; have HO1111 := Aside0.mk (Kd.R_lower (Kd.R_new' ho0 (Kd.R_lt (rr HO1104.out))) (below_size (bs2 HB GE1099 GE1100))); replace HO1104 := Aside0.mk (Kd.R_elder' (rr HO1104.out) (Kd.R_base ho0) hb); replace BK1099 := nb BK1099 hb; replace BK1100 := nb BK1100 hb; replace HB := Aside0.mk (below_step (bs2 HB GE1099 GE1100) hb); (try clear hb); (try clear hb2); (try clear hk); (try clear hi); (try clear ho0); obtain ⟨Ao27, co27, eo27⟩ := Kd.R_slice HO1111.out; subst eo27) | ((with_reducible refine gate_callee (f := 96) rfl ?_); refine gL (some 21) rfl rfl Try.func96 (by kernel_rfl) rfl #[.slice Ao27 t1109.length co27, .slice Ao24 t1102.length co24] rfl ?_; (with_reducible refine (slices_Equal_string_string.calls k _ _ t1109 _ _ t1102 true _ ?side1 ?side2 ?side3 ?side4 A9.out).mono ?_); (case side1 => exact rc0 HO1111); (case side2 => exact (Kd.R_reads' HO1111.out).2.1); (case side3 => exact rc0 HO1104); (case side4 => exact (Kd.R_reads' HO1104.out).2.1); rintro e w' ⟨rfl, ⟨nd, rfl⟩⟩; refine ⟨_, rfl, ?_⟩; (try (rw [drewN_self w26]; generalize hq_ : World.drewN w26 _ = w26; have n0_ : Aside0 (Kd.R Kd.string 9 w26 w.heap.size (fun k_ => some k_ ≠ (.slice Ao27 t1109.length co27 : Value).ownBlock) (.slice Ao24 t1102.length co24) t1102) := ⟨by rw [← hq_]; exact (by (with_reducible repeat (first | apply Kd.R_alloc | apply Kd.R_drewN | apply Kd.R_drew)); exact Kd.R_mono HO1104.out (fun _ hk => hk.2))⟩; have n1_ : Aside0 (Kd.R k72 72 w26 w.heap.size (fun _ => True) (.slice Ao25 t1106.length co25) t1106) := ⟨by rw [← hq_]; exact (rr HO1108.out)⟩; have n2_ : Aside0 (Kd.R Kd.string 9 w26 w.heap.size (fun k_ => some k_ ≠ (.slice Ao24 t1102.length co24 : Value).ownBlock) (.slice Ao27 t1109.length co27) t1109) := ⟨by rw [← hq_]; exact (by (with_reducible repeat (first | apply Kd.R_alloc | apply Kd.R_drewN | apply Kd.R_drew)); exact Kd.R_mono HO1111.out (fun _ hk => hk.2))⟩; have n3_ : Aside0 (w26.heap[gb1099]? = some (.cells #[.slice A0_0 l0_0.length c0_0, .slice A0_1 l0_1.length c0_1, .slice A0_2 l0_2.length c0_2, .int .i64 a0_3] 44 (0, 0))) := ⟨by rw [← hq_]; exact (bk BK1099)⟩; have n4_ : Aside0 (w26.heap[gb1100]? = some (.cells #[.slice none 0 0, .slice none 0 0, .slice none 0 0, .int .i64 0] 44 (0, 0))) := ⟨by rw [← hq_]; exact (bk BK1100)⟩; have n5_ : Aside0 (Below w.heap.size w w26) := ⟨by rw [← hq_]; exact (bs2 HB GE1099 GE1100)⟩; clear HO1104 HO1108 HO1111 BK1099 BK1100 HB hq_; have HO1104 := n0_; have HO1108 := n1_; have HO1111 := n2_; have BK1099 := n3_; have BK1100 := n4_; have HB := n5_; clear n0_ n1_ n2_ n3_ n4_ n5_)); obtain ⟨hcz28_0, hcz28_1, hcz28_2, hcz28_3⟩ := cz4 BK1099; obtain ⟨hfz28_0, hfz28_1, hfz28_2, hfz28_3⟩ := fz4 BK1099; obtain ⟨i029, hi029, _, hsz29, _⟩ := info_parts info9; obtain ⟨A29, hcut29, hA29, hC29⟩ := print_drop_of (P := Try.prog) Value.string (⟨#[]⟩ : ByteArray) 34 9 .i64 Try.underlying34 hi029 hsz29 A0_2 c0_2 l0_2 a0_3 (of_decide_eq_true (by first | (with_reducible assumption) | assumption)) (of_decide_eq_true (by first | (with_reducible assumption) | assumption)) HC0_2.out; have HR1113 := Aside0.mk (Kd.C_of_reads (h1 := fun _ => rfl) (hA29 _ (Kd.reads_of_C HR0_2.out))); have HC1113 := Aside0.mk hC29; clear hA29 hC29 hi029 hsz29) | ((with_reducible refine gate_callee (f := 97) rfl ?_); refine goesL_ (some 31) rfl rfl Try.func97 (by kernel_rfl) rfl #[.slice A29 (l0_2.drop (a0_3 : Int).toNat).length (c0_2 - a0_3.toNat)] rfl (by (try simp only [List.map_toArray, List.map_cons, List.map_nil]); first | done | (rw [show (l0_2.drop (a0_3 : Int).toNat).length = (l0_2.length - a0_3.toNat) from List.length_drop] <;> rfl) | rfl | (simp only [List.length_drop, List.length_take]; rfl)) ?_; (with_reducible refine (slices_Clone_string_string.calls _ _ (l0_2.drop (a0_3 : Int).toNat) t1114 _ ?side1 ?side2 A13.out).mono ?_); (case side1 => exact cb HR1113 HB); (case side2 => exact HC1113.out); rintro e w30 ⟨v1115, rfl, ho0, hb⟩; refine ⟨_, rfl, ?_⟩; replace HO1108 := nr HO1108 hb; have HO1116 := Aside0.mk (Kd.R_lower (Kd.R_new' (Kd.R_new' ho0 (Kd.R_lt (rr HO1104.out))) (Kd.R_lt (rr HO1111.out))) (below_size (bs2 HB GE1099 GE1100))); replace HO1104 := Aside0.mk (Kd.R_elder' (rr HO1104.out) (Kd.R_base ho0) hb); replace HO1111 := Aside0.mk (Kd.R_elder' (rr HO1111.out) (Kd.R_base ho0) hb); replace BK1099 := nb BK1099 hb; replace BK1100 := nb BK1100 hb; replace HB := Aside0.mk (below_step (bs2 HB GE1099 GE1100) hb); (try clear hb); (try clear hb2); (try clear hk); (try clear hi); (try clear ho0); obtain ⟨Ao31, co31, eo31⟩ := Kd.R_slice HO1116.out; subst eo31; obtain ⟨hcz32_0, hcz32_1, hcz32_2, hcz32_3⟩ := cz4 BK1100; obtain ⟨hfz32_0, hfz32_1, hfz32_2, hfz32_3⟩ := fz4 BK1100))
     refine bodyPost_ret (results_ct rfl _ _ gb1100 44 #[.slice Ao24 t1102.length co24, .slice none 0 0, .slice Ao31 t1114.length co31, .int .i64 0] (0, 0) _ rfl (by (with_reducible repeat (first | refine blk_drewN ?_ _ | refine blk_drew ?_ | refine blk_alloc ?_ _)); refine blk_put (cs := #[.slice Ao24 t1102.length co24, .slice none 0 0, .slice Ao31 t1114.length co31, .int .i64 0]) ?_ 3 _ rfl; (with_reducible repeat (first | refine blk_drewN ?_ _ | refine blk_drew ?_ | refine blk_alloc ?_ _)); refine blk_put (cs := #[.slice Ao24 t1102.length co24, .slice none 0 0, .slice none 0 0, .int .i64 0]) ?_ 2 _ rfl; (with_reducible repeat (first | refine blk_drewN ?_ _ | refine blk_drew ?_ | refine blk_alloc ?_ _)); refine blk_put (cs := #[.slice Ao24 t1102.length co24, .slice none 0 0, .slice none 0 0, .int .i64 0]) ?_ 1 _ rfl; (with_reducible repeat (first | refine blk_drewN ?_ _ | refine blk_drew ?_ | refine blk_alloc ?_ _)); refine blk_put (cs := #[.slice none 0 0, .slice none 0 0, .slice none 0 0, .int .i64 0]) ?_ 0 _ rfl; (with_reducible repeat (first | refine blk_drewN ?_ _ | refine blk_drew ?_ | refine blk_alloc ?_ _)); exact BK1100.out) Try.underlying44 rfl (by kernel_rfl)) rfl ?_
     exact ⟨_, _, _, by first | rfl | (simp [errW_none, errW_some] <;> rfl) | (simp [*, errW_none, errW_some] <;> rfl), by (with_reducible repeat (first | apply Kd.R_alloc | apply Kd.R_drewN | apply Kd.R_drew)); exact Kd.R_mono (Kd.R_far (p := ⟨gb1100, 3, none⟩) (Kd.R_far (p := ⟨gb1100, 2, none⟩) (Kd.R_far (p := ⟨gb1100, 1, none⟩) (Kd.R_far (p := ⟨gb1100, 0, none⟩) (Kd.R_types HO1104.out BK1100.out (by decide)) (fun _ hk => hk.2) (.slice Ao24 t1102.length co24)) (fun _ hk => hk.2) (.slice none 0 0)) (fun _ hk => hk.2) (.slice Ao31 t1114.length co31)) (fun _ hk => hk.2) (.int .i64 0)) (fun _ hk => hk.1.2), by first | exact Kd.R_nil _ _ _ _ _ | exact Kd.N_nil _ _ _ _ _ | exact Kd.V_nil _ _ _ _ _ | exact Kd.Q_nil _ _ _ _ _ | exact Kd.S_nil _ _ _ _ _, by (with_reducible repeat (first | apply Kd.R_alloc | apply Kd.R_drewN | apply Kd.R_drew)); exact Kd.R_mono (Kd.R_far (p := ⟨gb1100, 3, none⟩) (Kd.R_far (p := ⟨gb1100, 2, none⟩) (Kd.R_far (p := ⟨gb1100, 1, none⟩) (Kd.R_far (p := ⟨gb1100, 0, none⟩) (Kd.R_types HO1116.out BK1100.out (by decide)) (fun _ hk => hk.2) (.slice Ao24 t1102.length co24)) (fun _ hk => hk.2) (.slice none 0 0)) (fun _ hk => hk.2) (.slice Ao31 t1114.length co31)) (fun _ hk => hk.2) (.int .i64 0)) (fun _ hk => hk.1.1.2), bs2 HB GE1099 GE1100⟩
    ·
     replace c10 := Bool.eq_false_iff.mpr c10
     subst c10
     rw [if_neg (show ¬ (false = true) by decide)] at H
     simp only [Option.some.injEq, Prod.mk.injEq] at H
     obtain ⟨rfl, rfl, rfl, rfl, rfl⟩ := H
     go_enter Try.func48, Try.ntmps48
     go_wp2_with (first | ((with_reducible refine gate_dst (N := 1) rfl ?_); refine box_event ?hg (N := 1) ?hd (cs := #[.slice A0_0 l0_0.length c0_0, .slice A0_1 l0_1.length c0_1, .slice A0_2 l0_2.length c0_2, .int .i64 a0_3]) (t := 44) ?hr ?_; (case hd => rfl); (case hg => rfl); (case hr => first | (go_simp; done) | (go_simp; rfl)); intro gb1099 hg w33 hbox hb; have BK1099 := Aside0.mk (hbox); have GW1099 := Aside0.mk ((by rw [hg]; exact (below_size (bs HB)) : w.heap.size ≤ gb1099)); have GE1099 := Aside0.mk ((by rw [hg]; exact (below_size (bs HB)) : w.heap.size ≤ gb1099)); replace HB := Aside0.mk (below_step (bs HB) hb); clear hb hbox hg) | ((with_reducible refine gate_dst (N := 2) rfl ?_); refine box_event ?hg (N := 2) ?hd (cs := #[.slice none 0 0, .slice none 0 0, .slice none 0 0, .int .i64 0]) (t := 44) ?hr ?_; (case hd => rfl); (case hg => rfl); (case hr => first | (go_simp; done) | (go_simp; rfl)); intro gb1100 hg w34 hbox hb; have BK1100 := Aside0.mk (hbox); have GW1100 := Aside0.mk ((by rw [hg]; exact (below_size (bs1 HB GE1099)) : w.heap.size ≤ gb1100)); have GE1100 := Aside0.mk ((by rw [hg]; exact (below_size (bs1 HB GE1099)) : w.heap.size ≤ gb1100)); replace HB := Aside0.mk (below_step (bs1 HB GE1099) hb); have NB1099_1100 := Aside0.mk ((bn BK1099 hg : gb1099 ≠ gb1100)); have NB1100_1099 := Aside0.mk ((bm BK1099 hg : gb1100 ≠ gb1099)); replace BK1099 := nb BK1099 hb; clear hb hbox hg; have hnb35 := NB1099_1100.out; have hnc35 := NB1100_1099.out; obtain ⟨hcz36_0, hcz36_1, hcz36_2, hcz36_3⟩ := cz4 BK1099; obtain ⟨hfz36_0, hfz36_1, hfz36_2, hfz36_3⟩ := fz4 BK1099) | ((with_reducible refine gate_callee (f := 28) rfl ?_); refine gL (some 6) rfl rfl Try.func28 (by kernel_rfl) rfl #[.agg #[.slice A0_0 l0_0.length c0_0, .slice A0_1 l0_1.length c0_1, .slice A0_2 l0_2.length c0_2, .int .i64 a0_3]] rfl ?_; (with_reducible refine (impl_GoodStore.calls k _ _ l0_0 _ _ l0_1 _ _ l0_2 a0_3 true _ ?side1 ?side2 ?side3 ?side4 ?side5 ?side6 A2.out).mono ?_); (case side1 => exact cb HR0_0 HB); (case side2 => exact HC0_0.out); (case side3 => exact cb HR0_1 HB); (case side4 => exact HC0_1.out); (case side5 => exact cb HR0_2 HB); (case side6 => exact HC0_2.out); rintro e w37 ⟨rfl, hb⟩; refine ⟨_, rfl, ?_⟩; replace BK1099 := nb BK1099 hb; replace BK1100 := nb BK1100 hb; replace HB := Aside0.mk (below_step (bs2 HB GE1099 GE1100) hb); (try clear hb); (try clear hb2); (try clear hk); (try clear hi); obtain ⟨hcz38_0, hcz38_1, hcz38_2, hcz38_3⟩ := cz4 BK1099; obtain ⟨hfz38_0, hfz38_1, hfz38_2, hfz38_3⟩ := fz4 BK1099) | ((with_reducible refine gate_callee (f := 89) rfl ?_); refine gL (some 11) rfl rfl Try.func89 (by kernel_rfl) rfl #[.agg #[.slice A0_0 l0_0.length c0_0, .slice A0_1 l0_1.length c0_1], .func (.func 90) #[] #[]] rfl ?_; (with_reducible refine (impl_performed_at_impl_all.calls k _ _ l0_0 _ _ l0_1  t1102 _ ?side1 ?side2 ?side3 ?side4 A4.out).mono ?_); (case side1 => exact cb HR0_0 HB); (case side2 => exact HC0_0.out); (case side3 => exact cb HR0_1 HB); (case side4 => exact HC0_1.out); rintro e w39 ⟨v1103, rfl, ho0, hb⟩; refine ⟨_, rfl, ?_⟩; have HO1104 := Aside0.mk (Kd.R_lower ho0 (below_size (bs2 HB GE1099 GE1100))); replace BK1099 := nb BK1099 hb; replace BK1100 := nb BK1100 hb; replace HB := Aside0.mk (below_step (bs2 HB GE1099 GE1100) hb); (try clear hb); (try clear hb2); (try clear hk); (try clear hi); (try clear ho0); obtain ⟨hcz40_0, hcz40_1, hcz40_2, hcz40_3⟩ := cz4 BK1099; obtain ⟨hfz40_0, hfz40_1, hfz40_2, hfz40_3⟩ := fz4 BK1099; obtain ⟨i041, hi041, _, hsz41, _⟩ := info_parts info9; obtain ⟨hcut41, hA41, hC41⟩ := print_take_of (P := Try.prog) Value.string (⟨#[]⟩ : ByteArray) 34 9 .i64 Try.underlying34 hi041 hsz41 A0_2 c0_2 l0_2 a0_3 (of_decide_eq_true (by first | (with_reducible assumption) | assumption)) (of_decide_eq_true (by first | (with_reducible assumption) | assumption)) HC0_2.out; have HR1105 := Aside0.mk (Kd.C_of_reads (h1 := fun _ => rfl) (hA41 _ (Kd.reads_of_C HR0_2.out))); have HC1105 := Aside0.mk hC41; clear hA41 hC41 hi041 hsz41) | ((with_reducible refine gate_callee (f := 78) rfl ?_); refine goesL_ (some 18) rfl rfl Try.func78 (by kernel_rfl) rfl #[.slice A0_2 (l0_2.take (a0_3 : Int).toNat).length c0_2] rfl (by (try simp only [List.map_toArray, List.map_cons, List.map_nil]); first | done | (rw [show (l0_2.take (a0_3 : Int).toNat).length = a0_3.toNat from (by rw [List.length_take]; have h_ : (a0_3 : Int) ≤ (l0_2.length : Int) := of_decide_eq_true (by first | (with_reducible assumption) | assumption); omega)] <;> rfl) | rfl | (simp only [List.length_drop, List.length_take]; rfl)) ?_; (with_reducible refine (impl_writesOf.calls k _ _ (l0_2.take (a0_3 : Int).toNat) t1106 _ ?side1 ?side2 A7.out).mono ?_); (case side1 => exact cb HR1105 HB); (case side2 => exact HC1105.out); rintro e w42 ⟨v1107, rfl, ho0, hb⟩; refine ⟨_, rfl, ?_⟩; replace HO1104 := nr HO1104 hb; have HO1108 := Aside0.mk (Kd.R_lower ho0 (below_size (bs2 HB GE1099 GE1100))); replace BK1099 := nb BK1099 hb; replace BK1100 := nb BK1100 hb; replace HB := Aside0.mk (below_step (bs2 HB GE1099 GE1100) hb); (try clear hb); (try clear hb2); (try clear hk); (try clear hi); (try clear ho0); obtain ⟨Ao43, co43, eo43⟩ := Kd.R_slice HO1104.out; subst eo43; obtain ⟨Ao44, co44, eo44⟩ := Kd.R_slice HO1108.out; subst eo44) | ((with_reducible refine gate_callee (f := 88) rfl ?_); refine gL (some 19) rfl rfl Try.func88 (by kernel_rfl) rfl #[.slice Ao43 t1102.length co43, .slice Ao44 t1106.length co44] rfl ?_; (with_reducible refine (impl_changedBy.calls k _ _ t1102 _ _ t1106 t1109 _ ?side1 ?side2 ?side3 ?side4 A8.out).mono ?_); (case side1 => exact rc0 HO1104); (case side2 => exact (Kd.R_reads' HO1104.out).2.1); (case side3 => exact rc0 HO1108); (case side4 => exact (Kd.R_reads' HO1108.out).2.1); rintro e w45 ⟨v1110, rfl, ho0, hb⟩; refine ⟨_, rfl, ?_⟩; replace HO1108 := nr HO1108 hb; have HO1111 := Aside0.mk (Kd.R_lower (Kd.R_new' ho0 (Kd.R_lt (rr HO1104.out))) (below_size (bs2 HB GE1099 GE1100))); replace HO1104 := Aside0.mk (Kd.R_elder' (rr HO1104.out) (Kd.R_base ho0) hb); replace BK1099 := nb BK1099 hb; replace BK1100 := nb BK1100 hb; replace HB := Aside0.mk (below_step (bs2 HB GE1099 GE1100) hb); (try clear hb); (try clear hb2); (try clear hk); (try clear hi); (try clear ho0); obtain ⟨Ao46, co46, eo46⟩ := Kd.R_slice HO1111.out; subst eo46) | ((with_reducible refine gate_callee (f := 96) rfl ?_); refine gL (some 21) rfl rfl Try.func96 (by kernel_rfl) rfl #[.slice Ao46 t1109.length co46, .slice Ao43 t1102.length co43] rfl ?_; (with_reducible refine (slices_Equal_string_string.calls k _ _ t1109 _ _ t1102 false _ ?side1 ?side2 ?side3 ?side4 A9.out).mono ?_); (case side1 => exact rc0 HO1111); (case side2 => exact (Kd.R_reads' HO1111.out).2.1); (case side3 => exact rc0 HO1104); (case side4 => exact (Kd.R_reads' HO1104.out).2.1); rintro e w' ⟨rfl, ⟨nd, rfl⟩⟩; refine ⟨_, rfl, ?_⟩; (try (rw [drewN_self w45]; generalize hq_ : World.drewN w45 _ = w45; have n0_ : Aside0 (Kd.R Kd.string 9 w45 w.heap.size (fun k_ => some k_ ≠ (.slice Ao46 t1109.length co46 : Value).ownBlock) (.slice Ao43 t1102.length co43) t1102) := ⟨by rw [← hq_]; exact (by (with_reducible repeat (first | apply Kd.R_alloc | apply Kd.R_drewN | apply Kd.R_drew)); exact Kd.R_mono HO1104.out (fun _ hk => hk.2))⟩; have n1_ : Aside0 (Kd.R k72 72 w45 w.heap.size (fun _ => True) (.slice Ao44 t1106.length co44) t1106) := ⟨by rw [← hq_]; exact (rr HO1108.out)⟩; have n2_ : Aside0 (Kd.R Kd.string 9 w45 w.heap.size (fun k_ => some k_ ≠ (.slice Ao43 t1102.length co43 : Value).ownBlock) (.slice Ao46 t1109.length co46) t1109) := ⟨by rw [← hq_]; exact (by (with_reducible repeat (first | apply Kd.R_alloc | apply Kd.R_drewN | apply Kd.R_drew)); exact Kd.R_mono HO1111.out (fun _ hk => hk.2))⟩; have n3_ : Aside0 (w45.heap[gb1099]? = some (.cells #[.slice A0_0 l0_0.length c0_0, .slice A0_1 l0_1.length c0_1, .slice A0_2 l0_2.length c0_2, .int .i64 a0_3] 44 (0, 0))) := ⟨by rw [← hq_]; exact (bk BK1099)⟩; have n4_ : Aside0 (w45.heap[gb1100]? = some (.cells #[.slice none 0 0, .slice none 0 0, .slice none 0 0, .int .i64 0] 44 (0, 0))) := ⟨by rw [← hq_]; exact (bk BK1100)⟩; have n5_ : Aside0 (Below w.heap.size w w45) := ⟨by rw [← hq_]; exact (bs2 HB GE1099 GE1100)⟩; clear HO1104 HO1108 HO1111 BK1099 BK1100 HB hq_; have HO1104 := n0_; have HO1108 := n1_; have HO1111 := n2_; have BK1099 := n3_; have BK1100 := n4_; have HB := n5_; clear n0_ n1_ n2_ n3_ n4_ n5_)); obtain ⟨hcz47_0, hcz47_1, hcz47_2, hcz47_3⟩ := cz4 BK1100; obtain ⟨hfz47_0, hfz47_1, hfz47_2, hfz47_3⟩ := fz4 BK1100))
     refine bodyPost_ret (results_ct rfl _ _ gb1100 44 #[.slice none 0 0, .slice none 0 0, .slice none 0 0, .int .i64 0] (0, 0) _ rfl (by (with_reducible repeat (first | refine blk_drewN ?_ _ | refine blk_drew ?_ | refine blk_alloc ?_ _)); refine blk_put (cs := #[.slice none 0 0, .slice none 0 0, .slice none 0 0, .int .i64 0]) ?_ 3 _ rfl; (with_reducible repeat (first | refine blk_drewN ?_ _ | refine blk_drew ?_ | refine blk_alloc ?_ _)); refine blk_put (cs := #[.slice none 0 0, .slice none 0 0, .slice none 0 0, .int .i64 0]) ?_ 2 _ rfl; (with_reducible repeat (first | refine blk_drewN ?_ _ | refine blk_drew ?_ | refine blk_alloc ?_ _)); refine blk_put (cs := #[.slice none 0 0, .slice none 0 0, .slice none 0 0, .int .i64 0]) ?_ 1 _ rfl; (with_reducible repeat (first | refine blk_drewN ?_ _ | refine blk_drew ?_ | refine blk_alloc ?_ _)); refine blk_put (cs := #[.slice none 0 0, .slice none 0 0, .slice none 0 0, .int .i64 0]) ?_ 0 _ rfl; (with_reducible repeat (first | refine blk_drewN ?_ _ | refine blk_drew ?_ | refine blk_alloc ?_ _)); exact BK1100.out) Try.underlying44 rfl (by kernel_rfl)) rfl ?_
     exact ⟨_, _, _, by first | rfl | (simp [errW_none, errW_some] <;> rfl) | (simp [*, errW_none, errW_some] <;> rfl), by first | exact Kd.R_nil _ _ _ _ _ | exact Kd.N_nil _ _ _ _ _ | exact Kd.V_nil _ _ _ _ _ | exact Kd.Q_nil _ _ _ _ _ | exact Kd.S_nil _ _ _ _ _, by first | exact Kd.R_nil _ _ _ _ _ | exact Kd.N_nil _ _ _ _ _ | exact Kd.V_nil _ _ _ _ _ | exact Kd.Q_nil _ _ _ _ _ | exact Kd.S_nil _ _ _ _ _, by first | exact Kd.R_nil _ _ _ _ _ | exact Kd.N_nil _ _ _ _ _ | exact Kd.V_nil _ _ _ _ _ | exact Kd.Q_nil _ _ _ _ _ | exact Kd.S_nil _ _ _ _ _, bs2 HB GE1099 GE1100⟩
   ·
    rw [if_neg c6] at H
    exact absurd H (by simp)
  ·
   rw [if_neg c5] at H
   exact absurd H (by simp)
 ·
  replace c3 := Bool.eq_false_iff.mpr c3
  subst c3
  rw [if_neg (show ¬ (false = true) by decide)] at H
  simp only [Option.some.injEq, Prod.mk.injEq] at H
  obtain ⟨rfl, rfl, rfl, rfl, rfl⟩ := H
  go_enter Try.func48, Try.ntmps48
  go_wp2_with (first | ((with_reducible refine gate_dst (N := 1) rfl ?_); refine box_event ?hg (N := 1) ?hd (cs := #[.slice A0_0 l0_0.length c0_0, .slice A0_1 l0_1.length c0_1, .slice A0_2 l0_2.length c0_2, .int .i64 a0_3]) (t := 44) ?hr ?_; (case hd => rfl); (case hg => rfl); (case hr => first | (go_simp; done) | (go_simp; rfl)); intro gb1099 hg w48 hbox hb; have BK1099 := Aside0.mk (hbox); have GW1099 := Aside0.mk ((by rw [hg]; exact (below_size (bs HB)) : w.heap.size ≤ gb1099)); have GE1099 := Aside0.mk ((by rw [hg]; exact (below_size (bs HB)) : w.heap.size ≤ gb1099)); replace HB := Aside0.mk (below_step (bs HB) hb); clear hb hbox hg) | ((with_reducible refine gate_dst (N := 2) rfl ?_); refine box_event ?hg (N := 2) ?hd (cs := #[.slice none 0 0, .slice none 0 0, .slice none 0 0, .int .i64 0]) (t := 44) ?hr ?_; (case hd => rfl); (case hg => rfl); (case hr => first | (go_simp; done) | (go_simp; rfl)); intro gb1100 hg w49 hbox hb; have BK1100 := Aside0.mk (hbox); have GW1100 := Aside0.mk ((by rw [hg]; exact (below_size (bs1 HB GE1099)) : w.heap.size ≤ gb1100)); have GE1100 := Aside0.mk ((by rw [hg]; exact (below_size (bs1 HB GE1099)) : w.heap.size ≤ gb1100)); replace HB := Aside0.mk (below_step (bs1 HB GE1099) hb); have NB1099_1100 := Aside0.mk ((bn BK1099 hg : gb1099 ≠ gb1100)); have NB1100_1099 := Aside0.mk ((bm BK1099 hg : gb1100 ≠ gb1099)); replace BK1099 := nb BK1099 hb; clear hb hbox hg; have hnb50 := NB1099_1100.out; have hnc50 := NB1100_1099.out; obtain ⟨hcz51_0, hcz51_1, hcz51_2, hcz51_3⟩ := cz4 BK1099; obtain ⟨hfz51_0, hfz51_1, hfz51_2, hfz51_3⟩ := fz4 BK1099) | ((with_reducible refine gate_callee (f := 28) rfl ?_); refine gL (some 6) rfl rfl Try.func28 (by kernel_rfl) rfl #[.agg #[.slice A0_0 l0_0.length c0_0, .slice A0_1 l0_1.length c0_1, .slice A0_2 l0_2.length c0_2, .int .i64 a0_3]] rfl ?_; (with_reducible refine (impl_GoodStore.calls k _ _ l0_0 _ _ l0_1 _ _ l0_2 a0_3 false _ ?side1 ?side2 ?side3 ?side4 ?side5 ?side6 A2.out).mono ?_); (case side1 => exact cb HR0_0 HB); (case side2 => exact HC0_0.out); (case side3 => exact cb HR0_1 HB); (case side4 => exact HC0_1.out); (case side5 => exact cb HR0_2 HB); (case side6 => exact HC0_2.out); rintro e w52 ⟨rfl, hb⟩; refine ⟨_, rfl, ?_⟩; replace BK1099 := nb BK1099 hb; replace BK1100 := nb BK1100 hb; replace HB := Aside0.mk (below_step (bs2 HB GE1099 GE1100) hb); (try clear hb); (try clear hb2); (try clear hk); (try clear hi); obtain ⟨hcz53_0, hcz53_1, hcz53_2, hcz53_3⟩ := cz4 BK1100; obtain ⟨hfz53_0, hfz53_1, hfz53_2, hfz53_3⟩ := fz4 BK1100))
  refine bodyPost_ret (results_ct rfl _ _ gb1100 44 #[.slice none 0 0, .slice none 0 0, .slice none 0 0, .int .i64 0] (0, 0) _ rfl (by (with_reducible repeat (first | refine blk_drewN ?_ _ | refine blk_drew ?_ | refine blk_alloc ?_ _)); refine blk_put (cs := #[.slice none 0 0, .slice none 0 0, .slice none 0 0, .int .i64 0]) ?_ 3 _ rfl; (with_reducible repeat (first | refine blk_drewN ?_ _ | refine blk_drew ?_ | refine blk_alloc ?_ _)); refine blk_put (cs := #[.slice none 0 0, .slice none 0 0, .slice none 0 0, .int .i64 0]) ?_ 2 _ rfl; (with_reducible repeat (first | refine blk_drewN ?_ _ | refine blk_drew ?_ | refine blk_alloc ?_ _)); refine blk_put (cs := #[.slice none 0 0, .slice none 0 0, .slice none 0 0, .int .i64 0]) ?_ 1 _ rfl; (with_reducible repeat (first | refine blk_drewN ?_ _ | refine blk_drew ?_ | refine blk_alloc ?_ _)); refine blk_put (cs := #[.slice none 0 0, .slice none 0 0, .slice none 0 0, .int .i64 0]) ?_ 0 _ rfl; (with_reducible repeat (first | refine blk_drewN ?_ _ | refine blk_drew ?_ | refine blk_alloc ?_ _)); exact BK1100.out) Try.underlying44 rfl (by kernel_rfl)) rfl ?_
  exact ⟨_, _, _, by first | rfl | (simp [errW_none, errW_some] <;> rfl) | (simp [*, errW_none, errW_some] <;> rfl), by first | exact Kd.R_nil _ _ _ _ _ | exact Kd.N_nil _ _ _ _ _ | exact Kd.V_nil _ _ _ _ _ | exact Kd.Q_nil _ _ _ _ _ | exact Kd.S_nil _ _ _ _ _, by first | exact Kd.R_nil _ _ _ _ _ | exact Kd.N_nil _ _ _ _ _ | exact Kd.V_nil _ _ _ _ _ | exact Kd.Q_nil _ _ _ _ _ | exact Kd.S_nil _ _ _ _ _, by first | exact Kd.R_nil _ _ _ _ _ | exact Kd.N_nil _ _ _ _ _ | exact Kd.V_nil _ _ _ _ _ | exact Kd.Q_nil _ _ _ _ _ | exact Kd.S_nil _ _ _ _ _, bs2 HB GE1099 GE1100⟩

end Go.Proofs.Ytcdkgenfggdpaaa.G
