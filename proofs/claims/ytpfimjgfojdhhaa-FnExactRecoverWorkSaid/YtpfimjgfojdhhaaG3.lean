-- Printed by a program of this session (drive.py, by way of the kit's print). Not trusted: Lean checks it.
import Derived.Test.YtpfimjgfojdhhaaG0
import Derived.Test.YtpfimjgfojdhhaaG1
import Derived.Test.YtpfimjgfojdhhaaG2
namespace Go.Proofs.Ytpfimjgfojdhhaa.G
open Go.RowKit Go.Proofs.YtpfimjgfojdhhaaW.PrintWords Go.Proofs.YtpfimjgfojdhhaaW.PrintLast Go.Proofs.YtpfimjgfojdhhaaW.PrintMore
attribute [local go_sem] max2_int min2_int max_two min_two max_three min_three max_four min_four
set_option linter.unusedVariables false
set_option linter.unusedSimpArgs false
attribute [local go_sem high] eqA40
def spec_l5Extent.f (a0_0 : Int) (a0_1 : Int) (a1 : Int) : Option (Bool) := if a0_0 ≥ 0 then ((spec_l1In.f a0_1 1 a1).bind fun t205 => (if t205 = true then (some (decide (a0_0 ≤ (wrap64 (a1 - a0_1))))) else (some false))) else (some false)
set_option maxHeartbeats 8000000 in
set_option maxRecDepth 100000 in
theorem spec_l5Extent.calls (a0_0 : Int) (a0_1 : Int) (a1 : Int) (r : Bool) (w : World) (h : spec_l5Extent.f a0_0 a0_1 a1 = some r) :
  Calls Try.prog 44 #[.agg #[.int .i64 a0_0, .int .i64 a0_1], .int .i64 a1] w fun e w' => e = .returned (.bool r) ∧ Below w.heap.size w w' := by
 have hu40 := Try.underlying40;have HB := Ah (Below.refl w.heap.size w);have H : (if a0_0 ≥ 0 then ((spec_l1In.f a0_1 1 a1).bind fun t205 => (if t205 = true then (some (decide (a0_0 ≤ (wrap64 (a1 - a0_1))))) else (some false))) else (some false)) = some r := h;clear h
 by_cases c3 : a0_0 ≥ 0
 rotate_left
 ·
  rw [if_neg c3] at H;have c3b0 : decide (0 ≤ a0_0) = false := decide_eq_false c3;clear c3;obtain rfl := Option.some.inj H
  go_enter Try.func44, Try.ntmps44
  go_wp2_with (first | ((with_reducible refine gate_dst (N := 2) rfl ?_); refine boxL 2 40 #[.int .i64 a0_0, .int .i64 a0_1] ?_; intro gb204 hg w10 BK204 hb; have GW204 := gw hg (bs HB); have GE204 := gw hg (bs HB); replace HB := Ah (below_step (bs HB) hb); clear hb hg; obtain ⟨hcz11_0, hcz11_1⟩ := cz2 BK204; obtain ⟨hfz11_0, hfz11_1⟩ := fz2 BK204))
  go_ret
  exact ⟨er, bs1 HB GE204⟩
 rw [if_pos c3] at H;have c3b0 : decide (0 ≤ a0_0) = true := decide_eq_true c3;clear c3;replace H := Option.bind_eq_some_iff.mp H;obtain ⟨t205, A40, H⟩ := H
 try dsimp only at H
 have A4 := Ah A40;clear A40
 by_cases c5 : t205 = true
 ·
  subst c5;rw [if_pos rfl] at H;obtain rfl := Option.some.inj H
  go_enter Try.func44, Try.ntmps44
  go_wp2_with (first | ((with_reducible refine gate_dst (N := 2) rfl ?_); refine boxL 2 40 #[.int .i64 a0_0, .int .i64 a0_1] ?_; intro gb204 hg w6 BK204 hb; have GW204 := gw hg (bs HB); have GE204 := gw hg (bs HB); replace HB := Ah (below_step (bs HB) hb); clear hb hg; obtain ⟨hcz7_0, hcz7_1⟩ := cz2 BK204; obtain ⟨hfz7_0, hfz7_1⟩ := fz2 BK204) | (go_at_call 46; (with_reducible refine (spec_l1In.calls a0_1 1 a1 true _ A4.out).mono ?_); rintro e w' ⟨rfl, ⟨nd, rfl⟩⟩))
  go_ret
  exact ⟨er, bs1 HB GE204⟩
 replace c5 := Bool.eq_false_iff.mpr c5;subst c5;rw [if_neg fne] at H;obtain rfl := Option.some.inj H
 go_enter Try.func44, Try.ntmps44
 go_wp2_with (first | ((with_reducible refine gate_dst (N := 2) rfl ?_); refine boxL 2 40 #[.int .i64 a0_0, .int .i64 a0_1] ?_; intro gb204 hg w8 BK204 hb; have GW204 := gw hg (bs HB); have GE204 := gw hg (bs HB); replace HB := Ah (below_step (bs HB) hb); clear hb hg; obtain ⟨hcz9_0, hcz9_1⟩ := cz2 BK204; obtain ⟨hfz9_0, hfz9_1⟩ := fz2 BK204) | (go_at_call 46; (with_reducible refine (spec_l1In.calls a0_1 1 a1 false _ A4.out).mono ?_); rintro e w' ⟨rfl, ⟨nd, rfl⟩⟩))
 go_ret
 exact ⟨er, bs1 HB GE204⟩
def spec_l12Overlap.f (a0_0 : Int) (a0_1 : Int) (a1_0 : Int) (a1_1 : Int) : Option (Bool) := if a0_0 < (wrap64 (a1_0 + a1_1)) then (some (decide (a1_0 < (wrap64 (a0_0 + a0_1))))) else (some false)
set_option maxHeartbeats 8000000 in
set_option maxRecDepth 100000 in
theorem spec_l12Overlap.calls (a0_0 : Int) (a0_1 : Int) (a1_0 : Int) (a1_1 : Int) (r : Bool) (w : World) (h : spec_l12Overlap.f a0_0 a0_1 a1_0 a1_1 = some r) :
  Calls Try.prog 45 #[.agg #[.int .i64 a0_0, .int .i64 a0_1], .agg #[.int .i64 a1_0, .int .i64 a1_1]] w fun e w' => e = .returned (.bool r) ∧ Below w.heap.size w w' := by
 have hu40 := Try.underlying40;have HB := Ah (Below.refl w.heap.size w);have H : (if a0_0 < (wrap64 (a1_0 + a1_1)) then (some (decide (a1_0 < (wrap64 (a0_0 + a0_1))))) else (some false)) = some r := h;clear h
 by_cases c3 : a0_0 < (wrap64 (a1_0 + a1_1))
 ·
  rw [if_pos c3] at H;have c3b0 : decide (a0_0 < (wrap64 (a1_0 + a1_1))) = true := decide_eq_true c3;clear c3;obtain rfl := Option.some.inj H
  go_enter Try.func45, Try.ntmps45
  go_wp2_with (first | ((with_reducible refine gate_dst (N := 2) rfl ?_); refine boxL 2 40 #[.int .i64 a0_0, .int .i64 a0_1] ?_; intro gb206 hg w4 BK206 hb; have GW206 := gw hg (bs HB); have GE206 := gw hg (bs HB); replace HB := Ah (below_step (bs HB) hb); clear hb hg) | ((with_reducible refine gate_dst (N := 3) rfl ?_); refine boxL 3 40 #[.int .i64 a1_0, .int .i64 a1_1] ?_; intro gb207 hg w5 BK207 hb; have GW207 := gw hg (bs1 HB GE206); have GE207 := gw hg (bs1 HB GE206); replace HB := Ah (below_step (bs1 HB GE206) hb); have NB206_207 := nn BK206 hg; have NB207_206 := nm BK206 hg; replace BK206 := nb BK206 hb; clear hb hg; have hnb6 := NB206_207.out; have hnc6 := NB207_206.out; obtain ⟨hcz7_0, hcz7_1⟩ := cz2 BK206; obtain ⟨hfz7_0, hfz7_1⟩ := fz2 BK206; obtain ⟨hcz8_0, hcz8_1⟩ := cz2 BK207; obtain ⟨hfz8_0, hfz8_1⟩ := fz2 BK207))
  go_ret
  exact ⟨er, bs2 HB GE206 GE207⟩
 rw [if_neg c3] at H;have c3b0 : decide (a0_0 < (wrap64 (a1_0 + a1_1))) = false := decide_eq_false c3;clear c3;obtain rfl := Option.some.inj H
 go_enter Try.func45, Try.ntmps45
 go_wp2_with (first | ((with_reducible refine gate_dst (N := 2) rfl ?_); refine boxL 2 40 #[.int .i64 a0_0, .int .i64 a0_1] ?_; intro gb206 hg w9 BK206 hb; have GW206 := gw hg (bs HB); have GE206 := gw hg (bs HB); replace HB := Ah (below_step (bs HB) hb); clear hb hg) | ((with_reducible refine gate_dst (N := 3) rfl ?_); refine boxL 3 40 #[.int .i64 a1_0, .int .i64 a1_1] ?_; intro gb207 hg w10 BK207 hb; have GW207 := gw hg (bs1 HB GE206); have GE207 := gw hg (bs1 HB GE206); replace HB := Ah (below_step (bs1 HB GE206) hb); have NB206_207 := nn BK206 hg; have NB207_206 := nm BK206 hg; replace BK206 := nb BK206 hb; clear hb hg; have hnb11 := NB206_207.out; have hnc11 := NB207_206.out; obtain ⟨hcz12_0, hcz12_1⟩ := cz2 BK206; obtain ⟨hfz12_0, hfz12_1⟩ := fz2 BK206; obtain ⟨hcz13_0, hcz13_1⟩ := cz2 BK207; obtain ⟨hfz13_0, hfz13_1⟩ := fz2 BK207))
 go_ret
 exact ⟨er, bs2 HB GE206 GE207⟩
mutual
def spec_l12Items.l0 : Nat → List (S56) → Int → List (S56) → Int → Int → Int → List (S40) → List (S40) → Option (Int × Bool)
 | 0, _, _, _, _, _, _, _, _ => none
 | k + 1, x1, x6, x17, x18, x19, x209000, x209001, x209002 => if x19 < x18 then (if 0 ≤ x19 then (if x19 < (x17.length : Int) then (if ((rd_T56 x17 x19).f0) = 1 then (if ((rd_T56 x17 x19).f1) = x6 then (if ((rd_T56 x17 x19).f3) = 0 then ((spec_l5Extent.f ((rd_T56 x17 x19).f2.f0) ((rd_T56 x17 x19).f2.f1) x209000).bind fun t211 => (spec_l12Items.j1 k x1 x6 x19 x17 x18 x19 (!t211) x209000 x209001 x209002 ((rd_T56 x17 x19).f0) ((rd_T56 x17 x19).f1) ((rd_T56 x17 x19).f2.f0) ((rd_T56 x17 x19).f2.f1) ((rd_T56 x17 x19).f3))) else (spec_l12Items.j1 k x1 x6 x19 x17 x18 x19 true x209000 x209001 x209002 ((rd_T56 x17 x19).f0) ((rd_T56 x17 x19).f1) ((rd_T56 x17 x19).f2.f0) ((rd_T56 x17 x19).f2.f1) ((rd_T56 x17 x19).f3))) else (spec_l12Items.j1 k x1 x6 x19 x17 x18 x19 true x209000 x209001 x209002 ((rd_T56 x17 x19).f0) ((rd_T56 x17 x19).f1) ((rd_T56 x17 x19).f2.f0) ((rd_T56 x17 x19).f2.f1) ((rd_T56 x17 x19).f3))) else (if x19 ≤ (x1.length : Int) then ((some (x1.take (x19 : Int).toNat : List (S56))).bind fun y222 => (spec_l12Items.l3 k x1 x6 0 (-1) x17 x18 x19 y222 (y222.length : Int) 0 x209000 x209001 x209002 ((rd_T56 x17 x19).f0) ((rd_T56 x17 x19).f1) ((rd_T56 x17 x19).f2.f0) ((rd_T56 x17 x19).f2.f1) ((rd_T56 x17 x19).f3))) else (none))) else (none)) else (none)) else (some (x6, decide ((x1.length : Int) ≤ 30)))
def spec_l12Items.j1 : Nat → List (S56) → Int → Int → List (S56) → Int → Int → Bool → Int → List (S40) → List (S40) → Int → Int → Int → Int → Int → Option (Int × Bool)
 | 0, _, _, _, _, _, _, _, _, _, _, _, _, _, _, _ => none
 | k + 1, x1, x6, x7, x17, x18, x19, x43, x209000, x209001, x209002, x211000, x211001, x211002, x211003, x211004 => if x43 = true then (some (0, false)) else (if 0 ≤ x7 then (if x7 ≤ (x1.length : Int) then ((some (x1.take (x7 : Int).toNat : List (S56))).bind fun y212 => (spec_l12Items.l1 k x1 x6 x17 x18 x19 y212 (y212.length : Int) 0 x209000 x209001 x209002 x211000 x211001 x211002 x211003 x211004)) else (none)) else (none))
def spec_l12Items.l1 : Nat → List (S56) → Int → List (S56) → Int → Int → List (S56) → Int → Int → Int → List (S40) → List (S40) → Int → Int → Int → Int → Int → Option (Int × Bool)
 | 0, _, _, _, _, _, _, _, _, _, _, _, _, _, _, _, _ => none
 | k + 1, x1, x6, x17, x18, x19, x46, x47, x48, x209000, x209001, x209002, x211000, x211001, x211002, x211003, x211004 => if x48 < x47 then (if 0 ≤ x48 then (if x48 < (x46.length : Int) then (if ((rd_T56 x46 x48).f0) = 1 then ((spec_l12Overlap.f ((rd_T56 x46 x48).f2.f0) ((rd_T56 x46 x48).f2.f1) x211002 x211003).bind fun t218 => (if t218 = true then (some (0, false)) else (spec_l12Items.l1 k x1 x6 x17 x18 x19 x46 x47 (wrap64 (x48 + 1)) x209000 x209001 x209002 x211000 x211001 x211002 x211003 x211004))) else (spec_l12Items.l1 k x1 x6 x17 x18 x19 x46 x47 (wrap64 (x48 + 1)) x209000 x209001 x209002 x211000 x211001 x211002 x211003 x211004)) else (none)) else (none)) else (spec_l12Items.l2 k x1 x6 x17 x18 x19 x209001 (x209001.length : Int) 0 x209000 x209001 x209002 x211000 x211001 x211002 x211003 x211004)
def spec_l12Items.l2 : Nat → List (S56) → Int → List (S56) → Int → Int → List (S40) → Int → Int → Int → List (S40) → List (S40) → Int → Int → Int → Int → Int → Option (Int × Bool)
 | 0, _, _, _, _, _, _, _, _, _, _, _, _, _, _, _, _ => none
 | k + 1, x1, x6, x17, x18, x19, x64, x65, x66, x209000, x209001, x209002, x211000, x211001, x211002, x211003, x211004 => if x66 < x65 then (if 0 ≤ x66 then (if x66 < (x64.length : Int) then ((spec_l12Overlap.f ((rd_T40 x64 x66).f0) ((rd_T40 x64 x66).f1) x211002 x211003).bind fun t221 => (if t221 = true then (some (0, false)) else (spec_l12Items.l2 k x1 x6 x17 x18 x19 x64 x65 (wrap64 (x66 + 1)) x209000 x209001 x209002 x211000 x211001 x211002 x211003 x211004))) else (none)) else (none)) else (spec_l12Items.l0 k x1 (wrap64 (x6 + 1)) x17 x18 (wrap64 (x19 + 1)) x209000 x209001 x209002)
def spec_l12Items.l3 : Nat → List (S56) → Int → Int → Int → List (S56) → Int → Int → List (S56) → Int → Int → Int → List (S40) → List (S40) → Int → Int → Int → Int → Int → Option (Int × Bool)
 | 0, _, _, _, _, _, _, _, _, _, _, _, _, _, _, _, _, _, _ => none
 | k + 1, x1, x6, x13, x14, x17, x18, x19, x79, x80, x81, x209000, x209001, x209002, x211000, x211001, x211002, x211003, x211004 => if x81 < x80 then (if 0 ≤ x81 then (if x81 < (x79.length : Int) then (if ((rd_T56 x79 x81).f1) = x211001 then (if ((rd_T56 x79 x81).f0) = 1 then (spec_l12Items.l3 k x1 x6 ((rd_T56 x79 x81).f3) ((rd_T56 x79 x81).f2.f1) x17 x18 x19 x79 x80 (wrap64 (x81 + 1)) x209000 x209001 x209002 x211000 x211001 x211002 x211003 x211004) else (spec_l12Items.l3 k x1 x6 ((rd_T56 x79 x81).f3) x14 x17 x18 x19 x79 x80 (wrap64 (x81 + 1)) x209000 x209001 x209002 x211000 x211001 x211002 x211003 x211004)) else (spec_l12Items.l3 k x1 x6 x13 x14 x17 x18 x19 x79 x80 (wrap64 (x81 + 1)) x209000 x209001 x209002 x211000 x211001 x211002 x211003 x211004)) else (none)) else (none)) else (if x211000 = 2 then (if (!(x211002 == 0) || (!(x211003 == 0))) = true then (some (0, false)) else (if x14 < 0 then (some (0, false)) else ((spec_l1In.f x211004 (wrap64 (x13 + 1)) x14).bind fun t226 => (if t226 = true then (spec_l12Items.l0 k x1 x6 x17 x18 (wrap64 (x19 + 1)) x209000 x209001 x209002) else (some (0, false)))))) else (some (0, false)))
end
def spec_l12Items.f (k : Nat) (a0_0 : Int) (l0_1 : List (S40)) (l0_2 : List (S40)) (l1 : List (S56)) : Option (Int × Bool) := spec_l12Items.l0 k l1 1 l1 (l1.length : Int) 0 a0_0 l0_1 l0_2
theorem spec_l12Items.mono_l : ∀ k, (∀ y0 y1 y2 y3 y4 y5 y6 y7, LeO (spec_l12Items.l0 k y0 y1 y2 y3 y4 y5 y6 y7) (spec_l12Items.l0 (k + 1) y0 y1 y2 y3 y4 y5 y6 y7)) ∧ (∀ y0 y1 y2 y3 y4 y5 y6 y7 y8 y9 y10 y11 y12 y13 y14, LeO (spec_l12Items.j1 k y0 y1 y2 y3 y4 y5 y6 y7 y8 y9 y10 y11 y12 y13 y14) (spec_l12Items.j1 (k + 1) y0 y1 y2 y3 y4 y5 y6 y7 y8 y9 y10 y11 y12 y13 y14)) ∧ (∀ y0 y1 y2 y3 y4 y5 y6 y7 y8 y9 y10 y11 y12 y13 y14 y15, LeO (spec_l12Items.l1 k y0 y1 y2 y3 y4 y5 y6 y7 y8 y9 y10 y11 y12 y13 y14 y15) (spec_l12Items.l1 (k + 1) y0 y1 y2 y3 y4 y5 y6 y7 y8 y9 y10 y11 y12 y13 y14 y15)) ∧ (∀ y0 y1 y2 y3 y4 y5 y6 y7 y8 y9 y10 y11 y12 y13 y14 y15, LeO (spec_l12Items.l2 k y0 y1 y2 y3 y4 y5 y6 y7 y8 y9 y10 y11 y12 y13 y14 y15) (spec_l12Items.l2 (k + 1) y0 y1 y2 y3 y4 y5 y6 y7 y8 y9 y10 y11 y12 y13 y14 y15)) ∧ (∀ y0 y1 y2 y3 y4 y5 y6 y7 y8 y9 y10 y11 y12 y13 y14 y15 y16 y17, LeO (spec_l12Items.l3 k y0 y1 y2 y3 y4 y5 y6 y7 y8 y9 y10 y11 y12 y13 y14 y15 y16 y17) (spec_l12Items.l3 (k + 1) y0 y1 y2 y3 y4 y5 y6 y7 y8 y9 y10 y11 y12 y13 y14 y15 y16 y17))
 | 0 => ⟨fun _ _ _ _ _ _ _ _ r h => by simp [spec_l12Items.l0] at h, fun _ _ _ _ _ _ _ _ _ _ _ _ _ _ _ r h => by simp [spec_l12Items.j1] at h, fun _ _ _ _ _ _ _ _ _ _ _ _ _ _ _ _ r h => by simp [spec_l12Items.l1] at h, fun _ _ _ _ _ _ _ _ _ _ _ _ _ _ _ _ r h => by simp [spec_l12Items.l2] at h, fun _ _ _ _ _ _ _ _ _ _ _ _ _ _ _ _ _ _ r h => by simp [spec_l12Items.l3] at h⟩
 | k + 1 => by
  obtain ⟨ih0, ih1, ih2, ih3, ih4⟩ := spec_l12Items.mono_l k
  refine ⟨?_, ?_, ?_, ?_, ?_⟩ <;> intros <;> first | unfold spec_l12Items.l0 | unfold spec_l12Items.j1 | unfold spec_l12Items.l1 | unfold spec_l12Items.l2 | unfold spec_l12Items.l3
  all_goals repeat' first
   | (with_reducible exact ih0 _ _ _ _ _ _ _ _)
   | (with_reducible exact ih1 _ _ _ _ _ _ _ _ _ _ _ _ _ _ _)
   | (with_reducible exact ih2 _ _ _ _ _ _ _ _ _ _ _ _ _ _ _ _)
   | (with_reducible exact ih3 _ _ _ _ _ _ _ _ _ _ _ _ _ _ _ _)
   | (with_reducible exact ih4 _ _ _ _ _ _ _ _ _ _ _ _ _ _ _ _ _ _)
   | (with_reducible exact LeO.refl _)
   | (with_reducible exact LeO.none _)
   | (with_reducible refine LeO.ite ?_ ?_)
   | (with_reducible refine LeO.bind ?_ (fun _ => ?_))
   | exact ih0 _ _ _ _ _ _ _ _
   | exact ih1 _ _ _ _ _ _ _ _ _ _ _ _ _ _ _
   | exact ih2 _ _ _ _ _ _ _ _ _ _ _ _ _ _ _ _
   | exact ih3 _ _ _ _ _ _ _ _ _ _ _ _ _ _ _ _
   | exact ih4 _ _ _ _ _ _ _ _ _ _ _ _ _ _ _ _ _ _
   | exact LeO.none _
   | refine LeO.ite ?_ ?_
   | refine LeO.bind ?_ (fun _ => ?_)
theorem spec_l12Items.mono : ∀ a0 a1 a2 a3 k, LeO (spec_l12Items.f k a0 a1 a2 a3) (spec_l12Items.f (k + 1) a0 a1 a2 a3) := by
 intro a0 a1 a2 a3 k;obtain ⟨ih0, ih1, ih2, ih3, ih4⟩ := spec_l12Items.mono_l k;unfold spec_l12Items.f
 repeat' with_reducible first|exact ih0 _ _ _ _ _ _ _ _|exact ih1 _ _ _ _ _ _ _ _ _ _ _ _ _ _ _|exact ih2 _ _ _ _ _ _ _ _ _ _ _ _ _ _ _ _|exact ih3 _ _ _ _ _ _ _ _ _ _ _ _ _ _ _ _|exact ih4 _ _ _ _ _ _ _ _ _ _ _ _ _ _ _ _ _ _|exact LeO.refl _|exact LeO.none _|refine LeO.ite ?_ ?_|refine LeO.bind ?_ (fun _ => ?_)
set_option maxHeartbeats 8000000 in
set_option maxRecDepth 100000 in
theorem spec_l12Items.calls (k : Nat) (a0_0 : Int) (A0_1 : Option Addr) (c0_1 : Nat) (l0_1 : List (S40)) (A0_2 : Option Addr) (c0_2 : Nat) (l0_2 : List (S40)) (A1 : Option Addr) (c1 : Nat) (l1 : List (S56)) (r1 : Int) (r2 : Bool) (w : World) (hr0_1 : Kd.C k40 w A0_1 l0_1.length l0_1) (hc0_1 : l0_1.length ≤ c0_1) (hr0_2 : Kd.C k40 w A0_2 l0_2.length l0_2) (hc0_2 : l0_2.length ≤ c0_2) (hr1 : Kd.C k56 w A1 l1.length l1) (hc1 : l1.length ≤ c1) (h : spec_l12Items.f k a0_0 l0_1 l0_2 l1 = some (r1, r2)) :
  Calls Try.prog 28 #[.agg #[.int .i64 a0_0, .slice A0_1 l0_1.length c0_1, .slice A0_2 l0_2.length c0_2], .slice A1 l1.length c1] w fun e w' => e = .returned (.tuple #[.int .i64 r1, .bool r2]) ∧ Below w.heap.size w w' := by
 have hu33 := Try.underlying33;have hu56 := Try.underlying56;have hu40 := Try.underlying40;have HR0_1 := Ah hr0_1;have HC0_1 := Ah hc0_1;clear hr0_1 hc0_1;have HR0_2 := Ah hr0_2;have HC0_2 := Ah hc0_2;clear hr0_2 hc0_2;have HR1 := Ah hr1;have HC1 := Ah hc1;clear hr1 hc1;have HB := Ah (Below.refl w.heap.size w);have H : (spec_l12Items.l0 k l1 1 l1 (l1.length : Int) 0 a0_0 l0_1 l0_2) = some (r1, r2) := h;clear h;have H' := Ah H;clear H
 go_enter Try.func28, Try.ntmps28
 go_wp2_with (first | ((with_reducible refine gate_dst (N := 2) rfl ?_); refine boxL 2 33 #[.int .i64 a0_0, .slice A0_1 l0_1.length c0_1, .slice A0_2 l0_2.length c0_2] ?_; intro gb208 hg w3 BK208 hb; have GW208 := gw hg (bs HB); have GE208 := gw hg (bs HB); replace HB := Ah (below_step (bs HB) hb); clear hb hg))
 go_loopg [6, 19] k (fun kq v6 v19 w' => ∃ (x6_1 : Int) (x19_1 : Int), v6 = .int .i64 x6_1 ∧ v19 = .int .i64 x19_1 ∧ Aside0 (spec_l12Items.l0 kq l1 x6_1 l1 (l1.length : Int) x19_1 a0_0 l0_1 l0_2 = some (r1, r2)) ∧ Aside0 (kq ≤ k) ∧ Aside0 (w'.heap[gb208]? = some (.cells #[.int .i64 a0_0, (.slice A0_1 l0_1.length c0_1), (.slice A0_2 l0_2.length c0_2)] 33 (0, 0))) ∧ Aside0 (Below w.heap.size w w'))
 case atStart => exact ⟨(1), (0), e3, e3, H', ⟨Nat.le_refl _⟩, ⟨bk BK208⟩, ⟨bs1 HB GE208⟩⟩
 case round =>
  clear H'
  try clear c1
  try clear c2
  try clear p2
  obtain ⟨x6_1, x19_1, rfl, rfl, HA, HK1, BK208, HB⟩ := hrel
  cases gk with
  | zero => exact absurd HA.out (by simp [spec_l12Items.l0])
  | succ k1 =>
   have H := HA.out;clear HA;simp only [spec_l12Items.l0] at H
   by_cases c4 : x19_1 < (l1.length : Int)
   rotate_left
   ·
    rw [if_neg c4] at H;have c4b0 : decide (x19_1 < (l1.length : Int)) = false := decide_eq_false c4;clear c4;simp only [Option.some.injEq, Prod.mk.injEq] at H;obtain ⟨rfl, rfl⟩ := H
    go_wp2
    go_ret2
    exact ⟨er, bs1 HB GE208⟩
   rw [if_pos c4] at H;have c4b0 : decide (x19_1 < (l1.length : Int)) = true := decide_eq_true c4;clear c4
   by_cases c5 : 0 ≤ x19_1
   rotate_left
   ·
    rw [if_neg c5] at H;exact absurd H (by simp)
   rw [if_pos c5] at H;have c5b0 : decide (0 ≤ x19_1) = true := decide_eq_true c5;clear c5
   by_cases c6 : x19_1 < (l1.length : Int)
   rotate_left
   ·
    rw [if_neg c6] at H;exact absurd H (by simp)
   rw [if_pos c6] at H;have c6b0 : decide (x19_1 < (l1.length : Int)) = true := decide_eq_true c6;clear c6
   by_cases c7 : ((rd_T56 l1 x19_1).f0) = 1
   rotate_left
   ·
    rw [if_neg c7] at H;have c7b0 : (((rd_T56 l1 x19_1).f0) == 1) = false := beq_eq_false_iff_ne.mpr c7;have c7b1 : (((rd_T56 l1 x19_1).f0) != 1) = true := bne_iff_ne.mpr c7;have c72b0 := eq_true (od : 0 ≤ x19_1)
    by_cases c73 : x19_1 ≤ (l1.length : Int)
    rotate_left
    ·
     rw [if_neg c73] at H;exact absurd H (by simp)
    rw [if_pos c73] at H;have c73b0 := eq_true c73;have c73b1 : decide (x19_1 ≤ (l1.length : Int)) = true := decide_eq_true c73;clear c73;obtain ⟨y222, hy222⟩ : ∃ y_ : List (S56), y_ = (l1.take (x19_1 : Int).toNat) := ⟨_, rfl⟩
    replace H : (spec_l12Items.l3 k1 l1 x6_1 0 (-1) l1 (l1.length : Int) x19_1 y222 (y222.length : Int) 0 a0_0 l0_1 l0_2 ((rd_T56 l1 x19_1).f0) ((rd_T56 l1 x19_1).f1) ((rd_T56 l1 x19_1).f2.f0) ((rd_T56 l1 x19_1).f2.f1) ((rd_T56 l1 x19_1).f3)) = some (r1, r2) := by first | (rw [hy222]; with_reducible exact H) | (have H2_ := (Option.bind_some _ _).symm.trans H; rw [hy222]; with_reducible exact H2_) | (have H2_ := (Option.bind_some _ _).symm.trans H; with_reducible exact H2_) | with_reducible exact H | (rw [hy222]; exact H) | exact H
    have Ny222 := Ah hy222;clear hy222;have H' := Ah H;clear H;have p209 : 0 ≤ (x19_1 : Int) := od;have q209 : x19_1 < (l1.length : Int) := od;obtain ⟨ad209, e209, hx209_0, hx209_1, hx209_2, hx209_3, hx209_4⟩ := at_T56 HR1.out x19_1 p209 q209
    cases e209
    replace hx209_0 := (HB.out.cell (World.block_lt_of_cell? w _ hx209_0)).trans hx209_0;replace hx209_1 := (HB.out.cell (World.block_lt_of_cell? w _ hx209_1)).trans hx209_1;replace hx209_2 := (HB.out.cell (World.block_lt_of_cell? w _ hx209_2)).trans hx209_2;replace hx209_3 := (HB.out.cell (World.block_lt_of_cell? w _ hx209_3)).trans hx209_3;replace hx209_4 := (HB.out.cell (World.block_lt_of_cell? w _ hx209_4)).trans hx209_4;replace p209 := eq_true p209;replace q209 := eq_true q209
    go_wp2_with (first | ((with_reducible refine gate_dst (N := 8) rfl ?_); refine boxL 8 56 #[.int .i64 0, .int .i64 0, .int .i64 0, .int .i64 0, .int .i64 0] ?_; intro gb210 hg w74 BK210 hb; have GW210 := gw hg (bs1 HB GE208); have GE210 := gw hg (bs1 HB GE208); replace HB := Ah (below_step (bs1 HB GE208) hb); have NB208_210 := nn BK208 hg; have NB210_208 := nm BK208 hg; replace BK208 := nb BK208 hb; clear hb hg; have hnb75 := NB210_208.out; have hnc75 := NB208_210.out; obtain ⟨hcz76_0, hcz76_1, hcz76_2, hcz76_3, hcz76_4⟩ := cz5 BK210; obtain ⟨hfz76_0, hfz76_1, hfz76_2, hfz76_3, hfz76_4⟩ := fz5 BK210) | ((with_reducible refine gate_store (t := 56) (p := 8) rfl ?_); refine store_event (t := 56) (p := 8) (v := ?vo_w77) (w1 := (((((w74.setCell ⟨gb210, 0, none⟩ (.int .i64 ((rd_T56 l1 x19_1).f0))).setCell ⟨gb210, 1, none⟩ (.int .i64 ((rd_T56 l1 x19_1).f1))).setCell ⟨gb210, 2, none⟩ (.int .i64 ((rd_T56 l1 x19_1).f2.f0))).setCell ⟨gb210, 3, none⟩ (.int .i64 ((rd_T56 l1 x19_1).f2.f1))).setCell ⟨gb210, 4, none⟩ (.int .i64 ((rd_T56 l1 x19_1).f3)))) ?hg ?ho ?hn ?hr ?_; (case ho => rfl); (case hg => rfl); (case hn => rfl); (case hr => first | (go_simp; done) | (go_simp; rfl)); intro w77 hw; have n0_ : Aside0 (w77.heap[gb208]? = some (.cells #[.int .i64 a0_0, .slice A0_1 l0_1.length c0_1, .slice A0_2 l0_2.length c0_2] 33 (0, 0))) := ⟨(by rw [hw]; exact (bf BK208 NB208_210))⟩; have n1_ : Aside0 (w77.heap[gb210]? = some (.cells #[.int .i64 ((rd_T56 l1 x19_1).f0), .int .i64 ((rd_T56 l1 x19_1).f1), .int .i64 ((rd_T56 l1 x19_1).f2.f0), .int .i64 ((rd_T56 l1 x19_1).f2.f1), .int .i64 ((rd_T56 l1 x19_1).f3)] 56 (0, 0))) := ⟨(by rw [hw]; exact (by (with_reducible repeat (first | refine blk_drewN ?_ _ | refine blk_drew ?_ | refine blk_alloc ?_ _)); refine blk_put (cs := #[.int .i64 ((rd_T56 l1 x19_1).f0), .int .i64 ((rd_T56 l1 x19_1).f1), .int .i64 ((rd_T56 l1 x19_1).f2.f0), .int .i64 ((rd_T56 l1 x19_1).f2.f1), .int .i64 0]) ?_ 4 _ rfl; (with_reducible repeat (first | refine blk_drewN ?_ _ | refine blk_drew ?_ | refine blk_alloc ?_ _)); refine blk_put (cs := #[.int .i64 ((rd_T56 l1 x19_1).f0), .int .i64 ((rd_T56 l1 x19_1).f1), .int .i64 ((rd_T56 l1 x19_1).f2.f0), .int .i64 0, .int .i64 0]) ?_ 3 _ rfl; (with_reducible repeat (first | refine blk_drewN ?_ _ | refine blk_drew ?_ | refine blk_alloc ?_ _)); refine blk_put (cs := #[.int .i64 ((rd_T56 l1 x19_1).f0), .int .i64 ((rd_T56 l1 x19_1).f1), .int .i64 0, .int .i64 0, .int .i64 0]) ?_ 2 _ rfl; (with_reducible repeat (first | refine blk_drewN ?_ _ | refine blk_drew ?_ | refine blk_alloc ?_ _)); refine blk_put (cs := #[.int .i64 ((rd_T56 l1 x19_1).f0), .int .i64 0, .int .i64 0, .int .i64 0, .int .i64 0]) ?_ 1 _ rfl; (with_reducible repeat (first | refine blk_drewN ?_ _ | refine blk_drew ?_ | refine blk_alloc ?_ _)); refine blk_put (cs := #[.int .i64 0, .int .i64 0, .int .i64 0, .int .i64 0, .int .i64 0]) ?_ 0 _ rfl; (with_reducible repeat (first | refine blk_drewN ?_ _ | refine blk_drew ?_ | refine blk_alloc ?_ _)); exact BK210.out))⟩; have n2_ : Aside0 (Below w.heap.size w w77) := ⟨(by rw [hw]; exact (bs2 HB GE208 GE210))⟩; clear hw; clear BK208; clear BK210; clear HB; have BK208 := n0_; have BK210 := n1_; have HB := n2_; clear n0_ n1_ n2_; obtain ⟨hcz78_0, hcz78_1, hcz78_2, hcz78_3, hcz78_4⟩ := cz5 BK210; obtain ⟨hfz78_0, hfz78_1, hfz78_2, hfz78_3, hfz78_4⟩ := fz5 BK210; have q79 : (x19_1 : Int) ≤ ((l1.length : Int) : Int) := od; obtain ⟨i079, hi079, _, hsz79, _⟩ := info_parts info56; have hroom79 : l1.length ≤ c1 := HC1.out; have hC79 : Kd.C k56 _ (some ad209) l1.length l1 := HR1.out; have hcut79 := cut_to (P := Try.prog) 34 56 .i64 Try.underlying34 hi079 (some ad209) l1.length c1 x19_1 (od) q79 hroom79; have hr79 := Kd.C_take (m := (x19_1 : Int).toNat) hC79 (by omega); have hy79 : y222.length = (x19_1 : Int).toNat := (by rw [Ny222.out, List.length_take]; omega); rw [← Ny222.out] at hr79; rw [← hy79] at hcut79; have HR225 := Ah hr79; have HC225 := Ah (show y222.length ≤ c1 from by omega); clear hr79 hC79 hroom79 hi079 hsz79; have KY79 := Ah hy79; clear hy79; replace q79 := eq_true q79))
    go_loopg [13, 14, 81] k1 (fun kq v13 v14 v81 w' => ∃ (x13_2 : Int) (x14_2 : Int) (x81_2 : Int), v13 = .int .i64 x13_2 ∧ v14 = .int .i64 x14_2 ∧ v81 = .int .i64 x81_2 ∧ Aside0 (spec_l12Items.l3 kq l1 x6_1 x13_2 x14_2 l1 (l1.length : Int) x19_1 y222 (y222.length : Int) x81_2 a0_0 l0_1 l0_2 ((rd_T56 l1 x19_1).f0) ((rd_T56 l1 x19_1).f1) ((rd_T56 l1 x19_1).f2.f0) ((rd_T56 l1 x19_1).f2.f1) ((rd_T56 l1 x19_1).f3) = some (r1, r2)) ∧ Aside0 (kq ≤ k1) ∧ Aside0 (w'.heap[gb208]? = some (.cells #[.int .i64 a0_0, (.slice A0_1 l0_1.length c0_1), (.slice A0_2 l0_2.length c0_2)] 33 (0, 0))) ∧ Aside0 (w'.heap[gb210]? = some (.cells #[.int .i64 ((rd_T56 l1 x19_1).f0), .int .i64 ((rd_T56 l1 x19_1).f1), .int .i64 ((rd_T56 l1 x19_1).f2.f0), .int .i64 ((rd_T56 l1 x19_1).f2.f1), .int .i64 ((rd_T56 l1 x19_1).f3)] 56 (0, 0))) ∧ Aside0 (Below w.heap.size w w'))
    case atStart => exact ⟨(0), ((-1)), (0), e3, e3, e3, H', ⟨Nat.le_refl _⟩, ⟨bk BK208⟩, ⟨bk BK210⟩, ⟨bs2 HB GE208 GE210⟩⟩
    case round =>
     clear H'
     try clear c1
     try clear c2
     try clear p2
     try clear q2
     try clear hx2
     try clear c3
     try clear c4
     try clear c4b0
     try clear c5
     try clear c5b0
     try clear c6
     try clear c6b0
     try clear p6
     try clear c7
     try clear c7b0
     try clear c7b1
     try clear q7
     try clear c10
     try clear c12
     try clear c12b0
     try clear c12b1
     try clear c13
     try clear c13b0
     try clear c13b1
     try clear c15
     try clear c19
     try clear p20
     try clear q20
     try clear hx20
     try clear c21
     try clear p21
     try clear q21
     try clear hx21
     try clear c23
     try clear c24
     try clear c24b0
     try clear c24b1
     try clear c25
     try clear c25b0
     try clear c25b1
     try clear q26
     try clear c27
     try clear c27b0
     try clear c28
     try clear c28b0
     try clear c29
     try clear c29b0
     try clear c30
     try clear c30b0
     try clear c30b1
     try clear c32
     try clear c34
     try clear c35
     try clear c37
     try clear c41
     try clear c42
     try clear c44
     try clear c45
     try clear c48
     try clear c49
     try clear c51
     try clear c53
     try clear c53b0
     try clear c54
     try clear c54b0
     try clear c55
     try clear c55b0
     try clear c57
     try clear c59
     try clear c60
     try clear c62
     try clear p64
     try clear c66
     try clear c67
     try clear c69
     try clear c72
     try clear c72b0
     try clear c73
     try clear c73b0
     try clear c73b1
     try clear c75
     try clear q79
     try clear hcz11_0 hcz11_1 hcz11_2 hcz11_3 hcz11_4
     try clear hcz16_0 hcz16_1 hcz16_2 hcz16_3 hcz16_4
     try clear hcz17_0 hcz17_1 hcz17_2
     try clear hcz20_0 hcz20_1 hcz20_2 hcz20_3 hcz20_4
     try clear hcz22_0 hcz22_1 hcz22_2 hcz22_3 hcz22_4
     try clear hcz36_0 hcz36_1 hcz36_2 hcz36_3 hcz36_4
     try clear hcz38_0 hcz38_1 hcz38_2 hcz38_3 hcz38_4
     try clear hcz43_0 hcz43_1 hcz43_2 hcz43_3 hcz43_4
     try clear hcz45_0 hcz45_1 hcz45_2 hcz45_3 hcz45_4
     try clear hcz50_0 hcz50_1 hcz50_2 hcz50_3 hcz50_4
     try clear hcz52_0 hcz52_1 hcz52_2
     try clear hcz61_0 hcz61_1
     try clear hcz63_0 hcz63_1 hcz63_2 hcz63_3 hcz63_4
     try clear hcz68_0 hcz68_1
     try clear hcz70_0 hcz70_1 hcz70_2 hcz70_3 hcz70_4
     try clear hcz76_0 hcz76_1 hcz76_2 hcz76_3 hcz76_4
     try clear hcz78_0 hcz78_1 hcz78_2 hcz78_3 hcz78_4
     try clear hfz11_0 hfz11_1 hfz11_2 hfz11_3 hfz11_4
     try clear hfz16_0 hfz16_1 hfz16_2 hfz16_3 hfz16_4
     try clear hfz17_0 hfz17_1 hfz17_2
     try clear hfz20_0 hfz20_1 hfz20_2 hfz20_3 hfz20_4
     try clear hfz22_0 hfz22_1 hfz22_2 hfz22_3 hfz22_4
     try clear hfz36_0 hfz36_1 hfz36_2 hfz36_3 hfz36_4
     try clear hfz38_0 hfz38_1 hfz38_2 hfz38_3 hfz38_4
     try clear hfz43_0 hfz43_1 hfz43_2 hfz43_3 hfz43_4
     try clear hfz45_0 hfz45_1 hfz45_2 hfz45_3 hfz45_4
     try clear hfz50_0 hfz50_1 hfz50_2 hfz50_3 hfz50_4
     try clear hfz52_0 hfz52_1 hfz52_2
     try clear hfz61_0 hfz61_1
     try clear hfz63_0 hfz63_1 hfz63_2 hfz63_3 hfz63_4
     try clear hfz68_0 hfz68_1
     try clear hfz70_0 hfz70_1 hfz70_2 hfz70_3 hfz70_4
     try clear hfz76_0 hfz76_1 hfz76_2 hfz76_3 hfz76_4
     try clear hfz78_0 hfz78_1 hfz78_2 hfz78_3 hfz78_4
     try clear hx209_0
     try clear hx209_1
     try clear hx209_2
     try clear hx209_3
     try clear hx209_4
     try clear hx216_0
     try clear hx216_1
     try clear hx216_2
     try clear hx216_3
     try clear hx216_4
     try clear hx219_0
     try clear hx219_1
     try clear p2
     try clear p20
     try clear p209
     try clear p21
     try clear p216
     try clear p219
     try clear p6
     try clear q2
     try clear q20
     try clear q209
     try clear q21
     try clear q216
     try clear q219
     try clear q26
     try clear q79
     obtain ⟨x13_2, x14_2, x81_2, rfl, rfl, rfl, HA, HK2, BK208, BK210, HB⟩ := hrel
     cases gk with
     | zero => exact absurd HA.out (by simp [spec_l12Items.l3])
     | succ k2 =>
      have H := HA.out;clear HA;simp only [spec_l12Items.l3] at H
      by_cases c80 : x81_2 < (y222.length : Int)
      rotate_left
      ·
       rw [if_neg c80] at H;have c80b0 : decide (x81_2 < (y222.length : Int)) = false := decide_eq_false c80;clear c80
       by_cases c103 : ((rd_T56 l1 x19_1).f0) = 2
       rotate_left
       ·
        rw [if_neg c103] at H;have c103b0 : (((rd_T56 l1 x19_1).f0) == 2) = false := beq_eq_false_iff_ne.mpr c103;have c103b1 : (((rd_T56 l1 x19_1).f0) != 2) = true := bne_iff_ne.mpr c103;simp only [Option.some.injEq, Prod.mk.injEq] at H;obtain ⟨rfl, rfl⟩ := H;have hnb116 := NB210_208.out;have hnc116 := NB208_210.out;obtain ⟨hcz117_0, hcz117_1, hcz117_2, hcz117_3, hcz117_4⟩ := cz5 BK210;obtain ⟨hfz117_0, hfz117_1, hfz117_2, hfz117_3, hfz117_4⟩ := fz5 BK210
        go_wp2
        go_ret2
        exact ⟨er, bs2 HB GE208 GE210⟩
       rw [if_pos c103] at H;have c103b0 : (((rd_T56 l1 x19_1).f0) == 2) = true := beq_iff_eq.mpr c103;have c103b1 : (((rd_T56 l1 x19_1).f0) != 2) = false := bne_eq_false_iff_eq.mpr c103;clear c103
       by_cases c104 : (!(((rd_T56 l1 x19_1).f2.f0) == 0) || (!(((rd_T56 l1 x19_1).f2.f1) == 0))) = true
       ·
        rw [if_pos c104] at H;have c104b0 : (!(((rd_T56 l1 x19_1).f2.f0) == 0) || (!(((rd_T56 l1 x19_1).f2.f1) == 0))) = true := c104;clear c104;simp only [Option.some.injEq, Prod.mk.injEq] at H;obtain ⟨rfl, rfl⟩ := H;have hnb105 := NB210_208.out;have hnc105 := NB208_210.out;obtain ⟨hcz106_0, hcz106_1, hcz106_2, hcz106_3, hcz106_4⟩ := cz5 BK210;obtain ⟨hfz106_0, hfz106_1, hfz106_2, hfz106_3, hfz106_4⟩ := fz5 BK210
        go_wp2
        go_ret2
        exact ⟨er, bs2 HB GE208 GE210⟩
       rw [if_neg c104] at H
       have c104b0 : (!(((rd_T56 l1 x19_1).f2.f0) == 0) || (!(((rd_T56 l1 x19_1).f2.f1) == 0))) = false := by simpa using c104
       clear c104
       by_cases c107 : x14_2 < 0
       ·
        rw [if_pos c107] at H;have c107b0 : decide (x14_2 < 0) = true := decide_eq_true c107;clear c107;simp only [Option.some.injEq, Prod.mk.injEq] at H;obtain ⟨rfl, rfl⟩ := H;have hnb108 := NB210_208.out;have hnc108 := NB208_210.out;obtain ⟨hcz109_0, hcz109_1, hcz109_2, hcz109_3, hcz109_4⟩ := cz5 BK210;obtain ⟨hfz109_0, hfz109_1, hfz109_2, hfz109_3, hfz109_4⟩ := fz5 BK210
        go_wp2
        go_ret2
        exact ⟨er, bs2 HB GE208 GE210⟩
       rw [if_neg c107] at H;have c107b0 : decide (x14_2 < 0) = false := decide_eq_false c107;clear c107;replace H := Option.bind_eq_some_iff.mp H;obtain ⟨t226, A1100, H⟩ := H
       try dsimp only at H
       have A110 := Ah A1100;clear A1100
       by_cases c111 : t226 = true
       rotate_left
       ·
        replace c111 := Bool.eq_false_iff.mpr c111;subst c111;rw [if_neg fne] at H;simp only [Option.some.injEq, Prod.mk.injEq] at H;obtain ⟨rfl, rfl⟩ := H;have hnb114 := NB210_208.out;have hnc114 := NB208_210.out;obtain ⟨hcz115_0, hcz115_1, hcz115_2, hcz115_3, hcz115_4⟩ := cz5 BK210;obtain ⟨hfz115_0, hfz115_1, hfz115_2, hfz115_3, hfz115_4⟩ := fz5 BK210
        go_wp2_with (first | (go_at_call 46; (with_reducible refine (spec_l1In.calls ((rd_T56 l1 x19_1).f3) (wrap64 (x13_2 + 1)) x14_2 false _ A110.out).mono ?_); rintro e w' ⟨rfl, ⟨nd, rfl⟩⟩))
        go_ret2
        exact ⟨er, bs2 HB GE208 GE210⟩
       subst c111;rw [if_pos rfl] at H;have H' := Ah H;clear H;have hnb112 := NB210_208.out;have hnc112 := NB208_210.out;obtain ⟨hcz113_0, hcz113_1, hcz113_2, hcz113_3, hcz113_4⟩ := cz5 BK210;obtain ⟨hfz113_0, hfz113_1, hfz113_2, hfz113_3, hfz113_4⟩ := fz5 BK210
       go_wp2_with (first | (go_at_call 46; (with_reducible refine (spec_l1In.calls ((rd_T56 l1 x19_1).f3) (wrap64 (x13_2 + 1)) x14_2 true _ A110.out).mono ?_); rintro e w' ⟨rfl, ⟨nd, rfl⟩⟩))
       go_roundg k2
       case measure => have := HK1.out; have := HK2.out; omega
       case rel => exact ⟨(x6_1), (wrap64 (x19_1 + 1)), e3, e3, H', ⟨by have := HK1.out; have := HK2.out; omega⟩, ⟨bk BK208⟩, ⟨bs2 HB GE208 GE210⟩⟩
      rw [if_pos c80] at H;have c80b0 : decide (x81_2 < (y222.length : Int)) = true := decide_eq_true c80;clear c80
      by_cases c81 : 0 ≤ x81_2
      rotate_left
      ·
       rw [if_neg c81] at H;exact absurd H (by simp)
      rw [if_pos c81] at H;have c81b0 : decide (0 ≤ x81_2) = true := decide_eq_true c81;clear c81
      by_cases c82 : x81_2 < (y222.length : Int)
      rotate_left
      ·
       rw [if_neg c82] at H;exact absurd H (by simp)
      rw [if_pos c82] at H;have c82b0 : decide (x81_2 < (y222.length : Int)) = true := decide_eq_true c82;clear c82
      by_cases c83 : ((rd_T56 y222 x81_2).f1) = ((rd_T56 l1 x19_1).f1)
      rotate_left
      ·
       rw [if_neg c83] at H;have c83b0 : (((rd_T56 y222 x81_2).f1) == ((rd_T56 l1 x19_1).f1)) = false := beq_eq_false_iff_ne.mpr c83;have c83b1 : (((rd_T56 y222 x81_2).f1) != ((rd_T56 l1 x19_1).f1)) = true := bne_iff_ne.mpr c83;have H' := Ah H;clear H;have p227 : 0 ≤ (x81_2 : Int) := od;have q227 : x81_2 < (y222.length : Int) := od;obtain ⟨ad227, e227, hx227_0, hx227_1, hx227_2, hx227_3, hx227_4⟩ := at_T56 HR225.out x81_2 p227 q227;obtain rfl : ad209 = ad227 := (by injection e227);replace hx227_0 := (HB.out.cell (World.block_lt_of_cell? w _ hx227_0)).trans hx227_0;replace hx227_1 := (HB.out.cell (World.block_lt_of_cell? w _ hx227_1)).trans hx227_1;replace hx227_2 := (HB.out.cell (World.block_lt_of_cell? w _ hx227_2)).trans hx227_2;replace hx227_3 := (HB.out.cell (World.block_lt_of_cell? w _ hx227_3)).trans hx227_3;replace hx227_4 := (HB.out.cell (World.block_lt_of_cell? w _ hx227_4)).trans hx227_4;replace p227 := eq_true p227;replace q227 := eq_true q227
       go_wp2_with (first | ((with_reducible refine gate_dst (N := 16) rfl ?_); refine boxL 16 56 #[.int .i64 0, .int .i64 0, .int .i64 0, .int .i64 0, .int .i64 0] ?_; intro gb228 hg w97 BK228 hb; have GW228 := gw hg (bs2 HB GE208 GE210); have GE228 := gw hg (bs2 HB GE208 GE210); replace HB := Ah (below_step (bs2 HB GE208 GE210) hb); have NB208_228 := nn BK208 hg; have NB228_208 := nm BK208 hg; replace BK208 := nb BK208 hb; have NB210_228 := nn BK210 hg; have NB228_210 := nm BK210 hg; replace BK210 := nb BK210 hb; clear hb hg; have hnb98 := NB228_208.out; have hnc98 := NB208_228.out; have hnb99 := NB228_210.out; have hnc99 := NB210_228.out; obtain ⟨hcz100_0, hcz100_1, hcz100_2, hcz100_3, hcz100_4⟩ := cz5 BK228; obtain ⟨hfz100_0, hfz100_1, hfz100_2, hfz100_3, hfz100_4⟩ := fz5 BK228; have hnb101 := NB210_208.out; have hnc101 := NB208_210.out; obtain ⟨hcz102_0, hcz102_1, hcz102_2, hcz102_3, hcz102_4⟩ := cz5 BK210; obtain ⟨hfz102_0, hfz102_1, hfz102_2, hfz102_3, hfz102_4⟩ := fz5 BK210))
       go_roundg k2
       case measure => have := HK1.out; have := HK2.out; omega
       case rel => exact ⟨(x13_2), (x14_2), (wrap64 (x81_2 + 1)), e3, e3, e3, H', ⟨by have := HK1.out; have := HK2.out; omega⟩, ⟨bf BK208 NB208_228⟩, ⟨bf BK210 NB210_228⟩, ⟨bs3 HB GE208 GE210 GE228⟩⟩
      rw [if_pos c83] at H;have c83b0 : (((rd_T56 y222 x81_2).f1) == ((rd_T56 l1 x19_1).f1)) = true := beq_iff_eq.mpr c83;have c83b1 : (((rd_T56 y222 x81_2).f1) != ((rd_T56 l1 x19_1).f1)) = false := bne_eq_false_iff_eq.mpr c83;clear c83
      by_cases c84 : ((rd_T56 y222 x81_2).f0) = 1
      rotate_left
      ·
       rw [if_neg c84] at H;have c84b0 : (((rd_T56 y222 x81_2).f0) == 1) = false := beq_eq_false_iff_ne.mpr c84;have c84b1 : (((rd_T56 y222 x81_2).f0) != 1) = true := bne_iff_ne.mpr c84;have H' := Ah H;clear H;have p227 : 0 ≤ (x81_2 : Int) := od;have q227 : x81_2 < (y222.length : Int) := od;obtain ⟨ad227, e227, hx227_0, hx227_1, hx227_2, hx227_3, hx227_4⟩ := at_T56 HR225.out x81_2 p227 q227;obtain rfl : ad209 = ad227 := (by injection e227);replace hx227_0 := (HB.out.cell (World.block_lt_of_cell? w _ hx227_0)).trans hx227_0;replace hx227_1 := (HB.out.cell (World.block_lt_of_cell? w _ hx227_1)).trans hx227_1;replace hx227_2 := (HB.out.cell (World.block_lt_of_cell? w _ hx227_2)).trans hx227_2;replace hx227_3 := (HB.out.cell (World.block_lt_of_cell? w _ hx227_3)).trans hx227_3;replace hx227_4 := (HB.out.cell (World.block_lt_of_cell? w _ hx227_4)).trans hx227_4;replace p227 := eq_true p227;replace q227 := eq_true q227
       go_wp2_with (first | ((with_reducible refine gate_dst (N := 16) rfl ?_); refine boxL 16 56 #[.int .i64 0, .int .i64 0, .int .i64 0, .int .i64 0, .int .i64 0] ?_; intro gb228 hg w91 BK228 hb; have GW228 := gw hg (bs2 HB GE208 GE210); have GE228 := gw hg (bs2 HB GE208 GE210); replace HB := Ah (below_step (bs2 HB GE208 GE210) hb); have NB208_228 := nn BK208 hg; have NB228_208 := nm BK208 hg; replace BK208 := nb BK208 hb; have NB210_228 := nn BK210 hg; have NB228_210 := nm BK210 hg; replace BK210 := nb BK210 hb; clear hb hg; have hnb92 := NB228_208.out; have hnc92 := NB208_228.out; have hnb93 := NB228_210.out; have hnc93 := NB210_228.out; obtain ⟨hcz94_0, hcz94_1, hcz94_2, hcz94_3, hcz94_4⟩ := cz5 BK228; obtain ⟨hfz94_0, hfz94_1, hfz94_2, hfz94_3, hfz94_4⟩ := fz5 BK228; have hnb95 := NB210_208.out; have hnc95 := NB208_210.out; obtain ⟨hcz96_0, hcz96_1, hcz96_2, hcz96_3, hcz96_4⟩ := cz5 BK210; obtain ⟨hfz96_0, hfz96_1, hfz96_2, hfz96_3, hfz96_4⟩ := fz5 BK210))
       go_roundg k2
       case measure => have := HK1.out; have := HK2.out; omega
       case rel => exact ⟨((rd_T56 y222 x81_2).f3), (x14_2), (wrap64 (x81_2 + 1)), e3, e3, e3, H', ⟨by have := HK1.out; have := HK2.out; omega⟩, ⟨bf BK208 NB208_228⟩, ⟨bf BK210 NB210_228⟩, ⟨bs3 HB GE208 GE210 GE228⟩⟩
      rw [if_pos c84] at H;have c84b0 : (((rd_T56 y222 x81_2).f0) == 1) = true := beq_iff_eq.mpr c84;have c84b1 : (((rd_T56 y222 x81_2).f0) != 1) = false := bne_eq_false_iff_eq.mpr c84;clear c84;have H' := Ah H;clear H;have p227 : 0 ≤ (x81_2 : Int) := od;have q227 : x81_2 < (y222.length : Int) := od;obtain ⟨ad227, e227, hx227_0, hx227_1, hx227_2, hx227_3, hx227_4⟩ := at_T56 HR225.out x81_2 p227 q227;obtain rfl : ad209 = ad227 := (by injection e227);replace hx227_0 := (HB.out.cell (World.block_lt_of_cell? w _ hx227_0)).trans hx227_0;replace hx227_1 := (HB.out.cell (World.block_lt_of_cell? w _ hx227_1)).trans hx227_1;replace hx227_2 := (HB.out.cell (World.block_lt_of_cell? w _ hx227_2)).trans hx227_2;replace hx227_3 := (HB.out.cell (World.block_lt_of_cell? w _ hx227_3)).trans hx227_3;replace hx227_4 := (HB.out.cell (World.block_lt_of_cell? w _ hx227_4)).trans hx227_4;replace p227 := eq_true p227;replace q227 := eq_true q227
      go_wp2_with (first | ((with_reducible refine gate_dst (N := 16) rfl ?_); refine boxL 16 56 #[.int .i64 0, .int .i64 0, .int .i64 0, .int .i64 0, .int .i64 0] ?_; intro gb228 hg w85 BK228 hb; have GW228 := gw hg (bs2 HB GE208 GE210); have GE228 := gw hg (bs2 HB GE208 GE210); replace HB := Ah (below_step (bs2 HB GE208 GE210) hb); have NB208_228 := nn BK208 hg; have NB228_208 := nm BK208 hg; replace BK208 := nb BK208 hb; have NB210_228 := nn BK210 hg; have NB228_210 := nm BK210 hg; replace BK210 := nb BK210 hb; clear hb hg; have hnb86 := NB228_208.out; have hnc86 := NB208_228.out; have hnb87 := NB228_210.out; have hnc87 := NB210_228.out; obtain ⟨hcz88_0, hcz88_1, hcz88_2, hcz88_3, hcz88_4⟩ := cz5 BK228; obtain ⟨hfz88_0, hfz88_1, hfz88_2, hfz88_3, hfz88_4⟩ := fz5 BK228; have hnb89 := NB210_208.out; have hnc89 := NB208_210.out; obtain ⟨hcz90_0, hcz90_1, hcz90_2, hcz90_3, hcz90_4⟩ := cz5 BK210; obtain ⟨hfz90_0, hfz90_1, hfz90_2, hfz90_3, hfz90_4⟩ := fz5 BK210))
      go_roundg k2
      case measure => have := HK1.out; have := HK2.out; omega
      case rel => exact ⟨((rd_T56 y222 x81_2).f3), ((rd_T56 y222 x81_2).f2.f1), (wrap64 (x81_2 + 1)), e3, e3, e3, H', ⟨by have := HK1.out; have := HK2.out; omega⟩, ⟨bf BK208 NB208_228⟩, ⟨bf BK210 NB210_228⟩, ⟨bs3 HB GE208 GE210 GE228⟩⟩
   rw [if_pos c7] at H;have c7b0 : (((rd_T56 l1 x19_1).f0) == 1) = true := beq_iff_eq.mpr c7;have c7b1 : (((rd_T56 l1 x19_1).f0) != 1) = false := bne_eq_false_iff_eq.mpr c7;clear c7;have HC8 := Ah H;clear H;have p209 : 0 ≤ (x19_1 : Int) := od;have q209 : x19_1 < (l1.length : Int) := od;obtain ⟨ad209, e209, hx209_0, hx209_1, hx209_2, hx209_3, hx209_4⟩ := at_T56 HR1.out x19_1 p209 q209
   cases e209
   replace hx209_0 := (HB.out.cell (World.block_lt_of_cell? w _ hx209_0)).trans hx209_0;replace hx209_1 := (HB.out.cell (World.block_lt_of_cell? w _ hx209_1)).trans hx209_1;replace hx209_2 := (HB.out.cell (World.block_lt_of_cell? w _ hx209_2)).trans hx209_2;replace hx209_3 := (HB.out.cell (World.block_lt_of_cell? w _ hx209_3)).trans hx209_3;replace hx209_4 := (HB.out.cell (World.block_lt_of_cell? w _ hx209_4)).trans hx209_4;replace p209 := eq_true p209;replace q209 := eq_true q209
   go_upto_region 6 with (first | ((with_reducible refine gate_dst (N := 8) rfl ?_); refine boxL 8 56 #[.int .i64 0, .int .i64 0, .int .i64 0, .int .i64 0, .int .i64 0] ?_; intro gb210 hg w9 BK210 hb; have GW210 := gw hg (bs1 HB GE208); have GE210 := gw hg (bs1 HB GE208); replace HB := Ah (below_step (bs1 HB GE208) hb); have NB208_210 := nn BK208 hg; have NB210_208 := nm BK208 hg; replace BK208 := nb BK208 hb; clear hb hg; have hnb10 := NB210_208.out; have hnc10 := NB208_210.out; obtain ⟨hcz11_0, hcz11_1, hcz11_2, hcz11_3, hcz11_4⟩ := cz5 BK210; obtain ⟨hfz11_0, hfz11_1, hfz11_2, hfz11_3, hfz11_4⟩ := fz5 BK210))
   (try simp only [Act.put, List.setIfInBounds_toArray, List.set_cons_zero, List.set_cons_succ])
   go_cut [43] (fun v43 wc => ∃ (kq : Nat) (x43_7 : Bool), v43 = .bool x43_7 ∧ Aside0 (spec_l12Items.j1 kq l1 x6_1 x19_1 l1 (l1.length : Int) x19_1 x43_7 a0_0 l0_1 l0_2 ((rd_T56 l1 x19_1).f0) ((rd_T56 l1 x19_1).f1) ((rd_T56 l1 x19_1).f2.f0) ((rd_T56 l1 x19_1).f2.f1) ((rd_T56 l1 x19_1).f3) = some (r1, r2)) ∧ Aside0 (kq ≤ k1) ∧ Aside0 (wc.heap[gb208]? = some (.cells #[.int .i64 a0_0, (.slice A0_1 l0_1.length c0_1), (.slice A0_2 l0_2.length c0_2)] 33 (0, 0))) ∧ Aside0 (wc.heap[gb210]? = some (.cells #[.int .i64 ((rd_T56 l1 x19_1).f0), .int .i64 ((rd_T56 l1 x19_1).f1), .int .i64 ((rd_T56 l1 x19_1).f2.f0), .int .i64 ((rd_T56 l1 x19_1).f2.f1), .int .i64 ((rd_T56 l1 x19_1).f3)] 56 (0, 0))) ∧ Aside0 (Below w.heap.size w wc))
   case first =>
    have H := HC8.out;clear HC8
    by_cases c12 : ((rd_T56 l1 x19_1).f1) = x6_1
    rotate_left
    ·
     rw [if_neg c12] at H;have c12b0 : (((rd_T56 l1 x19_1).f1) == x6_1) = false := beq_eq_false_iff_ne.mpr c12;have c12b1 : (((rd_T56 l1 x19_1).f1) != x6_1) = true := bne_iff_ne.mpr c12;(first | rw [c12b0] | (simp only [i64_w, i32_w]; rw [c12b0]) | (simp only [c12b2, Bool.not_false, Bool.not_true]) | skip);have H' := Ah H;clear H;have hnb21 := NB210_208.out;have hnc21 := NB208_210.out;obtain ⟨hcz22_0, hcz22_1, hcz22_2, hcz22_3, hcz22_4⟩ := cz5 BK210;obtain ⟨hfz22_0, hfz22_1, hfz22_2, hfz22_3, hfz22_4⟩ := fz5 BK210
     go_wp2
     go_meet
     case rel => exact ⟨_, (true), e3, H', ⟨by have := HK1.out; first | omega | exact Nat.le_refl _⟩, ⟨bf BK208 NB208_210⟩, ⟨by (with_reducible repeat (first | refine blk_drewN ?_ _ | refine blk_drew ?_ | refine blk_alloc ?_ _)); refine blk_put (cs := #[.int .i64 ((rd_T56 l1 x19_1).f0), .int .i64 ((rd_T56 l1 x19_1).f1), .int .i64 ((rd_T56 l1 x19_1).f2.f0), .int .i64 ((rd_T56 l1 x19_1).f2.f1), .int .i64 0]) ?_ 4 _ rfl; (with_reducible repeat (first | refine blk_drewN ?_ _ | refine blk_drew ?_ | refine blk_alloc ?_ _)); refine blk_put (cs := #[.int .i64 ((rd_T56 l1 x19_1).f0), .int .i64 ((rd_T56 l1 x19_1).f1), .int .i64 ((rd_T56 l1 x19_1).f2.f0), .int .i64 0, .int .i64 0]) ?_ 3 _ rfl; (with_reducible repeat (first | refine blk_drewN ?_ _ | refine blk_drew ?_ | refine blk_alloc ?_ _)); refine blk_put (cs := #[.int .i64 ((rd_T56 l1 x19_1).f0), .int .i64 ((rd_T56 l1 x19_1).f1), .int .i64 0, .int .i64 0, .int .i64 0]) ?_ 2 _ rfl; (with_reducible repeat (first | refine blk_drewN ?_ _ | refine blk_drew ?_ | refine blk_alloc ?_ _)); refine blk_put (cs := #[.int .i64 ((rd_T56 l1 x19_1).f0), .int .i64 0, .int .i64 0, .int .i64 0, .int .i64 0]) ?_ 1 _ rfl; (with_reducible repeat (first | refine blk_drewN ?_ _ | refine blk_drew ?_ | refine blk_alloc ?_ _)); refine blk_put (cs := #[.int .i64 0, .int .i64 0, .int .i64 0, .int .i64 0, .int .i64 0]) ?_ 0 _ rfl; (with_reducible repeat (first | refine blk_drewN ?_ _ | refine blk_drew ?_ | refine blk_alloc ?_ _)); exact BK210.out⟩, ⟨bs2 HB GE208 GE210⟩⟩
    rw [if_pos c12] at H;have c12b0 : (((rd_T56 l1 x19_1).f1) == x6_1) = true := beq_iff_eq.mpr c12;have c12b1 : (((rd_T56 l1 x19_1).f1) != x6_1) = false := bne_eq_false_iff_eq.mpr c12;clear c12;(first | rw [c12b0] | (simp only [i64_w, i32_w]; rw [c12b0]) | (simp only [c12b2, Bool.not_false, Bool.not_true]) | skip)
    by_cases c13 : ((rd_T56 l1 x19_1).f3) = 0
    rotate_left
    ·
     rw [if_neg c13] at H;have c13b0 : (((rd_T56 l1 x19_1).f3) == 0) = false := beq_eq_false_iff_ne.mpr c13;have c13b1 : (((rd_T56 l1 x19_1).f3) != 0) = true := bne_iff_ne.mpr c13;have H' := Ah H;clear H;have hnb19 := NB210_208.out;have hnc19 := NB208_210.out;obtain ⟨hcz20_0, hcz20_1, hcz20_2, hcz20_3, hcz20_4⟩ := cz5 BK210;obtain ⟨hfz20_0, hfz20_1, hfz20_2, hfz20_3, hfz20_4⟩ := fz5 BK210
     go_wp2
     go_meet
     case rel => exact ⟨_, (true), e3, H', ⟨by have := HK1.out; first | omega | exact Nat.le_refl _⟩, ⟨bf BK208 NB208_210⟩, ⟨by (with_reducible repeat (first | refine blk_drewN ?_ _ | refine blk_drew ?_ | refine blk_alloc ?_ _)); refine blk_put (cs := #[.int .i64 ((rd_T56 l1 x19_1).f0), .int .i64 ((rd_T56 l1 x19_1).f1), .int .i64 ((rd_T56 l1 x19_1).f2.f0), .int .i64 ((rd_T56 l1 x19_1).f2.f1), .int .i64 0]) ?_ 4 _ rfl; (with_reducible repeat (first | refine blk_drewN ?_ _ | refine blk_drew ?_ | refine blk_alloc ?_ _)); refine blk_put (cs := #[.int .i64 ((rd_T56 l1 x19_1).f0), .int .i64 ((rd_T56 l1 x19_1).f1), .int .i64 ((rd_T56 l1 x19_1).f2.f0), .int .i64 0, .int .i64 0]) ?_ 3 _ rfl; (with_reducible repeat (first | refine blk_drewN ?_ _ | refine blk_drew ?_ | refine blk_alloc ?_ _)); refine blk_put (cs := #[.int .i64 ((rd_T56 l1 x19_1).f0), .int .i64 ((rd_T56 l1 x19_1).f1), .int .i64 0, .int .i64 0, .int .i64 0]) ?_ 2 _ rfl; (with_reducible repeat (first | refine blk_drewN ?_ _ | refine blk_drew ?_ | refine blk_alloc ?_ _)); refine blk_put (cs := #[.int .i64 ((rd_T56 l1 x19_1).f0), .int .i64 0, .int .i64 0, .int .i64 0, .int .i64 0]) ?_ 1 _ rfl; (with_reducible repeat (first | refine blk_drewN ?_ _ | refine blk_drew ?_ | refine blk_alloc ?_ _)); refine blk_put (cs := #[.int .i64 0, .int .i64 0, .int .i64 0, .int .i64 0, .int .i64 0]) ?_ 0 _ rfl; (with_reducible repeat (first | refine blk_drewN ?_ _ | refine blk_drew ?_ | refine blk_alloc ?_ _)); exact BK210.out⟩, ⟨bs2 HB GE208 GE210⟩⟩
    rw [if_pos c13] at H;have c13b0 : (((rd_T56 l1 x19_1).f3) == 0) = true := beq_iff_eq.mpr c13;have c13b1 : (((rd_T56 l1 x19_1).f3) != 0) = false := bne_eq_false_iff_eq.mpr c13;clear c13;replace H := Option.bind_eq_some_iff.mp H;obtain ⟨t211, A140, H⟩ := H
    try dsimp only at H
    have A14 := Ah A140;clear A140;have H' := Ah H;clear H;have hnb15 := NB210_208.out;have hnc15 := NB208_210.out;obtain ⟨hcz16_0, hcz16_1, hcz16_2, hcz16_3, hcz16_4⟩ := cz5 BK210;obtain ⟨hfz16_0, hfz16_1, hfz16_2, hfz16_3, hfz16_4⟩ := fz5 BK210;obtain ⟨hcz17_0, hcz17_1, hcz17_2⟩ := cz3 BK208;obtain ⟨hfz17_0, hfz17_1, hfz17_2⟩ := fz3 BK208
    go_wp2_with (first | (go_at_call 44; (with_reducible refine (spec_l5Extent.calls ((rd_T56 l1 x19_1).f2.f0) ((rd_T56 l1 x19_1).f2.f1) a0_0 t211 _ A14.out).mono ?_); rintro e w18 ⟨rfl, hb⟩; replace BK208 := Ah (blk_below (bf BK208 NB208_210) hb); replace BK210 := Ah (blk_below (g := gb210) (o := .cells #[.int .i64 ((rd_T56 l1 x19_1).f0), .int .i64 ((rd_T56 l1 x19_1).f1), .int .i64 ((rd_T56 l1 x19_1).f2.f0), .int .i64 ((rd_T56 l1 x19_1).f2.f1), .int .i64 ((rd_T56 l1 x19_1).f3)] 56 (0, 0)) (by (with_reducible repeat (first | refine blk_drewN ?_ _ | refine blk_drew ?_ | refine blk_alloc ?_ _)); refine blk_put (cs := #[.int .i64 ((rd_T56 l1 x19_1).f0), .int .i64 ((rd_T56 l1 x19_1).f1), .int .i64 ((rd_T56 l1 x19_1).f2.f0), .int .i64 ((rd_T56 l1 x19_1).f2.f1), .int .i64 0]) ?_ 4 _ rfl; (with_reducible repeat (first | refine blk_drewN ?_ _ | refine blk_drew ?_ | refine blk_alloc ?_ _)); refine blk_put (cs := #[.int .i64 ((rd_T56 l1 x19_1).f0), .int .i64 ((rd_T56 l1 x19_1).f1), .int .i64 ((rd_T56 l1 x19_1).f2.f0), .int .i64 0, .int .i64 0]) ?_ 3 _ rfl; (with_reducible repeat (first | refine blk_drewN ?_ _ | refine blk_drew ?_ | refine blk_alloc ?_ _)); refine blk_put (cs := #[.int .i64 ((rd_T56 l1 x19_1).f0), .int .i64 ((rd_T56 l1 x19_1).f1), .int .i64 0, .int .i64 0, .int .i64 0]) ?_ 2 _ rfl; (with_reducible repeat (first | refine blk_drewN ?_ _ | refine blk_drew ?_ | refine blk_alloc ?_ _)); refine blk_put (cs := #[.int .i64 ((rd_T56 l1 x19_1).f0), .int .i64 0, .int .i64 0, .int .i64 0, .int .i64 0]) ?_ 1 _ rfl; (with_reducible repeat (first | refine blk_drewN ?_ _ | refine blk_drew ?_ | refine blk_alloc ?_ _)); refine blk_put (cs := #[.int .i64 0, .int .i64 0, .int .i64 0, .int .i64 0, .int .i64 0]) ?_ 0 _ rfl; (with_reducible repeat (first | refine blk_drewN ?_ _ | refine blk_drew ?_ | refine blk_alloc ?_ _)); exact BK210.out) hb); replace HB := Ah (below_step (bs2 HB GE208 GE210) hb); (try clear hb)))
    go_meet
    case rel => exact ⟨_, (!t211), e3, H', ⟨by have := HK1.out; first | omega | exact Nat.le_refl _⟩, ⟨bk BK208⟩, ⟨bk BK210⟩, ⟨bs2 HB GE208 GE210⟩⟩
   case rest =>
    clear HC8
    try clear c1
    try clear c2
    try clear p2
    try clear q2
    try clear hx2
    try clear c4
    try clear c4b0
    try clear c5
    try clear c5b0
    try clear c6
    try clear c6b0
    try clear c7
    try clear c7b0
    try clear c7b1
    try clear c10
    try clear c12
    try clear c12b0
    try clear c12b1
    try clear c13
    try clear c13b0
    try clear c13b1
    try clear c15
    try clear c19
    try clear p20
    try clear q20
    try clear hx20
    try clear c21
    try clear hcz11_0 hcz11_1 hcz11_2 hcz11_3 hcz11_4
    try clear hcz16_0 hcz16_1 hcz16_2 hcz16_3 hcz16_4
    try clear hcz17_0 hcz17_1 hcz17_2
    try clear hcz20_0 hcz20_1 hcz20_2 hcz20_3 hcz20_4
    try clear hcz22_0 hcz22_1 hcz22_2 hcz22_3 hcz22_4
    try clear hfz11_0 hfz11_1 hfz11_2 hfz11_3 hfz11_4
    try clear hfz16_0 hfz16_1 hfz16_2 hfz16_3 hfz16_4
    try clear hfz17_0 hfz17_1 hfz17_2
    try clear hfz20_0 hfz20_1 hfz20_2 hfz20_3 hfz20_4
    try clear hfz22_0 hfz22_1 hfz22_2 hfz22_3 hfz22_4
    try clear hx209_0
    try clear hx209_1
    try clear hx209_2
    try clear hx209_3
    try clear hx209_4
    try clear p2
    try clear p209
    try clear q209
    obtain ⟨kq, x43_7, rfl, HA, HJ7, BK208, BK210, HB⟩ := hcut
    cases kq with
    | zero => exact absurd HA.out (by simp [spec_l12Items.j1])
    | succ kj7 =>
     have H := HA.out;clear HA;simp only [spec_l12Items.j1] at H
     by_cases c23 : x43_7 = true
     ·
      subst c23;rw [if_pos rfl] at H;simp only [Option.some.injEq, Prod.mk.injEq] at H;obtain ⟨rfl, rfl⟩ := H
      go_wp2
      go_ret2
      exact ⟨er, bs2 HB GE208 GE210⟩
     replace c23 := Bool.eq_false_iff.mpr c23;subst c23;rw [if_neg fne] at H
     by_cases c24 : 0 ≤ x19_1
     rotate_left
     ·
      rw [if_neg c24] at H;exact absurd H (by simp)
     rw [if_pos c24] at H;have c24b0 := eq_true c24;have c24b1 : decide (0 ≤ x19_1) = true := decide_eq_true c24;clear c24
     by_cases c25 : x19_1 ≤ (l1.length : Int)
     rotate_left
     ·
      rw [if_neg c25] at H;exact absurd H (by simp)
     rw [if_pos c25] at H;have c25b0 := eq_true c25;have c25b1 : decide (x19_1 ≤ (l1.length : Int)) = true := decide_eq_true c25;clear c25;obtain ⟨y212, hy212⟩ : ∃ y_ : List (S56), y_ = (l1.take (x19_1 : Int).toNat) := ⟨_, rfl⟩
     replace H : (spec_l12Items.l1 kj7 l1 x6_1 l1 (l1.length : Int) x19_1 y212 (y212.length : Int) 0 a0_0 l0_1 l0_2 ((rd_T56 l1 x19_1).f0) ((rd_T56 l1 x19_1).f1) ((rd_T56 l1 x19_1).f2.f0) ((rd_T56 l1 x19_1).f2.f1) ((rd_T56 l1 x19_1).f3)) = some (r1, r2) := by first | (rw [hy212]; with_reducible exact H) | (have H2_ := (Option.bind_some _ _).symm.trans H; rw [hy212]; with_reducible exact H2_) | (have H2_ := (Option.bind_some _ _).symm.trans H; with_reducible exact H2_) | with_reducible exact H | (rw [hy212]; exact H) | exact H
     have Ny212 := Ah hy212;clear hy212;have H' := Ah H;clear H;have q26 : (x19_1 : Int) ≤ ((l1.length : Int) : Int) := od;obtain ⟨i026, hi026, _, hsz26, _⟩ := info_parts info56;have hroom26 : l1.length ≤ c1 := HC1.out;have hC26 : Kd.C k56 _ (some ad209) l1.length l1 := HR1.out;have hcut26 := cut_to (P := Try.prog) 34 56 .i64 Try.underlying34 hi026 (some ad209) l1.length c1 x19_1 (od) q26 hroom26;have hr26 := Kd.C_take (m := (x19_1 : Int).toNat) hC26 (by omega);have hy26 : y212.length = (x19_1 : Int).toNat := (by rw [Ny212.out, List.length_take]; omega);rw [← Ny212.out] at hr26;rw [← hy26] at hcut26;have HR215 := Ah hr26;have HC215 := Ah (show y212.length ≤ c1 from by omega);clear hr26 hC26 hroom26 hi026 hsz26;have KY26 := Ah hy26;clear hy26;replace q26 := eq_true q26
     go_wp2
     go_loopg [48] kj7 (fun kq v48 w' => ∃ (x48_3 : Int), v48 = .int .i64 x48_3 ∧ Aside0 (spec_l12Items.l1 kq l1 x6_1 l1 (l1.length : Int) x19_1 y212 (y212.length : Int) x48_3 a0_0 l0_1 l0_2 ((rd_T56 l1 x19_1).f0) ((rd_T56 l1 x19_1).f1) ((rd_T56 l1 x19_1).f2.f0) ((rd_T56 l1 x19_1).f2.f1) ((rd_T56 l1 x19_1).f3) = some (r1, r2)) ∧ Aside0 (kq ≤ kj7) ∧ Aside0 (w'.heap[gb208]? = some (.cells #[.int .i64 a0_0, (.slice A0_1 l0_1.length c0_1), (.slice A0_2 l0_2.length c0_2)] 33 (0, 0))) ∧ Aside0 (w'.heap[gb210]? = some (.cells #[.int .i64 ((rd_T56 l1 x19_1).f0), .int .i64 ((rd_T56 l1 x19_1).f1), .int .i64 ((rd_T56 l1 x19_1).f2.f0), .int .i64 ((rd_T56 l1 x19_1).f2.f1), .int .i64 ((rd_T56 l1 x19_1).f3)] 56 (0, 0))) ∧ Aside0 (Below w.heap.size w w'))
     case atStart => exact ⟨(0), e3, H', ⟨Nat.le_refl _⟩, ⟨bk BK208⟩, ⟨bk BK210⟩, ⟨bs2 HB GE208 GE210⟩⟩
     case round =>
      clear H'
      try clear c1
      try clear c2
      try clear p2
      try clear q2
      try clear hx2
      try clear c4
      try clear c4b0
      try clear c5
      try clear c5b0
      try clear c6
      try clear c6b0
      try clear c7
      try clear c7b0
      try clear c7b1
      try clear c10
      try clear c12
      try clear c12b0
      try clear c12b1
      try clear c13
      try clear c13b0
      try clear c13b1
      try clear c15
      try clear c19
      try clear p20
      try clear q20
      try clear hx20
      try clear c21
      try clear c23
      try clear c24
      try clear c24b0
      try clear c24b1
      try clear c25
      try clear c25b0
      try clear c25b1
      try clear q26
      try clear hcz11_0 hcz11_1 hcz11_2 hcz11_3 hcz11_4
      try clear hcz16_0 hcz16_1 hcz16_2 hcz16_3 hcz16_4
      try clear hcz17_0 hcz17_1 hcz17_2
      try clear hcz20_0 hcz20_1 hcz20_2 hcz20_3 hcz20_4
      try clear hcz22_0 hcz22_1 hcz22_2 hcz22_3 hcz22_4
      try clear hfz11_0 hfz11_1 hfz11_2 hfz11_3 hfz11_4
      try clear hfz16_0 hfz16_1 hfz16_2 hfz16_3 hfz16_4
      try clear hfz17_0 hfz17_1 hfz17_2
      try clear hfz20_0 hfz20_1 hfz20_2 hfz20_3 hfz20_4
      try clear hfz22_0 hfz22_1 hfz22_2 hfz22_3 hfz22_4
      try clear hx209_0
      try clear hx209_1
      try clear hx209_2
      try clear hx209_3
      try clear hx209_4
      try clear p2
      try clear p20
      try clear p209
      try clear q2
      try clear q20
      try clear q209
      try clear q26
      obtain ⟨x48_3, rfl, HA, HK3, BK208, BK210, HB⟩ := hrel
      cases gk with
      | zero => exact absurd HA.out (by simp [spec_l12Items.l1])
      | succ k3 =>
       have H := HA.out;clear HA;simp only [spec_l12Items.l1] at H
       by_cases c27 : x48_3 < (y212.length : Int)
       ·
        rw [if_pos c27] at H;have c27b0 : decide (x48_3 < (y212.length : Int)) = true := decide_eq_true c27;clear c27
        by_cases c28 : 0 ≤ x48_3
        rotate_left
        ·
         rw [if_neg c28] at H;exact absurd H (by simp)
        rw [if_pos c28] at H;have c28b0 : decide (0 ≤ x48_3) = true := decide_eq_true c28;clear c28
        by_cases c29 : x48_3 < (y212.length : Int)
        rotate_left
        ·
         rw [if_neg c29] at H;exact absurd H (by simp)
        rw [if_pos c29] at H;have c29b0 : decide (x48_3 < (y212.length : Int)) = true := decide_eq_true c29;clear c29
        by_cases c30 : ((rd_T56 y212 x48_3).f0) = 1
        rotate_left
        ·
         rw [if_neg c30] at H;have c30b0 : (((rd_T56 y212 x48_3).f0) == 1) = false := beq_eq_false_iff_ne.mpr c30;have c30b1 : (((rd_T56 y212 x48_3).f0) != 1) = true := bne_iff_ne.mpr c30;have H' := Ah H;clear H;have p216 : 0 ≤ (x48_3 : Int) := od;have q216 : x48_3 < (y212.length : Int) := od;obtain ⟨ad216, e216, hx216_0, hx216_1, hx216_2, hx216_3, hx216_4⟩ := at_T56 HR215.out x48_3 p216 q216;obtain rfl : ad209 = ad216 := (by injection e216);replace hx216_0 := (HB.out.cell (World.block_lt_of_cell? w _ hx216_0)).trans hx216_0;replace hx216_1 := (HB.out.cell (World.block_lt_of_cell? w _ hx216_1)).trans hx216_1;replace hx216_2 := (HB.out.cell (World.block_lt_of_cell? w _ hx216_2)).trans hx216_2;replace hx216_3 := (HB.out.cell (World.block_lt_of_cell? w _ hx216_3)).trans hx216_3;replace hx216_4 := (HB.out.cell (World.block_lt_of_cell? w _ hx216_4)).trans hx216_4;replace p216 := eq_true p216;replace q216 := eq_true q216
         go_wp2_with (first | ((with_reducible refine gate_dst (N := 10) rfl ?_); refine boxL 10 56 #[.int .i64 0, .int .i64 0, .int .i64 0, .int .i64 0, .int .i64 0] ?_; intro gb217 hg w47 BK217 hb; have GW217 := gw hg (bs2 HB GE208 GE210); have GE217 := gw hg (bs2 HB GE208 GE210); replace HB := Ah (below_step (bs2 HB GE208 GE210) hb); have NB208_217 := nn BK208 hg; have NB217_208 := nm BK208 hg; replace BK208 := nb BK208 hb; have NB210_217 := nn BK210 hg; have NB217_210 := nm BK210 hg; replace BK210 := nb BK210 hb; clear hb hg; have hnb48 := NB217_208.out; have hnc48 := NB208_217.out; have hnb49 := NB217_210.out; have hnc49 := NB210_217.out; obtain ⟨hcz50_0, hcz50_1, hcz50_2, hcz50_3, hcz50_4⟩ := cz5 BK217; obtain ⟨hfz50_0, hfz50_1, hfz50_2, hfz50_3, hfz50_4⟩ := fz5 BK217))
         go_roundg k3
         case measure => have := HK1.out; have := HJ7.out; have := HK3.out; omega
         case rel => exact ⟨(wrap64 (x48_3 + 1)), e3, H', ⟨by have := HK1.out; have := HJ7.out; have := HK3.out; omega⟩, ⟨bf BK208 NB208_217⟩, ⟨bf BK210 NB210_217⟩, ⟨bs3 HB GE208 GE210 GE217⟩⟩
        rw [if_pos c30] at H;have c30b0 : (((rd_T56 y212 x48_3).f0) == 1) = true := beq_iff_eq.mpr c30;have c30b1 : (((rd_T56 y212 x48_3).f0) != 1) = false := bne_eq_false_iff_eq.mpr c30;clear c30;replace H := Option.bind_eq_some_iff.mp H;obtain ⟨t218, A310, H⟩ := H
        try dsimp only at H
        have A31 := Ah A310;clear A310
        by_cases c32 : t218 = true
        ·
         subst c32;rw [if_pos rfl] at H;simp only [Option.some.injEq, Prod.mk.injEq] at H;obtain ⟨rfl, rfl⟩ := H;have p216 : 0 ≤ (x48_3 : Int) := od;have q216 : x48_3 < (y212.length : Int) := od;obtain ⟨ad216, e216, hx216_0, hx216_1, hx216_2, hx216_3, hx216_4⟩ := at_T56 HR215.out x48_3 p216 q216;obtain rfl : ad209 = ad216 := (by injection e216);replace hx216_0 := (HB.out.cell (World.block_lt_of_cell? w _ hx216_0)).trans hx216_0;replace hx216_1 := (HB.out.cell (World.block_lt_of_cell? w _ hx216_1)).trans hx216_1;replace hx216_2 := (HB.out.cell (World.block_lt_of_cell? w _ hx216_2)).trans hx216_2;replace hx216_3 := (HB.out.cell (World.block_lt_of_cell? w _ hx216_3)).trans hx216_3;replace hx216_4 := (HB.out.cell (World.block_lt_of_cell? w _ hx216_4)).trans hx216_4;replace p216 := eq_true p216;replace q216 := eq_true q216
         go_wp2_with (first | ((with_reducible refine gate_dst (N := 10) rfl ?_); refine boxL 10 56 #[.int .i64 0, .int .i64 0, .int .i64 0, .int .i64 0, .int .i64 0] ?_; intro gb217 hg w33 BK217 hb; have GW217 := gw hg (bs2 HB GE208 GE210); have GE217 := gw hg (bs2 HB GE208 GE210); replace HB := Ah (below_step (bs2 HB GE208 GE210) hb); have NB208_217 := nn BK208 hg; have NB217_208 := nm BK208 hg; replace BK208 := nb BK208 hb; have NB210_217 := nn BK210 hg; have NB217_210 := nm BK210 hg; replace BK210 := nb BK210 hb; clear hb hg; have hnb34 := NB217_208.out; have hnc34 := NB208_217.out; have hnb35 := NB217_210.out; have hnc35 := NB210_217.out; obtain ⟨hcz36_0, hcz36_1, hcz36_2, hcz36_3, hcz36_4⟩ := cz5 BK217; obtain ⟨hfz36_0, hfz36_1, hfz36_2, hfz36_3, hfz36_4⟩ := fz5 BK217; have hnb37 := NB210_208.out; have hnc37 := NB208_210.out; obtain ⟨hcz38_0, hcz38_1, hcz38_2, hcz38_3, hcz38_4⟩ := cz5 BK210; obtain ⟨hfz38_0, hfz38_1, hfz38_2, hfz38_3, hfz38_4⟩ := fz5 BK210) | (go_at_call 45; (with_reducible refine (spec_l12Overlap.calls ((rd_T56 y212 x48_3).f2.f0) ((rd_T56 y212 x48_3).f2.f1) ((rd_T56 l1 x19_1).f2.f0) ((rd_T56 l1 x19_1).f2.f1) true _ A31.out).mono ?_); rintro e w39 ⟨rfl, hb⟩; replace BK208 := Ah (blk_below (bf BK208 NB208_217) hb); replace BK210 := Ah (blk_below (bf BK210 NB210_217) hb); replace BK217 := Ah (blk_below (g := gb217) (o := .cells #[.int .i64 ((rd_T56 y212 x48_3).f0), .int .i64 ((rd_T56 y212 x48_3).f1), .int .i64 ((rd_T56 y212 x48_3).f2.f0), .int .i64 ((rd_T56 y212 x48_3).f2.f1), .int .i64 ((rd_T56 y212 x48_3).f3)] 56 (0, 0)) (by (with_reducible repeat (first | refine blk_drewN ?_ _ | refine blk_drew ?_ | refine blk_alloc ?_ _)); refine blk_put (cs := #[.int .i64 ((rd_T56 y212 x48_3).f0), .int .i64 ((rd_T56 y212 x48_3).f1), .int .i64 ((rd_T56 y212 x48_3).f2.f0), .int .i64 ((rd_T56 y212 x48_3).f2.f1), .int .i64 0]) ?_ 4 _ rfl; (with_reducible repeat (first | refine blk_drewN ?_ _ | refine blk_drew ?_ | refine blk_alloc ?_ _)); refine blk_put (cs := #[.int .i64 ((rd_T56 y212 x48_3).f0), .int .i64 ((rd_T56 y212 x48_3).f1), .int .i64 ((rd_T56 y212 x48_3).f2.f0), .int .i64 0, .int .i64 0]) ?_ 3 _ rfl; (with_reducible repeat (first | refine blk_drewN ?_ _ | refine blk_drew ?_ | refine blk_alloc ?_ _)); refine blk_put (cs := #[.int .i64 ((rd_T56 y212 x48_3).f0), .int .i64 ((rd_T56 y212 x48_3).f1), .int .i64 0, .int .i64 0, .int .i64 0]) ?_ 2 _ rfl; (with_reducible repeat (first | refine blk_drewN ?_ _ | refine blk_drew ?_ | refine blk_alloc ?_ _)); refine blk_put (cs := #[.int .i64 ((rd_T56 y212 x48_3).f0), .int .i64 0, .int .i64 0, .int .i64 0, .int .i64 0]) ?_ 1 _ rfl; (with_reducible repeat (first | refine blk_drewN ?_ _ | refine blk_drew ?_ | refine blk_alloc ?_ _)); refine blk_put (cs := #[.int .i64 0, .int .i64 0, .int .i64 0, .int .i64 0, .int .i64 0]) ?_ 0 _ rfl; (with_reducible repeat (first | refine blk_drewN ?_ _ | refine blk_drew ?_ | refine blk_alloc ?_ _)); exact BK217.out) hb); replace HB := Ah (below_step (bs3 HB GE208 GE210 GE217) hb); (try clear hb)))
         go_ret2
         exact ⟨er, bs3 HB GE208 GE210 GE217⟩
        replace c32 := Bool.eq_false_iff.mpr c32;subst c32;rw [if_neg fne] at H;have H' := Ah H;clear H;have p216 : 0 ≤ (x48_3 : Int) := od;have q216 : x48_3 < (y212.length : Int) := od;obtain ⟨ad216, e216, hx216_0, hx216_1, hx216_2, hx216_3, hx216_4⟩ := at_T56 HR215.out x48_3 p216 q216;obtain rfl : ad209 = ad216 := (by injection e216);replace hx216_0 := (HB.out.cell (World.block_lt_of_cell? w _ hx216_0)).trans hx216_0;replace hx216_1 := (HB.out.cell (World.block_lt_of_cell? w _ hx216_1)).trans hx216_1;replace hx216_2 := (HB.out.cell (World.block_lt_of_cell? w _ hx216_2)).trans hx216_2;replace hx216_3 := (HB.out.cell (World.block_lt_of_cell? w _ hx216_3)).trans hx216_3;replace hx216_4 := (HB.out.cell (World.block_lt_of_cell? w _ hx216_4)).trans hx216_4;replace p216 := eq_true p216;replace q216 := eq_true q216
        go_wp2_with (first | ((with_reducible refine gate_dst (N := 10) rfl ?_); refine boxL 10 56 #[.int .i64 0, .int .i64 0, .int .i64 0, .int .i64 0, .int .i64 0] ?_; intro gb217 hg w40 BK217 hb; have GW217 := gw hg (bs2 HB GE208 GE210); have GE217 := gw hg (bs2 HB GE208 GE210); replace HB := Ah (below_step (bs2 HB GE208 GE210) hb); have NB208_217 := nn BK208 hg; have NB217_208 := nm BK208 hg; replace BK208 := nb BK208 hb; have NB210_217 := nn BK210 hg; have NB217_210 := nm BK210 hg; replace BK210 := nb BK210 hb; clear hb hg; have hnb41 := NB217_208.out; have hnc41 := NB208_217.out; have hnb42 := NB217_210.out; have hnc42 := NB210_217.out; obtain ⟨hcz43_0, hcz43_1, hcz43_2, hcz43_3, hcz43_4⟩ := cz5 BK217; obtain ⟨hfz43_0, hfz43_1, hfz43_2, hfz43_3, hfz43_4⟩ := fz5 BK217; have hnb44 := NB210_208.out; have hnc44 := NB208_210.out; obtain ⟨hcz45_0, hcz45_1, hcz45_2, hcz45_3, hcz45_4⟩ := cz5 BK210; obtain ⟨hfz45_0, hfz45_1, hfz45_2, hfz45_3, hfz45_4⟩ := fz5 BK210) | (go_at_call 45; (with_reducible refine (spec_l12Overlap.calls ((rd_T56 y212 x48_3).f2.f0) ((rd_T56 y212 x48_3).f2.f1) ((rd_T56 l1 x19_1).f2.f0) ((rd_T56 l1 x19_1).f2.f1) false _ A31.out).mono ?_); rintro e w46 ⟨rfl, hb⟩; replace BK208 := Ah (blk_below (bf BK208 NB208_217) hb); replace BK210 := Ah (blk_below (bf BK210 NB210_217) hb); replace BK217 := Ah (blk_below (g := gb217) (o := .cells #[.int .i64 ((rd_T56 y212 x48_3).f0), .int .i64 ((rd_T56 y212 x48_3).f1), .int .i64 ((rd_T56 y212 x48_3).f2.f0), .int .i64 ((rd_T56 y212 x48_3).f2.f1), .int .i64 ((rd_T56 y212 x48_3).f3)] 56 (0, 0)) (by (with_reducible repeat (first | refine blk_drewN ?_ _ | refine blk_drew ?_ | refine blk_alloc ?_ _)); refine blk_put (cs := #[.int .i64 ((rd_T56 y212 x48_3).f0), .int .i64 ((rd_T56 y212 x48_3).f1), .int .i64 ((rd_T56 y212 x48_3).f2.f0), .int .i64 ((rd_T56 y212 x48_3).f2.f1), .int .i64 0]) ?_ 4 _ rfl; (with_reducible repeat (first | refine blk_drewN ?_ _ | refine blk_drew ?_ | refine blk_alloc ?_ _)); refine blk_put (cs := #[.int .i64 ((rd_T56 y212 x48_3).f0), .int .i64 ((rd_T56 y212 x48_3).f1), .int .i64 ((rd_T56 y212 x48_3).f2.f0), .int .i64 0, .int .i64 0]) ?_ 3 _ rfl; (with_reducible repeat (first | refine blk_drewN ?_ _ | refine blk_drew ?_ | refine blk_alloc ?_ _)); refine blk_put (cs := #[.int .i64 ((rd_T56 y212 x48_3).f0), .int .i64 ((rd_T56 y212 x48_3).f1), .int .i64 0, .int .i64 0, .int .i64 0]) ?_ 2 _ rfl; (with_reducible repeat (first | refine blk_drewN ?_ _ | refine blk_drew ?_ | refine blk_alloc ?_ _)); refine blk_put (cs := #[.int .i64 ((rd_T56 y212 x48_3).f0), .int .i64 0, .int .i64 0, .int .i64 0, .int .i64 0]) ?_ 1 _ rfl; (with_reducible repeat (first | refine blk_drewN ?_ _ | refine blk_drew ?_ | refine blk_alloc ?_ _)); refine blk_put (cs := #[.int .i64 0, .int .i64 0, .int .i64 0, .int .i64 0, .int .i64 0]) ?_ 0 _ rfl; (with_reducible repeat (first | refine blk_drewN ?_ _ | refine blk_drew ?_ | refine blk_alloc ?_ _)); exact BK217.out) hb); replace HB := Ah (below_step (bs3 HB GE208 GE210 GE217) hb); (try clear hb)))
        go_roundg k3
        case measure => have := HK1.out; have := HJ7.out; have := HK3.out; omega
        case rel => exact ⟨(wrap64 (x48_3 + 1)), e3, H', ⟨by have := HK1.out; have := HJ7.out; have := HK3.out; omega⟩, ⟨bk BK208⟩, ⟨bk BK210⟩, ⟨bs3 HB GE208 GE210 GE217⟩⟩
       rw [if_neg c27] at H;have c27b0 : decide (x48_3 < (y212.length : Int)) = false := decide_eq_false c27;clear c27;have H' := Ah H;clear H;have hnb51 := NB208_210.out;have hnc51 := NB210_208.out;obtain ⟨hcz52_0, hcz52_1, hcz52_2⟩ := cz3 BK208;obtain ⟨hfz52_0, hfz52_1, hfz52_2⟩ := fz3 BK208
       go_wp2
       go_loopg [66] k3 (fun kq v66 w' => ∃ (x66_4 : Int), v66 = .int .i64 x66_4 ∧ Aside0 (spec_l12Items.l2 kq l1 x6_1 l1 (l1.length : Int) x19_1 l0_1 (l0_1.length : Int) x66_4 a0_0 l0_1 l0_2 ((rd_T56 l1 x19_1).f0) ((rd_T56 l1 x19_1).f1) ((rd_T56 l1 x19_1).f2.f0) ((rd_T56 l1 x19_1).f2.f1) ((rd_T56 l1 x19_1).f3) = some (r1, r2)) ∧ Aside0 (kq ≤ k3) ∧ Aside0 (w'.heap[gb208]? = some (.cells #[.int .i64 a0_0, (.slice A0_1 l0_1.length c0_1), (.slice A0_2 l0_2.length c0_2)] 33 (0, 0))) ∧ Aside0 (w'.heap[gb210]? = some (.cells #[.int .i64 ((rd_T56 l1 x19_1).f0), .int .i64 ((rd_T56 l1 x19_1).f1), .int .i64 ((rd_T56 l1 x19_1).f2.f0), .int .i64 ((rd_T56 l1 x19_1).f2.f1), .int .i64 ((rd_T56 l1 x19_1).f3)] 56 (0, 0))) ∧ Aside0 (Below w.heap.size w w'))
       case atStart => exact ⟨(0), e3, H', ⟨Nat.le_refl _⟩, ⟨bk BK208⟩, ⟨bk BK210⟩, ⟨bs2 HB GE208 GE210⟩⟩
       case round =>
        clear H'
        try clear c1
        try clear c2
        try clear p2
        try clear q2
        try clear hx2
        try clear c3
        try clear c4
        try clear c4b0
        try clear c5
        try clear c5b0
        try clear c6
        try clear c6b0
        try clear p6
        try clear c7
        try clear c7b0
        try clear c7b1
        try clear c10
        try clear c12
        try clear c12b0
        try clear c12b1
        try clear c13
        try clear c13b0
        try clear c13b1
        try clear c15
        try clear c19
        try clear p20
        try clear q20
        try clear hx20
        try clear c21
        try clear p21
        try clear q21
        try clear hx21
        try clear c23
        try clear c24
        try clear c24b0
        try clear c24b1
        try clear c25
        try clear c25b0
        try clear c25b1
        try clear q26
        try clear c27
        try clear c27b0
        try clear c28
        try clear c28b0
        try clear c29
        try clear c29b0
        try clear c30
        try clear c30b0
        try clear c30b1
        try clear c32
        try clear c34
        try clear c35
        try clear c37
        try clear c41
        try clear c42
        try clear c44
        try clear c48
        try clear c49
        try clear c51
        try clear hcz11_0 hcz11_1 hcz11_2 hcz11_3 hcz11_4
        try clear hcz16_0 hcz16_1 hcz16_2 hcz16_3 hcz16_4
        try clear hcz17_0 hcz17_1 hcz17_2
        try clear hcz20_0 hcz20_1 hcz20_2 hcz20_3 hcz20_4
        try clear hcz22_0 hcz22_1 hcz22_2 hcz22_3 hcz22_4
        try clear hcz36_0 hcz36_1 hcz36_2 hcz36_3 hcz36_4
        try clear hcz38_0 hcz38_1 hcz38_2 hcz38_3 hcz38_4
        try clear hcz43_0 hcz43_1 hcz43_2 hcz43_3 hcz43_4
        try clear hcz45_0 hcz45_1 hcz45_2 hcz45_3 hcz45_4
        try clear hcz50_0 hcz50_1 hcz50_2 hcz50_3 hcz50_4
        try clear hcz52_0 hcz52_1 hcz52_2
        try clear hfz11_0 hfz11_1 hfz11_2 hfz11_3 hfz11_4
        try clear hfz16_0 hfz16_1 hfz16_2 hfz16_3 hfz16_4
        try clear hfz17_0 hfz17_1 hfz17_2
        try clear hfz20_0 hfz20_1 hfz20_2 hfz20_3 hfz20_4
        try clear hfz22_0 hfz22_1 hfz22_2 hfz22_3 hfz22_4
        try clear hfz36_0 hfz36_1 hfz36_2 hfz36_3 hfz36_4
        try clear hfz38_0 hfz38_1 hfz38_2 hfz38_3 hfz38_4
        try clear hfz43_0 hfz43_1 hfz43_2 hfz43_3 hfz43_4
        try clear hfz45_0 hfz45_1 hfz45_2 hfz45_3 hfz45_4
        try clear hfz50_0 hfz50_1 hfz50_2 hfz50_3 hfz50_4
        try clear hfz52_0 hfz52_1 hfz52_2
        try clear hx209_0
        try clear hx209_1
        try clear hx209_2
        try clear hx209_3
        try clear hx209_4
        try clear hx216_0
        try clear hx216_1
        try clear hx216_2
        try clear hx216_3
        try clear hx216_4
        try clear p2
        try clear p20
        try clear p209
        try clear p216
        try clear q2
        try clear q20
        try clear q209
        try clear q216
        try clear q26
        obtain ⟨x66_4, rfl, HA, HK4, BK208, BK210, HB⟩ := hrel
        cases gk with
        | zero => exact absurd HA.out (by simp [spec_l12Items.l2])
        | succ k4 =>
         have H := HA.out;clear HA;simp only [spec_l12Items.l2] at H
         by_cases c53 : x66_4 < (l0_1.length : Int)
         rotate_left
         ·
          rw [if_neg c53] at H;have c53b0 : decide (x66_4 < (l0_1.length : Int)) = false := decide_eq_false c53;clear c53;have H' := Ah H;clear H
          go_wp2
          go_roundg k4
          case measure => have := HK1.out; have := HJ7.out; have := HK3.out; have := HK4.out; omega
          case rel => exact ⟨(wrap64 (x6_1 + 1)), (wrap64 (x19_1 + 1)), e3, e3, H', ⟨by have := HK1.out; have := HJ7.out; have := HK3.out; have := HK4.out; omega⟩, ⟨bk BK208⟩, ⟨bs2 HB GE208 GE210⟩⟩
         rw [if_pos c53] at H;have c53b0 : decide (x66_4 < (l0_1.length : Int)) = true := decide_eq_true c53;clear c53
         by_cases c54 : 0 ≤ x66_4
         rotate_left
         ·
          rw [if_neg c54] at H;exact absurd H (by simp)
         rw [if_pos c54] at H;have c54b0 : decide (0 ≤ x66_4) = true := decide_eq_true c54;clear c54
         by_cases c55 : x66_4 < (l0_1.length : Int)
         rotate_left
         ·
          rw [if_neg c55] at H;exact absurd H (by simp)
         rw [if_pos c55] at H;have c55b0 : decide (x66_4 < (l0_1.length : Int)) = true := decide_eq_true c55;clear c55;replace H := Option.bind_eq_some_iff.mp H;obtain ⟨t221, A560, H⟩ := H
         try dsimp only at H
         have A56 := Ah A560;clear A560
         by_cases c57 : t221 = true
         ·
          subst c57;rw [if_pos rfl] at H;simp only [Option.some.injEq, Prod.mk.injEq] at H;obtain ⟨rfl, rfl⟩ := H;have p219 : 0 ≤ (x66_4 : Int) := od;have q219 : x66_4 < (l0_1.length : Int) := od;obtain ⟨ad219, e219, hx219_0, hx219_1⟩ := at_T40 HR0_1.out x66_4 p219 q219
          cases e219
          replace hx219_0 := (HB.out.cell (World.block_lt_of_cell? w _ hx219_0)).trans hx219_0;replace hx219_1 := (HB.out.cell (World.block_lt_of_cell? w _ hx219_1)).trans hx219_1;replace p219 := eq_true p219;replace q219 := eq_true q219
          go_wp2_with (first | ((with_reducible refine gate_dst (N := 12) rfl ?_); refine boxL 12 40 #[.int .i64 0, .int .i64 0] ?_; intro gb220 hg w58 BK220 hb; have GW220 := gw hg (bs2 HB GE208 GE210); have GE220 := gw hg (bs2 HB GE208 GE210); replace HB := Ah (below_step (bs2 HB GE208 GE210) hb); have NB208_220 := nn BK208 hg; have NB220_208 := nm BK208 hg; replace BK208 := nb BK208 hb; have NB210_220 := nn BK210 hg; have NB220_210 := nm BK210 hg; replace BK210 := nb BK210 hb; clear hb hg; have hnb59 := NB220_208.out; have hnc59 := NB208_220.out; have hnb60 := NB220_210.out; have hnc60 := NB210_220.out; obtain ⟨hcz61_0, hcz61_1⟩ := cz2 BK220; obtain ⟨hfz61_0, hfz61_1⟩ := fz2 BK220; have hnb62 := NB210_208.out; have hnc62 := NB208_210.out; obtain ⟨hcz63_0, hcz63_1, hcz63_2, hcz63_3, hcz63_4⟩ := cz5 BK210; obtain ⟨hfz63_0, hfz63_1, hfz63_2, hfz63_3, hfz63_4⟩ := fz5 BK210) | ((with_reducible refine gate_callee (f := 45) rfl ?_); refine gL (some 73) rfl rfl Try.func45 (by kernel_rfl) rfl #[.agg #[.int .i64 ((rd_T40 l0_1 x66_4).f0), .int .i64 ((rd_T40 l0_1 x66_4).f1)], .agg #[.int .i64 ((rd_T56 l1 x19_1).f2.f0), .int .i64 ((rd_T56 l1 x19_1).f2.f1)]] rfl ?_; (with_reducible refine (spec_l12Overlap.calls ((rd_T40 l0_1 x66_4).f0) ((rd_T40 l0_1 x66_4).f1) ((rd_T56 l1 x19_1).f2.f0) ((rd_T56 l1 x19_1).f2.f1) true _ A56.out).mono ?_); rintro e w64 ⟨rfl, hb⟩; refine ⟨_, rfl, ?_⟩; replace BK208 := Ah (blk_below (bf BK208 NB208_220) hb); replace BK210 := Ah (blk_below (bf BK210 NB210_220) hb); replace BK220 := Ah (blk_below (g := gb220) (o := .cells #[.int .i64 ((rd_T40 l0_1 x66_4).f0), .int .i64 ((rd_T40 l0_1 x66_4).f1)] 40 (0, 0)) (by (with_reducible repeat (first | refine blk_drewN ?_ _ | refine blk_drew ?_ | refine blk_alloc ?_ _)); refine blk_put (cs := #[.int .i64 ((rd_T40 l0_1 x66_4).f0), .int .i64 0]) ?_ 1 _ rfl; (with_reducible repeat (first | refine blk_drewN ?_ _ | refine blk_drew ?_ | refine blk_alloc ?_ _)); refine blk_put (cs := #[.int .i64 0, .int .i64 0]) ?_ 0 _ rfl; (with_reducible repeat (first | refine blk_drewN ?_ _ | refine blk_drew ?_ | refine blk_alloc ?_ _)); exact BK220.out) hb); replace HB := Ah (below_step (bs3 HB GE208 GE210 GE220) hb); (try clear hb)))
          go_ret2
          exact ⟨er, bs3 HB GE208 GE210 GE220⟩
         replace c57 := Bool.eq_false_iff.mpr c57;subst c57;rw [if_neg fne] at H;have H' := Ah H;clear H;have p219 : 0 ≤ (x66_4 : Int) := od;have q219 : x66_4 < (l0_1.length : Int) := od;obtain ⟨ad219, e219, hx219_0, hx219_1⟩ := at_T40 HR0_1.out x66_4 p219 q219
         cases e219
         replace hx219_0 := (HB.out.cell (World.block_lt_of_cell? w _ hx219_0)).trans hx219_0;replace hx219_1 := (HB.out.cell (World.block_lt_of_cell? w _ hx219_1)).trans hx219_1;replace p219 := eq_true p219;replace q219 := eq_true q219
         go_wp2_with (first | ((with_reducible refine gate_dst (N := 12) rfl ?_); refine boxL 12 40 #[.int .i64 0, .int .i64 0] ?_; intro gb220 hg w65 BK220 hb; have GW220 := gw hg (bs2 HB GE208 GE210); have GE220 := gw hg (bs2 HB GE208 GE210); replace HB := Ah (below_step (bs2 HB GE208 GE210) hb); have NB208_220 := nn BK208 hg; have NB220_208 := nm BK208 hg; replace BK208 := nb BK208 hb; have NB210_220 := nn BK210 hg; have NB220_210 := nm BK210 hg; replace BK210 := nb BK210 hb; clear hb hg; have hnb66 := NB220_208.out; have hnc66 := NB208_220.out; have hnb67 := NB220_210.out; have hnc67 := NB210_220.out; obtain ⟨hcz68_0, hcz68_1⟩ := cz2 BK220; obtain ⟨hfz68_0, hfz68_1⟩ := fz2 BK220; have hnb69 := NB210_208.out; have hnc69 := NB208_210.out; obtain ⟨hcz70_0, hcz70_1, hcz70_2, hcz70_3, hcz70_4⟩ := cz5 BK210; obtain ⟨hfz70_0, hfz70_1, hfz70_2, hfz70_3, hfz70_4⟩ := fz5 BK210) | ((with_reducible refine gate_callee (f := 45) rfl ?_); refine gL (some 73) rfl rfl Try.func45 (by kernel_rfl) rfl #[.agg #[.int .i64 ((rd_T40 l0_1 x66_4).f0), .int .i64 ((rd_T40 l0_1 x66_4).f1)], .agg #[.int .i64 ((rd_T56 l1 x19_1).f2.f0), .int .i64 ((rd_T56 l1 x19_1).f2.f1)]] rfl ?_; (with_reducible refine (spec_l12Overlap.calls ((rd_T40 l0_1 x66_4).f0) ((rd_T40 l0_1 x66_4).f1) ((rd_T56 l1 x19_1).f2.f0) ((rd_T56 l1 x19_1).f2.f1) false _ A56.out).mono ?_); rintro e w71 ⟨rfl, hb⟩; refine ⟨_, rfl, ?_⟩; replace BK208 := Ah (blk_below (bf BK208 NB208_220) hb); replace BK210 := Ah (blk_below (bf BK210 NB210_220) hb); replace BK220 := Ah (blk_below (g := gb220) (o := .cells #[.int .i64 ((rd_T40 l0_1 x66_4).f0), .int .i64 ((rd_T40 l0_1 x66_4).f1)] 40 (0, 0)) (by (with_reducible repeat (first | refine blk_drewN ?_ _ | refine blk_drew ?_ | refine blk_alloc ?_ _)); refine blk_put (cs := #[.int .i64 ((rd_T40 l0_1 x66_4).f0), .int .i64 0]) ?_ 1 _ rfl; (with_reducible repeat (first | refine blk_drewN ?_ _ | refine blk_drew ?_ | refine blk_alloc ?_ _)); refine blk_put (cs := #[.int .i64 0, .int .i64 0]) ?_ 0 _ rfl; (with_reducible repeat (first | refine blk_drewN ?_ _ | refine blk_drew ?_ | refine blk_alloc ?_ _)); exact BK220.out) hb); replace HB := Ah (below_step (bs3 HB GE208 GE210 GE220) hb); (try clear hb)))
         go_roundg k4
         case measure => have := HK1.out; have := HJ7.out; have := HK3.out; have := HK4.out; omega
         case rel => exact ⟨(wrap64 (x66_4 + 1)), e3, H', ⟨by have := HK1.out; have := HJ7.out; have := HK3.out; have := HK4.out; omega⟩, ⟨bk BK208⟩, ⟨bk BK210⟩, ⟨bs3 HB GE208 GE210 GE220⟩⟩
def spec_l5Less.f (a0_0 : Int) (a0_1 : Int) (a1_0 : Int) (a1_1 : Int) : Option (Bool) := if a0_1 < a1_1 then (some true) else (if a0_1 = a1_1 then (some (decide (a0_0 < a1_0))) else (some false))
set_option maxHeartbeats 8000000 in
set_option maxRecDepth 100000 in
theorem spec_l5Less.calls (a0_0 : Int) (a0_1 : Int) (a1_0 : Int) (a1_1 : Int) (r : Bool) (w : World) (h : spec_l5Less.f a0_0 a0_1 a1_0 a1_1 = some r) :
  Calls Try.prog 62 #[.agg #[.int .i64 a0_0, .int .i64 a0_1], .agg #[.int .i64 a1_0, .int .i64 a1_1]] w fun e w' => e = .returned (.bool r) ∧ Below w.heap.size w w' := by
 have hu40 := Try.underlying40;have HB := Ah (Below.refl w.heap.size w);have H : (if a0_1 < a1_1 then (some true) else (if a0_1 = a1_1 then (some (decide (a0_0 < a1_0))) else (some false))) = some r := h;clear h
 by_cases c3 : a0_1 < a1_1
 ·
  rw [if_pos c3] at H;have c3b0 : decide (a0_1 < a1_1) = true := decide_eq_true c3;clear c3;obtain rfl := Option.some.inj H
  go_enter Try.func62, Try.ntmps62
  go_wp2_with (first | ((with_reducible refine gate_dst (N := 2) rfl ?_); refine boxL 2 40 #[.int .i64 a0_0, .int .i64 a0_1] ?_; intro gb229 hg w4 BK229 hb; have GW229 := gw hg (bs HB); have GE229 := gw hg (bs HB); replace HB := Ah (below_step (bs HB) hb); clear hb hg) | ((with_reducible refine gate_dst (N := 3) rfl ?_); refine boxL 3 40 #[.int .i64 a1_0, .int .i64 a1_1] ?_; intro gb230 hg w5 BK230 hb; have GW230 := gw hg (bs1 HB GE229); have GE230 := gw hg (bs1 HB GE229); replace HB := Ah (below_step (bs1 HB GE229) hb); have NB229_230 := nn BK229 hg; have NB230_229 := nm BK229 hg; replace BK229 := nb BK229 hb; clear hb hg; have hnb6 := NB229_230.out; have hnc6 := NB230_229.out; obtain ⟨hcz7_0, hcz7_1⟩ := cz2 BK229; obtain ⟨hfz7_0, hfz7_1⟩ := fz2 BK229; obtain ⟨hcz8_0, hcz8_1⟩ := cz2 BK230; obtain ⟨hfz8_0, hfz8_1⟩ := fz2 BK230))
  go_ret
  exact ⟨er, bs2 HB GE229 GE230⟩
 rw [if_neg c3] at H;have c3b0 : decide (a0_1 < a1_1) = false := decide_eq_false c3;clear c3
 by_cases c9 : a0_1 = a1_1
 rotate_left
 ·
  rw [if_neg c9] at H;have c9b0 : (a0_1 == a1_1) = false := beq_eq_false_iff_ne.mpr c9;have c9b1 : (a0_1 != a1_1) = true := bne_iff_ne.mpr c9;obtain rfl := Option.some.inj H
  go_enter Try.func62, Try.ntmps62
  go_wp2_with (first | ((with_reducible refine gate_dst (N := 2) rfl ?_); refine boxL 2 40 #[.int .i64 a0_0, .int .i64 a0_1] ?_; intro gb229 hg w15 BK229 hb; have GW229 := gw hg (bs HB); have GE229 := gw hg (bs HB); replace HB := Ah (below_step (bs HB) hb); clear hb hg) | ((with_reducible refine gate_dst (N := 3) rfl ?_); refine boxL 3 40 #[.int .i64 a1_0, .int .i64 a1_1] ?_; intro gb230 hg w16 BK230 hb; have GW230 := gw hg (bs1 HB GE229); have GE230 := gw hg (bs1 HB GE229); replace HB := Ah (below_step (bs1 HB GE229) hb); have NB229_230 := nn BK229 hg; have NB230_229 := nm BK229 hg; replace BK229 := nb BK229 hb; clear hb hg; have hnb17 := NB229_230.out; have hnc17 := NB230_229.out; obtain ⟨hcz18_0, hcz18_1⟩ := cz2 BK229; obtain ⟨hfz18_0, hfz18_1⟩ := fz2 BK229; obtain ⟨hcz19_0, hcz19_1⟩ := cz2 BK230; obtain ⟨hfz19_0, hfz19_1⟩ := fz2 BK230))
  go_ret
  exact ⟨er, bs2 HB GE229 GE230⟩
 rw [if_pos c9] at H;have c9b0 : (a0_1 == a1_1) = true := beq_iff_eq.mpr c9;have c9b1 : (a0_1 != a1_1) = false := bne_eq_false_iff_eq.mpr c9;clear c9;obtain rfl := Option.some.inj H
 go_enter Try.func62, Try.ntmps62
 go_wp2_with (first | ((with_reducible refine gate_dst (N := 2) rfl ?_); refine boxL 2 40 #[.int .i64 a0_0, .int .i64 a0_1] ?_; intro gb229 hg w10 BK229 hb; have GW229 := gw hg (bs HB); have GE229 := gw hg (bs HB); replace HB := Ah (below_step (bs HB) hb); clear hb hg) | ((with_reducible refine gate_dst (N := 3) rfl ?_); refine boxL 3 40 #[.int .i64 a1_0, .int .i64 a1_1] ?_; intro gb230 hg w11 BK230 hb; have GW230 := gw hg (bs1 HB GE229); have GE230 := gw hg (bs1 HB GE229); replace HB := Ah (below_step (bs1 HB GE229) hb); have NB229_230 := nn BK229 hg; have NB230_229 := nm BK229 hg; replace BK229 := nb BK229 hb; clear hb hg; have hnb12 := NB229_230.out; have hnc12 := NB230_229.out; obtain ⟨hcz13_0, hcz13_1⟩ := cz2 BK229; obtain ⟨hfz13_0, hfz13_1⟩ := fz2 BK229; obtain ⟨hcz14_0, hcz14_1⟩ := cz2 BK230; obtain ⟨hfz14_0, hfz14_1⟩ := fz2 BK230))
 go_ret
 exact ⟨er, bs2 HB GE229 GE230⟩
mutual
def spec_l5BySize.l0 : Nat → List (S40) → List (S40) → Int → Int → Option ((List (S40)))
 | 0, _, _, _, _ => none
 | k + 1, x3, x8, x9, x10 => if x10 < x9 then (if 0 ≤ x10 then (if x10 < (x8.length : Int) then (spec_l5BySize.l1 k x3 0 x8 x9 x10 ((rd_T40 x8 x10).f0) ((rd_T40 x8 x10).f1)) else (none)) else (none)) else (some x3)
def spec_l5BySize.l1 : Nat → List (S40) → Int → List (S40) → Int → Int → Int → Int → Option ((List (S40)))
 | 0, _, _, _, _, _, _, _ => none
 | k + 1, x3, x6, x8, x9, x10, x233000, x233001 => if x6 < (x3.length : Int) then (if 0 ≤ x6 then ((spec_l5Less.f ((rd_T40 x3 x6).f0) ((rd_T40 x3 x6).f1) x233000 x233001).bind fun t234 => (if t234 = true then (spec_l5BySize.l1 k x3 (wrap64 (x6 + 1)) x8 x9 x10 x233000 x233001) else (if x6 ≤ (x3.length : Int) then ((some (x3.take (x6 : Int).toNat : List (S40))).bind fun y235 => (if ([] : List (S40)).length + y235.length < 8796093022208 then ((some (([] : List (S40)) ++ y235 : List (S40))).bind fun y239 => (if y239.length < 8796093022208 then ((some (y239 ++ [(⟨x233000, x233001⟩ : S40)] : List (S40))).bind fun y242 => ((some (x3.drop (x6 : Int).toNat : List (S40))).bind fun y245 => (if y242.length + y245.length < 8796093022208 then (spec_l5BySize.l0 k (y242 ++ y245) x8 x9 (wrap64 (x10 + 1))) else (none)))) else (none))) else (none))) else (none)))) else (none)) else (if 0 ≤ x6 then (if x6 ≤ (x3.length : Int) then ((some (x3.take (x6 : Int).toNat : List (S40))).bind fun y252 => (if ([] : List (S40)).length + y252.length < 8796093022208 then ((some (([] : List (S40)) ++ y252 : List (S40))).bind fun y256 => (if y256.length < 8796093022208 then ((some (y256 ++ [(⟨x233000, x233001⟩ : S40)] : List (S40))).bind fun y259 => ((some (x3.drop (x6 : Int).toNat : List (S40))).bind fun y262 => (if y259.length + y262.length < 8796093022208 then (spec_l5BySize.l0 k (y259 ++ y262) x8 x9 (wrap64 (x10 + 1))) else (none)))) else (none))) else (none))) else (none)) else (none))
end
def spec_l5BySize.f (k : Nat) (l0 : List (S40)) : Option ((List (S40))) := spec_l5BySize.l0 k ([] : List (S40)) l0 (l0.length : Int) 0
theorem spec_l5BySize.mono_l : ∀ k, (∀ y0 y1 y2 y3, LeO (spec_l5BySize.l0 k y0 y1 y2 y3) (spec_l5BySize.l0 (k + 1) y0 y1 y2 y3)) ∧ (∀ y0 y1 y2 y3 y4 y5 y6, LeO (spec_l5BySize.l1 k y0 y1 y2 y3 y4 y5 y6) (spec_l5BySize.l1 (k + 1) y0 y1 y2 y3 y4 y5 y6))
 | 0 => ⟨fun _ _ _ _ r h => by simp [spec_l5BySize.l0] at h, fun _ _ _ _ _ _ _ r h => by simp [spec_l5BySize.l1] at h⟩
 | k + 1 => by
  obtain ⟨ih0, ih1⟩ := spec_l5BySize.mono_l k
  refine ⟨?_, ?_⟩ <;> intros <;> first | unfold spec_l5BySize.l0 | unfold spec_l5BySize.l1
  all_goals repeat' first
   | (with_reducible exact ih0 _ _ _ _)
   | (with_reducible exact ih1 _ _ _ _ _ _ _)
   | (with_reducible exact LeO.refl _)
   | (with_reducible exact LeO.none _)
   | (with_reducible refine LeO.ite ?_ ?_)
   | (with_reducible refine LeO.bind ?_ (fun _ => ?_))
   | exact ih0 _ _ _ _
   | exact ih1 _ _ _ _ _ _ _
   | exact LeO.none _
   | refine LeO.ite ?_ ?_
   | refine LeO.bind ?_ (fun _ => ?_)
theorem spec_l5BySize.mono : ∀ a0 k, LeO (spec_l5BySize.f k a0) (spec_l5BySize.f (k + 1) a0) := by
 intro a0 k;obtain ⟨ih0, ih1⟩ := spec_l5BySize.mono_l k;unfold spec_l5BySize.f
 repeat' with_reducible first|exact ih0 _ _ _ _|exact ih1 _ _ _ _ _ _ _|exact LeO.refl _|exact LeO.none _|refine LeO.ite ?_ ?_|refine LeO.bind ?_ (fun _ => ?_)
def spec_l5BySize.T6 : Bool × List (List Nat × List Nat) := (true, [([], []), ([], []), ([1], [1]), ([0, 2], [0, 2]), ([3], [3]), ([4], [4]), ([4], [4]), ([5, 6, 4], [4, 5, 6]), ([7, 4], [4, 7]), ([4], [4]), ([8, 9, 4, 4], [4, 8, 9]), ([4, 10], [4, 10])])
def spec_l5BySize.B6 : List Nat := [0, 0, 2, 7, 15, 31, 31, 127, 255, 31, 1023, 2047]
theorem spec_l5BySize.tab6 : rtab .any (opsOf Try.f47 6) = spec_l5BySize.T6 := by kernel_rfl
theorem spec_l5BySize.bits6 : waitsOk spec_l5BySize.T6.2 spec_l5BySize.B6 = true := by kernel_rfl
set_option maxHeartbeats 8000000 in
set_option maxRecDepth 100000 in
theorem spec_l5BySize.calls (k : Nat) (A0 : Option Addr) (c0 : Nat) (l0 : List (S40)) (r : List (S40)) (w : World) (hr0 : Kd.C k40 w A0 l0.length l0) (hc0 : l0.length ≤ c0) (h : spec_l5BySize.f k l0 = some r) :
  Calls Try.prog 47 #[.slice A0 l0.length c0] w fun e w' => ∃ v0_ : Value, e = .returned (v0_) ∧ Kd.R k40 40 w' w.heap.size (fun _ => True) v0_ r ∧ Below w.heap.size w w' := by
 have hu40 := Try.underlying40;have HR0 := Ah hr0;have HC0 := Ah hc0;clear hr0 hc0;have HB := Ah (Below.refl w.heap.size w);have H : (spec_l5BySize.l0 k ([] : List (S40)) l0 (l0.length : Int) 0) = some r := h;clear h;have H' := Ah H;clear H
 go_enter Try.func47, Try.ntmps47
 go_wp2
 go_loopg [3, 10] k (fun kq v3 v10 w' => ∃ (x3_1 : List (S40)) (x10_1 : Int), v10 = .int .i64 x10_1 ∧ Aside0 (spec_l5BySize.l0 kq x3_1 l0 (l0.length : Int) x10_1 = some r) ∧ Aside0 (kq ≤ k) ∧ Aside0 (Kd.R k40 40 w' w.heap.size (fun _ => True) v3 x3_1) ∧ Aside0 (Below w.heap.size w w'))
 case atStart => exact ⟨(([] : List (S40))), (0), e3, H', ⟨Nat.le_refl _⟩, ⟨by first | exact Kd.R_nil _ _ _ _ _ | exact Kd.N_nil _ _ _ _ _ | exact Kd.V_nil _ _ _ _ _ | exact Kd.Q_nil _ _ _ _ _ | exact Kd.S_nil _ _ _ _ _⟩, ⟨bs HB⟩⟩
 case round =>
  clear H';obtain ⟨x3_1, x10_1, rfl, HA, HK1, HO_3, HB⟩ := hrel
  cases gk with
  | zero => exact absurd HA.out (by simp [spec_l5BySize.l0])
  | succ k1 =>
   have H := HA.out;clear HA;simp only [spec_l5BySize.l0] at H
   by_cases c2 : x10_1 < (l0.length : Int)
   rotate_left
   ·
    rw [if_neg c2] at H;have c2b0 : decide (x10_1 < (l0.length : Int)) = false := decide_eq_false c2;clear c2;obtain rfl := Option.some.inj H
    go_wp2
    go_ret
    exact ⟨_, er, by (with_reducible repeat (first | apply Kd.R_alloc | apply Kd.R_drewN | apply Kd.R_drew)); exact HO_3.out, bs HB⟩
   rw [if_pos c2] at H;have c2b0 : decide (x10_1 < (l0.length : Int)) = true := decide_eq_true c2;clear c2
   by_cases c3 : 0 ≤ x10_1
   rotate_left
   ·
    rw [if_neg c3] at H;exact absurd H (by simp)
   rw [if_pos c3] at H;have c3b0 : decide (0 ≤ x10_1) = true := decide_eq_true c3;clear c3
   by_cases c4 : x10_1 < (l0.length : Int)
   rotate_left
   ·
    rw [if_neg c4] at H;exact absurd H (by simp)
   rw [if_pos c4] at H;have c4b0 : decide (x10_1 < (l0.length : Int)) = true := decide_eq_true c4;clear c4;have H' := Ah H;clear H;have p231 : 0 ≤ (x10_1 : Int) := od;have q231 : x10_1 < (l0.length : Int) := od;obtain ⟨ad231, e231, hx231_0, hx231_1⟩ := at_T40 HR0.out x10_1 p231 q231
   cases e231
   replace hx231_0 := (HB.out.cell (World.block_lt_of_cell? w _ hx231_0)).trans hx231_0;replace hx231_1 := (HB.out.cell (World.block_lt_of_cell? w _ hx231_1)).trans hx231_1;replace p231 := eq_true p231;replace q231 := eq_true q231
   go_wp2_with (first | ((with_reducible refine gate_dst (N := 5) rfl ?_); refine boxL 5 40 #[.int .i64 0, .int .i64 0] ?_; intro gb232 hg w5 BK232 hb; replace HO_3 := Ah (Kd.R_below (Kd.R_elderB (rr HO_3.out) gb232 (Nat.le_of_eq hg.symm)) hb); have GW232 := gw hg (bs HB); have GE232 := gw hg (bs HB); replace HB := Ah (below_step (bs HB) hb); clear hb hg; obtain ⟨hcz6_0, hcz6_1⟩ := cz2 BK232; obtain ⟨hfz6_0, hfz6_1⟩ := fz2 BK232))
   go_loopg [6] k1 (fun kq v6 w' => ∃ (x6_2 : Int), v6 = .int .i64 x6_2 ∧ Aside0 (spec_l5BySize.l1 kq x3_1 x6_2 l0 (l0.length : Int) x10_1 ((rd_T40 l0 x10_1).f0) ((rd_T40 l0 x10_1).f1) = some r) ∧ Aside0 (kq ≤ k1) ∧ Aside0 (Kd.R k40 40 w' w.heap.size (fun k_ => k_ ≠ gb232) u3 x3_1) ∧ Aside0 (w'.heap[gb232]? = some (.cells #[.int .i64 ((rd_T40 l0 x10_1).f0), .int .i64 ((rd_T40 l0 x10_1).f1)] 40 (0, 0))) ∧ Aside0 (Below w.heap.size w w'))
   case atStart => exact ⟨(0), e3, H', ⟨Nat.le_refl _⟩, ⟨by (with_reducible repeat (first | apply Kd.R_alloc | apply Kd.R_drewN | apply Kd.R_drew)); exact Kd.R_mono (Kd.R_far (p := ⟨gb232, 1, none⟩) (Kd.R_far (p := ⟨gb232, 0, none⟩) (Kd.R_mono HO_3.out (fun k_ hk => (⟨hk, hk.2⟩ : _ ∧ k_ ≠ gb232))) (fun _ hk => hk.2) (.int .i64 ((rd_T40 l0 x10_1).f0))) (fun _ hk => hk.2) (.int .i64 ((rd_T40 l0 x10_1).f1))) (fun _ hk => hk.1.2)⟩, ⟨by (with_reducible repeat (first | refine blk_drewN ?_ _ | refine blk_drew ?_ | refine blk_alloc ?_ _)); refine blk_put (cs := #[.int .i64 ((rd_T40 l0 x10_1).f0), .int .i64 0]) ?_ 1 _ rfl; (with_reducible repeat (first | refine blk_drewN ?_ _ | refine blk_drew ?_ | refine blk_alloc ?_ _)); refine blk_put (cs := #[.int .i64 0, .int .i64 0]) ?_ 0 _ rfl; (with_reducible repeat (first | refine blk_drewN ?_ _ | refine blk_drew ?_ | refine blk_alloc ?_ _)); exact BK232.out⟩, ⟨bs1 HB GE232⟩⟩
   case round =>
    clear H'
    try clear c2
    try clear c2b0
    try clear p2
    try clear q2
    try clear hx2
    try clear c3
    try clear c3b0
    try clear c4
    try clear c4b0
    try clear hcz6_0 hcz6_1
    try clear hfz6_0 hfz6_1
    try clear hx231_0
    try clear hx231_1
    try clear p231
    try clear q231
    obtain ⟨x6_2, rfl, HA, HK2, HO_3, BK232, HB⟩ := hrel
    cases gk with
    | zero => exact absurd HA.out (by simp [spec_l5BySize.l1])
    | succ k2 =>
     have H := HA.out;clear HA;simp only [spec_l5BySize.l1] at H
     by_cases c7 : x6_2 < (x3_1.length : Int)
     rotate_left
     ·
      rw [if_neg c7] at H;have c7b0 : decide (x6_2 < (x3_1.length : Int)) = false := decide_eq_false c7;clear c7
      by_cases c30 : 0 ≤ x6_2
      rotate_left
      ·
       rw [if_neg c30] at H;exact absurd H (by simp)
      rw [if_pos c30] at H;have c30b0 := eq_true c30;have c30b1 : decide (0 ≤ x6_2) = true := decide_eq_true c30;clear c30
      by_cases c31 : x6_2 ≤ (x3_1.length : Int)
      rotate_left
      ·
       rw [if_neg c31] at H;exact absurd H (by simp)
      rw [if_pos c31] at H;have c31b0 := eq_true c31;have c31b1 : decide (x6_2 ≤ (x3_1.length : Int)) = true := decide_eq_true c31;clear c31;obtain ⟨y252, hy252⟩ : ∃ y_ : List (S40), y_ = (x3_1.take (x6_2 : Int).toNat) := ⟨_, rfl⟩
      replace H : (if ([] : List (S40)).length + y252.length < 8796093022208 then ((some (([] : List (S40)) ++ y252 : List (S40))).bind fun y256 => (if y256.length < 8796093022208 then ((some (y256 ++ [(⟨((rd_T40 l0 x10_1).f0), ((rd_T40 l0 x10_1).f1)⟩ : S40)] : List (S40))).bind fun y259 => ((some (x3_1.drop (x6_2 : Int).toNat : List (S40))).bind fun y262 => (if y259.length + y262.length < 8796093022208 then (spec_l5BySize.l0 k2 (y259 ++ y262) l0 (l0.length : Int) (wrap64 (x10_1 + 1))) else (none)))) else (none))) else (none)) = some r := by first | (rw [hy252]; with_reducible exact H) | (have H2_ := (Option.bind_some _ _).symm.trans H; rw [hy252]; with_reducible exact H2_) | (have H2_ := (Option.bind_some _ _).symm.trans H; with_reducible exact H2_) | with_reducible exact H | (rw [hy252]; exact H) | exact H
      have Ny252 := Ah hy252;clear hy252
      by_cases c32 : ([] : List (S40)).length + y252.length < 8796093022208
      rotate_left
      ·
       rw [if_neg c32] at H;exact absurd H (by simp)
      rw [if_pos c32] at H;have LMc32 := Ah c32;clear c32;obtain ⟨y256, hy256⟩ : ∃ y_ : List (S40), y_ = (([] : List (S40)) ++ y252) := ⟨_, rfl⟩
      replace H : (if y256.length < 8796093022208 then ((some (y256 ++ [(⟨((rd_T40 l0 x10_1).f0), ((rd_T40 l0 x10_1).f1)⟩ : S40)] : List (S40))).bind fun y259 => ((some (x3_1.drop (x6_2 : Int).toNat : List (S40))).bind fun y262 => (if y259.length + y262.length < 8796093022208 then (spec_l5BySize.l0 k2 (y259 ++ y262) l0 (l0.length : Int) (wrap64 (x10_1 + 1))) else (none)))) else (none)) = some r := by first | (rw [hy256]; with_reducible exact H) | (have H2_ := (Option.bind_some _ _).symm.trans H; rw [hy256]; with_reducible exact H2_) | (have H2_ := (Option.bind_some _ _).symm.trans H; with_reducible exact H2_) | with_reducible exact H | (rw [hy256]; exact H) | exact H
      have Ny256 := Ah hy256;clear hy256
      by_cases c33 : y256.length < 8796093022208
      rotate_left
      ·
       rw [if_neg c33] at H;exact absurd H (by simp)
      rw [if_pos c33] at H;have LMc33 := Ah c33;clear c33;obtain ⟨y259, hy259⟩ : ∃ y_ : List (S40), y_ = (y256 ++ [(⟨((rd_T40 l0 x10_1).f0), ((rd_T40 l0 x10_1).f1)⟩ : S40)]) := ⟨_, rfl⟩
      replace H : ((some (x3_1.drop (x6_2 : Int).toNat : List (S40))).bind fun y262 => (if y259.length + y262.length < 8796093022208 then (spec_l5BySize.l0 k2 (y259 ++ y262) l0 (l0.length : Int) (wrap64 (x10_1 + 1))) else (none))) = some r := by first | (rw [hy259]; with_reducible exact H) | (have H2_ := (Option.bind_some _ _).symm.trans H; rw [hy259]; with_reducible exact H2_) | (have H2_ := (Option.bind_some _ _).symm.trans H; with_reducible exact H2_) | with_reducible exact H | (rw [hy259]; exact H) | exact H
      have Ny259 := Ah hy259;clear hy259;have c34b0 := eq_true (od : 0 ≤ x6_2);have c35b0 := eq_true (od : x6_2 ≤ (x3_1.length : Int));obtain ⟨y262, hy262⟩ : ∃ y_ : List (S40), y_ = (x3_1.drop (x6_2 : Int).toNat) := ⟨_, rfl⟩
      replace H : (if y259.length + y262.length < 8796093022208 then (spec_l5BySize.l0 k2 (y259 ++ y262) l0 (l0.length : Int) (wrap64 (x10_1 + 1))) else (none)) = some r := by first | (rw [hy262]; with_reducible exact H) | (have H2_ := (Option.bind_some _ _).symm.trans H; rw [hy262]; with_reducible exact H2_) | (have H2_ := (Option.bind_some _ _).symm.trans H; with_reducible exact H2_) | with_reducible exact H | (rw [hy262]; exact H) | exact H
      have Ny262 := Ah hy262;clear hy262
      by_cases c36 : y259.length + y262.length < 8796093022208
      rotate_left
      ·
       rw [if_neg c36] at H;exact absurd H (by simp)
      rw [if_pos c36] at H;have LMc36 := Ah c36;clear c36;obtain ⟨y266, hy266⟩ : ∃ y_ : List (S40), y_ = (y259 ++ y262) := ⟨_, rfl⟩
      replace H : (spec_l5BySize.l0 k2 y266 l0 (l0.length : Int) (wrap64 (x10_1 + 1))) = some r := by first | (rw [hy266]; with_reducible exact H) | (have H2_ := (Option.bind_some _ _).symm.trans H; rw [hy266]; with_reducible exact H2_) | (have H2_ := (Option.bind_some _ _).symm.trans H; with_reducible exact H2_) | with_reducible exact H | (rw [hy266]; exact H) | exact H
      have Ny266 := Ah hy266;clear hy266;have H' := Ah H;clear H
      try go_wp2
      have n0_ := Ah (Kd.R_drew HO_3.out);have n1_ := Ah (blk_drew BK232.out);have n2_ := Ah (below_drew1 HB.out);clear HO_3 BK232 HB;have HO_3 := n0_;have BK232 := n1_;have HB := n2_;clear n0_ n1_ n2_;obtain ⟨Ao38, co38, eo38⟩ := Kd.R_slice HO_3.out;(first | subst eo38 | (injection eo38 with f1_ f2_ f3_; have f4_ := f1_.symm; have f5_ := f3_.symm; clear f1_ f2_ f3_; subst f4_; subst f5_));refine start_ (n := 12) (S := fun w' => True) (ds := []) #[false, false, false, false, false, false, false, false, false, false, false, false] (by kernel_rfl) rfl rfl trivial (fun hHeld => ?_); refine with_tabW spec_l5BySize.tab6 spec_l5BySize.bits6 (fun HT_ HW_ => ?_)
      generalize wr.drew = w37 at HO_3 BK232 HB hHeld ⊢
      refine pureS 0 14 HT_.out ?_;refine pureS 1 15 HT_.out ?_;refine pureS 2 16 HT_.out ?_;refine pureS 3 17 HT_.out ?_;refine pureS 4 18 HT_.out ?_;refine pureU 5 19 HT_.out ?_;refine pureU 6 20 HT_.out ?_;refine pureU 7 21 HT_.out ?_;refine pureU 8 22 HT_.out ?_;refine pureU 9 23 HT_.out ?_;refine pureU 10 24 HT_.out ?_;refine pureS 11 25 HT_.out ?_;refine done_ (done_of HT_.out (by kernel_rfl)) ?_;have q39 : (x6_2 : Int) ≤ ((x3_1.length : Int) : Int) := od;obtain ⟨i039, hi039, _, hsz39, _⟩ := info_parts info40;have hroom39 : x3_1.length ≤ co38 := (Kd.R_reads' HO_3.out).2.1;have hC39 : Kd.C k40 _ Ao38 x3_1.length x3_1 := (Kd.R_reads' HO_3.out).2.2;have hcut39 := cut_to (P := Try.prog) 31 40 .i64 Try.underlying31 hi039 Ao38 x3_1.length co38 x6_2 (od) q39 hroom39;have hr39 := Kd.C_take (m := (x6_2 : Int).toNat) hC39 (by omega);have hy39 : y252.length = (x6_2 : Int).toNat := (by rw [Ny252.out, List.length_take]; omega);rw [← Ny252.out] at hr39;rw [← hy39] at hcut39;have HR255 := Ah hr39;have HC255 := Ah (show y252.length ≤ co38 from by omega);clear hr39 hC39 hroom39 hi039 hsz39;have KY39 := Ah hy39;clear hy39;have KL39 := Ah (show (x6_2 : Int).toNat ≤ x3_1.length from by omega);replace q39 := eq_true q39
      try go_wp2_with (first | ((with_reducible refine gate_builtin (b := .append) (xs := #[.tmp 28, .tmp 31]) rfl ?_); at_builtin; refine Kd.R_append_rows k40 (w0 := w) w.heap.size rfl (.tmp 28) (.tmp 31) 31 40 (.agg #[(.int .i64 0), (.int .i64 0)]) 16 rfl Try.underlying31 info40 rfl (by decide) (by omega) (.slice none 0 0) ([] : List (S40)) y252 _ _ _ (fun k_ => some k_ ≠ (.slice Ao38 x3_1.length co38 : Value).ownBlock ∧ k_ ≠ gb232) (fun _ => False) rfl rfl ?aO ?aR (fun _ _ h => h) (fun _ h => h.elim) ?aF ?aB ?aS ?aL ?_; (case aR => repeat (first | exact (by repeat (first | (with_reducible exact HR255.out) | (with_reducible refine Kd.C_alloc ?_ _) | (with_reducible refine Kd.C_drewN ?_ _) | (with_reducible refine Kd.C_drew ?_) | exact HR255.out)) | (with_reducible refine Kd.C_alloc ?_ _) | (with_reducible refine Kd.C_drewN ?_ _) | (with_reducible refine Kd.C_drew ?_))); (case aB => exact (bs1 HB GE232)); (case aF => exact (fun k_ hk => ⟨Kd.fresh' (Kd.R_lt (rr HO_3.out)) k_ hk, Kd.freshB (bk BK232) k_ hk⟩)); (case aO => exact ((Kd.R_nil _ _ _ _ (fun k_ => some k_ ≠ (.slice Ao38 x3_1.length co38 : Value).ownBlock ∧ k_ ≠ gb232)))); (case aS => exact (below_size (bs1 HB GE232))); (case aL => have := LMc32.out; omega); intro v257 w40 ho hb hg hat; rw [← Ny256.out] at ho; replace BK232 := Ah (blk_grown (bk BK232) hg (by simp [Value.ownBlock])); replace HB := Ah (hb); replace HR255 := Ah ((show Kd.C k40 w40 Ao38 y252.length y252 from by rw [Ny252.out]; exact Kd.C_take (m := (x6_2 : Int).toNat) ((Kd.R_reads' (Kd.R_after (Kd.R_apart_nil (rr HO_3.out)) hg hat)).2.2) KL39.out)); replace HO_3 := Ah (Kd.R_after (Kd.R_apart_nil (rr HO_3.out)) hg hat); have HO258 := Ah (ho); clear ho hb hg hat; obtain ⟨hcz41_0, hcz41_1⟩ := cz2 BK232; obtain ⟨hfz41_0, hfz41_1⟩ := fz2 BK232) | ((with_reducible refine gate_builtin (b := .append) (xs := #[.tmp 33, .tmp 35]) rfl ?_); at_builtin; refine Kd.R_append k40 (w0 := w) w.heap.size rfl (.tmp 33) (.tmp 35) 31 40 (.agg #[(.int .i64 0), (.int .i64 0)]) 16 rfl Try.underlying31 info40 rfl (by decide) (by omega) v257 y256 (⟨((rd_T40 l0 x10_1).f0), ((rd_T40 l0 x10_1).f1)⟩ : S40) [.int .i64 ((rd_T40 l0 x10_1).f0), .int .i64 ((rd_T40 l0 x10_1).f1)] (fun k_ => some k_ ≠ (.slice Ao38 x3_1.length co38 : Value).ownBlock ∧ k_ ≠ gb232) (fun _ => False) rfl rfl ?aP (fun _ hk => hk.elim) ?aF ?aO ?aB ?aS ?aL ?_; (case aP => exact k40_mkM _ _ _ (⟨((rd_T40 l0 x10_1).f0), ((rd_T40 l0 x10_1).f1)⟩ : S40)); (case aB => exact (bs1 HB GE232)); (case aF => exact (fun k_ hk => ⟨Kd.fresh' (Kd.R_lt (rr HO_3.out)) k_ hk, Kd.freshB (bk BK232) k_ hk⟩)); (case aO => exact (rr HO258.out)); (case aS => exact (below_size (bs1 HB GE232))); (case aL => have := LMc33.out; omega); intro v260 w42 ho hb hg hat; rw [← Ny259.out] at ho; replace BK232 := Ah (blk_grown (bk BK232) hg (Kd.R_away HO258.out (fun _ hk => hk.2))); replace HB := Ah (hb); replace HR255 := Ah ((show Kd.C k40 w42 Ao38 y252.length y252 from by rw [Ny252.out]; exact Kd.C_take (m := (x6_2 : Int).toNat) ((Kd.R_reads' (Kd.R_after (ok := (fun k_ => k_ ≠ gb232)) (rr HO_3.out) hg hat)).2.2) KL39.out)); replace HO_3 := Ah (Kd.R_after (ok := (fun k_ => k_ ≠ gb232)) (rr HO_3.out) hg hat); have HO261 := Ah (ho); clear HO258; clear ho hb hg hat; have q43 : (x6_2 : Int) ≤ ((x3_1.length : Int) : Int) := od; obtain ⟨i043, hi043, _, hsz43, _⟩ := info_parts info40; have hroom43 : x3_1.length ≤ co38 := (Kd.R_reads' HO_3.out).2.1; have hC43 : Kd.C k40 _ Ao38 x3_1.length x3_1 := (Kd.R_reads' HO_3.out).2.2; have q043 : (0 : Int) ≤ (x6_2 : Int) := od; have hcut43 := cut_from (P := Try.prog) 31 40 .i64 Try.underlying31 hi043 2 hsz43 Ao38 x3_1.length co38 x6_2 q043 q43; have hr43 := Kd.C_drop (m := (x6_2 : Int).toNat) (c := co38) hC43 (by omega) hroom43; obtain ⟨A43, hA43⟩ : ∃ A1, A1 = (if co38 = (x6_2 : Int).toNat then Ao38 else (Ao38 : Option Addr).map (·.add ((x6_2 : Int).toNat * 2))) := ⟨_, rfl⟩; obtain ⟨c43, hc43⟩ : ∃ c1, c1 = co38 - (x6_2 : Int).toNat := ⟨_, rfl⟩; have hy43 : y262.length = x3_1.length - (x6_2 : Int).toNat := (by rw [Ny262.out, List.length_drop] <;> omega); rw [show (x3_1).drop (x6_2 : Int).toNat = y262 from Ny262.out.symm] at hr43; replace hr43 : Kd.C k40 _ A43 y262.length y262 := (by rw [hA43]; exact hr43); rw [← hy43, ← hA43, ← hc43] at hcut43; have HR265 := Ah hr43; have HC265 := Ah (show y262.length ≤ c43 from by rw [hy43, hc43]; exact Nat.sub_le_sub_right hroom43 _); clear hr43 hC43 hroom43 hi043 hsz43 hc43; have KY43 := Ah hy43; have KA43 := Ah hA43; clear hy43 hA43; have KL43 := Ah (show (x6_2 : Int).toNat ≤ x3_1.length from by omega); replace q43 := eq_true q43) | ((with_reducible refine gate_builtin (b := .append) (xs := #[.tmp 37, .tmp 40]) rfl ?_); at_builtin; refine Kd.R_append_rows k40 (w0 := w) w.heap.size rfl (.tmp 37) (.tmp 40) 31 40 (.agg #[(.int .i64 0), (.int .i64 0)]) 16 rfl Try.underlying31 info40 rfl (by decide) (by omega) v260 y259 y262 _ _ _ (fun k_ => some k_ ≠ (.slice Ao38 x3_1.length co38 : Value).ownBlock ∧ k_ ≠ gb232) (fun _ => False) rfl rfl ?aO ?aR (fun _ _ h => h) (fun _ h => h.elim) ?aF ?aB ?aS ?aL ?_; (case aR => repeat (first | exact (by repeat (first | (with_reducible exact HR265.out) | (with_reducible refine Kd.C_alloc ?_ _) | (with_reducible refine Kd.C_drewN ?_ _) | (with_reducible refine Kd.C_drew ?_) | exact HR265.out)) | (with_reducible refine Kd.C_alloc ?_ _) | (with_reducible refine Kd.C_drewN ?_ _) | (with_reducible refine Kd.C_drew ?_))); (case aB => exact (bs1 HB GE232)); (case aF => exact (fun k_ hk => ⟨Kd.fresh' (Kd.R_lt (rr HO_3.out)) k_ hk, Kd.freshB (bk BK232) k_ hk⟩)); (case aO => exact (rr HO261.out)); (case aS => exact (below_size (bs1 HB GE232))); (case aL => have := LMc36.out; omega); intro v267 w44 ho hb hg hat; rw [← Ny266.out] at ho; replace BK232 := Ah (blk_grown (bk BK232) hg (Kd.R_away HO261.out (fun _ hk => hk.2))); replace HB := Ah (hb); replace HR255 := Ah ((show Kd.C k40 w44 Ao38 y252.length y252 from by rw [Ny252.out]; exact Kd.C_take (m := (x6_2 : Int).toNat) ((Kd.R_reads' (Kd.R_after (ok := (fun k_ => k_ ≠ gb232)) (rr HO_3.out) hg hat)).2.2) KL39.out)); replace HR265 := Ah ((show Kd.C k40 w44 A43 y262.length y262 from by rw [Ny262.out, KA43.out]; exact Kd.C_drop (m := (x6_2 : Int).toNat) (c := co38) ((Kd.R_reads' (Kd.R_after (ok := (fun k_ => k_ ≠ gb232)) (rr HO_3.out) hg hat)).2.2) KL43.out ((Kd.R_reads' (Kd.R_after (ok := (fun k_ => k_ ≠ gb232)) (rr HO_3.out) hg hat)).2.1))); replace HO_3 := Ah (Kd.R_after (ok := (fun k_ => k_ ≠ gb232)) (rr HO_3.out) hg hat); have HO268 := Ah (ho); clear HO261; clear ho hb hg hat))
      go_roundg k2
      case measure => have := HK1.out; have := HK2.out; omega
      case rel => exact ⟨(y266), (wrap64 (x10_1 + 1)), e3, H', ⟨by have := HK1.out; have := HK2.out; omega⟩, rm HO268 (fun _ hk => trivial), ⟨bs1 HB GE232⟩⟩
     rw [if_pos c7] at H;have c7b0 : decide (x6_2 < (x3_1.length : Int)) = true := decide_eq_true c7;clear c7
     by_cases c8 : 0 ≤ x6_2
     rotate_left
     ·
      rw [if_neg c8] at H;exact absurd H (by simp)
     rw [if_pos c8] at H;have c8b0 : decide (0 ≤ x6_2) = true := decide_eq_true c8;clear c8;replace H := Option.bind_eq_some_iff.mp H;obtain ⟨t234, A90, H⟩ := H
     try dsimp only at H
     have A9 := Ah A90;clear A90
     by_cases c10 : t234 = true
     ·
      subst c10;rw [if_pos rfl] at H;have H' := Ah H;clear H
      try go_wp2
      have n0_ := Ah (Kd.R_drew HO_3.out);have n1_ := Ah (blk_drew BK232.out);have n2_ := Ah (below_drew1 HB.out);clear HO_3 BK232 HB;have HO_3 := n0_;have BK232 := n1_;have HB := n2_;clear n0_ n1_ n2_;obtain ⟨Ao12, co12, eo12⟩ := Kd.R_slice HO_3.out;(first | subst eo12 | (injection eo12 with f1_ f2_ f3_; have f4_ := f1_.symm; have f5_ := f3_.symm; clear f1_ f2_ f3_; subst f4_; subst f5_));have p233 : 0 ≤ (x6_2 : Int) := od;have q233 : x6_2 < (x3_1.length : Int) := od;obtain ⟨ad233, e233, hx233_0, hx233_1⟩ := at_T40 (Kd.R_reads' HO_3.out).2.2 x6_2 p233 q233
      cases e233
      replace p233 := eq_true p233;replace q233 := eq_true q233;refine start_ (n := 12) (S := fun w' => w'.cell? ⟨gb232, 0, none⟩ = some (.int .i64 ((rd_T40 l0 x10_1).f0)) ∧ w'.cell? ⟨gb232, 1, none⟩ = some (.int .i64 ((rd_T40 l0 x10_1).f1)) ∧ w'.cell? (ad233.add ((x6_2).toNat * 2)) = some (.int .i64 ((rd_T40 x3_1 x6_2).f0)) ∧ w'.cell? ⟨(ad233.add ((x6_2).toNat * 2)).block, (ad233.add ((x6_2).toNat * 2)).off + 1, none⟩ = some (.int .i64 ((rd_T40 x3_1 x6_2).f1))) (ds := []) #[false, false, false, false, false, false, false, false, false, false, false, false] (by kernel_rfl) rfl rfl ⟨(blk_cell BK232.out 0).trans rfl, (blk_cell BK232.out 1).trans rfl, hx233_0, hx233_1⟩ (fun hHeld => ?_); refine with_tabW spec_l5BySize.tab6 spec_l5BySize.bits6 (fun HT_ HW_ => ?_)
      generalize wr.drew = w11 at HO_3 BK232 HB hx233_0 hx233_1 hHeld ⊢
      refine pureS 0 14 HT_.out ?_;refine pureS 1 15 HT_.out ?_;refine pureS 2 16 HT_.out ?_;refine pureS 3 17 HT_.out ?_;refine pureS 4 18 HT_.out ?_;refine pureS 5 19 HT_.out ?_;refine pureS 6 20 HT_.out ?_;refine pureS 7 21 HT_.out ?_;refine takeS 8 22 HT_.out HW_.out hHeld (hr := by rintro w' ⟨s0, s1, s2, s3⟩; go_simp; with_reducible rfl) (h := ?_);refine takeS 9 23 HT_.out HW_.out hHeld (hr := by rintro w' ⟨s0, s1, s2, s3⟩; go_simp; with_reducible rfl) (h := ?_);refine one_ (i := 10) (N := some 24) #[true, true, true, true, true, true, true, true, true, true, true, false] rfl rfl (one_of HT_.out (by kernel_rfl)) (by decide) (fun K hK => ?_);refine goes_ Try.func62 (by kernel_rfl) rfl #[.agg #[.int .i64 ((rd_T40 x3_1 x6_2).f0), .int .i64 ((rd_T40 x3_1 x6_2).f1)], .agg #[.int .i64 ((rd_T40 l0 x10_1).f0), .int .i64 ((rd_T40 l0 x10_1).f1)]] (by rfl) rfl rfl (by (try simp only [List.map_toArray, List.map_cons, List.map_nil]); first | done | rfl | (simp only [List.length_drop, List.length_take]; rfl)) ?_
      with_reducible refine (spec_l5Less.calls ((rd_T40 x3_1 x6_2).f0) ((rd_T40 x3_1 x6_2).f1) ((rd_T40 l0 x10_1).f0) ((rd_T40 l0 x10_1).f1) true _ A9.out).mono ?_
      rintro e w13 ⟨rfl, hb⟩;have HS2_ := (hb.cell (World.block_lt_of_cell? _ _ (hHeld.2.2.1))).trans (hHeld.2.2.1);have HS3_ := (hb.cell (World.block_lt_of_cell? _ _ (hHeld.2.2.2))).trans (hHeld.2.2.2);refine ⟨_, rfl, ?_⟩;have n0_ := Ah (Kd.R_below (rr HO_3.out) hb);have n1_ := Ah (bb BK232 hb);have n2_ := Ah (below_step (bs1 HB GE232) hb);clear HO_3 BK232 HB;have HO_3 := n0_;have BK232 := n1_;have HB := n2_;clear n0_ n1_ n2_;(try clear hb);(try clear hb2);(try clear hk);(try clear hi);refine hK.out _ _ ⟨(blk_cell BK232.out 0).trans rfl, (blk_cell BK232.out 1).trans rfl, HS2_, HS3_⟩ (fun hHeld => ?_);clear hK K;refine norm_ (a' := ?_) ?_ ?_;rotate_left
      ·
       show Act.put _ (some 24) _ = _
       simp only [Act.put, List.setIfInBounds_toArray, List.set_cons_zero, List.set_cons_succ, i64_w, i32_w]
       rfl
      refine pureS 11 25 HT_.out ?_;refine done_ (done_of HT_.out (by kernel_rfl)) ?_
      try go_wp2
      go_roundg k2
      case measure => have := HK1.out; have := HK2.out; omega
      case rel => exact ⟨(wrap64 (x6_2 + 1)), e3, H', ⟨by have := HK1.out; have := HK2.out; omega⟩, ⟨rr HO_3.out⟩, ⟨bk BK232⟩, ⟨bs1 HB GE232⟩⟩
     replace c10 := Bool.eq_false_iff.mpr c10;subst c10;rw [if_neg fne] at H;have c14b0 := eq_true (od : 0 ≤ x6_2)
     by_cases c15 : x6_2 ≤ (x3_1.length : Int)
     rotate_left
     ·
      rw [if_neg c15] at H;exact absurd H (by simp)
     rw [if_pos c15] at H;have c15b0 := eq_true c15;have c15b1 : decide (x6_2 ≤ (x3_1.length : Int)) = true := decide_eq_true c15;clear c15;obtain ⟨y235, hy235⟩ : ∃ y_ : List (S40), y_ = (x3_1.take (x6_2 : Int).toNat) := ⟨_, rfl⟩
     replace H : (if ([] : List (S40)).length + y235.length < 8796093022208 then ((some (([] : List (S40)) ++ y235 : List (S40))).bind fun y239 => (if y239.length < 8796093022208 then ((some (y239 ++ [(⟨((rd_T40 l0 x10_1).f0), ((rd_T40 l0 x10_1).f1)⟩ : S40)] : List (S40))).bind fun y242 => ((some (x3_1.drop (x6_2 : Int).toNat : List (S40))).bind fun y245 => (if y242.length + y245.length < 8796093022208 then (spec_l5BySize.l0 k2 (y242 ++ y245) l0 (l0.length : Int) (wrap64 (x10_1 + 1))) else (none)))) else (none))) else (none)) = some r := by first | (rw [hy235]; with_reducible exact H) | (have H2_ := (Option.bind_some _ _).symm.trans H; rw [hy235]; with_reducible exact H2_) | (have H2_ := (Option.bind_some _ _).symm.trans H; with_reducible exact H2_) | with_reducible exact H | (rw [hy235]; exact H) | exact H
     have Ny235 := Ah hy235;clear hy235
     by_cases c16 : ([] : List (S40)).length + y235.length < 8796093022208
     rotate_left
     ·
      rw [if_neg c16] at H;exact absurd H (by simp)
     rw [if_pos c16] at H;have LMc16 := Ah c16;clear c16;obtain ⟨y239, hy239⟩ : ∃ y_ : List (S40), y_ = (([] : List (S40)) ++ y235) := ⟨_, rfl⟩
     replace H : (if y239.length < 8796093022208 then ((some (y239 ++ [(⟨((rd_T40 l0 x10_1).f0), ((rd_T40 l0 x10_1).f1)⟩ : S40)] : List (S40))).bind fun y242 => ((some (x3_1.drop (x6_2 : Int).toNat : List (S40))).bind fun y245 => (if y242.length + y245.length < 8796093022208 then (spec_l5BySize.l0 k2 (y242 ++ y245) l0 (l0.length : Int) (wrap64 (x10_1 + 1))) else (none)))) else (none)) = some r := by first | (rw [hy239]; with_reducible exact H) | (have H2_ := (Option.bind_some _ _).symm.trans H; rw [hy239]; with_reducible exact H2_) | (have H2_ := (Option.bind_some _ _).symm.trans H; with_reducible exact H2_) | with_reducible exact H | (rw [hy239]; exact H) | exact H
     have Ny239 := Ah hy239;clear hy239
     by_cases c17 : y239.length < 8796093022208
     rotate_left
     ·
      rw [if_neg c17] at H;exact absurd H (by simp)
     rw [if_pos c17] at H;have LMc17 := Ah c17;clear c17;obtain ⟨y242, hy242⟩ : ∃ y_ : List (S40), y_ = (y239 ++ [(⟨((rd_T40 l0 x10_1).f0), ((rd_T40 l0 x10_1).f1)⟩ : S40)]) := ⟨_, rfl⟩
     replace H : ((some (x3_1.drop (x6_2 : Int).toNat : List (S40))).bind fun y245 => (if y242.length + y245.length < 8796093022208 then (spec_l5BySize.l0 k2 (y242 ++ y245) l0 (l0.length : Int) (wrap64 (x10_1 + 1))) else (none))) = some r := by first | (rw [hy242]; with_reducible exact H) | (have H2_ := (Option.bind_some _ _).symm.trans H; rw [hy242]; with_reducible exact H2_) | (have H2_ := (Option.bind_some _ _).symm.trans H; with_reducible exact H2_) | with_reducible exact H | (rw [hy242]; exact H) | exact H
     have Ny242 := Ah hy242;clear hy242;have c18b0 := eq_true (od : 0 ≤ x6_2);have c19b0 := eq_true (od : x6_2 ≤ (x3_1.length : Int));obtain ⟨y245, hy245⟩ : ∃ y_ : List (S40), y_ = (x3_1.drop (x6_2 : Int).toNat) := ⟨_, rfl⟩
     replace H : (if y242.length + y245.length < 8796093022208 then (spec_l5BySize.l0 k2 (y242 ++ y245) l0 (l0.length : Int) (wrap64 (x10_1 + 1))) else (none)) = some r := by first | (rw [hy245]; with_reducible exact H) | (have H2_ := (Option.bind_some _ _).symm.trans H; rw [hy245]; with_reducible exact H2_) | (have H2_ := (Option.bind_some _ _).symm.trans H; with_reducible exact H2_) | with_reducible exact H | (rw [hy245]; exact H) | exact H
     have Ny245 := Ah hy245;clear hy245
     by_cases c20 : y242.length + y245.length < 8796093022208
     rotate_left
     ·
      rw [if_neg c20] at H;exact absurd H (by simp)
     rw [if_pos c20] at H;have LMc20 := Ah c20;clear c20;obtain ⟨y249, hy249⟩ : ∃ y_ : List (S40), y_ = (y242 ++ y245) := ⟨_, rfl⟩
     replace H : (spec_l5BySize.l0 k2 y249 l0 (l0.length : Int) (wrap64 (x10_1 + 1))) = some r := by first | (rw [hy249]; with_reducible exact H) | (have H2_ := (Option.bind_some _ _).symm.trans H; rw [hy249]; with_reducible exact H2_) | (have H2_ := (Option.bind_some _ _).symm.trans H; with_reducible exact H2_) | with_reducible exact H | (rw [hy249]; exact H) | exact H
     have Ny249 := Ah hy249;clear hy249;have H' := Ah H;clear H
     try go_wp2
     have n0_ := Ah (Kd.R_drew HO_3.out);have n1_ := Ah (blk_drew BK232.out);have n2_ := Ah (below_drew1 HB.out);clear HO_3 BK232 HB;have HO_3 := n0_;have BK232 := n1_;have HB := n2_;clear n0_ n1_ n2_;obtain ⟨Ao22, co22, eo22⟩ := Kd.R_slice HO_3.out;(first | subst eo22 | (injection eo22 with f1_ f2_ f3_; have f4_ := f1_.symm; have f5_ := f3_.symm; clear f1_ f2_ f3_; subst f4_; subst f5_));have p233 : 0 ≤ (x6_2 : Int) := od;have q233 : x6_2 < (x3_1.length : Int) := od;obtain ⟨ad233, e233, hx233_0, hx233_1⟩ := at_T40 (Kd.R_reads' HO_3.out).2.2 x6_2 p233 q233
     cases e233
     replace p233 := eq_true p233;replace q233 := eq_true q233;refine start_ (n := 12) (S := fun w' => w'.cell? ⟨gb232, 0, none⟩ = some (.int .i64 ((rd_T40 l0 x10_1).f0)) ∧ w'.cell? ⟨gb232, 1, none⟩ = some (.int .i64 ((rd_T40 l0 x10_1).f1)) ∧ w'.cell? (ad233.add ((x6_2).toNat * 2)) = some (.int .i64 ((rd_T40 x3_1 x6_2).f0)) ∧ w'.cell? ⟨(ad233.add ((x6_2).toNat * 2)).block, (ad233.add ((x6_2).toNat * 2)).off + 1, none⟩ = some (.int .i64 ((rd_T40 x3_1 x6_2).f1))) (ds := []) #[false, false, false, false, false, false, false, false, false, false, false, false] (by kernel_rfl) rfl rfl ⟨(blk_cell BK232.out 0).trans rfl, (blk_cell BK232.out 1).trans rfl, hx233_0, hx233_1⟩ (fun hHeld => ?_); refine with_tabW spec_l5BySize.tab6 spec_l5BySize.bits6 (fun HT_ HW_ => ?_)
     generalize wr.drew = w21 at HO_3 BK232 HB hx233_0 hx233_1 hHeld ⊢
     refine pureS 0 14 HT_.out ?_;refine pureS 1 15 HT_.out ?_;refine pureS 2 16 HT_.out ?_;refine pureS 3 17 HT_.out ?_;refine pureS 4 18 HT_.out ?_;refine pureS 5 19 HT_.out ?_;refine pureS 6 20 HT_.out ?_;refine pureS 7 21 HT_.out ?_;refine takeS 8 22 HT_.out HW_.out hHeld (hr := by rintro w' ⟨s0, s1, s2, s3⟩; go_simp; with_reducible rfl) (h := ?_);refine takeS 9 23 HT_.out HW_.out hHeld (hr := by rintro w' ⟨s0, s1, s2, s3⟩; go_simp; with_reducible rfl) (h := ?_);refine one_ (i := 10) (N := some 24) #[true, true, true, true, true, true, true, true, true, true, true, false] rfl rfl (one_of HT_.out (by kernel_rfl)) (by decide) (fun K hK => ?_);refine goes_ Try.func62 (by kernel_rfl) rfl #[.agg #[.int .i64 ((rd_T40 x3_1 x6_2).f0), .int .i64 ((rd_T40 x3_1 x6_2).f1)], .agg #[.int .i64 ((rd_T40 l0 x10_1).f0), .int .i64 ((rd_T40 l0 x10_1).f1)]] (by rfl) rfl rfl (by (try simp only [List.map_toArray, List.map_cons, List.map_nil]); first | done | rfl | (simp only [List.length_drop, List.length_take]; rfl)) ?_
     with_reducible refine (spec_l5Less.calls ((rd_T40 x3_1 x6_2).f0) ((rd_T40 x3_1 x6_2).f1) ((rd_T40 l0 x10_1).f0) ((rd_T40 l0 x10_1).f1) false _ A9.out).mono ?_
     rintro e w23 ⟨rfl, hb⟩;have HS2_ := (hb.cell (World.block_lt_of_cell? _ _ (hHeld.2.2.1))).trans (hHeld.2.2.1);have HS3_ := (hb.cell (World.block_lt_of_cell? _ _ (hHeld.2.2.2))).trans (hHeld.2.2.2);refine ⟨_, rfl, ?_⟩;have n0_ := Ah (Kd.R_below (rr HO_3.out) hb);have n1_ := Ah (bb BK232 hb);have n2_ := Ah (below_step (bs1 HB GE232) hb);clear HO_3 BK232 HB;have HO_3 := n0_;have BK232 := n1_;have HB := n2_;clear n0_ n1_ n2_;(try clear hb);(try clear hb2);(try clear hk);(try clear hi);refine hK.out _ _ ⟨(blk_cell BK232.out 0).trans rfl, (blk_cell BK232.out 1).trans rfl, HS2_, HS3_⟩ (fun hHeld => ?_);clear hK K;refine norm_ (a' := ?_) ?_ ?_;rotate_left
     ·
      show Act.put _ (some 24) _ = _
      simp only [Act.put, List.setIfInBounds_toArray, List.set_cons_zero, List.set_cons_succ, i64_w, i32_w]
      rfl
     refine pureS 11 25 HT_.out ?_;refine done_ (done_of HT_.out (by kernel_rfl)) ?_;have q24 : (x6_2 : Int) ≤ ((x3_1.length : Int) : Int) := od;obtain ⟨i024, hi024, _, hsz24, _⟩ := info_parts info40;have hroom24 : x3_1.length ≤ co22 := (Kd.R_reads' HO_3.out).2.1;have hC24 : Kd.C k40 _ (some ad233) x3_1.length x3_1 := (Kd.R_reads' HO_3.out).2.2;have hcut24 := cut_to (P := Try.prog) 31 40 .i64 Try.underlying31 hi024 (some ad233) x3_1.length co22 x6_2 (od) q24 hroom24;have hr24 := Kd.C_take (m := (x6_2 : Int).toNat) hC24 (by omega);have hy24 : y235.length = (x6_2 : Int).toNat := (by rw [Ny235.out, List.length_take]; omega);rw [← Ny235.out] at hr24;rw [← hy24] at hcut24;have HR238 := Ah hr24;have HC238 := Ah (show y235.length ≤ co22 from by omega);clear hr24 hC24 hroom24 hi024 hsz24;have KY24 := Ah hy24;clear hy24;have KL24 := Ah (show (x6_2 : Int).toNat ≤ x3_1.length from by omega);replace q24 := eq_true q24
     try go_wp2_with (first | ((with_reducible refine gate_builtin (b := .append) (xs := #[.tmp 28, .tmp 31]) rfl ?_); at_builtin; refine Kd.R_append_rows k40 (w0 := w) w.heap.size rfl (.tmp 28) (.tmp 31) 31 40 (.agg #[(.int .i64 0), (.int .i64 0)]) 16 rfl Try.underlying31 info40 rfl (by decide) (by omega) (.slice none 0 0) ([] : List (S40)) y235 _ _ _ (fun k_ => some k_ ≠ (.slice (some ad233) x3_1.length co22 : Value).ownBlock ∧ k_ ≠ gb232) (fun _ => False) rfl rfl ?aO ?aR (fun _ _ h => h) (fun _ h => h.elim) ?aF ?aB ?aS ?aL ?_; (case aR => repeat (first | exact (by repeat (first | (with_reducible exact HR238.out) | (with_reducible refine Kd.C_alloc ?_ _) | (with_reducible refine Kd.C_drewN ?_ _) | (with_reducible refine Kd.C_drew ?_) | exact HR238.out)) | (with_reducible refine Kd.C_alloc ?_ _) | (with_reducible refine Kd.C_drewN ?_ _) | (with_reducible refine Kd.C_drew ?_))); (case aB => exact (bs1 HB GE232)); (case aF => exact (fun k_ hk => ⟨Kd.fresh' (Kd.R_lt (rr HO_3.out)) k_ hk, Kd.freshB (bk BK232) k_ hk⟩)); (case aO => exact ((Kd.R_nil _ _ _ _ (fun k_ => some k_ ≠ (.slice (some ad233) x3_1.length co22 : Value).ownBlock ∧ k_ ≠ gb232)))); (case aS => exact (below_size (bs1 HB GE232))); (case aL => have := LMc16.out; omega); intro v240 w25 ho hb hg hat; rw [← Ny239.out] at ho; replace BK232 := Ah (blk_grown (bk BK232) hg (by simp [Value.ownBlock])); replace HB := Ah (hb); replace HR238 := Ah ((show Kd.C k40 w25 (some ad233) y235.length y235 from by rw [Ny235.out]; exact Kd.C_take (m := (x6_2 : Int).toNat) ((Kd.R_reads' (Kd.R_after (Kd.R_apart_nil (rr HO_3.out)) hg hat)).2.2) KL24.out)); replace HO_3 := Ah (Kd.R_after (Kd.R_apart_nil (rr HO_3.out)) hg hat); have HO241 := Ah (ho); clear ho hb hg hat; obtain ⟨hcz26_0, hcz26_1⟩ := cz2 BK232; obtain ⟨hfz26_0, hfz26_1⟩ := fz2 BK232) | ((with_reducible refine gate_builtin (b := .append) (xs := #[.tmp 33, .tmp 35]) rfl ?_); at_builtin; refine Kd.R_append k40 (w0 := w) w.heap.size rfl (.tmp 33) (.tmp 35) 31 40 (.agg #[(.int .i64 0), (.int .i64 0)]) 16 rfl Try.underlying31 info40 rfl (by decide) (by omega) v240 y239 (⟨((rd_T40 l0 x10_1).f0), ((rd_T40 l0 x10_1).f1)⟩ : S40) [.int .i64 ((rd_T40 l0 x10_1).f0), .int .i64 ((rd_T40 l0 x10_1).f1)] (fun k_ => some k_ ≠ (.slice (some ad233) x3_1.length co22 : Value).ownBlock ∧ k_ ≠ gb232) (fun _ => False) rfl rfl ?aP (fun _ hk => hk.elim) ?aF ?aO ?aB ?aS ?aL ?_; (case aP => exact k40_mkM _ _ _ (⟨((rd_T40 l0 x10_1).f0), ((rd_T40 l0 x10_1).f1)⟩ : S40)); (case aB => exact (bs1 HB GE232)); (case aF => exact (fun k_ hk => ⟨Kd.fresh' (Kd.R_lt (rr HO_3.out)) k_ hk, Kd.freshB (bk BK232) k_ hk⟩)); (case aO => exact (rr HO241.out)); (case aS => exact (below_size (bs1 HB GE232))); (case aL => have := LMc17.out; omega); intro v243 w27 ho hb hg hat; rw [← Ny242.out] at ho; replace BK232 := Ah (blk_grown (bk BK232) hg (Kd.R_away HO241.out (fun _ hk => hk.2))); replace HB := Ah (hb); replace HR238 := Ah ((show Kd.C k40 w27 (some ad233) y235.length y235 from by rw [Ny235.out]; exact Kd.C_take (m := (x6_2 : Int).toNat) ((Kd.R_reads' (Kd.R_after (ok := (fun k_ => k_ ≠ gb232)) (rr HO_3.out) hg hat)).2.2) KL24.out)); replace HO_3 := Ah (Kd.R_after (ok := (fun k_ => k_ ≠ gb232)) (rr HO_3.out) hg hat); have HO244 := Ah (ho); clear HO241; clear ho hb hg hat; have q28 : (x6_2 : Int) ≤ ((x3_1.length : Int) : Int) := od; obtain ⟨i028, hi028, _, hsz28, _⟩ := info_parts info40; have hroom28 : x3_1.length ≤ co22 := (Kd.R_reads' HO_3.out).2.1; have hC28 : Kd.C k40 _ (some ad233) x3_1.length x3_1 := (Kd.R_reads' HO_3.out).2.2; have q028 : (0 : Int) ≤ (x6_2 : Int) := od; have hcut28 := cut_from (P := Try.prog) 31 40 .i64 Try.underlying31 hi028 2 hsz28 (some ad233) x3_1.length co22 x6_2 q028 q28; have hr28 := Kd.C_drop (m := (x6_2 : Int).toNat) (c := co22) hC28 (by omega) hroom28; obtain ⟨A28, hA28⟩ : ∃ A1, A1 = (if co22 = (x6_2 : Int).toNat then (some ad233) else ((some ad233) : Option Addr).map (·.add ((x6_2 : Int).toNat * 2))) := ⟨_, rfl⟩; obtain ⟨c28, hc28⟩ : ∃ c1, c1 = co22 - (x6_2 : Int).toNat := ⟨_, rfl⟩; have hy28 : y245.length = x3_1.length - (x6_2 : Int).toNat := (by rw [Ny245.out, List.length_drop] <;> omega); rw [show (x3_1).drop (x6_2 : Int).toNat = y245 from Ny245.out.symm] at hr28; replace hr28 : Kd.C k40 _ A28 y245.length y245 := (by rw [hA28]; exact hr28); rw [← hy28, ← hA28, ← hc28] at hcut28; have HR248 := Ah hr28; have HC248 := Ah (show y245.length ≤ c28 from by rw [hy28, hc28]; exact Nat.sub_le_sub_right hroom28 _); clear hr28 hC28 hroom28 hi028 hsz28 hc28; have KY28 := Ah hy28; have KA28 := Ah hA28; clear hy28 hA28; have KL28 := Ah (show (x6_2 : Int).toNat ≤ x3_1.length from by omega); replace q28 := eq_true q28) | ((with_reducible refine gate_builtin (b := .append) (xs := #[.tmp 37, .tmp 40]) rfl ?_); at_builtin; refine Kd.R_append_rows k40 (w0 := w) w.heap.size rfl (.tmp 37) (.tmp 40) 31 40 (.agg #[(.int .i64 0), (.int .i64 0)]) 16 rfl Try.underlying31 info40 rfl (by decide) (by omega) v243 y242 y245 _ _ _ (fun k_ => some k_ ≠ (.slice (some ad233) x3_1.length co22 : Value).ownBlock ∧ k_ ≠ gb232) (fun _ => False) rfl rfl ?aO ?aR (fun _ _ h => h) (fun _ h => h.elim) ?aF ?aB ?aS ?aL ?_; (case aR => repeat (first | exact (by repeat (first | (with_reducible exact HR248.out) | (with_reducible refine Kd.C_alloc ?_ _) | (with_reducible refine Kd.C_drewN ?_ _) | (with_reducible refine Kd.C_drew ?_) | exact HR248.out)) | (with_reducible refine Kd.C_alloc ?_ _) | (with_reducible refine Kd.C_drewN ?_ _) | (with_reducible refine Kd.C_drew ?_))); (case aB => exact (bs1 HB GE232)); (case aF => exact (fun k_ hk => ⟨Kd.fresh' (Kd.R_lt (rr HO_3.out)) k_ hk, Kd.freshB (bk BK232) k_ hk⟩)); (case aO => exact (rr HO244.out)); (case aS => exact (below_size (bs1 HB GE232))); (case aL => have := LMc20.out; omega); intro v250 w29 ho hb hg hat; rw [← Ny249.out] at ho; replace BK232 := Ah (blk_grown (bk BK232) hg (Kd.R_away HO244.out (fun _ hk => hk.2))); replace HB := Ah (hb); replace HR238 := Ah ((show Kd.C k40 w29 (some ad233) y235.length y235 from by rw [Ny235.out]; exact Kd.C_take (m := (x6_2 : Int).toNat) ((Kd.R_reads' (Kd.R_after (ok := (fun k_ => k_ ≠ gb232)) (rr HO_3.out) hg hat)).2.2) KL24.out)); replace HR248 := Ah ((show Kd.C k40 w29 A28 y245.length y245 from by rw [Ny245.out, KA28.out]; exact Kd.C_drop (m := (x6_2 : Int).toNat) (c := co22) ((Kd.R_reads' (Kd.R_after (ok := (fun k_ => k_ ≠ gb232)) (rr HO_3.out) hg hat)).2.2) KL28.out ((Kd.R_reads' (Kd.R_after (ok := (fun k_ => k_ ≠ gb232)) (rr HO_3.out) hg hat)).2.1))); replace HO_3 := Ah (Kd.R_after (ok := (fun k_ => k_ ≠ gb232)) (rr HO_3.out) hg hat); have HO251 := Ah (ho); clear HO244; clear ho hb hg hat))
     go_roundg k2
     case measure => have := HK1.out; have := HK2.out; omega
     case rel => exact ⟨(y249), (wrap64 (x10_1 + 1)), e3, H', ⟨by have := HK1.out; have := HK2.out; omega⟩, rm HO251 (fun _ hk => trivial), ⟨bs1 HB GE232⟩⟩
def spec_l5Place.l0 : Nat → List (S40) → Int → List (S40) → Int → Int → Option (Bool)
 | 0, _, _, _, _, _ => none
 | k + 1, x0, x1, x7, x8, x9 => if x9 < x8 then (if 0 ≤ x9 then (if x9 < (x7.length : Int) then (if ((rd_T40 x7 x9).f0) < 0 then (some false) else (if ((rd_T40 x7 x9).f1) < 1 then (some false) else (if ((rd_T40 x7 x9).f1) > x1 then (some false) else (if ((rd_T40 x7 x9).f0) > (wrap64 (x1 - ((rd_T40 x7 x9).f1))) then (some false) else (if x9 > 0 then (if 0 ≤ (wrap64 (x9 - 1)) then (if (wrap64 (x9 - 1)) < (x0.length : Int) then (if (wrap64 (((rd_T40 x0 (wrap64 (x9 - 1))).f0) + ((rd_T40 x0 (wrap64 (x9 - 1))).f1))) ≥ ((rd_T40 x7 x9).f0) then (some false) else (spec_l5Place.l0 k x0 x1 x7 x8 (wrap64 (x9 + 1)))) else (none)) else (none)) else (spec_l5Place.l0 k x0 x1 x7 x8 (wrap64 (x9 + 1)))))))) else (none)) else (none)) else ((spec_l1In.f x1 1 400).bind fun t273 => (if t273 = true then (some (decide ((x0.length : Int) ≤ 60))) else (some false)))
def spec_l5Place.f (k : Nat) (l0 : List (S40)) (a1 : Int) : Option (Bool) := spec_l5Place.l0 k l0 a1 l0 (l0.length : Int) 0
theorem spec_l5Place.mono_l : ∀ k, (∀ y0 y1 y2 y3 y4, LeO (spec_l5Place.l0 k y0 y1 y2 y3 y4) (spec_l5Place.l0 (k + 1) y0 y1 y2 y3 y4))
 | 0 => fun _ _ _ _ _ r h => by simp [spec_l5Place.l0] at h
 | k + 1 => by
  have ih0 := spec_l5Place.mono_l k
  ·
   intro y0 y1 y2 y3 y4;unfold spec_l5Place.l0
   repeat' with_reducible first|exact ih0 _ _ _ _ _|exact LeO.refl _|exact LeO.none _|refine LeO.ite ?_ ?_|refine LeO.bind ?_ (fun _ => ?_)
theorem spec_l5Place.mono : ∀ a0 a1 k, LeO (spec_l5Place.f k a0 a1) (spec_l5Place.f (k + 1) a0 a1) := by
 intro a0 a1 k;have ih0 := spec_l5Place.mono_l k;unfold spec_l5Place.f
 repeat' with_reducible first|exact ih0 _ _ _ _ _|exact LeO.refl _|exact LeO.none _|refine LeO.ite ?_ ?_|refine LeO.bind ?_ (fun _ => ?_)
set_option maxHeartbeats 8000000 in
set_option maxRecDepth 100000 in
theorem spec_l5Place.calls (k : Nat) (A0 : Option Addr) (c0 : Nat) (l0 : List (S40)) (a1 : Int) (r : Bool) (w : World) (hr0 : Kd.C k40 w A0 l0.length l0) (hc0 : l0.length ≤ c0) (h : spec_l5Place.f k l0 a1 = some r) :
  Calls Try.prog 60 #[.slice A0 l0.length c0, .int .i64 a1] w fun e w' => e = .returned (.bool r) ∧ Below w.heap.size w w' := by
 have hu40 := Try.underlying40;have HR0 := Ah hr0;have HC0 := Ah hc0;clear hr0 hc0;have HB := Ah (Below.refl w.heap.size w);have H : (spec_l5Place.l0 k l0 a1 l0 (l0.length : Int) 0) = some r := h;clear h;have H' := Ah H;clear H
 go_enter Try.func60, Try.ntmps60
 go_wp2
 repeat (go_quiet (fail); try go_wp2)
 go_loopg [9] k (fun kq v9 w' => ∃ (x9_1 : Int), v9 = .int .i64 x9_1 ∧ Aside0 (spec_l5Place.l0 kq l0 a1 l0 (l0.length : Int) x9_1 = some r) ∧ Aside0 (kq ≤ k) ∧ Aside0 (Below w.heap.size w w'))
 case atStart => exact ⟨(0), e3, H', ⟨Nat.le_refl _⟩, ⟨bs HB⟩⟩
 case round =>
  clear H'
  try clear p2
  obtain ⟨x9_1, rfl, HA, HK1, HB⟩ := hrel
  cases gk with
  | zero => exact absurd HA.out (by simp [spec_l5Place.l0])
  | succ k1 =>
   have H := HA.out;clear HA;simp only [spec_l5Place.l0] at H
   by_cases c3 : x9_1 < (l0.length : Int)
   rotate_left
   ·
    rw [if_neg c3] at H;have c3b0 : decide (x9_1 < (l0.length : Int)) = false := decide_eq_false c3;clear c3;replace H := Option.bind_eq_some_iff.mp H;obtain ⟨t273, A290, H⟩ := H
    try dsimp only at H
    have A29 := Ah A290;clear A290
    by_cases c30 : t273 = true
    ·
     subst c30;rw [if_pos rfl] at H;obtain rfl := Option.some.inj H
     go_wp2_with (first | (go_at_call 46; (with_reducible refine (spec_l1In.calls a1 1 400 true _ A29.out).mono ?_); rintro e w' ⟨rfl, ⟨nd, rfl⟩⟩; (try first | exact ⟨rfl, _, World.drewN_drewN _ _ _⟩ | exact ⟨rfl, _, Eq.trans (World.drewN_drewN _ _ _) (congrArg (World.drewN _) (Nat.add_assoc _ _ _))⟩)))
     repeat (go_quiet (first | (go_at_call 46; (with_reducible refine (spec_l1In.calls a1 1 400 true _ A29.out).mono ?_); rintro e w' ⟨rfl, ⟨nd, rfl⟩⟩; (try first | exact ⟨rfl, _, World.drewN_drewN _ _ _⟩ | exact ⟨rfl, _, Eq.trans (World.drewN_drewN _ _ _) (congrArg (World.drewN _) (Nat.add_assoc _ _ _))⟩))); try go_wp2_with (first | (go_at_call 46; (with_reducible refine (spec_l1In.calls a1 1 400 true _ A29.out).mono ?_); rintro e w' ⟨rfl, ⟨nd, rfl⟩⟩; (try first | exact ⟨rfl, _, World.drewN_drewN _ _ _⟩ | exact ⟨rfl, _, Eq.trans (World.drewN_drewN _ _ _) (congrArg (World.drewN _) (Nat.add_assoc _ _ _))⟩))))
     go_ret
     exact ⟨er, bs HB⟩
    replace c30 := Bool.eq_false_iff.mpr c30;subst c30;rw [if_neg fne] at H;obtain rfl := Option.some.inj H
    go_wp2_with (first | (go_at_call 46; (with_reducible refine (spec_l1In.calls a1 1 400 false _ A29.out).mono ?_); rintro e w' ⟨rfl, ⟨nd, rfl⟩⟩; (try first | exact ⟨rfl, _, World.drewN_drewN _ _ _⟩ | exact ⟨rfl, _, Eq.trans (World.drewN_drewN _ _ _) (congrArg (World.drewN _) (Nat.add_assoc _ _ _))⟩)))
    repeat (go_quiet (first | (go_at_call 46; (with_reducible refine (spec_l1In.calls a1 1 400 false _ A29.out).mono ?_); rintro e w' ⟨rfl, ⟨nd, rfl⟩⟩; (try first | exact ⟨rfl, _, World.drewN_drewN _ _ _⟩ | exact ⟨rfl, _, Eq.trans (World.drewN_drewN _ _ _) (congrArg (World.drewN _) (Nat.add_assoc _ _ _))⟩))); try go_wp2_with (first | (go_at_call 46; (with_reducible refine (spec_l1In.calls a1 1 400 false _ A29.out).mono ?_); rintro e w' ⟨rfl, ⟨nd, rfl⟩⟩; (try first | exact ⟨rfl, _, World.drewN_drewN _ _ _⟩ | exact ⟨rfl, _, Eq.trans (World.drewN_drewN _ _ _) (congrArg (World.drewN _) (Nat.add_assoc _ _ _))⟩))))
    go_ret
    exact ⟨er, bs HB⟩
   rw [if_pos c3] at H;have c3b0 : decide (x9_1 < (l0.length : Int)) = true := decide_eq_true c3;clear c3
   by_cases c4 : 0 ≤ x9_1
   rotate_left
   ·
    rw [if_neg c4] at H;exact absurd H (by simp)
   rw [if_pos c4] at H;have c4b0 : decide (0 ≤ x9_1) = true := decide_eq_true c4;clear c4
   by_cases c5 : x9_1 < (l0.length : Int)
   rotate_left
   ·
    rw [if_neg c5] at H;exact absurd H (by simp)
   rw [if_pos c5] at H;have c5b0 : decide (x9_1 < (l0.length : Int)) = true := decide_eq_true c5;clear c5
   by_cases c6 : ((rd_T40 l0 x9_1).f0) < 0
   ·
    rw [if_pos c6] at H;have c6b0 : decide (((rd_T40 l0 x9_1).f0) < 0) = true := decide_eq_true c6;clear c6;obtain rfl := Option.some.inj H;have p269 : 0 ≤ (x9_1 : Int) := od;have q269 : x9_1 < (l0.length : Int) := od;obtain ⟨ad269, e269, hx269_0, hx269_1⟩ := at_T40 HR0.out x9_1 p269 q269
    cases e269
    replace hx269_0 := (HB.out.cell (World.block_lt_of_cell? w _ hx269_0)).trans hx269_0;replace hx269_1 := (HB.out.cell (World.block_lt_of_cell? w _ hx269_1)).trans hx269_1;replace p269 := eq_true p269;replace q269 := eq_true q269
    go_wp2_with (first | ((with_reducible refine gate_dst (N := 6) rfl ?_); (try (refine gate_guard (by rfl) ?_; dsimp only)); refine boxL 6 40 #[.int .i64 0, .int .i64 0] ?_; intro gb270 hg w7 BK270 hb; have GW270 := gw hg (bs HB); have GE270 := gw hg (bs HB); replace HB := Ah (below_step (bs HB) hb); clear hb hg; obtain ⟨hcz8_0, hcz8_1⟩ := cz2 BK270; obtain ⟨hfz8_0, hfz8_1⟩ := fz2 BK270))
    repeat (go_quiet (first | ((with_reducible refine gate_dst (N := 6) rfl ?_); (try (refine gate_guard (by rfl) ?_; dsimp only)); refine boxL 6 40 #[.int .i64 0, .int .i64 0] ?_; intro gb270 hg w7 BK270 hb; have GW270 := gw hg (bs HB); have GE270 := gw hg (bs HB); replace HB := Ah (below_step (bs HB) hb); clear hb hg; obtain ⟨hcz8_0, hcz8_1⟩ := cz2 BK270; obtain ⟨hfz8_0, hfz8_1⟩ := fz2 BK270)); try go_wp2_with (first | ((with_reducible refine gate_dst (N := 6) rfl ?_); (try (refine gate_guard (by rfl) ?_; dsimp only)); refine boxL 6 40 #[.int .i64 0, .int .i64 0] ?_; intro gb270 hg w7 BK270 hb; have GW270 := gw hg (bs HB); have GE270 := gw hg (bs HB); replace HB := Ah (below_step (bs HB) hb); clear hb hg; obtain ⟨hcz8_0, hcz8_1⟩ := cz2 BK270; obtain ⟨hfz8_0, hfz8_1⟩ := fz2 BK270)))
    go_ret
    exact ⟨er, bs1 HB GE270⟩
   rw [if_neg c6] at H;have c6b0 : decide (((rd_T40 l0 x9_1).f0) < 0) = false := decide_eq_false c6;clear c6
   by_cases c9 : ((rd_T40 l0 x9_1).f1) < 1
   ·
    rw [if_pos c9] at H;have c9b0 : decide (((rd_T40 l0 x9_1).f1) < 1) = true := decide_eq_true c9;clear c9;obtain rfl := Option.some.inj H;have p269 : 0 ≤ (x9_1 : Int) := od;have q269 : x9_1 < (l0.length : Int) := od;obtain ⟨ad269, e269, hx269_0, hx269_1⟩ := at_T40 HR0.out x9_1 p269 q269
    cases e269
    replace hx269_0 := (HB.out.cell (World.block_lt_of_cell? w _ hx269_0)).trans hx269_0;replace hx269_1 := (HB.out.cell (World.block_lt_of_cell? w _ hx269_1)).trans hx269_1;replace p269 := eq_true p269;replace q269 := eq_true q269
    go_wp2_with (first | ((with_reducible refine gate_dst (N := 6) rfl ?_); (try (refine gate_guard (by rfl) ?_; dsimp only)); refine boxL 6 40 #[.int .i64 0, .int .i64 0] ?_; intro gb270 hg w10 BK270 hb; have GW270 := gw hg (bs HB); have GE270 := gw hg (bs HB); replace HB := Ah (below_step (bs HB) hb); clear hb hg; obtain ⟨hcz11_0, hcz11_1⟩ := cz2 BK270; obtain ⟨hfz11_0, hfz11_1⟩ := fz2 BK270))
    repeat (go_quiet (first | ((with_reducible refine gate_dst (N := 6) rfl ?_); (try (refine gate_guard (by rfl) ?_; dsimp only)); refine boxL 6 40 #[.int .i64 0, .int .i64 0] ?_; intro gb270 hg w10 BK270 hb; have GW270 := gw hg (bs HB); have GE270 := gw hg (bs HB); replace HB := Ah (below_step (bs HB) hb); clear hb hg; obtain ⟨hcz11_0, hcz11_1⟩ := cz2 BK270; obtain ⟨hfz11_0, hfz11_1⟩ := fz2 BK270)); try go_wp2_with (first | ((with_reducible refine gate_dst (N := 6) rfl ?_); (try (refine gate_guard (by rfl) ?_; dsimp only)); refine boxL 6 40 #[.int .i64 0, .int .i64 0] ?_; intro gb270 hg w10 BK270 hb; have GW270 := gw hg (bs HB); have GE270 := gw hg (bs HB); replace HB := Ah (below_step (bs HB) hb); clear hb hg; obtain ⟨hcz11_0, hcz11_1⟩ := cz2 BK270; obtain ⟨hfz11_0, hfz11_1⟩ := fz2 BK270)))
    go_ret
    exact ⟨er, bs1 HB GE270⟩
   rw [if_neg c9] at H;have c9b0 : decide (((rd_T40 l0 x9_1).f1) < 1) = false := decide_eq_false c9;clear c9
   by_cases c12 : ((rd_T40 l0 x9_1).f1) > a1
   ·
    rw [if_pos c12] at H;have c12b0 : decide (a1 < ((rd_T40 l0 x9_1).f1)) = true := decide_eq_true c12;clear c12;obtain rfl := Option.some.inj H;have p269 : 0 ≤ (x9_1 : Int) := od;have q269 : x9_1 < (l0.length : Int) := od;obtain ⟨ad269, e269, hx269_0, hx269_1⟩ := at_T40 HR0.out x9_1 p269 q269
    cases e269
    replace hx269_0 := (HB.out.cell (World.block_lt_of_cell? w _ hx269_0)).trans hx269_0;replace hx269_1 := (HB.out.cell (World.block_lt_of_cell? w _ hx269_1)).trans hx269_1;replace p269 := eq_true p269;replace q269 := eq_true q269
    go_wp2_with (first | ((with_reducible refine gate_dst (N := 6) rfl ?_); (try (refine gate_guard (by rfl) ?_; dsimp only)); refine boxL 6 40 #[.int .i64 0, .int .i64 0] ?_; intro gb270 hg w13 BK270 hb; have GW270 := gw hg (bs HB); have GE270 := gw hg (bs HB); replace HB := Ah (below_step (bs HB) hb); clear hb hg; obtain ⟨hcz14_0, hcz14_1⟩ := cz2 BK270; obtain ⟨hfz14_0, hfz14_1⟩ := fz2 BK270))
    repeat (go_quiet (first | ((with_reducible refine gate_dst (N := 6) rfl ?_); (try (refine gate_guard (by rfl) ?_; dsimp only)); refine boxL 6 40 #[.int .i64 0, .int .i64 0] ?_; intro gb270 hg w13 BK270 hb; have GW270 := gw hg (bs HB); have GE270 := gw hg (bs HB); replace HB := Ah (below_step (bs HB) hb); clear hb hg; obtain ⟨hcz14_0, hcz14_1⟩ := cz2 BK270; obtain ⟨hfz14_0, hfz14_1⟩ := fz2 BK270)); try go_wp2_with (first | ((with_reducible refine gate_dst (N := 6) rfl ?_); (try (refine gate_guard (by rfl) ?_; dsimp only)); refine boxL 6 40 #[.int .i64 0, .int .i64 0] ?_; intro gb270 hg w13 BK270 hb; have GW270 := gw hg (bs HB); have GE270 := gw hg (bs HB); replace HB := Ah (below_step (bs HB) hb); clear hb hg; obtain ⟨hcz14_0, hcz14_1⟩ := cz2 BK270; obtain ⟨hfz14_0, hfz14_1⟩ := fz2 BK270)))
    go_ret
    exact ⟨er, bs1 HB GE270⟩
   rw [if_neg c12] at H;have c12b0 : decide (a1 < ((rd_T40 l0 x9_1).f1)) = false := decide_eq_false c12;clear c12
   by_cases c15 : ((rd_T40 l0 x9_1).f0) > (wrap64 (a1 - ((rd_T40 l0 x9_1).f1)))
   ·
    rw [if_pos c15] at H;have c15b0 : decide ((wrap64 (a1 - ((rd_T40 l0 x9_1).f1))) < ((rd_T40 l0 x9_1).f0)) = true := decide_eq_true c15;clear c15;obtain rfl := Option.some.inj H;have p269 : 0 ≤ (x9_1 : Int) := od;have q269 : x9_1 < (l0.length : Int) := od;obtain ⟨ad269, e269, hx269_0, hx269_1⟩ := at_T40 HR0.out x9_1 p269 q269
    cases e269
    replace hx269_0 := (HB.out.cell (World.block_lt_of_cell? w _ hx269_0)).trans hx269_0;replace hx269_1 := (HB.out.cell (World.block_lt_of_cell? w _ hx269_1)).trans hx269_1;replace p269 := eq_true p269;replace q269 := eq_true q269
    go_wp2_with (first | ((with_reducible refine gate_dst (N := 6) rfl ?_); (try (refine gate_guard (by rfl) ?_; dsimp only)); refine boxL 6 40 #[.int .i64 0, .int .i64 0] ?_; intro gb270 hg w16 BK270 hb; have GW270 := gw hg (bs HB); have GE270 := gw hg (bs HB); replace HB := Ah (below_step (bs HB) hb); clear hb hg; obtain ⟨hcz17_0, hcz17_1⟩ := cz2 BK270; obtain ⟨hfz17_0, hfz17_1⟩ := fz2 BK270))
    repeat (go_quiet (first | ((with_reducible refine gate_dst (N := 6) rfl ?_); (try (refine gate_guard (by rfl) ?_; dsimp only)); refine boxL 6 40 #[.int .i64 0, .int .i64 0] ?_; intro gb270 hg w16 BK270 hb; have GW270 := gw hg (bs HB); have GE270 := gw hg (bs HB); replace HB := Ah (below_step (bs HB) hb); clear hb hg; obtain ⟨hcz17_0, hcz17_1⟩ := cz2 BK270; obtain ⟨hfz17_0, hfz17_1⟩ := fz2 BK270)); try go_wp2_with (first | ((with_reducible refine gate_dst (N := 6) rfl ?_); (try (refine gate_guard (by rfl) ?_; dsimp only)); refine boxL 6 40 #[.int .i64 0, .int .i64 0] ?_; intro gb270 hg w16 BK270 hb; have GW270 := gw hg (bs HB); have GE270 := gw hg (bs HB); replace HB := Ah (below_step (bs HB) hb); clear hb hg; obtain ⟨hcz17_0, hcz17_1⟩ := cz2 BK270; obtain ⟨hfz17_0, hfz17_1⟩ := fz2 BK270)))
    go_ret
    exact ⟨er, bs1 HB GE270⟩
   rw [if_neg c15] at H;have c15b0 : decide ((wrap64 (a1 - ((rd_T40 l0 x9_1).f1))) < ((rd_T40 l0 x9_1).f0)) = false := decide_eq_false c15;clear c15
   by_cases c18 : x9_1 > 0
   rotate_left
   ·
    rw [if_neg c18] at H;have c18b0 : decide (0 < x9_1) = false := decide_eq_false c18;clear c18;have H' := Ah H;clear H;have p269 : 0 ≤ (x9_1 : Int) := od;have q269 : x9_1 < (l0.length : Int) := od;obtain ⟨ad269, e269, hx269_0, hx269_1⟩ := at_T40 HR0.out x9_1 p269 q269
    cases e269
    replace hx269_0 := (HB.out.cell (World.block_lt_of_cell? w _ hx269_0)).trans hx269_0;replace hx269_1 := (HB.out.cell (World.block_lt_of_cell? w _ hx269_1)).trans hx269_1;replace p269 := eq_true p269;replace q269 := eq_true q269
    go_wp2_with (first | ((with_reducible refine gate_dst (N := 6) rfl ?_); (try (refine gate_guard (by rfl) ?_; dsimp only)); refine boxL 6 40 #[.int .i64 0, .int .i64 0] ?_; intro gb270 hg w27 BK270 hb; have GW270 := gw hg (bs HB); have GE270 := gw hg (bs HB); replace HB := Ah (below_step (bs HB) hb); clear hb hg; obtain ⟨hcz28_0, hcz28_1⟩ := cz2 BK270; obtain ⟨hfz28_0, hfz28_1⟩ := fz2 BK270))
    repeat (go_quiet (first | ((with_reducible refine gate_dst (N := 6) rfl ?_); (try (refine gate_guard (by rfl) ?_; dsimp only)); refine boxL 6 40 #[.int .i64 0, .int .i64 0] ?_; intro gb270 hg w27 BK270 hb; have GW270 := gw hg (bs HB); have GE270 := gw hg (bs HB); replace HB := Ah (below_step (bs HB) hb); clear hb hg; obtain ⟨hcz28_0, hcz28_1⟩ := cz2 BK270; obtain ⟨hfz28_0, hfz28_1⟩ := fz2 BK270)); try go_wp2_with (first | ((with_reducible refine gate_dst (N := 6) rfl ?_); (try (refine gate_guard (by rfl) ?_; dsimp only)); refine boxL 6 40 #[.int .i64 0, .int .i64 0] ?_; intro gb270 hg w27 BK270 hb; have GW270 := gw hg (bs HB); have GE270 := gw hg (bs HB); replace HB := Ah (below_step (bs HB) hb); clear hb hg; obtain ⟨hcz28_0, hcz28_1⟩ := cz2 BK270; obtain ⟨hfz28_0, hfz28_1⟩ := fz2 BK270)))
    go_roundg k1
    case measure => have := HK1.out; omega
    case rel => exact ⟨(wrap64 (x9_1 + 1)), e3, H', ⟨by have := HK1.out; omega⟩, ⟨bs1 HB GE270⟩⟩
   rw [if_pos c18] at H;have c18b0 : decide (0 < x9_1) = true := decide_eq_true c18;clear c18;obtain ⟨ji19, hji19⟩ : ∃ j_ : Int, (wrap64 (x9_1 - 1)) = j_ := ⟨_, rfl⟩
   replace H : (if 0 ≤ (ji19) then (if (ji19) < (l0.length : Int) then (if (wrap64 (((rd_T40 l0 (ji19)).f0) + ((rd_T40 l0 (ji19)).f1))) ≥ ((rd_T40 l0 x9_1).f0) then (some false) else (spec_l5Place.l0 k1 l0 a1 l0 (l0.length : Int) (wrap64 (x9_1 + 1)))) else (none)) else (none)) = some r := by first | (rw [hji19] at H; exact H) | (simp only [hji19] at H ⊢; exact H)
   have hji19w : (IntKind.i64.wrap (x9_1 - 1)) = ji19 := (i64_w _).trans hji19
   by_cases c20 : 0 ≤ (ji19)
   rotate_left
   ·
    rw [if_neg c20] at H;exact absurd H (by simp)
   rw [if_pos c20] at H;have c20b0 : decide (0 ≤ (ji19)) = true := decide_eq_true c20;clear c20
   by_cases c21 : (ji19) < (l0.length : Int)
   rotate_left
   ·
    rw [if_neg c21] at H;exact absurd H (by simp)
   rw [if_pos c21] at H;have c21b0 : decide ((ji19) < (l0.length : Int)) = true := decide_eq_true c21;clear c21
   by_cases c22 : (wrap64 (((rd_T40 l0 (ji19)).f0) + ((rd_T40 l0 (ji19)).f1))) ≥ ((rd_T40 l0 x9_1).f0)
   ·
    rw [if_pos c22] at H;have c22b0 : decide (((rd_T40 l0 x9_1).f0) ≤ (wrap64 (((rd_T40 l0 (ji19)).f0) + ((rd_T40 l0 (ji19)).f1)))) = true := decide_eq_true c22;clear c22;obtain rfl := Option.some.inj H;have p269 : 0 ≤ (x9_1 : Int) := od;have q269 : x9_1 < (l0.length : Int) := od;obtain ⟨ad269, e269, hx269_0, hx269_1⟩ := at_T40 HR0.out x9_1 p269 q269
    cases e269
    replace hx269_0 := (HB.out.cell (World.block_lt_of_cell? w _ hx269_0)).trans hx269_0;replace hx269_1 := (HB.out.cell (World.block_lt_of_cell? w _ hx269_1)).trans hx269_1;replace p269 := eq_true p269;replace q269 := eq_true q269
    go_wp2_with (first | ((with_reducible refine gate_dst (N := 6) rfl ?_); (try (refine gate_guard (by rfl) ?_; dsimp only)); refine boxL 6 40 #[.int .i64 0, .int .i64 0] ?_; intro gb270 hg w23 BK270 hb; have GW270 := gw hg (bs HB); have GE270 := gw hg (bs HB); replace HB := Ah (below_step (bs HB) hb); clear hb hg; obtain ⟨hcz24_0, hcz24_1⟩ := cz2 BK270; obtain ⟨hfz24_0, hfz24_1⟩ := fz2 BK270; have p271 : 0 ≤ ((ji19) : Int) := od; have q271 : (ji19) < (l0.length : Int) := od; obtain ⟨ad271, e271, hx271_0, hx271_1⟩ := at_T40 HR0.out (ji19) p271 q271; obtain rfl : ad269 = ad271 := (by injection e271); have hn271_0 : ad269.block ≠ gb270 := Nat.ne_of_lt (Nat.lt_of_lt_of_le (by have := World.block_lt_of_cell? _ _ hx271_0; first | rwa [add_block] at this | exact this) GW270.out); have hn271_1 : ad269.block ≠ gb270 := Nat.ne_of_lt (Nat.lt_of_lt_of_le (by have := World.block_lt_of_cell? _ _ hx271_0; first | rwa [add_block] at this | exact this) GW270.out); replace hx271_0 := (HB.out.cell (World.block_lt_of_cell? w _ hx271_0)).trans hx271_0; replace hx271_1 := (HB.out.cell (World.block_lt_of_cell? w _ hx271_1)).trans hx271_1; replace hx271_0 := (cell_far (p := ⟨gb270, 0, none⟩) (by first | (rw [add_block]; exact hn271_0) | (show (Addr.add _ _).block ≠ _; rw [add_block]; exact hn271_0) | exact hn271_0) (.int .i64 ((rd_T40 l0 x9_1).f0))).trans hx271_0; replace hx271_1 := (cell_far (p := ⟨gb270, 0, none⟩) (by first | (rw [add_block]; exact hn271_0) | (show (Addr.add _ _).block ≠ _; rw [add_block]; exact hn271_0) | exact hn271_0) (.int .i64 ((rd_T40 l0 x9_1).f0))).trans hx271_1; replace hx271_0 := (cell_far (p := ⟨gb270, 1, none⟩) (by first | (rw [add_block]; exact hn271_1) | (show (Addr.add _ _).block ≠ _; rw [add_block]; exact hn271_1) | exact hn271_1) (.int .i64 ((rd_T40 l0 x9_1).f1))).trans hx271_0; replace hx271_1 := (cell_far (p := ⟨gb270, 1, none⟩) (by first | (rw [add_block]; exact hn271_1) | (show (Addr.add _ _).block ≠ _; rw [add_block]; exact hn271_1) | exact hn271_1) (.int .i64 ((rd_T40 l0 x9_1).f1))).trans hx271_1; (try have hy271_0 := fun (n_ : Nat) => (show ((((w23.drewN n_).setCell ⟨gb270, 0, none⟩ (.int .i64 ((rd_T40 l0 x9_1).f0))).setCell ⟨gb270, 1, none⟩ (.int .i64 ((rd_T40 l0 x9_1).f1)))).cell? _ = some _ from hx271_0)); (try have hy271_1 := fun (n_ : Nat) => (show ((((w23.drewN n_).setCell ⟨gb270, 0, none⟩ (.int .i64 ((rd_T40 l0 x9_1).f0))).setCell ⟨gb270, 1, none⟩ (.int .i64 ((rd_T40 l0 x9_1).f1)))).cell? _ = some _ from hx271_1)); clear hn271_0; clear hn271_1; replace p271 := eq_true p271; replace q271 := eq_true q271; have p272 : 0 ≤ ((ji19) : Int) := od; have q272 : (ji19) < (l0.length : Int) := od; obtain ⟨ad272, e272, hx272_0, hx272_1⟩ := at_T40 HR0.out (ji19) p272 q272; obtain rfl : ad269 = ad272 := (by injection e272); have hn272_0 : ad269.block ≠ gb270 := Nat.ne_of_lt (Nat.lt_of_lt_of_le (by have := World.block_lt_of_cell? _ _ hx272_0; first | rwa [add_block] at this | exact this) GW270.out); have hn272_1 : ad269.block ≠ gb270 := Nat.ne_of_lt (Nat.lt_of_lt_of_le (by have := World.block_lt_of_cell? _ _ hx272_0; first | rwa [add_block] at this | exact this) GW270.out); replace hx272_0 := (HB.out.cell (World.block_lt_of_cell? w _ hx272_0)).trans hx272_0; replace hx272_1 := (HB.out.cell (World.block_lt_of_cell? w _ hx272_1)).trans hx272_1; replace hx272_0 := (cell_far (p := ⟨gb270, 0, none⟩) (by first | (rw [add_block]; exact hn272_0) | (show (Addr.add _ _).block ≠ _; rw [add_block]; exact hn272_0) | exact hn272_0) (.int .i64 ((rd_T40 l0 x9_1).f0))).trans hx272_0; replace hx272_1 := (cell_far (p := ⟨gb270, 0, none⟩) (by first | (rw [add_block]; exact hn272_0) | (show (Addr.add _ _).block ≠ _; rw [add_block]; exact hn272_0) | exact hn272_0) (.int .i64 ((rd_T40 l0 x9_1).f0))).trans hx272_1; replace hx272_0 := (cell_far (p := ⟨gb270, 1, none⟩) (by first | (rw [add_block]; exact hn272_1) | (show (Addr.add _ _).block ≠ _; rw [add_block]; exact hn272_1) | exact hn272_1) (.int .i64 ((rd_T40 l0 x9_1).f1))).trans hx272_0; replace hx272_1 := (cell_far (p := ⟨gb270, 1, none⟩) (by first | (rw [add_block]; exact hn272_1) | (show (Addr.add _ _).block ≠ _; rw [add_block]; exact hn272_1) | exact hn272_1) (.int .i64 ((rd_T40 l0 x9_1).f1))).trans hx272_1; (try have hy272_0 := fun (n_ : Nat) => (show ((((w23.drewN n_).setCell ⟨gb270, 0, none⟩ (.int .i64 ((rd_T40 l0 x9_1).f0))).setCell ⟨gb270, 1, none⟩ (.int .i64 ((rd_T40 l0 x9_1).f1)))).cell? _ = some _ from hx272_0)); (try have hy272_1 := fun (n_ : Nat) => (show ((((w23.drewN n_).setCell ⟨gb270, 0, none⟩ (.int .i64 ((rd_T40 l0 x9_1).f0))).setCell ⟨gb270, 1, none⟩ (.int .i64 ((rd_T40 l0 x9_1).f1)))).cell? _ = some _ from hx272_1)); clear hn272_0; clear hn272_1; replace p272 := eq_true p272; replace q272 := eq_true q272))
    repeat (go_quiet (first | ((with_reducible refine gate_dst (N := 6) rfl ?_); (try (refine gate_guard (by rfl) ?_; dsimp only)); refine boxL 6 40 #[.int .i64 0, .int .i64 0] ?_; intro gb270 hg w23 BK270 hb; have GW270 := gw hg (bs HB); have GE270 := gw hg (bs HB); replace HB := Ah (below_step (bs HB) hb); clear hb hg; obtain ⟨hcz24_0, hcz24_1⟩ := cz2 BK270; obtain ⟨hfz24_0, hfz24_1⟩ := fz2 BK270; have p271 : 0 ≤ ((ji19) : Int) := od; have q271 : (ji19) < (l0.length : Int) := od; obtain ⟨ad271, e271, hx271_0, hx271_1⟩ := at_T40 HR0.out (ji19) p271 q271; obtain rfl : ad269 = ad271 := (by injection e271); have hn271_0 : ad269.block ≠ gb270 := Nat.ne_of_lt (Nat.lt_of_lt_of_le (by have := World.block_lt_of_cell? _ _ hx271_0; first | rwa [add_block] at this | exact this) GW270.out); have hn271_1 : ad269.block ≠ gb270 := Nat.ne_of_lt (Nat.lt_of_lt_of_le (by have := World.block_lt_of_cell? _ _ hx271_0; first | rwa [add_block] at this | exact this) GW270.out); replace hx271_0 := (HB.out.cell (World.block_lt_of_cell? w _ hx271_0)).trans hx271_0; replace hx271_1 := (HB.out.cell (World.block_lt_of_cell? w _ hx271_1)).trans hx271_1; replace hx271_0 := (cell_far (p := ⟨gb270, 0, none⟩) (by first | (rw [add_block]; exact hn271_0) | (show (Addr.add _ _).block ≠ _; rw [add_block]; exact hn271_0) | exact hn271_0) (.int .i64 ((rd_T40 l0 x9_1).f0))).trans hx271_0; replace hx271_1 := (cell_far (p := ⟨gb270, 0, none⟩) (by first | (rw [add_block]; exact hn271_0) | (show (Addr.add _ _).block ≠ _; rw [add_block]; exact hn271_0) | exact hn271_0) (.int .i64 ((rd_T40 l0 x9_1).f0))).trans hx271_1; replace hx271_0 := (cell_far (p := ⟨gb270, 1, none⟩) (by first | (rw [add_block]; exact hn271_1) | (show (Addr.add _ _).block ≠ _; rw [add_block]; exact hn271_1) | exact hn271_1) (.int .i64 ((rd_T40 l0 x9_1).f1))).trans hx271_0; replace hx271_1 := (cell_far (p := ⟨gb270, 1, none⟩) (by first | (rw [add_block]; exact hn271_1) | (show (Addr.add _ _).block ≠ _; rw [add_block]; exact hn271_1) | exact hn271_1) (.int .i64 ((rd_T40 l0 x9_1).f1))).trans hx271_1; (try have hy271_0 := fun (n_ : Nat) => (show ((((w23.drewN n_).setCell ⟨gb270, 0, none⟩ (.int .i64 ((rd_T40 l0 x9_1).f0))).setCell ⟨gb270, 1, none⟩ (.int .i64 ((rd_T40 l0 x9_1).f1)))).cell? _ = some _ from hx271_0)); (try have hy271_1 := fun (n_ : Nat) => (show ((((w23.drewN n_).setCell ⟨gb270, 0, none⟩ (.int .i64 ((rd_T40 l0 x9_1).f0))).setCell ⟨gb270, 1, none⟩ (.int .i64 ((rd_T40 l0 x9_1).f1)))).cell? _ = some _ from hx271_1)); clear hn271_0; clear hn271_1; replace p271 := eq_true p271; replace q271 := eq_true q271; have p272 : 0 ≤ ((ji19) : Int) := od; have q272 : (ji19) < (l0.length : Int) := od; obtain ⟨ad272, e272, hx272_0, hx272_1⟩ := at_T40 HR0.out (ji19) p272 q272; obtain rfl : ad269 = ad272 := (by injection e272); have hn272_0 : ad269.block ≠ gb270 := Nat.ne_of_lt (Nat.lt_of_lt_of_le (by have := World.block_lt_of_cell? _ _ hx272_0; first | rwa [add_block] at this | exact this) GW270.out); have hn272_1 : ad269.block ≠ gb270 := Nat.ne_of_lt (Nat.lt_of_lt_of_le (by have := World.block_lt_of_cell? _ _ hx272_0; first | rwa [add_block] at this | exact this) GW270.out); replace hx272_0 := (HB.out.cell (World.block_lt_of_cell? w _ hx272_0)).trans hx272_0; replace hx272_1 := (HB.out.cell (World.block_lt_of_cell? w _ hx272_1)).trans hx272_1; replace hx272_0 := (cell_far (p := ⟨gb270, 0, none⟩) (by first | (rw [add_block]; exact hn272_0) | (show (Addr.add _ _).block ≠ _; rw [add_block]; exact hn272_0) | exact hn272_0) (.int .i64 ((rd_T40 l0 x9_1).f0))).trans hx272_0; replace hx272_1 := (cell_far (p := ⟨gb270, 0, none⟩) (by first | (rw [add_block]; exact hn272_0) | (show (Addr.add _ _).block ≠ _; rw [add_block]; exact hn272_0) | exact hn272_0) (.int .i64 ((rd_T40 l0 x9_1).f0))).trans hx272_1; replace hx272_0 := (cell_far (p := ⟨gb270, 1, none⟩) (by first | (rw [add_block]; exact hn272_1) | (show (Addr.add _ _).block ≠ _; rw [add_block]; exact hn272_1) | exact hn272_1) (.int .i64 ((rd_T40 l0 x9_1).f1))).trans hx272_0; replace hx272_1 := (cell_far (p := ⟨gb270, 1, none⟩) (by first | (rw [add_block]; exact hn272_1) | (show (Addr.add _ _).block ≠ _; rw [add_block]; exact hn272_1) | exact hn272_1) (.int .i64 ((rd_T40 l0 x9_1).f1))).trans hx272_1; (try have hy272_0 := fun (n_ : Nat) => (show ((((w23.drewN n_).setCell ⟨gb270, 0, none⟩ (.int .i64 ((rd_T40 l0 x9_1).f0))).setCell ⟨gb270, 1, none⟩ (.int .i64 ((rd_T40 l0 x9_1).f1)))).cell? _ = some _ from hx272_0)); (try have hy272_1 := fun (n_ : Nat) => (show ((((w23.drewN n_).setCell ⟨gb270, 0, none⟩ (.int .i64 ((rd_T40 l0 x9_1).f0))).setCell ⟨gb270, 1, none⟩ (.int .i64 ((rd_T40 l0 x9_1).f1)))).cell? _ = some _ from hx272_1)); clear hn272_0; clear hn272_1; replace p272 := eq_true p272; replace q272 := eq_true q272)); try go_wp2_with (first | ((with_reducible refine gate_dst (N := 6) rfl ?_); (try (refine gate_guard (by rfl) ?_; dsimp only)); refine boxL 6 40 #[.int .i64 0, .int .i64 0] ?_; intro gb270 hg w23 BK270 hb; have GW270 := gw hg (bs HB); have GE270 := gw hg (bs HB); replace HB := Ah (below_step (bs HB) hb); clear hb hg; obtain ⟨hcz24_0, hcz24_1⟩ := cz2 BK270; obtain ⟨hfz24_0, hfz24_1⟩ := fz2 BK270; have p271 : 0 ≤ ((ji19) : Int) := od; have q271 : (ji19) < (l0.length : Int) := od; obtain ⟨ad271, e271, hx271_0, hx271_1⟩ := at_T40 HR0.out (ji19) p271 q271; obtain rfl : ad269 = ad271 := (by injection e271); have hn271_0 : ad269.block ≠ gb270 := Nat.ne_of_lt (Nat.lt_of_lt_of_le (by have := World.block_lt_of_cell? _ _ hx271_0; first | rwa [add_block] at this | exact this) GW270.out); have hn271_1 : ad269.block ≠ gb270 := Nat.ne_of_lt (Nat.lt_of_lt_of_le (by have := World.block_lt_of_cell? _ _ hx271_0; first | rwa [add_block] at this | exact this) GW270.out); replace hx271_0 := (HB.out.cell (World.block_lt_of_cell? w _ hx271_0)).trans hx271_0; replace hx271_1 := (HB.out.cell (World.block_lt_of_cell? w _ hx271_1)).trans hx271_1; replace hx271_0 := (cell_far (p := ⟨gb270, 0, none⟩) (by first | (rw [add_block]; exact hn271_0) | (show (Addr.add _ _).block ≠ _; rw [add_block]; exact hn271_0) | exact hn271_0) (.int .i64 ((rd_T40 l0 x9_1).f0))).trans hx271_0; replace hx271_1 := (cell_far (p := ⟨gb270, 0, none⟩) (by first | (rw [add_block]; exact hn271_0) | (show (Addr.add _ _).block ≠ _; rw [add_block]; exact hn271_0) | exact hn271_0) (.int .i64 ((rd_T40 l0 x9_1).f0))).trans hx271_1; replace hx271_0 := (cell_far (p := ⟨gb270, 1, none⟩) (by first | (rw [add_block]; exact hn271_1) | (show (Addr.add _ _).block ≠ _; rw [add_block]; exact hn271_1) | exact hn271_1) (.int .i64 ((rd_T40 l0 x9_1).f1))).trans hx271_0; replace hx271_1 := (cell_far (p := ⟨gb270, 1, none⟩) (by first | (rw [add_block]; exact hn271_1) | (show (Addr.add _ _).block ≠ _; rw [add_block]; exact hn271_1) | exact hn271_1) (.int .i64 ((rd_T40 l0 x9_1).f1))).trans hx271_1; (try have hy271_0 := fun (n_ : Nat) => (show ((((w23.drewN n_).setCell ⟨gb270, 0, none⟩ (.int .i64 ((rd_T40 l0 x9_1).f0))).setCell ⟨gb270, 1, none⟩ (.int .i64 ((rd_T40 l0 x9_1).f1)))).cell? _ = some _ from hx271_0)); (try have hy271_1 := fun (n_ : Nat) => (show ((((w23.drewN n_).setCell ⟨gb270, 0, none⟩ (.int .i64 ((rd_T40 l0 x9_1).f0))).setCell ⟨gb270, 1, none⟩ (.int .i64 ((rd_T40 l0 x9_1).f1)))).cell? _ = some _ from hx271_1)); clear hn271_0; clear hn271_1; replace p271 := eq_true p271; replace q271 := eq_true q271; have p272 : 0 ≤ ((ji19) : Int) := od; have q272 : (ji19) < (l0.length : Int) := od; obtain ⟨ad272, e272, hx272_0, hx272_1⟩ := at_T40 HR0.out (ji19) p272 q272; obtain rfl : ad269 = ad272 := (by injection e272); have hn272_0 : ad269.block ≠ gb270 := Nat.ne_of_lt (Nat.lt_of_lt_of_le (by have := World.block_lt_of_cell? _ _ hx272_0; first | rwa [add_block] at this | exact this) GW270.out); have hn272_1 : ad269.block ≠ gb270 := Nat.ne_of_lt (Nat.lt_of_lt_of_le (by have := World.block_lt_of_cell? _ _ hx272_0; first | rwa [add_block] at this | exact this) GW270.out); replace hx272_0 := (HB.out.cell (World.block_lt_of_cell? w _ hx272_0)).trans hx272_0; replace hx272_1 := (HB.out.cell (World.block_lt_of_cell? w _ hx272_1)).trans hx272_1; replace hx272_0 := (cell_far (p := ⟨gb270, 0, none⟩) (by first | (rw [add_block]; exact hn272_0) | (show (Addr.add _ _).block ≠ _; rw [add_block]; exact hn272_0) | exact hn272_0) (.int .i64 ((rd_T40 l0 x9_1).f0))).trans hx272_0; replace hx272_1 := (cell_far (p := ⟨gb270, 0, none⟩) (by first | (rw [add_block]; exact hn272_0) | (show (Addr.add _ _).block ≠ _; rw [add_block]; exact hn272_0) | exact hn272_0) (.int .i64 ((rd_T40 l0 x9_1).f0))).trans hx272_1; replace hx272_0 := (cell_far (p := ⟨gb270, 1, none⟩) (by first | (rw [add_block]; exact hn272_1) | (show (Addr.add _ _).block ≠ _; rw [add_block]; exact hn272_1) | exact hn272_1) (.int .i64 ((rd_T40 l0 x9_1).f1))).trans hx272_0; replace hx272_1 := (cell_far (p := ⟨gb270, 1, none⟩) (by first | (rw [add_block]; exact hn272_1) | (show (Addr.add _ _).block ≠ _; rw [add_block]; exact hn272_1) | exact hn272_1) (.int .i64 ((rd_T40 l0 x9_1).f1))).trans hx272_1; (try have hy272_0 := fun (n_ : Nat) => (show ((((w23.drewN n_).setCell ⟨gb270, 0, none⟩ (.int .i64 ((rd_T40 l0 x9_1).f0))).setCell ⟨gb270, 1, none⟩ (.int .i64 ((rd_T40 l0 x9_1).f1)))).cell? _ = some _ from hx272_0)); (try have hy272_1 := fun (n_ : Nat) => (show ((((w23.drewN n_).setCell ⟨gb270, 0, none⟩ (.int .i64 ((rd_T40 l0 x9_1).f0))).setCell ⟨gb270, 1, none⟩ (.int .i64 ((rd_T40 l0 x9_1).f1)))).cell? _ = some _ from hx272_1)); clear hn272_0; clear hn272_1; replace p272 := eq_true p272; replace q272 := eq_true q272)))
    go_ret
    exact ⟨by first | rfl | (simp [errW_none, errW_some] <;> rfl) | (simp only [← hji19]; first | rfl | (simp [errW_none, errW_some] <;> rfl)) | (simp [*, errW_none, errW_some] <;> rfl), bs1 HB GE270⟩
   rw [if_neg c22] at H;have c22b0 : decide (((rd_T40 l0 x9_1).f0) ≤ (wrap64 (((rd_T40 l0 (ji19)).f0) + ((rd_T40 l0 (ji19)).f1)))) = false := decide_eq_false c22;clear c22;have H' := Ah H;clear H;have p269 : 0 ≤ (x9_1 : Int) := od;have q269 : x9_1 < (l0.length : Int) := od;obtain ⟨ad269, e269, hx269_0, hx269_1⟩ := at_T40 HR0.out x9_1 p269 q269
   cases e269
   replace hx269_0 := (HB.out.cell (World.block_lt_of_cell? w _ hx269_0)).trans hx269_0;replace hx269_1 := (HB.out.cell (World.block_lt_of_cell? w _ hx269_1)).trans hx269_1;replace p269 := eq_true p269;replace q269 := eq_true q269
   go_wp2_with (first | ((with_reducible refine gate_dst (N := 6) rfl ?_); (try (refine gate_guard (by rfl) ?_; dsimp only)); refine boxL 6 40 #[.int .i64 0, .int .i64 0] ?_; intro gb270 hg w25 BK270 hb; have GW270 := gw hg (bs HB); have GE270 := gw hg (bs HB); replace HB := Ah (below_step (bs HB) hb); clear hb hg; obtain ⟨hcz26_0, hcz26_1⟩ := cz2 BK270; obtain ⟨hfz26_0, hfz26_1⟩ := fz2 BK270; have p271 : 0 ≤ ((ji19) : Int) := od; have q271 : (ji19) < (l0.length : Int) := od; obtain ⟨ad271, e271, hx271_0, hx271_1⟩ := at_T40 HR0.out (ji19) p271 q271; obtain rfl : ad269 = ad271 := (by injection e271); have hn271_0 : ad269.block ≠ gb270 := Nat.ne_of_lt (Nat.lt_of_lt_of_le (by have := World.block_lt_of_cell? _ _ hx271_0; first | rwa [add_block] at this | exact this) GW270.out); have hn271_1 : ad269.block ≠ gb270 := Nat.ne_of_lt (Nat.lt_of_lt_of_le (by have := World.block_lt_of_cell? _ _ hx271_0; first | rwa [add_block] at this | exact this) GW270.out); replace hx271_0 := (HB.out.cell (World.block_lt_of_cell? w _ hx271_0)).trans hx271_0; replace hx271_1 := (HB.out.cell (World.block_lt_of_cell? w _ hx271_1)).trans hx271_1; replace hx271_0 := (cell_far (p := ⟨gb270, 0, none⟩) (by first | (rw [add_block]; exact hn271_0) | (show (Addr.add _ _).block ≠ _; rw [add_block]; exact hn271_0) | exact hn271_0) (.int .i64 ((rd_T40 l0 x9_1).f0))).trans hx271_0; replace hx271_1 := (cell_far (p := ⟨gb270, 0, none⟩) (by first | (rw [add_block]; exact hn271_0) | (show (Addr.add _ _).block ≠ _; rw [add_block]; exact hn271_0) | exact hn271_0) (.int .i64 ((rd_T40 l0 x9_1).f0))).trans hx271_1; replace hx271_0 := (cell_far (p := ⟨gb270, 1, none⟩) (by first | (rw [add_block]; exact hn271_1) | (show (Addr.add _ _).block ≠ _; rw [add_block]; exact hn271_1) | exact hn271_1) (.int .i64 ((rd_T40 l0 x9_1).f1))).trans hx271_0; replace hx271_1 := (cell_far (p := ⟨gb270, 1, none⟩) (by first | (rw [add_block]; exact hn271_1) | (show (Addr.add _ _).block ≠ _; rw [add_block]; exact hn271_1) | exact hn271_1) (.int .i64 ((rd_T40 l0 x9_1).f1))).trans hx271_1; (try have hy271_0 := fun (n_ : Nat) => (show ((((w25.drewN n_).setCell ⟨gb270, 0, none⟩ (.int .i64 ((rd_T40 l0 x9_1).f0))).setCell ⟨gb270, 1, none⟩ (.int .i64 ((rd_T40 l0 x9_1).f1)))).cell? _ = some _ from hx271_0)); (try have hy271_1 := fun (n_ : Nat) => (show ((((w25.drewN n_).setCell ⟨gb270, 0, none⟩ (.int .i64 ((rd_T40 l0 x9_1).f0))).setCell ⟨gb270, 1, none⟩ (.int .i64 ((rd_T40 l0 x9_1).f1)))).cell? _ = some _ from hx271_1)); clear hn271_0; clear hn271_1; replace p271 := eq_true p271; replace q271 := eq_true q271; have p272 : 0 ≤ ((ji19) : Int) := od; have q272 : (ji19) < (l0.length : Int) := od; obtain ⟨ad272, e272, hx272_0, hx272_1⟩ := at_T40 HR0.out (ji19) p272 q272; obtain rfl : ad269 = ad272 := (by injection e272); have hn272_0 : ad269.block ≠ gb270 := Nat.ne_of_lt (Nat.lt_of_lt_of_le (by have := World.block_lt_of_cell? _ _ hx272_0; first | rwa [add_block] at this | exact this) GW270.out); have hn272_1 : ad269.block ≠ gb270 := Nat.ne_of_lt (Nat.lt_of_lt_of_le (by have := World.block_lt_of_cell? _ _ hx272_0; first | rwa [add_block] at this | exact this) GW270.out); replace hx272_0 := (HB.out.cell (World.block_lt_of_cell? w _ hx272_0)).trans hx272_0; replace hx272_1 := (HB.out.cell (World.block_lt_of_cell? w _ hx272_1)).trans hx272_1; replace hx272_0 := (cell_far (p := ⟨gb270, 0, none⟩) (by first | (rw [add_block]; exact hn272_0) | (show (Addr.add _ _).block ≠ _; rw [add_block]; exact hn272_0) | exact hn272_0) (.int .i64 ((rd_T40 l0 x9_1).f0))).trans hx272_0; replace hx272_1 := (cell_far (p := ⟨gb270, 0, none⟩) (by first | (rw [add_block]; exact hn272_0) | (show (Addr.add _ _).block ≠ _; rw [add_block]; exact hn272_0) | exact hn272_0) (.int .i64 ((rd_T40 l0 x9_1).f0))).trans hx272_1; replace hx272_0 := (cell_far (p := ⟨gb270, 1, none⟩) (by first | (rw [add_block]; exact hn272_1) | (show (Addr.add _ _).block ≠ _; rw [add_block]; exact hn272_1) | exact hn272_1) (.int .i64 ((rd_T40 l0 x9_1).f1))).trans hx272_0; replace hx272_1 := (cell_far (p := ⟨gb270, 1, none⟩) (by first | (rw [add_block]; exact hn272_1) | (show (Addr.add _ _).block ≠ _; rw [add_block]; exact hn272_1) | exact hn272_1) (.int .i64 ((rd_T40 l0 x9_1).f1))).trans hx272_1; (try have hy272_0 := fun (n_ : Nat) => (show ((((w25.drewN n_).setCell ⟨gb270, 0, none⟩ (.int .i64 ((rd_T40 l0 x9_1).f0))).setCell ⟨gb270, 1, none⟩ (.int .i64 ((rd_T40 l0 x9_1).f1)))).cell? _ = some _ from hx272_0)); (try have hy272_1 := fun (n_ : Nat) => (show ((((w25.drewN n_).setCell ⟨gb270, 0, none⟩ (.int .i64 ((rd_T40 l0 x9_1).f0))).setCell ⟨gb270, 1, none⟩ (.int .i64 ((rd_T40 l0 x9_1).f1)))).cell? _ = some _ from hx272_1)); clear hn272_0; clear hn272_1; replace p272 := eq_true p272; replace q272 := eq_true q272))
   repeat (go_quiet (first | ((with_reducible refine gate_dst (N := 6) rfl ?_); (try (refine gate_guard (by rfl) ?_; dsimp only)); refine boxL 6 40 #[.int .i64 0, .int .i64 0] ?_; intro gb270 hg w25 BK270 hb; have GW270 := gw hg (bs HB); have GE270 := gw hg (bs HB); replace HB := Ah (below_step (bs HB) hb); clear hb hg; obtain ⟨hcz26_0, hcz26_1⟩ := cz2 BK270; obtain ⟨hfz26_0, hfz26_1⟩ := fz2 BK270; have p271 : 0 ≤ ((ji19) : Int) := od; have q271 : (ji19) < (l0.length : Int) := od; obtain ⟨ad271, e271, hx271_0, hx271_1⟩ := at_T40 HR0.out (ji19) p271 q271; obtain rfl : ad269 = ad271 := (by injection e271); have hn271_0 : ad269.block ≠ gb270 := Nat.ne_of_lt (Nat.lt_of_lt_of_le (by have := World.block_lt_of_cell? _ _ hx271_0; first | rwa [add_block] at this | exact this) GW270.out); have hn271_1 : ad269.block ≠ gb270 := Nat.ne_of_lt (Nat.lt_of_lt_of_le (by have := World.block_lt_of_cell? _ _ hx271_0; first | rwa [add_block] at this | exact this) GW270.out); replace hx271_0 := (HB.out.cell (World.block_lt_of_cell? w _ hx271_0)).trans hx271_0; replace hx271_1 := (HB.out.cell (World.block_lt_of_cell? w _ hx271_1)).trans hx271_1; replace hx271_0 := (cell_far (p := ⟨gb270, 0, none⟩) (by first | (rw [add_block]; exact hn271_0) | (show (Addr.add _ _).block ≠ _; rw [add_block]; exact hn271_0) | exact hn271_0) (.int .i64 ((rd_T40 l0 x9_1).f0))).trans hx271_0; replace hx271_1 := (cell_far (p := ⟨gb270, 0, none⟩) (by first | (rw [add_block]; exact hn271_0) | (show (Addr.add _ _).block ≠ _; rw [add_block]; exact hn271_0) | exact hn271_0) (.int .i64 ((rd_T40 l0 x9_1).f0))).trans hx271_1; replace hx271_0 := (cell_far (p := ⟨gb270, 1, none⟩) (by first | (rw [add_block]; exact hn271_1) | (show (Addr.add _ _).block ≠ _; rw [add_block]; exact hn271_1) | exact hn271_1) (.int .i64 ((rd_T40 l0 x9_1).f1))).trans hx271_0; replace hx271_1 := (cell_far (p := ⟨gb270, 1, none⟩) (by first | (rw [add_block]; exact hn271_1) | (show (Addr.add _ _).block ≠ _; rw [add_block]; exact hn271_1) | exact hn271_1) (.int .i64 ((rd_T40 l0 x9_1).f1))).trans hx271_1; (try have hy271_0 := fun (n_ : Nat) => (show ((((w25.drewN n_).setCell ⟨gb270, 0, none⟩ (.int .i64 ((rd_T40 l0 x9_1).f0))).setCell ⟨gb270, 1, none⟩ (.int .i64 ((rd_T40 l0 x9_1).f1)))).cell? _ = some _ from hx271_0)); (try have hy271_1 := fun (n_ : Nat) => (show ((((w25.drewN n_).setCell ⟨gb270, 0, none⟩ (.int .i64 ((rd_T40 l0 x9_1).f0))).setCell ⟨gb270, 1, none⟩ (.int .i64 ((rd_T40 l0 x9_1).f1)))).cell? _ = some _ from hx271_1)); clear hn271_0; clear hn271_1; replace p271 := eq_true p271; replace q271 := eq_true q271; have p272 : 0 ≤ ((ji19) : Int) := od; have q272 : (ji19) < (l0.length : Int) := od; obtain ⟨ad272, e272, hx272_0, hx272_1⟩ := at_T40 HR0.out (ji19) p272 q272; obtain rfl : ad269 = ad272 := (by injection e272); have hn272_0 : ad269.block ≠ gb270 := Nat.ne_of_lt (Nat.lt_of_lt_of_le (by have := World.block_lt_of_cell? _ _ hx272_0; first | rwa [add_block] at this | exact this) GW270.out); have hn272_1 : ad269.block ≠ gb270 := Nat.ne_of_lt (Nat.lt_of_lt_of_le (by have := World.block_lt_of_cell? _ _ hx272_0; first | rwa [add_block] at this | exact this) GW270.out); replace hx272_0 := (HB.out.cell (World.block_lt_of_cell? w _ hx272_0)).trans hx272_0; replace hx272_1 := (HB.out.cell (World.block_lt_of_cell? w _ hx272_1)).trans hx272_1; replace hx272_0 := (cell_far (p := ⟨gb270, 0, none⟩) (by first | (rw [add_block]; exact hn272_0) | (show (Addr.add _ _).block ≠ _; rw [add_block]; exact hn272_0) | exact hn272_0) (.int .i64 ((rd_T40 l0 x9_1).f0))).trans hx272_0; replace hx272_1 := (cell_far (p := ⟨gb270, 0, none⟩) (by first | (rw [add_block]; exact hn272_0) | (show (Addr.add _ _).block ≠ _; rw [add_block]; exact hn272_0) | exact hn272_0) (.int .i64 ((rd_T40 l0 x9_1).f0))).trans hx272_1; replace hx272_0 := (cell_far (p := ⟨gb270, 1, none⟩) (by first | (rw [add_block]; exact hn272_1) | (show (Addr.add _ _).block ≠ _; rw [add_block]; exact hn272_1) | exact hn272_1) (.int .i64 ((rd_T40 l0 x9_1).f1))).trans hx272_0; replace hx272_1 := (cell_far (p := ⟨gb270, 1, none⟩) (by first | (rw [add_block]; exact hn272_1) | (show (Addr.add _ _).block ≠ _; rw [add_block]; exact hn272_1) | exact hn272_1) (.int .i64 ((rd_T40 l0 x9_1).f1))).trans hx272_1; (try have hy272_0 := fun (n_ : Nat) => (show ((((w25.drewN n_).setCell ⟨gb270, 0, none⟩ (.int .i64 ((rd_T40 l0 x9_1).f0))).setCell ⟨gb270, 1, none⟩ (.int .i64 ((rd_T40 l0 x9_1).f1)))).cell? _ = some _ from hx272_0)); (try have hy272_1 := fun (n_ : Nat) => (show ((((w25.drewN n_).setCell ⟨gb270, 0, none⟩ (.int .i64 ((rd_T40 l0 x9_1).f0))).setCell ⟨gb270, 1, none⟩ (.int .i64 ((rd_T40 l0 x9_1).f1)))).cell? _ = some _ from hx272_1)); clear hn272_0; clear hn272_1; replace p272 := eq_true p272; replace q272 := eq_true q272)); try go_wp2_with (first | ((with_reducible refine gate_dst (N := 6) rfl ?_); (try (refine gate_guard (by rfl) ?_; dsimp only)); refine boxL 6 40 #[.int .i64 0, .int .i64 0] ?_; intro gb270 hg w25 BK270 hb; have GW270 := gw hg (bs HB); have GE270 := gw hg (bs HB); replace HB := Ah (below_step (bs HB) hb); clear hb hg; obtain ⟨hcz26_0, hcz26_1⟩ := cz2 BK270; obtain ⟨hfz26_0, hfz26_1⟩ := fz2 BK270; have p271 : 0 ≤ ((ji19) : Int) := od; have q271 : (ji19) < (l0.length : Int) := od; obtain ⟨ad271, e271, hx271_0, hx271_1⟩ := at_T40 HR0.out (ji19) p271 q271; obtain rfl : ad269 = ad271 := (by injection e271); have hn271_0 : ad269.block ≠ gb270 := Nat.ne_of_lt (Nat.lt_of_lt_of_le (by have := World.block_lt_of_cell? _ _ hx271_0; first | rwa [add_block] at this | exact this) GW270.out); have hn271_1 : ad269.block ≠ gb270 := Nat.ne_of_lt (Nat.lt_of_lt_of_le (by have := World.block_lt_of_cell? _ _ hx271_0; first | rwa [add_block] at this | exact this) GW270.out); replace hx271_0 := (HB.out.cell (World.block_lt_of_cell? w _ hx271_0)).trans hx271_0; replace hx271_1 := (HB.out.cell (World.block_lt_of_cell? w _ hx271_1)).trans hx271_1; replace hx271_0 := (cell_far (p := ⟨gb270, 0, none⟩) (by first | (rw [add_block]; exact hn271_0) | (show (Addr.add _ _).block ≠ _; rw [add_block]; exact hn271_0) | exact hn271_0) (.int .i64 ((rd_T40 l0 x9_1).f0))).trans hx271_0; replace hx271_1 := (cell_far (p := ⟨gb270, 0, none⟩) (by first | (rw [add_block]; exact hn271_0) | (show (Addr.add _ _).block ≠ _; rw [add_block]; exact hn271_0) | exact hn271_0) (.int .i64 ((rd_T40 l0 x9_1).f0))).trans hx271_1; replace hx271_0 := (cell_far (p := ⟨gb270, 1, none⟩) (by first | (rw [add_block]; exact hn271_1) | (show (Addr.add _ _).block ≠ _; rw [add_block]; exact hn271_1) | exact hn271_1) (.int .i64 ((rd_T40 l0 x9_1).f1))).trans hx271_0; replace hx271_1 := (cell_far (p := ⟨gb270, 1, none⟩) (by first | (rw [add_block]; exact hn271_1) | (show (Addr.add _ _).block ≠ _; rw [add_block]; exact hn271_1) | exact hn271_1) (.int .i64 ((rd_T40 l0 x9_1).f1))).trans hx271_1; (try have hy271_0 := fun (n_ : Nat) => (show ((((w25.drewN n_).setCell ⟨gb270, 0, none⟩ (.int .i64 ((rd_T40 l0 x9_1).f0))).setCell ⟨gb270, 1, none⟩ (.int .i64 ((rd_T40 l0 x9_1).f1)))).cell? _ = some _ from hx271_0)); (try have hy271_1 := fun (n_ : Nat) => (show ((((w25.drewN n_).setCell ⟨gb270, 0, none⟩ (.int .i64 ((rd_T40 l0 x9_1).f0))).setCell ⟨gb270, 1, none⟩ (.int .i64 ((rd_T40 l0 x9_1).f1)))).cell? _ = some _ from hx271_1)); clear hn271_0; clear hn271_1; replace p271 := eq_true p271; replace q271 := eq_true q271; have p272 : 0 ≤ ((ji19) : Int) := od; have q272 : (ji19) < (l0.length : Int) := od; obtain ⟨ad272, e272, hx272_0, hx272_1⟩ := at_T40 HR0.out (ji19) p272 q272; obtain rfl : ad269 = ad272 := (by injection e272); have hn272_0 : ad269.block ≠ gb270 := Nat.ne_of_lt (Nat.lt_of_lt_of_le (by have := World.block_lt_of_cell? _ _ hx272_0; first | rwa [add_block] at this | exact this) GW270.out); have hn272_1 : ad269.block ≠ gb270 := Nat.ne_of_lt (Nat.lt_of_lt_of_le (by have := World.block_lt_of_cell? _ _ hx272_0; first | rwa [add_block] at this | exact this) GW270.out); replace hx272_0 := (HB.out.cell (World.block_lt_of_cell? w _ hx272_0)).trans hx272_0; replace hx272_1 := (HB.out.cell (World.block_lt_of_cell? w _ hx272_1)).trans hx272_1; replace hx272_0 := (cell_far (p := ⟨gb270, 0, none⟩) (by first | (rw [add_block]; exact hn272_0) | (show (Addr.add _ _).block ≠ _; rw [add_block]; exact hn272_0) | exact hn272_0) (.int .i64 ((rd_T40 l0 x9_1).f0))).trans hx272_0; replace hx272_1 := (cell_far (p := ⟨gb270, 0, none⟩) (by first | (rw [add_block]; exact hn272_0) | (show (Addr.add _ _).block ≠ _; rw [add_block]; exact hn272_0) | exact hn272_0) (.int .i64 ((rd_T40 l0 x9_1).f0))).trans hx272_1; replace hx272_0 := (cell_far (p := ⟨gb270, 1, none⟩) (by first | (rw [add_block]; exact hn272_1) | (show (Addr.add _ _).block ≠ _; rw [add_block]; exact hn272_1) | exact hn272_1) (.int .i64 ((rd_T40 l0 x9_1).f1))).trans hx272_0; replace hx272_1 := (cell_far (p := ⟨gb270, 1, none⟩) (by first | (rw [add_block]; exact hn272_1) | (show (Addr.add _ _).block ≠ _; rw [add_block]; exact hn272_1) | exact hn272_1) (.int .i64 ((rd_T40 l0 x9_1).f1))).trans hx272_1; (try have hy272_0 := fun (n_ : Nat) => (show ((((w25.drewN n_).setCell ⟨gb270, 0, none⟩ (.int .i64 ((rd_T40 l0 x9_1).f0))).setCell ⟨gb270, 1, none⟩ (.int .i64 ((rd_T40 l0 x9_1).f1)))).cell? _ = some _ from hx272_0)); (try have hy272_1 := fun (n_ : Nat) => (show ((((w25.drewN n_).setCell ⟨gb270, 0, none⟩ (.int .i64 ((rd_T40 l0 x9_1).f0))).setCell ⟨gb270, 1, none⟩ (.int .i64 ((rd_T40 l0 x9_1).f1)))).cell? _ = some _ from hx272_1)); clear hn272_0; clear hn272_1; replace p272 := eq_true p272; replace q272 := eq_true q272)))
   go_roundg k1
   case measure => have := HK1.out; omega
   case rel => exact ⟨(wrap64 (x9_1 + 1)), e3, H', ⟨by have := HK1.out; omega⟩, ⟨bs1 HB GE270⟩⟩
def spec_l5Same.l0 : Nat → List (S40) → List (S40) → Int → Int → Option (Bool)
 | 0, _, _, _, _ => none
 | k + 1, x0, x1, x12, x13 => if x13 < x12 then (if 0 ≤ x13 then (if x13 < (x0.length : Int) then (if x13 < (x1.length : Int) then (if (!(((rd_T40 x0 x13).f0) == ((rd_T40 x1 x13).f0)) || (!(((rd_T40 x0 x13).f1) == ((rd_T40 x1 x13).f1)))) = true then (some false) else (spec_l5Same.l0 k x0 x1 x12 (wrap64 (x13 + 1)))) else (none)) else (none)) else (none)) else (some true)
def spec_l5Same.f (k : Nat) (l0 : List (S40)) (l1 : List (S40)) : Option (Bool) := if (l0.length : Int) = (l1.length : Int) then (spec_l5Same.l0 k l0 l1 (l0.length : Int) 0) else (some false)
theorem spec_l5Same.mono_l : ∀ k, (∀ y0 y1 y2 y3, LeO (spec_l5Same.l0 k y0 y1 y2 y3) (spec_l5Same.l0 (k + 1) y0 y1 y2 y3))
 | 0 => fun _ _ _ _ r h => by simp [spec_l5Same.l0] at h
 | k + 1 => by
  have ih0 := spec_l5Same.mono_l k
  ·
   intro y0 y1 y2 y3;unfold spec_l5Same.l0
   repeat' with_reducible first|exact ih0 _ _ _ _|exact LeO.refl _|exact LeO.none _|refine LeO.ite ?_ ?_|refine LeO.bind ?_ (fun _ => ?_)
theorem spec_l5Same.mono : ∀ a0 a1 k, LeO (spec_l5Same.f k a0 a1) (spec_l5Same.f (k + 1) a0 a1) := by
 intro a0 a1 k;have ih0 := spec_l5Same.mono_l k;unfold spec_l5Same.f
 repeat' with_reducible first|exact ih0 _ _ _ _|exact LeO.refl _|exact LeO.none _|refine LeO.ite ?_ ?_|refine LeO.bind ?_ (fun _ => ?_)
set_option maxHeartbeats 8000000 in
set_option maxRecDepth 100000 in
theorem spec_l5Same.calls (k : Nat) (A0 : Option Addr) (c0 : Nat) (l0 : List (S40)) (A1 : Option Addr) (c1 : Nat) (l1 : List (S40)) (r : Bool) (w : World) (hr0 : Kd.C k40 w A0 l0.length l0) (hc0 : l0.length ≤ c0) (hr1 : Kd.C k40 w A1 l1.length l1) (hc1 : l1.length ≤ c1) (h : spec_l5Same.f k l0 l1 = some r) :
  Calls Try.prog 61 #[.slice A0 l0.length c0, .slice A1 l1.length c1] w fun e w' => e = .returned (.bool r) ∧ Drawn0 w w' := by
 have hu40 := Try.underlying40;have HR0 := Ah hr0;have HC0 := Ah hc0;clear hr0 hc0;have HR1 := Ah hr1;have HC1 := Ah hc1;clear hr1 hc1;have H : (if (l0.length : Int) = (l1.length : Int) then (spec_l5Same.l0 k l0 l1 (l0.length : Int) 0) else (some false)) = some r := h;clear h
 by_cases c3 : (l0.length : Int) = (l1.length : Int)
 rotate_left
 ·
  rw [if_neg c3] at H;have c3b0 : ((l0.length : Int) == (l1.length : Int)) = false := beq_eq_false_iff_ne.mpr c3;have c3b1 : ((l0.length : Int) != (l1.length : Int)) = true := bne_iff_ne.mpr c3
  have c3b2 : (l0.length == l1.length) = false := by first | simpa using c3 | (simp at c3 ⊢; omega)
  obtain rfl := Option.some.inj H
  go_enter Try.func61, Try.ntmps61
  go_wp2
  repeat (go_quiet (fail); try go_wp2)
  go_ret
  exact ⟨e3, by repeat (first | exact Drawn0.refl _ | apply Drawn0.step)⟩
 rw [if_pos c3] at H;have c3b0 : ((l0.length : Int) == (l1.length : Int)) = true := beq_iff_eq.mpr c3;have c3b1 : ((l0.length : Int) != (l1.length : Int)) = false := bne_eq_false_iff_eq.mpr c3
 have c3b2 : (l0.length == l1.length) = true := by first | simpa using c3 | (simp at c3 ⊢; omega)
 clear c3;have H' := Ah H;clear H
 go_enter Try.func61, Try.ntmps61
 go_wp2
 repeat (go_quiet (fail); try go_wp2)
 go_loopg [13] k (fun kq v13 w' => ∃ (x13_1 : Int), v13 = .int .i64 x13_1 ∧ Aside0 (spec_l5Same.l0 kq l0 l1 (l0.length : Int) x13_1 = some r) ∧ Aside0 (kq ≤ k) ∧ Drawn0 w w')
 case atStart => exact ⟨(0), e3, H', ⟨Nat.le_refl _⟩, by repeat (first | exact Drawn0.refl _ | apply Drawn0.step)⟩
 case round =>
  clear H'
  try clear c1
  try clear p2
  try clear c3
  try clear c3b0
  try clear c3b1
  try clear c3b2
  obtain ⟨x13_1, rfl, HA, HK1, ⟨m1, rfl⟩⟩ := hrel
  cases gk with
  | zero => exact absurd HA.out (by simp [spec_l5Same.l0])
  | succ k1 =>
   have H := HA.out;clear HA;simp only [spec_l5Same.l0] at H
   by_cases c4 : x13_1 < (l0.length : Int)
   rotate_left
   ·
    rw [if_neg c4] at H;have c4b0 : decide (x13_1 < (l0.length : Int)) = false := decide_eq_false c4;clear c4;obtain rfl := Option.some.inj H
    go_wp2
    repeat (go_quiet (fail); try go_wp2)
    go_ret
    exact ⟨e3, by repeat (first | exact Drawn0.refl _ | apply Drawn0.step)⟩
   rw [if_pos c4] at H;have c4b0 : decide (x13_1 < (l0.length : Int)) = true := decide_eq_true c4;clear c4
   by_cases c5 : 0 ≤ x13_1
   rotate_left
   ·
    rw [if_neg c5] at H;exact absurd H (by simp)
   rw [if_pos c5] at H;have c5b0 : decide (0 ≤ x13_1) = true := decide_eq_true c5;clear c5
   by_cases c6 : x13_1 < (l0.length : Int)
   rotate_left
   ·
    rw [if_neg c6] at H;exact absurd H (by simp)
   rw [if_pos c6] at H;have c6b0 : decide (x13_1 < (l0.length : Int)) = true := decide_eq_true c6;clear c6
   by_cases c7 : x13_1 < (l1.length : Int)
   rotate_left
   ·
    rw [if_neg c7] at H;exact absurd H (by simp)
   rw [if_pos c7] at H;have c7b0 : decide (x13_1 < (l1.length : Int)) = true := decide_eq_true c7;clear c7
   by_cases c8 : (!(((rd_T40 l0 x13_1).f0) == ((rd_T40 l1 x13_1).f0)) || (!(((rd_T40 l0 x13_1).f1) == ((rd_T40 l1 x13_1).f1)))) = true
   ·
    rw [if_pos c8] at H;have c8b0 : (!(((rd_T40 l0 x13_1).f0) == ((rd_T40 l1 x13_1).f0)) || (!(((rd_T40 l0 x13_1).f1) == ((rd_T40 l1 x13_1).f1)))) = true := c8;clear c8;obtain rfl := Option.some.inj H;have p274 : 0 ≤ (x13_1 : Int) := od;have q274 : x13_1 < (l0.length : Int) := od;obtain ⟨ad274, e274, hx274_0, hx274_1⟩ := at_T40 HR0.out x13_1 p274 q274
    cases e274
    replace p274 := eq_true p274;replace q274 := eq_true q274;have p275 : 0 ≤ (x13_1 : Int) := od;have q275 : x13_1 < (l1.length : Int) := od;obtain ⟨ad275, e275, hx275_0, hx275_1⟩ := at_T40 HR1.out x13_1 p275 q275
    cases e275
    replace p275 := eq_true p275;replace q275 := eq_true q275
    go_wp2
    repeat (go_quiet (fail); try go_wp2)
    go_ret
    exact ⟨e3, by repeat (first | exact Drawn0.refl _ | apply Drawn0.step)⟩
   rw [if_neg c8] at H
   have c8b0 : (!(((rd_T40 l0 x13_1).f0) == ((rd_T40 l1 x13_1).f0)) || (!(((rd_T40 l0 x13_1).f1) == ((rd_T40 l1 x13_1).f1)))) = false := by simpa using c8
   clear c8;have H' := Ah H;clear H;have p274 : 0 ≤ (x13_1 : Int) := od;have q274 : x13_1 < (l0.length : Int) := od;obtain ⟨ad274, e274, hx274_0, hx274_1⟩ := at_T40 HR0.out x13_1 p274 q274
   cases e274
   replace p274 := eq_true p274;replace q274 := eq_true q274;have p275 : 0 ≤ (x13_1 : Int) := od;have q275 : x13_1 < (l1.length : Int) := od;obtain ⟨ad275, e275, hx275_0, hx275_1⟩ := at_T40 HR1.out x13_1 p275 q275
   cases e275
   replace p275 := eq_true p275;replace q275 := eq_true q275
   go_wp2
   repeat (go_quiet (fail); try go_wp2)
   go_roundg k1
   case measure => have := HK1.out; omega
   case rel => exact ⟨(wrap64 (x13_1 + 1)), e3, H', ⟨by have := HK1.out; omega⟩, by repeat (first | exact Drawn0.refl _ | apply Drawn0.step)⟩
def spec_GoodFree.f (k : Nat) (a0_0 : Int) (l0_1 : List (S40)) (l0_2 : List (S40)) : Option (Bool) := (spec_l5Place.f k l0_1 a0_0).bind fun t277 => (if t277 = true then ((spec_l5BySize.f k l0_1).bind fun t278 => ((spec_l5Same.f k t278 l0_2).bind fun t281 => (some t281))) else (some false))
theorem spec_GoodFree.mono : ∀ a0 a1 a2 k, LeO (spec_GoodFree.f k a0 a1 a2) (spec_GoodFree.f (k + 1) a0 a1 a2) := by
 intro a0 a1 a2 k;unfold spec_GoodFree.f
 repeat' with_reducible first|exact spec_l5BySize.mono _ _|exact spec_l5Place.mono _ _ _|exact spec_l5Same.mono _ _ _|exact LeO.refl _|exact LeO.none _|refine LeO.ite ?_ ?_|refine LeO.bind ?_ (fun _ => ?_)
def spec_GoodFree.T1 : Bool × List (List Nat × List Nat) := (true, [([], []), ([0], [0]), ([], []), ([2], [2]), ([1, 3], [1, 3]), ([4, 4], [4]), ([5], [5]), ([6, 5], [5, 6]), ([7, 5, 5], [5, 7]), ([5], [5]), ([9, 5], [5, 9]), ([8, 10, 8, 5], [5, 8, 10]), ([5, 11], [5, 11]), ([12, 11, 0, 1, 2, 3, 4, 5, 6, 7, 8, 9, 10, 11, 12], [12])])
def spec_GoodFree.B1 : List Nat := [0, 1, 0, 4, 15, 31, 63, 127, 255, 63, 575, 2047, 4095, 8191]
theorem spec_GoodFree.tab1 : rtab .any (opsOf Try.f38 1) = spec_GoodFree.T1 := by kernel_rfl
theorem spec_GoodFree.bits1 : waitsOk spec_GoodFree.T1.2 spec_GoodFree.B1 = true := by kernel_rfl
set_option maxHeartbeats 8000000 in
set_option maxRecDepth 100000 in
theorem spec_GoodFree.calls (k : Nat) (a0_0 : Int) (A0_1 : Option Addr) (c0_1 : Nat) (l0_1 : List (S40)) (A0_2 : Option Addr) (c0_2 : Nat) (l0_2 : List (S40)) (r : Bool) (w : World) (hr0_1 : Kd.C k40 w A0_1 l0_1.length l0_1) (hc0_1 : l0_1.length ≤ c0_1) (hr0_2 : Kd.C k40 w A0_2 l0_2.length l0_2) (hc0_2 : l0_2.length ≤ c0_2) (h : spec_GoodFree.f k a0_0 l0_1 l0_2 = some r) :
  Calls Try.prog 38 #[.agg #[.int .i64 a0_0, .slice A0_1 l0_1.length c0_1, .slice A0_2 l0_2.length c0_2]] w fun e w' => e = .returned (.bool r) ∧ Below w.heap.size w w' := by
 have hu33 := Try.underlying33;have HR0_1 := Ah hr0_1;have HC0_1 := Ah hc0_1;clear hr0_1 hc0_1;have HR0_2 := Ah hr0_2;have HC0_2 := Ah hc0_2;clear hr0_2 hc0_2;have HB := Ah (Below.refl w.heap.size w);have H : ((spec_l5Place.f k l0_1 a0_0).bind fun t277 => (if t277 = true then ((spec_l5BySize.f k l0_1).bind fun t278 => ((spec_l5Same.f k t278 l0_2).bind fun t281 => (some t281))) else (some false))) = some r := h;clear h;replace H := Option.bind_eq_some_iff.mp H;obtain ⟨t277, A20, H⟩ := H
 try dsimp only at H
 have A2 := Ah A20;clear A20;have H_ := Ah H;clear H
 go_enter Try.func38, Try.ntmps38
 try go_wp2_with (first | ((with_reducible refine gate_dst (N := 1) rfl ?_); refine boxL 1 33 #[.int .i64 a0_0, .slice A0_1 l0_1.length c0_1, .slice A0_2 l0_2.length c0_2] ?_; intro gb276 hg w6 BK276 hb; have GW276 := gw hg (bs HB); have GE276 := gw hg (bs HB); replace HB := Ah (below_step (bs HB) hb); clear hb hg))
 have n0_ := Ah (blk_drew BK276.out);have n1_ := Ah (below_drew1 HB.out);clear BK276 HB;have BK276 := n0_;have HB := n1_;clear n0_ n1_;refine start_ (n := 14) (S := fun w' => w'.cell? ⟨gb276, 0, none⟩ = some (.int .i64 a0_0) ∧ w'.cell? ⟨gb276, 1, none⟩ = some (.slice A0_1 l0_1.length c0_1) ∧ w'.cell? ⟨gb276, 2, none⟩ = some (.slice A0_2 l0_2.length c0_2)) (ds := []) #[false, false, false, false, false, false, false, false, false, false, false, false, false, false] (by kernel_rfl) rfl rfl ⟨(blk_cell BK276.out 0).trans rfl, (blk_cell BK276.out 1).trans rfl, (blk_cell BK276.out 2).trans rfl⟩ (fun hHeld => ?_); refine with_tabW spec_GoodFree.tab1 spec_GoodFree.bits1 (fun HT_ HW_ => ?_)
 generalize w6.drew = w7 at BK276 HB hHeld ⊢
 refine pureS 0 3 HT_.out ?_;refine pureS 2 5 HT_.out ?_;refine takeS 1 4 HT_.out HW_.out hHeld (hr := by rintro w' ⟨s0, s1, s2⟩; go_simp; with_reducible rfl) (h := ?_);refine takeS 3 6 HT_.out HW_.out hHeld (hr := by rintro w' ⟨s0, s1, s2⟩; go_simp; with_reducible rfl) (h := ?_);refine one_ (i := 4) (N := some 7) #[true, true, true, true, true, false, false, false, false, false, false, false, false, false] rfl rfl (one_of HT_.out (by kernel_rfl)) (by decide) (fun K hK => ?_);refine goes_ Try.func60 (by kernel_rfl) rfl #[.slice A0_1 l0_1.length c0_1, .int .i64 a0_0] (by rfl) rfl rfl (by (try simp only [List.map_toArray, List.map_cons, List.map_nil]); first | done | rfl | (simp only [List.length_drop, List.length_take]; rfl)) ?_;have H := H_.out;clear H_
 by_cases c3 : t277 = true
 rotate_left
 ·
  replace c3 := Bool.eq_false_iff.mpr c3;subst c3;rw [if_neg fne] at H;obtain rfl := Option.some.inj H
  with_reducible refine (spec_l5Place.calls k _ _ l0_1 a0_0 false _ ?side1 ?side2 A2.out).mono ?_
  (case side1 => exact cb HR0_1 HB);(case side2 => exact HC0_1.out);rintro e w13 ⟨rfl, hb⟩;refine ⟨_, rfl, ?_⟩;have n0_ := Ah (bb BK276 hb);have n1_ := Ah (below_step (bs1 HB GE276) hb);clear BK276 HB;have BK276 := n0_;have HB := n1_;clear n0_ n1_;(try clear hb);(try clear hb2);(try clear hk);(try clear hi);refine hK.out _ _ ⟨(blk_cell BK276.out 0).trans rfl, (blk_cell BK276.out 1).trans rfl, (blk_cell BK276.out 2).trans rfl⟩ (fun hHeld => ?_);clear hK K;refine norm_ (a' := ?_) ?_ ?_;rotate_left
  ·
   show Act.put _ (some 7) _ = _
   simp only [Act.put, List.setIfInBounds_toArray, List.set_cons_zero, List.set_cons_succ, i64_w, i32_w]
   rfl
  refine pureS 5 8 HT_.out ?_;refine pureU 6 9 HT_.out ?_;refine pureU 7 10 HT_.out ?_;refine pureU 8 11 HT_.out ?_;refine pureU 9 12 HT_.out ?_;refine pureU 10 13 HT_.out ?_;refine pureU 11 14 HT_.out ?_;refine pureS 12 15 HT_.out ?_;refine pureS 13 2 HT_.out ?_;refine done_ (done_of HT_.out (by kernel_rfl)) ?_
  try go_wp2
  go_ret
  exact ⟨er, bs1 HB GE276⟩
 subst c3;rw [if_pos rfl] at H;replace H := Option.bind_eq_some_iff.mp H;obtain ⟨t278, A40, H⟩ := H
 try dsimp only at H
 have A4 := Ah A40;clear A40;replace H := Option.bind_eq_some_iff.mp H;obtain ⟨t281, A50, H⟩ := H
 try dsimp only at H
 have A5 := Ah A50;clear A50;obtain rfl := Option.some.inj H
 with_reducible refine (spec_l5Place.calls k _ _ l0_1 a0_0 true _ ?side1 ?side2 A2.out).mono ?_
 (case side1 => exact cb HR0_1 HB);(case side2 => exact HC0_1.out);rintro e w8 ⟨rfl, hb⟩;refine ⟨_, rfl, ?_⟩;have n0_ := Ah (bb BK276 hb);have n1_ := Ah (below_step (bs1 HB GE276) hb);clear BK276 HB;have BK276 := n0_;have HB := n1_;clear n0_ n1_;(try clear hb);(try clear hb2);(try clear hk);(try clear hi);refine hK.out _ _ ⟨(blk_cell BK276.out 0).trans rfl, (blk_cell BK276.out 1).trans rfl, (blk_cell BK276.out 2).trans rfl⟩ (fun hHeld => ?_);clear hK K;refine norm_ (a' := ?_) ?_ ?_;rotate_left
 ·
  show Act.put _ (some 7) _ = _
  simp only [Act.put, List.setIfInBounds_toArray, List.set_cons_zero, List.set_cons_succ, i64_w, i32_w]
  rfl
 refine pureS 5 8 HT_.out ?_;refine pureS 6 9 HT_.out ?_;refine pureS 9 12 HT_.out ?_;refine takeS 7 10 HT_.out HW_.out hHeld (hr := by rintro w' ⟨s0, s1, s2⟩; go_simp; with_reducible rfl) (h := ?_);refine takeS 10 13 HT_.out HW_.out hHeld (hr := by rintro w' ⟨s0, s1, s2⟩; go_simp; with_reducible rfl) (h := ?_);refine one_ (i := 8) (N := some 11) #[true, true, true, true, true, true, true, true, true, true, true, false, false, false] rfl rfl (one_of HT_.out (by kernel_rfl)) (by decide) (fun K hK => ?_);refine goes_ Try.func47 (by kernel_rfl) rfl #[.slice A0_1 l0_1.length c0_1] (by rfl) rfl rfl (by (try simp only [List.map_toArray, List.map_cons, List.map_nil]); first | done | rfl | (simp only [List.length_drop, List.length_take]; rfl)) ?_
 with_reducible refine (spec_l5BySize.calls k _ _ l0_1 t278 _ ?side1 ?side2 A4.out).mono ?_
 (case side1 => exact cb HR0_1 HB);(case side2 => exact HC0_1.out);rintro e w9 ⟨v279, rfl, ho0, hb⟩;refine ⟨_, rfl, ?_⟩;have n0_ := Ah (Kd.R_lower ho0 (below_size (bs1 HB GE276)));have n1_ := Ah (bb BK276 hb);have n2_ := Ah (below_step (bs1 HB GE276) hb);clear BK276 HB;have HO280 := n0_;have BK276 := n1_;have HB := n2_;clear n0_ n1_ n2_;(try clear hb);(try clear hb2);(try clear hk);(try clear hi);(try clear ho0);obtain ⟨Ao10, co10, eo10⟩ := Kd.R_slice HO280.out;(first | subst eo10 | (injection eo10 with f1_ f2_ f3_; have f4_ := f1_.symm; have f5_ := f3_.symm; clear f1_ f2_ f3_; subst f4_; subst f5_));refine hK.out _ _ ⟨(blk_cell BK276.out 0).trans rfl, (blk_cell BK276.out 1).trans rfl, (blk_cell BK276.out 2).trans rfl⟩ (fun hHeld => ?_);clear hK K;refine norm_ (a' := ?_) ?_ ?_;rotate_left
 ·
  show Act.put _ (some 11) _ = _
  simp only [Act.put, List.setIfInBounds_toArray, List.set_cons_zero, List.set_cons_succ, i64_w, i32_w]
  rfl
 refine one_ (i := 11) (N := some 14) #[true, true, true, true, true, true, true, true, true, true, true, true, false, false] rfl rfl (one_of HT_.out (by kernel_rfl)) (by decide) (fun K hK => ?_);refine goes_ Try.func61 (by kernel_rfl) rfl #[.slice Ao10 t278.length co10, .slice A0_2 l0_2.length c0_2] (by rfl) rfl rfl (by (try simp only [List.map_toArray, List.map_cons, List.map_nil]); first | done | rfl | (simp only [List.length_drop, List.length_take]; rfl)) ?_
 with_reducible refine (spec_l5Same.calls k _ _ t278 _ _ l0_2 t281 _ ?side1 ?side2 ?side3 ?side4 A5.out).mono ?_
 (case side1 => exact rc0 HO280);(case side2 => exact (Kd.R_reads' HO280.out).2.1);(case side3 => exact cb HR0_2 HB);(case side4 => exact HC0_2.out);rintro e w' ⟨rfl, ⟨nd, rfl⟩⟩;refine ⟨_, rfl, ?_⟩;refine hK.out _ _ ⟨(blk_cell BK276.out 0).trans rfl, (blk_cell BK276.out 1).trans rfl, (blk_cell BK276.out 2).trans rfl⟩ (fun hHeld => ?_);clear hK K;refine norm_ (a' := ?_) ?_ ?_;rotate_left
 ·
  show Act.put _ (some 14) _ = _
  simp only [Act.put, List.setIfInBounds_toArray, List.set_cons_zero, List.set_cons_succ, i64_w, i32_w]
  rfl
 refine pureS 12 15 HT_.out ?_;refine pureS 13 2 HT_.out ?_;refine done_ (done_of HT_.out (by kernel_rfl)) ?_
 try go_wp2
 go_ret
 exact ⟨er, bs1 HB GE276⟩
def spec_GoodWork.f (k : Nat) (a0_0 : Int) (l0_1 : List (S40)) (l0_2 : List (S40)) (a0_3 : Int) (l0_4 : List (S56)) : Option (Bool) := (spec_GoodFree.f k a0_0 l0_1 l0_2).bind fun t283 => (if t283 = true then ((spec_l12Items.f k a0_0 l0_1 l0_2 l0_4).bind fun bt284 => (if bt284.2 = true then (some (bt284.1 == a0_3)) else (some false))) else (some false))
theorem spec_GoodWork.mono : ∀ a0 a1 a2 a3 a4 k, LeO (spec_GoodWork.f k a0 a1 a2 a3 a4) (spec_GoodWork.f (k + 1) a0 a1 a2 a3 a4) := by
 intro a0 a1 a2 a3 a4 k;unfold spec_GoodWork.f
 repeat' with_reducible first|exact spec_GoodFree.mono _ _ _ _|exact spec_l12Items.mono _ _ _ _ _|exact LeO.refl _|exact LeO.none _|refine LeO.ite ?_ ?_|refine LeO.bind ?_ (fun _ => ?_)
set_option maxHeartbeats 8000000 in
set_option maxRecDepth 100000 in
theorem spec_GoodWork.calls (k : Nat) (a0_0 : Int) (A0_1 : Option Addr) (c0_1 : Nat) (l0_1 : List (S40)) (A0_2 : Option Addr) (c0_2 : Nat) (l0_2 : List (S40)) (a0_3 : Int) (A0_4 : Option Addr) (c0_4 : Nat) (l0_4 : List (S56)) (r : Bool) (w : World) (hr0_1 : Kd.C k40 w A0_1 l0_1.length l0_1) (hc0_1 : l0_1.length ≤ c0_1) (hr0_2 : Kd.C k40 w A0_2 l0_2.length l0_2) (hc0_2 : l0_2.length ≤ c0_2) (hr0_4 : Kd.C k56 w A0_4 l0_4.length l0_4) (hc0_4 : l0_4.length ≤ c0_4) (h : spec_GoodWork.f k a0_0 l0_1 l0_2 a0_3 l0_4 = some r) :
  Calls Try.prog 20 #[.agg #[.int .i64 a0_0, .slice A0_1 l0_1.length c0_1, .slice A0_2 l0_2.length c0_2, .int .i64 a0_3, .slice A0_4 l0_4.length c0_4]] w fun e w' => e = .returned (.bool r) ∧ Below w.heap.size w w' := by
 have hu36 := Try.underlying36;have hu33 := Try.underlying33;have HR0_1 := Ah hr0_1;have HC0_1 := Ah hc0_1;clear hr0_1 hc0_1;have HR0_2 := Ah hr0_2;have HC0_2 := Ah hc0_2;clear hr0_2 hc0_2;have HR0_4 := Ah hr0_4;have HC0_4 := Ah hc0_4;clear hr0_4 hc0_4;have HB := Ah (Below.refl w.heap.size w);have H : ((spec_GoodFree.f k a0_0 l0_1 l0_2).bind fun t283 => (if t283 = true then ((spec_l12Items.f k a0_0 l0_1 l0_2 l0_4).bind fun bt284 => (if bt284.2 = true then (some (bt284.1 == a0_3)) else (some false))) else (some false))) = some r := h;clear h;replace H := Option.bind_eq_some_iff.mp H;obtain ⟨t283, A20, H⟩ := H
 try dsimp only at H
 have A2 := Ah A20;clear A20
 by_cases c3 : t283 = true
 rotate_left
 ·
  replace c3 := Bool.eq_false_iff.mpr c3;subst c3;rw [if_neg fne] at H;obtain rfl := Option.some.inj H
  go_enter Try.func20, Try.ntmps20
  go_wp2_with (first | ((with_reducible refine gate_dst (N := 1) rfl ?_); refine boxL 1 36 #[.int .i64 a0_0, .slice A0_1 l0_1.length c0_1, .slice A0_2 l0_2.length c0_2, .int .i64 a0_3, .slice A0_4 l0_4.length c0_4] ?_; intro gb282 hg w17 BK282 hb; have GW282 := gw hg (bs HB); have GE282 := gw hg (bs HB); replace HB := Ah (below_step (bs HB) hb); clear hb hg; obtain ⟨hcz18_0, hcz18_1, hcz18_2, hcz18_3, hcz18_4⟩ := cz5 BK282; obtain ⟨hfz18_0, hfz18_1, hfz18_2, hfz18_3, hfz18_4⟩ := fz5 BK282) | ((with_reducible refine gate_callee (f := 38) rfl ?_); refine gL (some 7) rfl rfl Try.func38 (by kernel_rfl) rfl #[.agg #[.int .i64 a0_0, .slice A0_1 l0_1.length c0_1, .slice A0_2 l0_2.length c0_2]] rfl ?_; (with_reducible refine (spec_GoodFree.calls k a0_0 _ _ l0_1 _ _ l0_2 false _ ?side1 ?side2 ?side3 ?side4 A2.out).mono ?_); (case side1 => exact cb HR0_1 HB); (case side2 => exact HC0_1.out); (case side3 => exact cb HR0_2 HB); (case side4 => exact HC0_2.out); rintro e w19 ⟨rfl, hb⟩; refine ⟨_, rfl, ?_⟩; replace BK282 := nb BK282 hb; replace HB := Ah (below_step (bs1 HB GE282) hb); (try clear hb)))
  go_ret
  exact ⟨er, bs1 HB GE282⟩
 subst c3;rw [if_pos rfl] at H;replace H := Option.bind_eq_some_iff.mp H;obtain ⟨⟨t284, t285⟩, A40, H⟩ := H
 try dsimp only at H
 have A4 := Ah A40;clear A40
 by_cases c5 : t285 = true
 rotate_left
 ·
  replace c5 := Bool.eq_false_iff.mpr c5;subst c5;rw [if_neg fne] at H;obtain rfl := Option.some.inj H
  go_enter Try.func20, Try.ntmps20
  go_wp2_with (first | ((with_reducible refine gate_dst (N := 1) rfl ?_); refine boxL 1 36 #[.int .i64 a0_0, .slice A0_1 l0_1.length c0_1, .slice A0_2 l0_2.length c0_2, .int .i64 a0_3, .slice A0_4 l0_4.length c0_4] ?_; intro gb282 hg w12 BK282 hb; have GW282 := gw hg (bs HB); have GE282 := gw hg (bs HB); replace HB := Ah (below_step (bs HB) hb); clear hb hg; obtain ⟨hcz13_0, hcz13_1, hcz13_2, hcz13_3, hcz13_4⟩ := cz5 BK282; obtain ⟨hfz13_0, hfz13_1, hfz13_2, hfz13_3, hfz13_4⟩ := fz5 BK282) | ((with_reducible refine gate_callee (f := 38) rfl ?_); refine gL (some 7) rfl rfl Try.func38 (by kernel_rfl) rfl #[.agg #[.int .i64 a0_0, .slice A0_1 l0_1.length c0_1, .slice A0_2 l0_2.length c0_2]] rfl ?_; (with_reducible refine (spec_GoodFree.calls k a0_0 _ _ l0_1 _ _ l0_2 true _ ?side1 ?side2 ?side3 ?side4 A2.out).mono ?_); (case side1 => exact cb HR0_1 HB); (case side2 => exact HC0_1.out); (case side3 => exact cb HR0_2 HB); (case side4 => exact HC0_2.out); rintro e w14 ⟨rfl, hb⟩; refine ⟨_, rfl, ?_⟩; replace BK282 := nb BK282 hb; replace HB := Ah (below_step (bs1 HB GE282) hb); (try clear hb); obtain ⟨hcz15_0, hcz15_1, hcz15_2, hcz15_3, hcz15_4⟩ := cz5 BK282; obtain ⟨hfz15_0, hfz15_1, hfz15_2, hfz15_3, hfz15_4⟩ := fz5 BK282) | ((with_reducible refine gate_callee (f := 28) rfl ?_); refine gL (some 14) rfl rfl Try.func28 (by kernel_rfl) rfl #[.agg #[.int .i64 a0_0, .slice A0_1 l0_1.length c0_1, .slice A0_2 l0_2.length c0_2], .slice A0_4 l0_4.length c0_4] rfl ?_; (with_reducible refine (spec_l12Items.calls k a0_0 _ _ l0_1 _ _ l0_2 _ _ l0_4 t284 false _ ?side1 ?side2 ?side3 ?side4 ?side5 ?side6 A4.out).mono ?_); (case side1 => exact cb HR0_1 HB); (case side2 => exact HC0_1.out); (case side3 => exact cb HR0_2 HB); (case side4 => exact HC0_2.out); (case side5 => exact cb HR0_4 HB); (case side6 => exact HC0_4.out); rintro e w16 ⟨rfl, hb⟩; refine ⟨_, rfl, ?_⟩; replace BK282 := nb BK282 hb; replace HB := Ah (below_step (bs1 HB GE282) hb); (try clear hb)))
  go_ret
  exact ⟨er, bs1 HB GE282⟩
 subst c5;rw [if_pos rfl] at H;obtain rfl := Option.some.inj H
 go_enter Try.func20, Try.ntmps20
 go_wp2_with (first | ((with_reducible refine gate_dst (N := 1) rfl ?_); refine boxL 1 36 #[.int .i64 a0_0, .slice A0_1 l0_1.length c0_1, .slice A0_2 l0_2.length c0_2, .int .i64 a0_3, .slice A0_4 l0_4.length c0_4] ?_; intro gb282 hg w6 BK282 hb; have GW282 := gw hg (bs HB); have GE282 := gw hg (bs HB); replace HB := Ah (below_step (bs HB) hb); clear hb hg; obtain ⟨hcz7_0, hcz7_1, hcz7_2, hcz7_3, hcz7_4⟩ := cz5 BK282; obtain ⟨hfz7_0, hfz7_1, hfz7_2, hfz7_3, hfz7_4⟩ := fz5 BK282) | ((with_reducible refine gate_callee (f := 38) rfl ?_); refine gL (some 7) rfl rfl Try.func38 (by kernel_rfl) rfl #[.agg #[.int .i64 a0_0, .slice A0_1 l0_1.length c0_1, .slice A0_2 l0_2.length c0_2]] rfl ?_; (with_reducible refine (spec_GoodFree.calls k a0_0 _ _ l0_1 _ _ l0_2 true _ ?side1 ?side2 ?side3 ?side4 A2.out).mono ?_); (case side1 => exact cb HR0_1 HB); (case side2 => exact HC0_1.out); (case side3 => exact cb HR0_2 HB); (case side4 => exact HC0_2.out); rintro e w8 ⟨rfl, hb⟩; refine ⟨_, rfl, ?_⟩; replace BK282 := nb BK282 hb; replace HB := Ah (below_step (bs1 HB GE282) hb); (try clear hb); obtain ⟨hcz9_0, hcz9_1, hcz9_2, hcz9_3, hcz9_4⟩ := cz5 BK282; obtain ⟨hfz9_0, hfz9_1, hfz9_2, hfz9_3, hfz9_4⟩ := fz5 BK282) | ((with_reducible refine gate_callee (f := 28) rfl ?_); refine gL (some 14) rfl rfl Try.func28 (by kernel_rfl) rfl #[.agg #[.int .i64 a0_0, .slice A0_1 l0_1.length c0_1, .slice A0_2 l0_2.length c0_2], .slice A0_4 l0_4.length c0_4] rfl ?_; (with_reducible refine (spec_l12Items.calls k a0_0 _ _ l0_1 _ _ l0_2 _ _ l0_4 t284 true _ ?side1 ?side2 ?side3 ?side4 ?side5 ?side6 A4.out).mono ?_); (case side1 => exact cb HR0_1 HB); (case side2 => exact HC0_1.out); (case side3 => exact cb HR0_2 HB); (case side4 => exact HC0_2.out); (case side5 => exact cb HR0_4 HB); (case side6 => exact HC0_4.out); rintro e w10 ⟨rfl, hb⟩; refine ⟨_, rfl, ?_⟩; replace BK282 := nb BK282 hb; replace HB := Ah (below_step (bs1 HB GE282) hb); (try clear hb); obtain ⟨hcz11_0, hcz11_1, hcz11_2, hcz11_3, hcz11_4⟩ := cz5 BK282; obtain ⟨hfz11_0, hfz11_1, hfz11_2, hfz11_3, hfz11_4⟩ := fz5 BK282))
 go_ret
 exact ⟨er, bs1 HB GE282⟩
end Go.Proofs.Ytpfimjgfojdhhaa.G
