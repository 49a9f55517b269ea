-- Printed by a program of this session (drive.py, by way of the kit's print). Not trusted: Lean checks it.
import Derived.Test.YtcdkgenfggdpaaaG0
import Derived.Test.YtcdkgenfggdpaaaG2
import Derived.Test.YtcdkgenfggdpaaaG6
import Derived.Test.YtcdkgenfggdpaaaG7
import Derived.Test.YtcdkgenfggdpaaaG14
namespace Go.Proofs.Ytcdkgenfggdpaaa.G
open Go.RowKit Go.Proofs.YtcdkgenfggdpaaaW.PrintWords Go.Proofs.YtcdkgenfggdpaaaW.PrintLast Go.Proofs.YtcdkgenfggdpaaaW.PrintMore
attribute [local go_sem] max2_int min2_int max_two min_two max_three min_three max_four min_four   -- for this text's walks alone
set_option linter.unusedVariables false
set_option linter.unusedSimpArgs false

/-! ### spec_Commit: function 39 -/
def spec_Commit.j0 : Nat → List (S72) → Bool → List ByteArray → List (S72) → List ByteArray → Int → Option (List ByteArray × (List (S72)) × List ByteArray × Int × Bool)
 | 0, _, _, _, _, _, _ => none
 | k + 1, x1, x23, x593000, x593001, x593002, x593003 => if x23 = true then (some (([] : List ByteArray), ([] : List (S72)), ([] : List ByteArray), 0, false)) else ((spec_l11Own.f x593000 x593001 x593002 x593003).bind fun bt596 => ((spec_l11Text.f k x1).bind fun t606 => (if bt596.2.2.1.length < 8796093022208 then (some (bt596.1, bt596.2.1, (bt596.2.2.1 ++ [t606]), bt596.2.2.2, true)) else (none))))
def spec_Commit.f (k : Nat) (l0_0 : List ByteArray) (l0_1 : List (S72)) (l0_2 : List ByteArray) (a0_3 : Int) (l1 : List (S72)) : Option (List ByteArray × (List (S72)) × List ByteArray × Int × Bool) := (spec_GoodStore.f k l0_0 l0_1 l0_2 a0_3).bind fun t594 => (if t594 = true then ((spec_l11Txn.f k l1 (l0_0.length : Int)).bind fun t595 => (if t595 = true then (spec_Commit.j0 k l1 ((l0_2.length : Int) == 40) l0_0 l0_1 l0_2 a0_3) else (spec_Commit.j0 k l1 true l0_0 l0_1 l0_2 a0_3))) else (spec_Commit.j0 k l1 true l0_0 l0_1 l0_2 a0_3))
theorem spec_Commit.mono_l : ∀ k, (∀ y0 y1 y2 y3 y4 y5, LeO (spec_Commit.j0 k y0 y1 y2 y3 y4 y5) (spec_Commit.j0 (k + 1) y0 y1 y2 y3 y4 y5))
 | 0 => fun _ _ _ _ _ _ r h => by simp [spec_Commit.j0] at h
 | k + 1 => by
  have ih0 := spec_Commit.mono_l k
  ·
   intro y0 y1 y2 y3 y4 y5
   unfold spec_Commit.j0
   repeat' first
   | (with_reducible exact ih0 _ _ _ _ _ _)
   | (with_reducible exact spec_GoodStore.mono _ _ _ _ _)
   | (with_reducible exact spec_l11Text.mono _ _)
   | (with_reducible exact spec_l11Txn.mono _ _ _)
   | (with_reducible exact LeO.refl _)
   | (with_reducible exact LeO.none _)
   | (with_reducible refine LeO.ite ?_ ?_)
   | (with_reducible refine LeO.bind ?_ (fun _ => ?_))
   | exact ih0 _ _ _ _ _ _
   | exact spec_GoodStore.mono _ _ _ _ _
   | exact spec_l11Text.mono _ _
   | exact spec_l11Txn.mono _ _ _
   | exact LeO.none _
   | refine LeO.ite ?_ ?_
   | refine LeO.bind ?_ (fun _ => ?_)
theorem spec_Commit.mono : ∀ a0 a1 a2 a3 a4 k, LeO (spec_Commit.f k a0 a1 a2 a3 a4) (spec_Commit.f (k + 1) a0 a1 a2 a3 a4) := by
 intro a0 a1 a2 a3 a4 k
 have ih0 := spec_Commit.mono_l k
 unfold spec_Commit.f
 repeat' first
   | (with_reducible exact ih0 _ _ _ _ _ _)
   | (with_reducible exact spec_GoodStore.mono _ _ _ _ _)
   | (with_reducible exact spec_l11Text.mono _ _)
   | (with_reducible exact spec_l11Txn.mono _ _ _)
   | (with_reducible exact LeO.refl _)
   | (with_reducible exact LeO.none _)
   | (with_reducible refine LeO.ite ?_ ?_)
   | (with_reducible refine LeO.bind ?_ (fun _ => ?_))
   | exact ih0 _ _ _ _ _ _
   | exact spec_GoodStore.mono _ _ _ _ _
   | exact spec_l11Text.mono _ _
   | exact spec_l11Txn.mono _ _ _
   | exact LeO.none _
   | refine LeO.ite ?_ ?_
   | refine LeO.bind ?_ (fun _ => ?_)
def spec_Commit.T4 : Bool × List (List Nat × List Nat) := (true, [([], []), ([0], [0]), ([], []), ([2], [2]), ([3], [3]), ([1, 4, 3], [1, 4]), ([0, 1, 2, 3, 4, 5], []), ([6, 5, 5, 0, 1, 2, 3, 4, 5], [5, 6])])
def spec_Commit.B4 : List Nat := [0, 1, 0, 4, 12, 31, 63, 127]
theorem spec_Commit.tab4 : rtab .any (opsOf Try.f39 4) = spec_Commit.T4 := by kernel_rfl
theorem spec_Commit.bits4 : waitsOk spec_Commit.T4.2 spec_Commit.B4 = true := by kernel_rfl
set_option maxHeartbeats 8000000 in
set_option maxRecDepth 100000 in
theorem spec_Commit.calls (k : Nat) (A0_0 : Option Addr) (c0_0 : Nat) (l0_0 : List ByteArray) (A0_1 : Option Addr) (c0_1 : Nat) (l0_1 : List (S72)) (A0_2 : Option Addr) (c0_2 : Nat) (l0_2 : List ByteArray) (a0_3 : Int) (A1 : Option Addr) (c1 : Nat) (l1 : List (S72)) (r1 : List ByteArray) (r2 : List (S72)) (r3 : List ByteArray) (r4 : Int) (r5 : Bool) (w : World) (hr0_0 : Kd.C Kd.string w A0_0 l0_0.length l0_0) (hc0_0 : l0_0.length ≤ c0_0) (hr0_1 : Kd.C k72 w A0_1 l0_1.length l0_1) (hc0_1 : l0_1.length ≤ c0_1) (hr0_2 : Kd.C Kd.string w A0_2 l0_2.length l0_2) (hc0_2 : l0_2.length ≤ c0_2) (hr1 : Kd.C k72 w A1 l1.length l1) (hc1 : l1.length ≤ c1) (h : spec_Commit.f k l0_0 l0_1 l0_2 a0_3 l1 = some (r1, r2, r3, r4, r5)) :
  Calls Try.prog 39 #[.agg #[.slice A0_0 l0_0.length c0_0, .slice A0_1 l0_1.length c0_1, .slice A0_2 l0_2.length c0_2, .int .i64 a0_3], .slice A1 l1.length c1] w fun e w' => ∃ v0_ v1_ v2_ : Value, e = .returned (.tuple #[.agg #[v0_, v1_, v2_, .int .i64 r4], .bool r5]) ∧ Kd.R Kd.string 9 w' w.heap.size (fun k_ => some k_ ≠ (v2_ : Value).ownBlock) v0_ r1 ∧ Kd.R k72 72 w' w.heap.size (fun _ => True) v1_ r2 ∧ Kd.R Kd.string 9 w' w.heap.size (fun k_ => some k_ ≠ (v0_ : Value).ownBlock) v2_ r3 ∧ Below w.heap.size w w' := by
 have hu44 := Try.underlying44
 have HR0_0 := Aside0.mk hr0_0
 have HC0_0 := Aside0.mk hc0_0
 clear hr0_0 hc0_0
 have HR0_1 := Aside0.mk hr0_1
 have HC0_1 := Aside0.mk hc0_1
 clear hr0_1 hc0_1
 have HR0_2 := Aside0.mk hr0_2
 have HC0_2 := Aside0.mk hc0_2
 clear hr0_2 hc0_2
 have HR1 := Aside0.mk hr1
 have HC1 := Aside0.mk hc1
 clear hr1 hc1
 have HB := Aside0.mk (Below.refl w.heap.size w)
 have H : ((spec_GoodStore.f k l0_0 l0_1 l0_2 a0_3).bind fun t594 => (if t594 = true then ((spec_l11Txn.f k l1 (l0_0.length : Int)).bind fun t595 => (if t595 = true then (spec_Commit.j0 k l1 ((l0_2.length : Int) == 40) l0_0 l0_1 l0_2 a0_3) else (spec_Commit.j0 k l1 true l0_0 l0_1 l0_2 a0_3))) else (spec_Commit.j0 k l1 true l0_0 l0_1 l0_2 a0_3))) = some (r1, r2, r3, r4, r5) := h
 clear h
 have HC3 := Aside0.mk H
 clear H
 go_enter Try.func39, Try.ntmps39
 go_upto_region 1 with (first | ((with_reducible refine gate_dst (N := 2) rfl ?_); (try (refine gate_guard (by rfl) ?_; dsimp only)); refine box_event ?hg (N := 2) ?hd (cs := #[.slice A0_0 l0_0.length c0_0, .slice A0_1 l0_1.length c0_1, .slice A0_2 l0_2.length c0_2, .int .i64 a0_3]) (t := 44) ?hr ?_; (case hd => rfl); (case hg => rfl); (case hr => first | (go_simp; done) | (go_simp; rfl)); intro gb592 hg w4 hbox hb; have BK592 := Aside0.mk (hbox); have GW592 := Aside0.mk ((by rw [hg]; exact (below_size (bs HB)) : w.heap.size ≤ gb592)); have GE592 := Aside0.mk ((by rw [hg]; exact (below_size (bs HB)) : w.heap.size ≤ gb592)); replace HB := Aside0.mk (below_step (bs HB) hb); clear hb hbox hg) | ((with_reducible refine gate_dst (N := 4) rfl ?_); (try (refine gate_guard (by rfl) ?_; dsimp only)); refine box_event ?hg (N := 4) ?hd (cs := #[.slice none 0 0, .slice none 0 0, .slice none 0 0, .int .i64 0]) (t := 44) ?hr ?_; (case hd => rfl); (case hg => rfl); (case hr => first | (go_simp; done) | (go_simp; rfl)); intro gb593 hg w5 hbox hb; have BK593 := Aside0.mk (hbox); have GW593 := Aside0.mk ((by rw [hg]; exact (below_size (bs1 HB GE592)) : w.heap.size ≤ gb593)); have GE593 := Aside0.mk ((by rw [hg]; exact (below_size (bs1 HB GE592)) : w.heap.size ≤ gb593)); replace HB := Aside0.mk (below_step (bs1 HB GE592) hb); have NB592_593 := Aside0.mk ((bn BK592 hg : gb592 ≠ gb593)); have NB593_592 := Aside0.mk ((bm BK592 hg : gb593 ≠ gb592)); replace BK592 := nb BK592 hb; clear hb hbox hg))
 (try simp only [Act.put, List.setIfInBounds_toArray, List.set_cons_zero, List.set_cons_succ])
 go_cut [23] (fun v23 wc => ∃ (kq : Nat) (x23_2 : Bool), v23 = .bool x23_2 ∧ Aside0 (spec_Commit.j0 kq l1 x23_2 l0_0 l0_1 l0_2 a0_3 = some (r1, r2, r3, r4, r5)) ∧ Aside0 (kq ≤ k) ∧ Aside0 (wc.heap[gb592]? = some (.cells #[(.slice A0_0 l0_0.length c0_0), (.slice A0_1 l0_1.length c0_1), (.slice A0_2 l0_2.length c0_2), .int .i64 a0_3] 44 (0, 0))) ∧ Aside0 (wc.heap[gb593]? = some (.cells #[(.slice none 0 0), (.slice none 0 0), (.slice none 0 0), .int .i64 0] 44 (0, 0))) ∧ Aside0 (Below w.heap.size w wc))
 case first =>
  have H := HC3.out
  clear HC3
  replace H := Option.bind_eq_some_iff.mp H
  obtain ⟨t594, A60, H⟩ := H
  replace H : (if t594 = true then ((spec_l11Txn.f k l1 (l0_0.length : Int)).bind fun t595 => (if t595 = true then (spec_Commit.j0 k l1 ((l0_2.length : Int) == 40) l0_0 l0_1 l0_2 a0_3) else (spec_Commit.j0 k l1 true l0_0 l0_1 l0_2 a0_3))) else (spec_Commit.j0 k l1 true l0_0 l0_1 l0_2 a0_3)) = some (r1, r2, r3, r4, r5) := H
  have A6 := Aside0.mk A60
  clear A60
  by_cases c7 : t594 = true
  ·
   subst c7
   rw [if_pos rfl] at H
   replace H := Option.bind_eq_some_iff.mp H
   obtain ⟨t595, A80, H⟩ := H
   replace H : (if t595 = true then (spec_Commit.j0 k l1 ((l0_2.length : Int) == 40) l0_0 l0_1 l0_2 a0_3) else (spec_Commit.j0 k l1 true l0_0 l0_1 l0_2 a0_3)) = some (r1, r2, r3, r4, r5) := H
   have A8 := Aside0.mk A80
   clear A80
   by_cases c9 : t595 = true
   ·
    subst c9
    rw [if_pos rfl] at H
    have H' := Aside0.mk H
    clear H
    have hnb10 := NB592_593.out
    have hnc10 := NB593_592.out
    obtain ⟨hcz11_0, hcz11_1, hcz11_2, hcz11_3⟩ := cz4 BK592
    obtain ⟨hfz11_0, hfz11_1, hfz11_2, hfz11_3⟩ := fz4 BK592
    go_wp2_with (first | ((with_reducible refine gate_callee (f := 26) rfl ?_); refine gL (some 7) rfl rfl Try.func26 (by kernel_rfl) rfl #[.agg #[.slice A0_0 l0_0.length c0_0, .slice A0_1 l0_1.length c0_1, .slice A0_2 l0_2.length c0_2, .int .i64 a0_3]] rfl ?_; (with_reducible refine (spec_GoodStore.calls k _ _ l0_0 _ _ l0_1 _ _ l0_2 a0_3 true _ ?side1 ?side2 ?side3 ?side4 ?side5 ?side6 A6.out).mono ?_); (case side1 => exact cb HR0_0 HB); (case side2 => exact HC0_0.out); (case side3 => exact cb HR0_1 HB); (case side4 => exact HC0_1.out); (case side5 => exact cb HR0_2 HB); (case side6 => exact HC0_2.out); rintro e w12 ⟨rfl, hb⟩; refine ⟨_, rfl, ?_⟩; replace BK592 := nb BK592 hb; replace BK593 := nb BK593 hb; replace HB := Aside0.mk (below_step (bs2 HB GE592 GE593) hb); (try clear hb); (try clear hb2); (try clear hk); (try clear hi); obtain ⟨hcz13_0, hcz13_1, hcz13_2, hcz13_3⟩ := cz4 BK592; obtain ⟨hfz13_0, hfz13_1, hfz13_2, hfz13_3⟩ := fz4 BK592) | (go_at_call 61; (with_reducible refine (spec_l11Txn.calls k _ _ l1 (l0_0.length : Int) true _ ?side1 ?side2 A8.out).mono ?_); (case side1 => exact cb HR1 HB); (case side2 => exact HC1.out); rintro e w14 ⟨rfl, hb⟩; replace BK592 := nb BK592 hb; replace BK593 := nb BK593 hb; replace HB := Aside0.mk (below_step (bs2 HB GE592 GE593) hb); (try clear hb); (try clear hb2); (try clear hk); (try clear hi); obtain ⟨hcz15_0, hcz15_1, hcz15_2, hcz15_3⟩ := cz4 BK592; obtain ⟨hfz15_0, hfz15_1, hfz15_2, hfz15_3⟩ := fz4 BK592))
    go_meet
    case rel => exact ⟨_, (((l0_2.length : Int) == 40)), (by first | rfl | (simp; done) | (simp [*]; done)), H', ⟨by first | omega | exact Nat.le_refl _⟩, ⟨bk BK592⟩, ⟨bk BK593⟩, ⟨bs2 HB GE592 GE593⟩⟩
   ·
    replace c9 := Bool.eq_false_iff.mpr c9
    subst c9
    rw [if_neg (show ¬ (false = true) by decide)] at H
    have H' := Aside0.mk H
    clear H
    have hnb16 := NB592_593.out
    have hnc16 := NB593_592.out
    obtain ⟨hcz17_0, hcz17_1, hcz17_2, hcz17_3⟩ := cz4 BK592
    obtain ⟨hfz17_0, hfz17_1, hfz17_2, hfz17_3⟩ := fz4 BK592
    go_wp2_with (first | ((with_reducible refine gate_callee (f := 26) rfl ?_); refine gL (some 7) rfl rfl Try.func26 (by kernel_rfl) rfl #[.agg #[.slice A0_0 l0_0.length c0_0, .slice A0_1 l0_1.length c0_1, .slice A0_2 l0_2.length c0_2, .int .i64 a0_3]] rfl ?_; (with_reducible refine (spec_GoodStore.calls k _ _ l0_0 _ _ l0_1 _ _ l0_2 a0_3 true _ ?side1 ?side2 ?side3 ?side4 ?side5 ?side6 A6.out).mono ?_); (case side1 => exact cb HR0_0 HB); (case side2 => exact HC0_0.out); (case side3 => exact cb HR0_1 HB); (case side4 => exact HC0_1.out); (case side5 => exact cb HR0_2 HB); (case side6 => exact HC0_2.out); rintro e w18 ⟨rfl, hb⟩; refine ⟨_, rfl, ?_⟩; replace BK592 := nb BK592 hb; replace BK593 := nb BK593 hb; replace HB := Aside0.mk (below_step (bs2 HB GE592 GE593) hb); (try clear hb); (try clear hb2); (try clear hk); (try clear hi); obtain ⟨hcz19_0, hcz19_1, hcz19_2, hcz19_3⟩ := cz4 BK592; obtain ⟨hfz19_0, hfz19_1, hfz19_2, hfz19_3⟩ := fz4 BK592) | (go_at_call 61; (with_reducible refine (spec_l11Txn.calls k _ _ l1 (l0_0.length : Int) false _ ?side1 ?side2 A8.out).mono ?_); (case side1 => exact cb HR1 HB); (case side2 => exact HC1.out); rintro e w20 ⟨rfl, hb⟩; replace BK592 := nb BK592 hb; replace BK593 := nb BK593 hb; replace HB := Aside0.mk (below_step (bs2 HB GE592 GE593) hb); (try clear hb); (try clear hb2); (try clear hk); (try clear hi)))
    go_meet
    case rel => exact ⟨_, (true), (by first | rfl | (simp; done) | (simp [*]; done)), H', ⟨by first | omega | exact Nat.le_refl _⟩, ⟨bk BK592⟩, ⟨bk BK593⟩, ⟨bs2 HB GE592 GE593⟩⟩
  ·
   replace c7 := Bool.eq_false_iff.mpr c7
   subst c7
   rw [if_neg (show ¬ (false = true) by decide)] at H
   have H' := Aside0.mk H
   clear H
   have hnb21 := NB592_593.out
   have hnc21 := NB593_592.out
   obtain ⟨hcz22_0, hcz22_1, hcz22_2, hcz22_3⟩ := cz4 BK592
   obtain ⟨hfz22_0, hfz22_1, hfz22_2, hfz22_3⟩ := fz4 BK592
   go_wp2_with (first | ((with_reducible refine gate_callee (f := 26) rfl ?_); refine gL (some 7) rfl rfl Try.func26 (by kernel_rfl) rfl #[.agg #[.slice A0_0 l0_0.length c0_0, .slice A0_1 l0_1.length c0_1, .slice A0_2 l0_2.length c0_2, .int .i64 a0_3]] rfl ?_; (with_reducible refine (spec_GoodStore.calls k _ _ l0_0 _ _ l0_1 _ _ l0_2 a0_3 false _ ?side1 ?side2 ?side3 ?side4 ?side5 ?side6 A6.out).mono ?_); (case side1 => exact cb HR0_0 HB); (case side2 => exact HC0_0.out); (case side3 => exact cb HR0_1 HB); (case side4 => exact HC0_1.out); (case side5 => exact cb HR0_2 HB); (case side6 => exact HC0_2.out); rintro e w23 ⟨rfl, hb⟩; refine ⟨_, rfl, ?_⟩; replace BK592 := nb BK592 hb; replace BK593 := nb BK593 hb; replace HB := Aside0.mk (below_step (bs2 HB GE592 GE593) hb); (try clear hb); (try clear hb2); (try clear hk); (try clear hi)))
   go_meet
   case rel => exact ⟨_, (true), (by first | rfl | (simp; done) | (simp [*]; done)), H', ⟨by first | omega | exact Nat.le_refl _⟩, ⟨bk BK592⟩, ⟨bk BK593⟩, ⟨bs2 HB GE592 GE593⟩⟩
 case rest =>
  clear HC3
  try clear c1
  try clear c2
  try clear p2
  try clear c3
  try clear c7
  try clear c9
  try clear c10
  try clear c16
  try clear c21
  try clear hcz11_0 hcz11_1 hcz11_2 hcz11_3
  try clear hcz13_0 hcz13_1 hcz13_2 hcz13_3
  try clear hcz15_0 hcz15_1 hcz15_2 hcz15_3
  try clear hcz17_0 hcz17_1 hcz17_2 hcz17_3
  try clear hcz19_0 hcz19_1 hcz19_2 hcz19_3
  try clear hcz22_0 hcz22_1 hcz22_2 hcz22_3
  try clear hfz11_0 hfz11_1 hfz11_2 hfz11_3
  try clear hfz13_0 hfz13_1 hfz13_2 hfz13_3
  try clear hfz15_0 hfz15_1 hfz15_2 hfz15_3
  try clear hfz17_0 hfz17_1 hfz17_2 hfz17_3
  try clear hfz19_0 hfz19_1 hfz19_2 hfz19_3
  try clear hfz22_0 hfz22_1 hfz22_2 hfz22_3
  obtain ⟨kq, x23_2, rfl, HA, HJ2, BK592, BK593, HB⟩ := hcut
  cases kq with
  | zero => exact absurd HA.out (by simp [spec_Commit.j0])
  | succ kj2 =>
   have H := HA.out
   clear HA
   simp only [spec_Commit.j0] at H
   by_cases c24 : x23_2 = true
   ·
    subst c24
    rw [if_pos rfl] at H
    simp only [Option.some.injEq, Prod.mk.injEq] at H
    obtain ⟨rfl, rfl, rfl, rfl, rfl⟩ := H
    have hnb25 := NB593_592.out
    have hnc25 := NB592_593.out
    obtain ⟨hcz26_0, hcz26_1, hcz26_2, hcz26_3⟩ := cz4 BK593
    obtain ⟨hfz26_0, hfz26_1, hfz26_2, hfz26_3⟩ := fz4 BK593
    go_wp2
    refine bodyPost_ret (results_ct rfl _ _ gb593 44 #[.slice none 0 0, .slice none 0 0, .slice none 0 0, .int .i64 0] (0, 0) _ rfl (by (with_reducible repeat (first | refine blk_drewN ?_ _ | refine blk_drew ?_ | refine blk_alloc ?_ _)); refine blk_put (cs := #[.slice none 0 0, .slice none 0 0, .slice none 0 0, .int .i64 0]) ?_ 3 _ rfl; (with_reducible repeat (first | refine blk_drewN ?_ _ | refine blk_drew ?_ | refine blk_alloc ?_ _)); refine blk_put (cs := #[.slice none 0 0, .slice none 0 0, .slice none 0 0, .int .i64 0]) ?_ 2 _ rfl; (with_reducible repeat (first | refine blk_drewN ?_ _ | refine blk_drew ?_ | refine blk_alloc ?_ _)); refine blk_put (cs := #[.slice none 0 0, .slice none 0 0, .slice none 0 0, .int .i64 0]) ?_ 1 _ rfl; (with_reducible repeat (first | refine blk_drewN ?_ _ | refine blk_drew ?_ | refine blk_alloc ?_ _)); refine blk_put (cs := #[.slice none 0 0, .slice none 0 0, .slice none 0 0, .int .i64 0]) ?_ 0 _ rfl; (with_reducible repeat (first | refine blk_drewN ?_ _ | refine blk_drew ?_ | refine blk_alloc ?_ _)); exact BK593.out) Try.underlying44 rfl (by kernel_rfl)) rfl ?_
    exact ⟨_, _, _, by first | rfl | (simp [errW_none, errW_some] <;> rfl) | (simp [*, errW_none, errW_some] <;> rfl), by first | exact Kd.R_nil _ _ _ _ _ | exact Kd.N_nil _ _ _ _ _ | exact Kd.V_nil _ _ _ _ _ | exact Kd.Q_nil _ _ _ _ _ | exact Kd.S_nil _ _ _ _ _, by first | exact Kd.R_nil _ _ _ _ _ | exact Kd.N_nil _ _ _ _ _ | exact Kd.V_nil _ _ _ _ _ | exact Kd.Q_nil _ _ _ _ _ | exact Kd.S_nil _ _ _ _ _, by first | exact Kd.R_nil _ _ _ _ _ | exact Kd.N_nil _ _ _ _ _ | exact Kd.V_nil _ _ _ _ _ | exact Kd.Q_nil _ _ _ _ _ | exact Kd.S_nil _ _ _ _ _, bs2 HB GE592 GE593⟩
   ·
    replace c24 := Bool.eq_false_iff.mpr c24
    subst c24
    rw [if_neg (show ¬ (false = true) by decide)] at H
    replace H := Option.bind_eq_some_iff.mp H
    obtain ⟨⟨t596, t599, t602, t605⟩, A270, H⟩ := H
    replace H : ((spec_l11Text.f kj2 l1).bind fun t606 => (if t602.length < 8796093022208 then (some (t596, t599, (t602 ++ [t606]), t605, true)) else (none))) = some (r1, r2, r3, r4, r5) := H
    have A27 := Aside0.mk A270
    clear A270
    replace H := Option.bind_eq_some_iff.mp H
    obtain ⟨t606, A280, H⟩ := H
    replace H : (if t602.length < 8796093022208 then (some (t596, t599, (t602 ++ [t606]), t605, true)) else (none)) = some (r1, r2, r3, r4, r5) := H
    have A28 := Aside0.mk A280
    clear A280
    by_cases c29 : t602.length < 8796093022208
    ·
     rw [if_pos c29] at H
     have LMc29 := Aside0.mk c29
     clear c29
     obtain ⟨y607, hy607⟩ : ∃ y_ : List ByteArray, y_ = (t602 ++ [t606]) := ⟨_, rfl⟩
     replace H : (some (t596, t599, y607, t605, true)) = some (r1, r2, r3, r4, r5) := by first | (rw [hy607]; with_reducible exact H) | (have H2_ := (Option.bind_some _ _).symm.trans H; rw [hy607]; with_reducible exact H2_) | (have H2_ := (Option.bind_some _ _).symm.trans H; with_reducible exact H2_) | with_reducible exact H | (rw [hy607]; exact H) | exact H
     have Ny607 := Aside0.mk hy607
     clear hy607
     simp only [Option.some.injEq, Prod.mk.injEq] at H
     obtain ⟨rfl, rfl, rfl, rfl, rfl⟩ := H
     have hnb30 := NB592_593.out
     have hnc30 := NB593_592.out
     obtain ⟨hcz31_0, hcz31_1, hcz31_2, hcz31_3⟩ := cz4 BK592
     obtain ⟨hfz31_0, hfz31_1, hfz31_2, hfz31_3⟩ := fz4 BK592
     try go_wp2_with (first | ((with_reducible refine gate_callee (f := 91) rfl ?_); refine gL (some 26) rfl rfl Try.func91 (by kernel_rfl) rfl #[.agg #[.slice A0_0 l0_0.length c0_0, .slice A0_1 l0_1.length c0_1, .slice A0_2 l0_2.length c0_2, .int .i64 a0_3]] rfl ?_; (with_reducible refine (spec_l11Own.calls _ _ l0_0 _ _ l0_1 _ _ l0_2 a0_3 t596 t599 t602 t605 _ ?side1 ?side2 ?side3 ?side4 ?side5 ?side6 A27.out).mono ?_); (case side1 => exact cb HR0_0 HB); (case side2 => exact HC0_0.out); (case side3 => exact cb HR0_1 HB); (case side4 => exact HC0_1.out); (case side5 => exact cb HR0_2 HB); (case side6 => exact HC0_2.out); rintro e w32 ⟨v597, v600, v603, rfl, ho0, ho1, ho2, hb⟩; refine ⟨_, rfl, ?_⟩; have HO598 := Aside0.mk (Kd.R_lower ho0 (below_size (bs2 HB GE592 GE593))); have HO601 := Aside0.mk (Kd.R_lower ho1 (below_size (bs2 HB GE592 GE593))); have HO604 := Aside0.mk (Kd.R_lower ho2 (below_size (bs2 HB GE592 GE593))); replace BK592 := nb BK592 hb; replace BK593 := nb BK593 hb; replace HB := Aside0.mk (below_step (bs2 HB GE592 GE593) hb); (try clear hb); (try clear hb2); (try clear hk); (try clear hi); (try clear ho0); (try clear ho1); (try clear ho2); obtain ⟨Ao33, co33, eo33⟩ := Kd.R_slice HO598.out; subst eo33; obtain ⟨hcz34_0, hcz34_1, hcz34_2, hcz34_3⟩ := cz4 BK592; obtain ⟨hfz34_0, hfz34_1, hfz34_2, hfz34_3⟩ := fz4 BK592; obtain ⟨Ao35, co35, eo35⟩ := Kd.R_slice HO601.out; subst eo35; obtain ⟨Ao36, co36, eo36⟩ := Kd.R_slice HO604.out; subst eo36))
     have n0_ : Aside0 (Kd.R Kd.string 9 ((((w32.setCell ⟨gb592, 0, none⟩ (.slice Ao33 t596.length co33)).setCell ⟨gb592, 1, none⟩ (.slice Ao35 t599.length co35)).setCell ⟨gb592, 2, none⟩ (.slice Ao36 t602.length co36)).setCell ⟨gb592, 3, none⟩ (.int .i64 t605)) w.heap.size (fun k_ => some k_ ≠ (.slice Ao36 t602.length co36 : Value).ownBlock) (.slice Ao33 t596.length co33) t596) := ⟨by (with_reducible repeat (first | apply Kd.R_alloc | apply Kd.R_drewN | apply Kd.R_drew)); exact Kd.R_mono (Kd.R_far (p := ⟨gb592, 3, none⟩) (Kd.R_far (p := ⟨gb592, 2, none⟩) (Kd.R_far (p := ⟨gb592, 1, none⟩) (Kd.R_far (p := ⟨gb592, 0, none⟩) (Kd.R_types HO598.out BK592.out (by decide)) (fun _ hk => hk.2) (.slice Ao33 t596.length co33)) (fun _ hk => hk.2) (.slice Ao35 t599.length co35)) (fun _ hk => hk.2) (.slice Ao36 t602.length co36)) (fun _ hk => hk.2) (.int .i64 t605)) (fun _ hk => hk.1)⟩
     have n1_ : Aside0 (Kd.R k72 72 ((((w32.setCell ⟨gb592, 0, none⟩ (.slice Ao33 t596.length co33)).setCell ⟨gb592, 1, none⟩ (.slice Ao35 t599.length co35)).setCell ⟨gb592, 2, none⟩ (.slice Ao36 t602.length co36)).setCell ⟨gb592, 3, none⟩ (.int .i64 t605)) w.heap.size (fun _ => True) (.slice Ao35 t599.length co35) t599) := ⟨by (with_reducible repeat (first | apply Kd.R_alloc | apply Kd.R_drewN | apply Kd.R_drew)); exact Kd.R_mono (Kd.R_far (p := ⟨gb592, 3, none⟩) (Kd.R_far (p := ⟨gb592, 2, none⟩) (Kd.R_far (p := ⟨gb592, 1, none⟩) (Kd.R_far (p := ⟨gb592, 0, none⟩) (Kd.R_types HO601.out BK592.out (by decide)) (fun _ hk => hk.2) (.slice Ao33 t596.length co33)) (fun _ hk => hk.2) (.slice Ao35 t599.length co35)) (fun _ hk => hk.2) (.slice Ao36 t602.length co36)) (fun _ hk => hk.2) (.int .i64 t605)) (fun _ hk => trivial)⟩
     have n2_ : Aside0 (Kd.R Kd.string 9 ((((w32.setCell ⟨gb592, 0, none⟩ (.slice Ao33 t596.length co33)).setCell ⟨gb592, 1, none⟩ (.slice Ao35 t599.length co35)).setCell ⟨gb592, 2, none⟩ (.slice Ao36 t602.length co36)).setCell ⟨gb592, 3, none⟩ (.int .i64 t605)) w.heap.size (fun k_ => some k_ ≠ (.slice Ao33 t596.length co33 : Value).ownBlock) (.slice Ao36 t602.length co36) t602) := ⟨by (with_reducible repeat (first | apply Kd.R_alloc | apply Kd.R_drewN | apply Kd.R_drew)); exact Kd.R_mono (Kd.R_far (p := ⟨gb592, 3, none⟩) (Kd.R_far (p := ⟨gb592, 2, none⟩) (Kd.R_far (p := ⟨gb592, 1, none⟩) (Kd.R_far (p := ⟨gb592, 0, none⟩) (Kd.R_types HO604.out BK592.out (by decide)) (fun _ hk => hk.2) (.slice Ao33 t596.length co33)) (fun _ hk => hk.2) (.slice Ao35 t599.length co35)) (fun _ hk => hk.2) (.slice Ao36 t602.length co36)) (fun _ hk => hk.2) (.int .i64 t605)) (fun _ hk => hk.1)⟩
     have n3_ : Aside0 (((((w32.setCell ⟨gb592, 0, none⟩ (.slice Ao33 t596.length co33)).setCell ⟨gb592, 1, none⟩ (.slice Ao35 t599.length co35)).setCell ⟨gb592, 2, none⟩ (.slice Ao36 t602.length co36)).setCell ⟨gb592, 3, none⟩ (.int .i64 t605)).heap[gb592]? = some (.cells #[.slice Ao33 t596.length co33, .slice Ao35 t599.length co35, .slice Ao36 t602.length co36, .int .i64 t605] 44 (0, 0))) := ⟨by (with_reducible repeat (first | refine blk_drewN ?_ _ | refine blk_drew ?_ | refine blk_alloc ?_ _)); refine blk_put (cs := #[.slice Ao33 t596.length co33, .slice Ao35 t599.length co35, .slice Ao36 t602.length co36, .int .i64 a0_3]) ?_ 3 _ rfl; (with_reducible repeat (first | refine blk_drewN ?_ _ | refine blk_drew ?_ | refine blk_alloc ?_ _)); refine blk_put (cs := #[.slice Ao33 t596.length co33, .slice Ao35 t599.length co35, .slice A0_2 l0_2.length c0_2, .int .i64 a0_3]) ?_ 2 _ rfl; (with_reducible repeat (first | refine blk_drewN ?_ _ | refine blk_drew ?_ | refine blk_alloc ?_ _)); refine blk_put (cs := #[.slice Ao33 t596.length co33, .slice A0_1 l0_1.length c0_1, .slice A0_2 l0_2.length c0_2, .int .i64 a0_3]) ?_ 1 _ rfl; (with_reducible repeat (first | refine blk_drewN ?_ _ | refine blk_drew ?_ | refine blk_alloc ?_ _)); refine blk_put (cs := #[.slice A0_0 l0_0.length c0_0, .slice A0_1 l0_1.length c0_1, .slice A0_2 l0_2.length c0_2, .int .i64 a0_3]) ?_ 0 _ rfl; (with_reducible repeat (first | refine blk_drewN ?_ _ | refine blk_drew ?_ | refine blk_alloc ?_ _)); exact BK592.out⟩
     have n4_ : Aside0 (((((w32.setCell ⟨gb592, 0, none⟩ (.slice Ao33 t596.length co33)).setCell ⟨gb592, 1, none⟩ (.slice Ao35 t599.length co35)).setCell ⟨gb592, 2, none⟩ (.slice Ao36 t602.length co36)).setCell ⟨gb592, 3, none⟩ (.int .i64 t605)).heap[gb593]? = some (.cells #[.slice none 0 0, .slice none 0 0, .slice none 0 0, .int .i64 0] 44 (0, 0))) := ⟨bf BK593 NB593_592⟩
     have n5_ : Aside0 (Below w.heap.size w ((((w32.setCell ⟨gb592, 0, none⟩ (.slice Ao33 t596.length co33)).setCell ⟨gb592, 1, none⟩ (.slice Ao35 t599.length co35)).setCell ⟨gb592, 2, none⟩ (.slice Ao36 t602.length co36)).setCell ⟨gb592, 3, none⟩ (.int .i64 t605))) := ⟨bs2 HB GE592 GE593⟩
     (try clear HO598)
     (try clear HO601)
     (try clear HO604)
     (try clear BK592)
     (try clear BK593)
     (try clear HB)
     generalize ((((w32.setCell ⟨gb592, 0, none⟩ (.slice Ao33 t596.length co33)).setCell ⟨gb592, 1, none⟩ (.slice Ao35 t599.length co35)).setCell ⟨gb592, 2, none⟩ (.slice Ao36 t602.length co36)).setCell ⟨gb592, 3, none⟩ (.int .i64 t605)) = w37 at n0_ n1_ n2_ n3_ n4_ n5_ ⊢
     have HO598 := n0_
     have HO601 := n1_
     have HO604 := n2_
     have BK592 := n3_
     have BK593 := n4_
     have HB := n5_
     clear n0_ n1_ n2_ n3_ n4_ n5_
     have n0_ := Aside0.mk (Kd.R_drew HO598.out)
     have n1_ := Aside0.mk (Kd.R_drew HO601.out)
     have n2_ := Aside0.mk (Kd.R_drew HO604.out)
     have n3_ := Aside0.mk (blk_drew BK592.out)
     have n4_ := Aside0.mk (blk_drew BK593.out)
     have n5_ := Aside0.mk (below_drew1 HB.out)
     clear HO598
     clear HO601
     clear HO604
     clear BK592
     clear BK593
     clear HB
     have HO598 := n0_
     have HO601 := n1_
     have HO604 := n2_
     have BK592 := n3_
     have BK593 := n4_
     have HB := n5_
     clear n0_ n1_ n2_ n3_ n4_ n5_
     refine start_ (n := 8) (S := fun w' => w'.cell? ⟨gb592, 0, none⟩ = some (.slice Ao33 t596.length co33) ∧ w'.cell? ⟨gb592, 1, none⟩ = some (.slice Ao35 t599.length co35) ∧ w'.cell? ⟨gb592, 2, none⟩ = some (.slice Ao36 t602.length co36) ∧ w'.cell? ⟨gb592, 3, none⟩ = some (.int .i64 t605)) (ds := [7]) #[false, false, false, false, false, false, false, false] (by kernel_rfl) rfl rfl ⟨(blk_cell BK592.out 0).trans rfl, (blk_cell BK592.out 1).trans rfl, (blk_cell BK592.out 2).trans rfl, (blk_cell BK592.out 3).trans rfl⟩ (fun hHeld => ?_); refine with_tabW spec_Commit.tab4 spec_Commit.bits4 (fun HT_ HW_ => ?_)
     generalize w37.drew = w38 at HO598 HO601 HO604 BK592 BK593 HB hHeld ⊢
     refine pure_ (i := 0) (N := some 27) (v := ?_) (a' := ?_) #[true, false, false, false, false, false, false, false] rfl rfl (any_of HT_.out (by kernel_rfl)) (fun _ _ _ h => h) (Or.inl ⟨by rfl, ?_⟩) ?_ ?_
     rotate_left
     ·
      intro w'
      go_simp
      with_reducible rfl
     rotate_left
     ·
      simp only [Act.put, List.setIfInBounds_toArray, List.set_cons_zero, List.set_cons_succ, i64_w, i32_w]
      rfl
     refine pure_ (i := 2) (N := some 29) (v := ?_) (a' := ?_) #[true, false, true, false, false, false, false, false] rfl rfl (any_of HT_.out (by kernel_rfl)) (fun _ _ _ h => h) (Or.inl ⟨by rfl, ?_⟩) ?_ ?_
     rotate_left
     ·
      intro w'
      go_simp
      with_reducible rfl
     rotate_left
     ·
      simp only [Act.put, List.setIfInBounds_toArray, List.set_cons_zero, List.set_cons_succ, i64_w, i32_w]
      rfl
     refine take_ (i := 1) (N := some 28) (v := ?_) (a' := ?_) #[true, true, true, false, false, false, false, false] rfl rfl (take_ofW HT_.out HW_.out (by kernel_rfl)) (fun _ _ _ h => h) (Or.inl ⟨by rfl, ?_⟩) hHeld ?_ ?_
     rotate_left
     ·
      rintro w' ⟨s0, s1, s2, s3⟩
      go_simp
      with_reducible rfl
     rotate_left
     ·
      simp only [Act.put, List.setIfInBounds_toArray, List.set_cons_zero, List.set_cons_succ, i64_w, i32_w]
      rfl
     refine one_ (i := 3) (N := some 30) #[true, true, true, true, false, false, false, false] rfl rfl (one_of HT_.out (by kernel_rfl)) (by decide) (fun K hK => ?_)
     refine goes_ Try.func62 (by kernel_rfl) rfl #[.slice A1 l1.length c1] (by rfl) rfl rfl (by (try simp only [List.map_toArray, List.map_cons, List.map_nil]); first | done | rfl | (simp only [List.length_drop, List.length_take]; rfl)) ?_
     with_reducible refine (spec_l11Text.calls kj2 _ _ l1 t606 _ ?side1 ?side2 A28.out).mono ?_
     (case side1 => exact cb HR1 HB)
     (case side2 => exact HC1.out)
     rintro e w39 ⟨rfl, hb⟩
     refine ⟨_, rfl, ?_⟩
     have n0_ := Aside0.mk (Kd.R_below (rr HO598.out) hb)
     have n1_ := Aside0.mk (Kd.R_below (rr HO601.out) hb)
     have n2_ := Aside0.mk (Kd.R_below (rr HO604.out) hb)
     have n3_ := Aside0.mk (bb BK592 hb)
     have n4_ := Aside0.mk (bb BK593 hb)
     have n5_ := Aside0.mk (below_step (bs2 HB GE592 GE593) hb)
     clear HO598
     clear HO601
     clear HO604
     clear BK592
     clear BK593
     clear HB
     have HO598 := n0_
     have HO601 := n1_
     have HO604 := n2_
     have BK592 := n3_
     have BK593 := n4_
     have HB := n5_
     clear n0_ n1_ n2_ n3_ n4_ n5_
     (try clear hb)
     (try clear hb2)
     (try clear hk)
     (try clear hi)
     refine hK.out _ _ ⟨(blk_cell BK592.out 0).trans rfl, (blk_cell BK592.out 1).trans rfl, (blk_cell BK592.out 2).trans rfl, (blk_cell BK592.out 3).trans rfl⟩ (fun hHeld => ?_)
     clear hK K
     refine norm_ (a' := ?_) ?_ ?_
     rotate_left
     ·
      show Act.put _ (some 30) _ = _
      simp only [Act.put, List.setIfInBounds_toArray, List.set_cons_zero, List.set_cons_succ, i64_w, i32_w]
      rfl
     refine one_ (i := 4) (N := some 31) #[true, true, true, true, true, false, false, false] rfl rfl (one_of HT_.out (by kernel_rfl)) (by decide) (fun K hK => ?_)
     refine value_ (w1 := ?_) (v := ?_) (by rfl) rfl ?_ ?_
     rotate_left 2
     ·
      go_simp
      constructor
      ·
       rfl
      ·
       rfl
     refine hK.out _ _ ⟨(blk_cell (blk_alloc BK592.out _) 0).trans rfl, (blk_cell (blk_alloc BK592.out _) 1).trans rfl, (blk_cell (blk_alloc BK592.out _) 2).trans rfl, (blk_cell (blk_alloc BK592.out _) 3).trans rfl⟩ (fun hHeld => ?_)
     clear hK K
     refine norm_ (a' := ?_) ?_ ?_
     rotate_left
     ·
      show Act.put _ (some 31) _ = _
      simp only [Act.put, List.setIfInBounds_toArray, List.set_cons_zero, List.set_cons_succ, i64_w, i32_w]
      rfl
     refine one_ (i := 5) (N := some 32) #[true, true, true, true, true, true, false, false] rfl rfl (one_of HT_.out (by kernel_rfl)) (by decide) (fun K hK => ?_)
     refine Kd.R_append_step Kd.string (w0 := w) w.heap.size (by rfl) (.tmp 28) (.tmp 31) 34 9 (.string ⟨#[]⟩) 16 rfl Try.underlying34 info9 rfl (by decide) (by omega) (.slice Ao36 t602.length co36) t602 t606 [.string t606] (fun k_ => some k_ ≠ (.slice Ao33 t596.length co33 : Value).ownBlock) (fun _ => False) rfl rfl ?aP (fun _ hk => hk.elim) ?aF ?aO ?aB ?aS ?aL ?_
     (case aP => exact rfl)
     (case aB => exact (bs2 HB GE592 GE593))
     (case aF => exact (fun k_ hk => Kd.fresh' (Kd.R_lt (rr HO598.out)) k_ hk))
     (case aO => exact (rr HO604.out))
     (case aS => exact (below_size (bs2 HB GE592 GE593)))
     (case aL => have := LMc29.out; omega)
     intro v608 w40 ho hb hg hat
     rw [← Ny607.out] at ho
     have n0_ := Aside0.mk (blk_grown (g := gb592) (o := .cells #[.slice Ao33 t596.length co33, .slice Ao35 t599.length co35, .slice Ao36 t602.length co36, .int .i64 t605] 44 (0, 0)) (bk BK592) hg (Kd.R_ne HO604.out BK592.out (by decide)))
     have n1_ := Aside0.mk (blk_grown (g := gb593) (o := .cells #[.slice none 0 0, .slice none 0 0, .slice none 0 0, .int .i64 0] 44 (0, 0)) (bk BK593) hg (Kd.R_ne HO604.out BK593.out (by decide)))
     have n2_ := Aside0.mk (Kd.R_after (ok := (fun _ => True)) (by (with_reducible repeat (first | apply Kd.R_alloc | apply Kd.R_drewN | apply Kd.R_drew)); exact Kd.R_mono HO598.out (fun _ hk => ⟨trivial, hk⟩)) hg hat)
     have n3_ := Aside0.mk (Kd.R_over' (rr HO601.out) (Kd.R_typed (rr HO604.out)) (by decide) hg)
     have n4_ := Aside0.mk (hb)
     have n5_ := Aside0.mk (ho)
     clear BK592
     clear BK593
     clear HO598
     clear HO601
     clear HB
     clear HO604
     have BK592 := n0_
     have BK593 := n1_
     have HO598 := n2_
     have HO601 := n3_
     have HB := n4_
     have HO609 := n5_
     clear n0_ n1_ n2_ n3_ n4_ n5_
     clear ho hb hg hat
     obtain ⟨Ao41, co41, eo41⟩ := Kd.R_slice HO609.out
     (first | subst eo41 | (injection eo41 with f1_ f2_ f3_; have f4_ := f1_.symm; have f5_ := f3_.symm; clear f1_ f2_ f3_; subst f4_; subst f5_))
     refine hK.out _ _ ⟨(blk_cell BK592.out 0).trans rfl, (blk_cell BK592.out 1).trans rfl, (blk_cell BK592.out 2).trans rfl, (blk_cell BK592.out 3).trans rfl⟩ (fun hHeld => ?_)
     clear hK K
     refine norm_ (a' := ?_) ?_ ?_
     rotate_left
     ·
      show Act.put _ (some 32) _ = _
      simp only [Act.put, List.setIfInBounds_toArray, List.set_cons_zero, List.set_cons_succ, i64_w, i32_w]
      rfl
     refine pure_ (i := 6) (N := some 33) (v := ?_) (a' := ?_) #[true, true, true, true, true, true, true, false] rfl rfl (any_of HT_.out (by kernel_rfl)) (fun _ _ _ h => h) (Or.inl ⟨by rfl, ?_⟩) ?_ ?_
     rotate_left
     ·
      intro w'
      go_simp
      with_reducible rfl
     rotate_left
     ·
      simp only [Act.put, List.setIfInBounds_toArray, List.set_cons_zero, List.set_cons_succ, i64_w, i32_w]
      rfl
     refine last_ (i := 7) (N := none) #[true, true, true, true, true, true, true, true] rfl rfl (one_of HT_.out (by kernel_rfl)) (by decide) (fun K hK => ?_)
     have hs42 : w40.cell? ⟨gb592, 2, none⟩ = some (.slice Ao36 t602.length co36) := (blk_cell BK592.out 2).trans rfl
     have hfs42 := blk_frozen BK592.out 2
     have hns42_1 := NB593_592.out
     have hms42_1 := NB592_593.out
     refine skip_ (w1 := ?_) (by rfl) rfl ?_ ?_
     rotate_left
     ·
      go_simp
      rfl
     refine hK.out _ _ ?_
     clear hK K
     refine done_ (done_of HT_.out (by kernel_rfl)) ?_
     obtain ⟨hcz43_0, hcz43_1, hcz43_2, hcz43_3⟩ := cz4 BK592
     obtain ⟨hfz43_0, hfz43_1, hfz43_2, hfz43_3⟩ := fz4 BK592
     obtain ⟨hcz44_0, hcz44_1, hcz44_2, hcz44_3⟩ := cz4 BK593
     obtain ⟨hfz44_0, hfz44_1, hfz44_2, hfz44_3⟩ := fz4 BK593
     try go_wp2
     refine bodyPost_ret (results_ct rfl _ _ gb593 44 #[.slice Ao33 t596.length co33, .slice Ao35 t599.length co35, .slice Ao41 y607.length co41, .int .i64 t605] (0, 0) _ rfl (by (with_reducible repeat (first | refine blk_drewN ?_ _ | refine blk_drew ?_ | refine blk_alloc ?_ _)); refine blk_put (cs := #[.slice Ao33 t596.length co33, .slice Ao35 t599.length co35, .slice Ao41 y607.length co41, .int .i64 0]) ?_ 3 _ rfl; (with_reducible repeat (first | refine blk_drewN ?_ _ | refine blk_drew ?_ | refine blk_alloc ?_ _)); refine blk_put (cs := #[.slice Ao33 t596.length co33, .slice Ao35 t599.length co35, .slice none 0 0, .int .i64 0]) ?_ 2 _ rfl; (with_reducible repeat (first | refine blk_drewN ?_ _ | refine blk_drew ?_ | refine blk_alloc ?_ _)); refine blk_put (cs := #[.slice Ao33 t596.length co33, .slice none 0 0, .slice none 0 0, .int .i64 0]) ?_ 1 _ rfl; (with_reducible repeat (first | refine blk_drewN ?_ _ | refine blk_drew ?_ | refine blk_alloc ?_ _)); refine blk_put (cs := #[.slice none 0 0, .slice none 0 0, .slice none 0 0, .int .i64 0]) ?_ 0 _ rfl; (with_reducible repeat (first | refine blk_drewN ?_ _ | refine blk_drew ?_ | refine blk_alloc ?_ _)); refine blk_far ?_ NB593_592.out _; (with_reducible repeat (first | refine blk_drewN ?_ _ | refine blk_drew ?_ | refine blk_alloc ?_ _)); exact BK593.out) Try.underlying44 rfl (by kernel_rfl)) rfl ?_
     exact ⟨_, _, _, by first | rfl | (simp [errW_none, errW_some] <;> rfl) | (simp [*, errW_none, errW_some] <;> rfl), by (with_reducible repeat (first | apply Kd.R_alloc | apply Kd.R_drewN | apply Kd.R_drew)); exact Kd.R_mono (Kd.R_far (p := ⟨gb593, 3, none⟩) (Kd.R_far (p := ⟨gb593, 2, none⟩) (Kd.R_far (p := ⟨gb593, 1, none⟩) (Kd.R_far (p := ⟨gb593, 0, none⟩) (Kd.R_far (p := ⟨gb592, 2, none⟩) (Kd.R_types (Kd.R_types HO598.out BK592.out (by decide)) BK593.out (by decide)) (fun _ hk => hk.1.2) (.slice Ao41 y607.length co41)) (fun _ hk => hk.2) (.slice Ao33 t596.length co33)) (fun _ hk => hk.2) (.slice Ao35 t599.length co35)) (fun _ hk => hk.2) (.slice Ao41 y607.length co41)) (fun _ hk => hk.2) (.int .i64 t605)) (fun _ hk => hk.1.1.2), by (with_reducible repeat (first | apply Kd.R_alloc | apply Kd.R_drewN | apply Kd.R_drew)); exact Kd.R_mono (Kd.R_far (p := ⟨gb593, 3, none⟩) (Kd.R_far (p := ⟨gb593, 2, none⟩) (Kd.R_far (p := ⟨gb593, 1, none⟩) (Kd.R_far (p := ⟨gb593, 0, none⟩) (Kd.R_far (p := ⟨gb592, 2, none⟩) (Kd.R_types (Kd.R_types HO601.out BK592.out (by decide)) BK593.out (by decide)) (fun _ hk => hk.1.2) (.slice Ao41 y607.length co41)) (fun _ hk => hk.2) (.slice Ao33 t596.length co33)) (fun _ hk => hk.2) (.slice Ao35 t599.length co35)) (fun _ hk => hk.2) (.slice Ao41 y607.length co41)) (fun _ hk => hk.2) (.int .i64 t605)) (fun _ hk => trivial), by (with_reducible repeat (first | apply Kd.R_alloc | apply Kd.R_drewN | apply Kd.R_drew)); exact Kd.R_mono (Kd.R_far (p := ⟨gb593, 3, none⟩) (Kd.R_far (p := ⟨gb593, 2, none⟩) (Kd.R_far (p := ⟨gb593, 1, none⟩) (Kd.R_far (p := ⟨gb593, 0, none⟩) (Kd.R_far (p := ⟨gb592, 2, none⟩) (Kd.R_types (Kd.R_types HO609.out BK592.out (by decide)) BK593.out (by decide)) (fun _ hk => hk.1.2) (.slice Ao41 y607.length co41)) (fun _ hk => hk.2) (.slice Ao33 t596.length co33)) (fun _ hk => hk.2) (.slice Ao35 t599.length co35)) (fun _ hk => hk.2) (.slice Ao41 y607.length co41)) (fun _ hk => hk.2) (.int .i64 t605)) (fun _ hk => hk.1.1), bs2 HB GE592 GE593⟩
    ·
     rw [if_neg c29] at H
     exact absurd H (by simp)

/-! ### impl_Commit: function 40 -/
def impl_Commit.j0 : Nat → List (S72) → Bool → List ByteArray → List (S72) → List ByteArray → Int → Option (List ByteArray × (List (S72)) × List ByteArray × Int × Bool)
 | 0, _, _, _, _, _, _ => none
 | k + 1, x1, x24, x622000, x622001, x622002, x622003 => if x24 = true then (some (([] : List ByteArray), ([] : List (S72)), ([] : List ByteArray), 0, false)) else ((impl_ownStore.f x622000 x622001 x622002 x622003).bind fun bt625 => ((impl_txnText.f k x1).bind fun t636 => (if bt625.2.2.1.length < 8796093022208 then (some (bt625.1, bt625.2.1, (bt625.2.2.1 ++ [t636]), bt625.2.2.2, true)) else (none))))
def impl_Commit.f (k : Nat) (l0_0 : List ByteArray) (l0_1 : List (S72)) (l0_2 : List ByteArray) (a0_3 : Int) (l1 : List (S72)) : Option (List ByteArray × (List (S72)) × List ByteArray × Int × Bool) := (impl_GoodStore.f k l0_0 l0_1 l0_2 a0_3).bind fun t623 => (if t623 = true then ((impl_isTxn.f k l1 (l0_0.length : Int)).bind fun t624 => (if t624 = true then (impl_Commit.j0 k l1 ((l0_2.length : Int) == 40) l0_0 l0_1 l0_2 a0_3) else (impl_Commit.j0 k l1 true l0_0 l0_1 l0_2 a0_3))) else (impl_Commit.j0 k l1 true l0_0 l0_1 l0_2 a0_3))
theorem impl_Commit.mono_l : ∀ k, (∀ y0 y1 y2 y3 y4 y5, LeO (impl_Commit.j0 k y0 y1 y2 y3 y4 y5) (impl_Commit.j0 (k + 1) y0 y1 y2 y3 y4 y5))
 | 0 => fun _ _ _ _ _ _ r h => by simp [impl_Commit.j0] at h
 | k + 1 => by
  have ih0 := impl_Commit.mono_l k
  ·
   intro y0 y1 y2 y3 y4 y5
   unfold impl_Commit.j0
   repeat' first
   | (with_reducible exact ih0 _ _ _ _ _ _)
   | (with_reducible exact impl_GoodStore.mono _ _ _ _ _)
   | (with_reducible exact impl_isTxn.mono _ _ _)
   | (with_reducible exact impl_txnText.mono _ _)
   | (with_reducible exact LeO.refl _)
   | (with_reducible exact LeO.none _)
   | (with_reducible refine LeO.ite ?_ ?_)
   | (with_reducible refine LeO.bind ?_ (fun _ => ?_))
   | exact ih0 _ _ _ _ _ _
   | exact impl_GoodStore.mono _ _ _ _ _
   | exact impl_isTxn.mono _ _ _
   | exact impl_txnText.mono _ _
   | exact LeO.none _
   | refine LeO.ite ?_ ?_
   | refine LeO.bind ?_ (fun _ => ?_)
theorem impl_Commit.mono : ∀ a0 a1 a2 a3 a4 k, LeO (impl_Commit.f k a0 a1 a2 a3 a4) (impl_Commit.f (k + 1) a0 a1 a2 a3 a4) := by
 intro a0 a1 a2 a3 a4 k
 have ih0 := impl_Commit.mono_l k
 unfold impl_Commit.f
 repeat' first
   | (with_reducible exact ih0 _ _ _ _ _ _)
   | (with_reducible exact impl_GoodStore.mono _ _ _ _ _)
   | (with_reducible exact impl_isTxn.mono _ _ _)
   | (with_reducible exact impl_txnText.mono _ _)
   | (with_reducible exact LeO.refl _)
   | (with_reducible exact LeO.none _)
   | (with_reducible refine LeO.ite ?_ ?_)
   | (with_reducible refine LeO.bind ?_ (fun _ => ?_))
   | exact ih0 _ _ _ _ _ _
   | exact impl_GoodStore.mono _ _ _ _ _
   | exact impl_isTxn.mono _ _ _
   | exact impl_txnText.mono _ _
   | exact LeO.none _
   | refine LeO.ite ?_ ?_
   | refine LeO.bind ?_ (fun _ => ?_)
def impl_Commit.T4 : Bool × List (List Nat × List Nat) := (true, [([], []), ([0], [0]), ([], []), ([2], [2]), ([3], [3]), ([1, 4, 3], [1, 4]), ([0, 1, 2, 3, 4, 5], []), ([6, 5, 5, 0, 1, 2, 3, 4, 5], [5, 6])])
def impl_Commit.B4 : List Nat := [0, 1, 0, 4, 12, 31, 63, 127]
theorem impl_Commit.tab4 : rtab .any (opsOf Try.f40 4) = impl_Commit.T4 := by kernel_rfl
theorem impl_Commit.bits4 : waitsOk impl_Commit.T4.2 impl_Commit.B4 = true := by kernel_rfl
set_option maxHeartbeats 8000000 in
set_option maxRecDepth 100000 in
theorem impl_Commit.calls (k : Nat) (A0_0 : Option Addr) (c0_0 : Nat) (l0_0 : List ByteArray) (A0_1 : Option Addr) (c0_1 : Nat) (l0_1 : List (S72)) (A0_2 : Option Addr) (c0_2 : Nat) (l0_2 : List ByteArray) (a0_3 : Int) (A1 : Option Addr) (c1 : Nat) (l1 : List (S72)) (r1 : List ByteArray) (r2 : List (S72)) (r3 : List ByteArray) (r4 : Int) (r5 : Bool) (w : World) (hr0_0 : Kd.C Kd.string w A0_0 l0_0.length l0_0) (hc0_0 : l0_0.length ≤ c0_0) (hr0_1 : Kd.C k72 w A0_1 l0_1.length l0_1) (hc0_1 : l0_1.length ≤ c0_1) (hr0_2 : Kd.C Kd.string w A0_2 l0_2.length l0_2) (hc0_2 : l0_2.length ≤ c0_2) (hr1 : Kd.C k72 w A1 l1.length l1) (hc1 : l1.length ≤ c1) (h : impl_Commit.f k l0_0 l0_1 l0_2 a0_3 l1 = some (r1, r2, r3, r4, r5)) :
  Calls Try.prog 40 #[.agg #[.slice A0_0 l0_0.length c0_0, .slice A0_1 l0_1.length c0_1, .slice A0_2 l0_2.length c0_2, .int .i64 a0_3], .slice A1 l1.length c1] w fun e w' => ∃ v0_ v1_ v2_ : Value, e = .returned (.tuple #[.agg #[v0_, v1_, v2_, .int .i64 r4], .bool r5]) ∧ Kd.R Kd.string 9 w' w.heap.size (fun k_ => some k_ ≠ (v2_ : Value).ownBlock) v0_ r1 ∧ Kd.R k72 72 w' w.heap.size (fun _ => True) v1_ r2 ∧ Kd.R Kd.string 9 w' w.heap.size (fun k_ => some k_ ≠ (v0_ : Value).ownBlock) v2_ r3 ∧ Below w.heap.size w w' := by
 have hu44 := Try.underlying44
 have HR0_0 := Aside0.mk hr0_0
 have HC0_0 := Aside0.mk hc0_0
 clear hr0_0 hc0_0
 have HR0_1 := Aside0.mk hr0_1
 have HC0_1 := Aside0.mk hc0_1
 clear hr0_1 hc0_1
 have HR0_2 := Aside0.mk hr0_2
 have HC0_2 := Aside0.mk hc0_2
 clear hr0_2 hc0_2
 have HR1 := Aside0.mk hr1
 have HC1 := Aside0.mk hc1
 clear hr1 hc1
 have HB := Aside0.mk (Below.refl w.heap.size w)
 have H : ((impl_GoodStore.f k l0_0 l0_1 l0_2 a0_3).bind fun t623 => (if t623 = true then ((impl_isTxn.f k l1 (l0_0.length : Int)).bind fun t624 => (if t624 = true then (impl_Commit.j0 k l1 ((l0_2.length : Int) == 40) l0_0 l0_1 l0_2 a0_3) else (impl_Commit.j0 k l1 true l0_0 l0_1 l0_2 a0_3))) else (impl_Commit.j0 k l1 true l0_0 l0_1 l0_2 a0_3))) = some (r1, r2, r3, r4, r5) := h
 clear h
 have HC3 := Aside0.mk H
 clear H
 go_enter Try.func40, Try.ntmps40
 go_upto_region 1 with (first | ((with_reducible refine gate_dst (N := 2) rfl ?_); (try (refine gate_guard (by rfl) ?_; dsimp only)); refine box_event ?hg (N := 2) ?hd (cs := #[.slice A0_0 l0_0.length c0_0, .slice A0_1 l0_1.length c0_1, .slice A0_2 l0_2.length c0_2, .int .i64 a0_3]) (t := 44) ?hr ?_; (case hd => rfl); (case hg => rfl); (case hr => first | (go_simp; done) | (go_simp; rfl)); intro gb621 hg w4 hbox hb; have BK621 := Aside0.mk (hbox); have GW621 := Aside0.mk ((by rw [hg]; exact (below_size (bs HB)) : w.heap.size ≤ gb621)); have GE621 := Aside0.mk ((by rw [hg]; exact (below_size (bs HB)) : w.heap.size ≤ gb621)); replace HB := Aside0.mk (below_step (bs HB) hb); clear hb hbox hg) | ((with_reducible refine gate_dst (N := 4) rfl ?_); (try (refine gate_guard (by rfl) ?_; dsimp only)); refine box_event ?hg (N := 4) ?hd (cs := #[.slice none 0 0, .slice none 0 0, .slice none 0 0, .int .i64 0]) (t := 44) ?hr ?_; (case hd => rfl); (case hg => rfl); (case hr => first | (go_simp; done) | (go_simp; rfl)); intro gb622 hg w5 hbox hb; have BK622 := Aside0.mk (hbox); have GW622 := Aside0.mk ((by rw [hg]; exact (below_size (bs1 HB GE621)) : w.heap.size ≤ gb622)); have GE622 := Aside0.mk ((by rw [hg]; exact (below_size (bs1 HB GE621)) : w.heap.size ≤ gb622)); replace HB := Aside0.mk (below_step (bs1 HB GE621) hb); have NB621_622 := Aside0.mk ((bn BK621 hg : gb621 ≠ gb622)); have NB622_621 := Aside0.mk ((bm BK621 hg : gb622 ≠ gb621)); replace BK621 := nb BK621 hb; clear hb hbox hg))
 (try simp only [Act.put, List.setIfInBounds_toArray, List.set_cons_zero, List.set_cons_succ])
 go_cut [24] (fun v24 wc => ∃ (kq : Nat) (x24_2 : Bool), v24 = .bool x24_2 ∧ Aside0 (impl_Commit.j0 kq l1 x24_2 l0_0 l0_1 l0_2 a0_3 = some (r1, r2, r3, r4, r5)) ∧ Aside0 (kq ≤ k) ∧ Aside0 (wc.heap[gb621]? = some (.cells #[(.slice A0_0 l0_0.length c0_0), (.slice A0_1 l0_1.length c0_1), (.slice A0_2 l0_2.length c0_2), .int .i64 a0_3] 44 (0, 0))) ∧ Aside0 (wc.heap[gb622]? = some (.cells #[(.slice none 0 0), (.slice none 0 0), (.slice none 0 0), .int .i64 0] 44 (0, 0))) ∧ Aside0 (Below w.heap.size w wc))
 case first =>
  have H := HC3.out
  clear HC3
  replace H := Option.bind_eq_some_iff.mp H
  obtain ⟨t623, A60, H⟩ := H
  replace H : (if t623 = true then ((impl_isTxn.f k l1 (l0_0.length : Int)).bind fun t624 => (if t624 = true then (impl_Commit.j0 k l1 ((l0_2.length : Int) == 40) l0_0 l0_1 l0_2 a0_3) else (impl_Commit.j0 k l1 true l0_0 l0_1 l0_2 a0_3))) else (impl_Commit.j0 k l1 true l0_0 l0_1 l0_2 a0_3)) = some (r1, r2, r3, r4, r5) := H
  have A6 := Aside0.mk A60
  clear A60
  by_cases c7 : t623 = true
  ·
   subst c7
   rw [if_pos rfl] at H
   replace H := Option.bind_eq_some_iff.mp H
   obtain ⟨t624, A80, H⟩ := H
   replace H : (if t624 = true then (impl_Commit.j0 k l1 ((l0_2.length : Int) == 40) l0_0 l0_1 l0_2 a0_3) else (impl_Commit.j0 k l1 true l0_0 l0_1 l0_2 a0_3)) = some (r1, r2, r3, r4, r5) := H
   have A8 := Aside0.mk A80
   clear A80
   by_cases c9 : t624 = true
   ·
    subst c9
    rw [if_pos rfl] at H
    have H' := Aside0.mk H
    clear H
    have hnb10 := NB621_622.out
    have hnc10 := NB622_621.out
    obtain ⟨hcz11_0, hcz11_1, hcz11_2, hcz11_3⟩ := cz4 BK621
    obtain ⟨hfz11_0, hfz11_1, hfz11_2, hfz11_3⟩ := fz4 BK621
    go_wp2_with (first | ((with_reducible refine gate_callee (f := 28) rfl ?_); refine gL (some 8) rfl rfl Try.func28 (by kernel_rfl) rfl #[.agg #[.slice A0_0 l0_0.length c0_0, .slice A0_1 l0_1.length c0_1, .slice A0_2 l0_2.length c0_2, .int .i64 a0_3]] rfl ?_; (with_reducible refine (impl_GoodStore.calls k _ _ l0_0 _ _ l0_1 _ _ l0_2 a0_3 true _ ?side1 ?side2 ?side3 ?side4 ?side5 ?side6 A6.out).mono ?_); (case side1 => exact cb HR0_0 HB); (case side2 => exact HC0_0.out); (case side3 => exact cb HR0_1 HB); (case side4 => exact HC0_1.out); (case side5 => exact cb HR0_2 HB); (case side6 => exact HC0_2.out); rintro e w12 ⟨rfl, hb⟩; refine ⟨_, rfl, ?_⟩; replace BK621 := nb BK621 hb; replace BK622 := nb BK622 hb; replace HB := Aside0.mk (below_step (bs2 HB GE621 GE622) hb); (try clear hb); (try clear hb2); (try clear hk); (try clear hi); obtain ⟨hcz13_0, hcz13_1, hcz13_2, hcz13_3⟩ := cz4 BK621; obtain ⟨hfz13_0, hfz13_1, hfz13_2, hfz13_3⟩ := fz4 BK621) | (go_at_call 64; (with_reducible refine (impl_isTxn.calls k _ _ l1 (l0_0.length : Int) true _ ?side1 ?side2 A8.out).mono ?_); (case side1 => exact cb HR1 HB); (case side2 => exact HC1.out); rintro e w14 ⟨rfl, hb⟩; replace BK621 := nb BK621 hb; replace BK622 := nb BK622 hb; replace HB := Aside0.mk (below_step (bs2 HB GE621 GE622) hb); (try clear hb); (try clear hb2); (try clear hk); (try clear hi); obtain ⟨hcz15_0, hcz15_1, hcz15_2, hcz15_3⟩ := cz4 BK621; obtain ⟨hfz15_0, hfz15_1, hfz15_2, hfz15_3⟩ := fz4 BK621))
    go_meet
    case rel => exact ⟨_, (((l0_2.length : Int) == 40)), (by first | rfl | (simp; done) | (simp [*]; done)), H', ⟨by first | omega | exact Nat.le_refl _⟩, ⟨bk BK621⟩, ⟨bk BK622⟩, ⟨bs2 HB GE621 GE622⟩⟩
   ·
    replace c9 := Bool.eq_false_iff.mpr c9
    subst c9
    rw [if_neg (show ¬ (false = true) by decide)] at H
    have H' := Aside0.mk H
    clear H
    have hnb16 := NB621_622.out
    have hnc16 := NB622_621.out
    obtain ⟨hcz17_0, hcz17_1, hcz17_2, hcz17_3⟩ := cz4 BK621
    obtain ⟨hfz17_0, hfz17_1, hfz17_2, hfz17_3⟩ := fz4 BK621
    go_wp2_with (first | ((with_reducible refine gate_callee (f := 28) rfl ?_); refine gL (some 8) rfl rfl Try.func28 (by kernel_rfl) rfl #[.agg #[.slice A0_0 l0_0.length c0_0, .slice A0_1 l0_1.length c0_1, .slice A0_2 l0_2.length c0_2, .int .i64 a0_3]] rfl ?_; (with_reducible refine (impl_GoodStore.calls k _ _ l0_0 _ _ l0_1 _ _ l0_2 a0_3 true _ ?side1 ?side2 ?side3 ?side4 ?side5 ?side6 A6.out).mono ?_); (case side1 => exact cb HR0_0 HB); (case side2 => exact HC0_0.out); (case side3 => exact cb HR0_1 HB); (case side4 => exact HC0_1.out); (case side5 => exact cb HR0_2 HB); (case side6 => exact HC0_2.out); rintro e w18 ⟨rfl, hb⟩; refine ⟨_, rfl, ?_⟩; replace BK621 := nb BK621 hb; replace BK622 := nb BK622 hb; replace HB := Aside0.mk (below_step (bs2 HB GE621 GE622) hb); (try clear hb); (try clear hb2); (try clear hk); (try clear hi); obtain ⟨hcz19_0, hcz19_1, hcz19_2, hcz19_3⟩ := cz4 BK621; obtain ⟨hfz19_0, hfz19_1, hfz19_2, hfz19_3⟩ := fz4 BK621) | (go_at_call 64; (with_reducible refine (impl_isTxn.calls k _ _ l1 (l0_0.length : Int) false _ ?side1 ?side2 A8.out).mono ?_); (case side1 => exact cb HR1 HB); (case side2 => exact HC1.out); rintro e w20 ⟨rfl, hb⟩; replace BK621 := nb BK621 hb; replace BK622 := nb BK622 hb; replace HB := Aside0.mk (below_step (bs2 HB GE621 GE622) hb); (try clear hb); (try clear hb2); (try clear hk); (try clear hi)))
    go_meet
    case rel => exact ⟨_, (true), (by first | rfl | (simp; done) | (simp [*]; done)), H', ⟨by first | omega | exact Nat.le_refl _⟩, ⟨bk BK621⟩, ⟨bk BK622⟩, ⟨bs2 HB GE621 GE622⟩⟩
  ·
   replace c7 := Bool.eq_false_iff.mpr c7
   subst c7
   rw [if_neg (show ¬ (false = true) by decide)] at H
   have H' := Aside0.mk H
   clear H
   have hnb21 := NB621_622.out
   have hnc21 := NB622_621.out
   obtain ⟨hcz22_0, hcz22_1, hcz22_2, hcz22_3⟩ := cz4 BK621
   obtain ⟨hfz22_0, hfz22_1, hfz22_2, hfz22_3⟩ := fz4 BK621
   go_wp2_with (first | ((with_reducible refine gate_callee (f := 28) rfl ?_); refine gL (some 8) rfl rfl Try.func28 (by kernel_rfl) rfl #[.agg #[.slice A0_0 l0_0.length c0_0, .slice A0_1 l0_1.length c0_1, .slice A0_2 l0_2.length c0_2, .int .i64 a0_3]] rfl ?_; (with_reducible refine (impl_GoodStore.calls k _ _ l0_0 _ _ l0_1 _ _ l0_2 a0_3 false _ ?side1 ?side2 ?side3 ?side4 ?side5 ?side6 A6.out).mono ?_); (case side1 => exact cb HR0_0 HB); (case side2 => exact HC0_0.out); (case side3 => exact cb HR0_1 HB); (case side4 => exact HC0_1.out); (case side5 => exact cb HR0_2 HB); (case side6 => exact HC0_2.out); rintro e w23 ⟨rfl, hb⟩; refine ⟨_, rfl, ?_⟩; replace BK621 := nb BK621 hb; replace BK622 := nb BK622 hb; replace HB := Aside0.mk (below_step (bs2 HB GE621 GE622) hb); (try clear hb); (try clear hb2); (try clear hk); (try clear hi)))
   go_meet
   case rel => exact ⟨_, (true), (by first | rfl | (simp; done) | (simp [*]; done)), H', ⟨by first | omega | exact Nat.le_refl _⟩, ⟨bk BK621⟩, ⟨bk BK622⟩, ⟨bs2 HB GE621 GE622⟩⟩
 case rest =>
  clear HC3
  try clear c1
  try clear c2
  try clear p2
  try clear c4
  try clear c7
  try clear c9
  try clear c10
  try clear c16
  try clear c21
  try clear hcz11_0 hcz11_1 hcz11_2 hcz11_3
  try clear hcz13_0 hcz13_1 hcz13_2 hcz13_3
  try clear hcz15_0 hcz15_1 hcz15_2 hcz15_3
  try clear hcz17_0 hcz17_1 hcz17_2 hcz17_3
  try clear hcz19_0 hcz19_1 hcz19_2 hcz19_3
  try clear hcz22_0 hcz22_1 hcz22_2 hcz22_3
  try clear hfz11_0 hfz11_1 hfz11_2 hfz11_3
  try clear hfz13_0 hfz13_1 hfz13_2 hfz13_3
  try clear hfz15_0 hfz15_1 hfz15_2 hfz15_3
  try clear hfz17_0 hfz17_1 hfz17_2 hfz17_3
  try clear hfz19_0 hfz19_1 hfz19_2 hfz19_3
  try clear hfz22_0 hfz22_1 hfz22_2 hfz22_3
  obtain ⟨kq, x24_2, rfl, HA, HJ2, BK621, BK622, HB⟩ := hcut
  cases kq with
  | zero => exact absurd HA.out (by simp [impl_Commit.j0])
  | succ kj2 =>
   have H := HA.out
   clear HA
   simp only [impl_Commit.j0] at H
   by_cases c24 : x24_2 = true
   ·
    subst c24
    rw [if_pos rfl] at H
    simp only [Option.some.injEq, Prod.mk.injEq] at H
    obtain ⟨rfl, rfl, rfl, rfl, rfl⟩ := H
    have hnb25 := NB622_621.out
    have hnc25 := NB621_622.out
    obtain ⟨hcz26_0, hcz26_1, hcz26_2, hcz26_3⟩ := cz4 BK622
    obtain ⟨hfz26_0, hfz26_1, hfz26_2, hfz26_3⟩ := fz4 BK622
    go_wp2
    refine bodyPost_ret (results_ct rfl _ _ gb622 44 #[.slice none 0 0, .slice none 0 0, .slice none 0 0, .int .i64 0] (0, 0) _ rfl (by (with_reducible repeat (first | refine blk_drewN ?_ _ | refine blk_drew ?_ | refine blk_alloc ?_ _)); refine blk_put (cs := #[.slice none 0 0, .slice none 0 0, .slice none 0 0, .int .i64 0]) ?_ 3 _ rfl; (with_reducible repeat (first | refine blk_drewN ?_ _ | refine blk_drew ?_ | refine blk_alloc ?_ _)); refine blk_put (cs := #[.slice none 0 0, .slice none 0 0, .slice none 0 0, .int .i64 0]) ?_ 2 _ rfl; (with_reducible repeat (first | refine blk_drewN ?_ _ | refine blk_drew ?_ | refine blk_alloc ?_ _)); refine blk_put (cs := #[.slice none 0 0, .slice none 0 0, .slice none 0 0, .int .i64 0]) ?_ 1 _ rfl; (with_reducible repeat (first | refine blk_drewN ?_ _ | refine blk_drew ?_ | refine blk_alloc ?_ _)); refine blk_put (cs := #[.slice none 0 0, .slice none 0 0, .slice none 0 0, .int .i64 0]) ?_ 0 _ rfl; (with_reducible repeat (first | refine blk_drewN ?_ _ | refine blk_drew ?_ | refine blk_alloc ?_ _)); exact BK622.out) Try.underlying44 rfl (by kernel_rfl)) rfl ?_
    exact ⟨_, _, _, by first | rfl | (simp [errW_none, errW_some] <;> rfl) | (simp [*, errW_none, errW_some] <;> rfl), by first | exact Kd.R_nil _ _ _ _ _ | exact Kd.N_nil _ _ _ _ _ | exact Kd.V_nil _ _ _ _ _ | exact Kd.Q_nil _ _ _ _ _ | exact Kd.S_nil _ _ _ _ _, by first | exact Kd.R_nil _ _ _ _ _ | exact Kd.N_nil _ _ _ _ _ | exact Kd.V_nil _ _ _ _ _ | exact Kd.Q_nil _ _ _ _ _ | exact Kd.S_nil _ _ _ _ _, by first | exact Kd.R_nil _ _ _ _ _ | exact Kd.N_nil _ _ _ _ _ | exact Kd.V_nil _ _ _ _ _ | exact Kd.Q_nil _ _ _ _ _ | exact Kd.S_nil _ _ _ _ _, bs2 HB GE621 GE622⟩
   ·
    replace c24 := Bool.eq_false_iff.mpr c24
    subst c24
    rw [if_neg (show ¬ (false = true) by decide)] at H
    replace H := Option.bind_eq_some_iff.mp H
    obtain ⟨⟨t625, t628, t631, t634⟩, A270, H⟩ := H
    replace H : ((impl_txnText.f kj2 l1).bind fun t636 => (if t631.length < 8796093022208 then (some (t625, t628, (t631 ++ [t636]), t634, true)) else (none))) = some (r1, r2, r3, r4, r5) := H
    have A27 := Aside0.mk A270
    clear A270
    replace H := Option.bind_eq_some_iff.mp H
    obtain ⟨t636, A280, H⟩ := H
    replace H : (if t631.length < 8796093022208 then (some (t625, t628, (t631 ++ [t636]), t634, true)) else (none)) = some (r1, r2, r3, r4, r5) := H
    have A28 := Aside0.mk A280
    clear A280
    by_cases c29 : t631.length < 8796093022208
    ·
     rw [if_pos c29] at H
     have LMc29 := Aside0.mk c29
     clear c29
     obtain ⟨y637, hy637⟩ : ∃ y_ : List ByteArray, y_ = (t631 ++ [t636]) := ⟨_, rfl⟩
     replace H : (some (t625, t628, y637, t634, true)) = some (r1, r2, r3, r4, r5) := by first | (rw [hy637]; with_reducible exact H) | (have H2_ := (Option.bind_some _ _).symm.trans H; rw [hy637]; with_reducible exact H2_) | (have H2_ := (Option.bind_some _ _).symm.trans H; with_reducible exact H2_) | with_reducible exact H | (rw [hy637]; exact H) | exact H
     have Ny637 := Aside0.mk hy637
     clear hy637
     simp only [Option.some.injEq, Prod.mk.injEq] at H
     obtain ⟨rfl, rfl, rfl, rfl, rfl⟩ := H
     have hnb30 := NB621_622.out
     have hnc30 := NB622_621.out
     obtain ⟨hcz31_0, hcz31_1, hcz31_2, hcz31_3⟩ := cz4 BK621
     obtain ⟨hfz31_0, hfz31_1, hfz31_2, hfz31_3⟩ := fz4 BK621
     try go_wp2_with (first | ((with_reducible refine gate_callee (f := 92) rfl ?_); refine gL (some 27) rfl rfl Try.func92 (by kernel_rfl) rfl #[.agg #[.slice A0_0 l0_0.length c0_0, .slice A0_1 l0_1.length c0_1, .slice A0_2 l0_2.length c0_2, .int .i64 a0_3]] rfl ?_; (with_reducible refine (impl_ownStore.calls _ _ l0_0 _ _ l0_1 _ _ l0_2 a0_3 t625 t628 t631 t634 _ ?side1 ?side2 ?side3 ?side4 ?side5 ?side6 A27.out).mono ?_); (case side1 => exact cb HR0_0 HB); (case side2 => exact HC0_0.out); (case side3 => exact cb HR0_1 HB); (case side4 => exact HC0_1.out); (case side5 => exact cb HR0_2 HB); (case side6 => exact HC0_2.out); rintro e w32 ⟨v626, v629, v632, rfl, ho0, ho1, ho2, hb⟩; refine ⟨_, rfl, ?_⟩; have HO627 := Aside0.mk (Kd.R_lower ho0 (below_size (bs2 HB GE621 GE622))); have HO630 := Aside0.mk (Kd.R_lower ho1 (below_size (bs2 HB GE621 GE622))); have HO633 := Aside0.mk (Kd.R_lower ho2 (below_size (bs2 HB GE621 GE622))); replace BK621 := nb BK621 hb; replace BK622 := nb BK622 hb; replace HB := Aside0.mk (below_step (bs2 HB GE621 GE622) hb); (try clear hb); (try clear hb2); (try clear hk); (try clear hi); (try clear ho0); (try clear ho1); (try clear ho2)) | ((with_reducible refine gate_dst (N := 6) rfl ?_); (try (refine gate_guard (by rfl) ?_; dsimp only)); refine box_event ?hg (N := 6) ?hd (cs := #[.slice none 0 0, .slice none 0 0, .slice none 0 0, .int .i64 0]) (t := 44) ?hr ?_; (case hd => rfl); (case hg => rfl); (case hr => first | (go_simp; done) | (go_simp; rfl)); intro gb635 hg w33 hbox hb; replace HO627 := nr HO627 hb; replace HO630 := nr HO630 hb; replace HO633 := nr HO633 hb; have BK635 := Aside0.mk (hbox); have GW635 := Aside0.mk ((by rw [hg]; exact (below_size (bs2 HB GE621 GE622)) : w.heap.size ≤ gb635)); have GE635 := Aside0.mk ((by rw [hg]; exact (below_size (bs2 HB GE621 GE622)) : w.heap.size ≤ gb635)); replace HB := Aside0.mk (below_step (bs2 HB GE621 GE622) hb); have NB621_635 := Aside0.mk ((bn BK621 hg : gb621 ≠ gb635)); have NB635_621 := Aside0.mk ((bm BK621 hg : gb635 ≠ gb621)); replace BK621 := nb BK621 hb; have NB622_635 := Aside0.mk ((bn BK622 hg : gb622 ≠ gb635)); have NB635_622 := Aside0.mk ((bm BK622 hg : gb635 ≠ gb622)); replace BK622 := nb BK622 hb; clear hb hbox hg; obtain ⟨Ao34, co34, eo34⟩ := Kd.R_slice HO627.out; subst eo34; have hnb35 := NB635_621.out; have hnc35 := NB621_635.out; have hnb36 := NB635_622.out; have hnc36 := NB622_635.out; obtain ⟨hcz37_0, hcz37_1, hcz37_2, hcz37_3⟩ := cz4 BK635; obtain ⟨hfz37_0, hfz37_1, hfz37_2, hfz37_3⟩ := fz4 BK635; obtain ⟨Ao38, co38, eo38⟩ := Kd.R_slice HO630.out; subst eo38; obtain ⟨Ao39, co39, eo39⟩ := Kd.R_slice HO633.out; subst eo39))
     have n0_ : Aside0 (Kd.R Kd.string 9 ((((w33.setCell ⟨gb635, 0, none⟩ (.slice Ao34 t625.length co34)).setCell ⟨gb635, 1, none⟩ (.slice Ao38 t628.length co38)).setCell ⟨gb635, 2, none⟩ (.slice Ao39 t631.length co39)).setCell ⟨gb635, 3, none⟩ (.int .i64 t634)) w.heap.size (fun k_ => some k_ ≠ (.slice Ao39 t631.length co39 : Value).ownBlock) (.slice Ao34 t625.length co34) t625) := ⟨by (with_reducible repeat (first | apply Kd.R_alloc | apply Kd.R_drewN | apply Kd.R_drew)); exact Kd.R_mono (Kd.R_far (p := ⟨gb635, 3, none⟩) (Kd.R_far (p := ⟨gb635, 2, none⟩) (Kd.R_far (p := ⟨gb635, 1, none⟩) (Kd.R_far (p := ⟨gb635, 0, none⟩) (Kd.R_types HO627.out BK635.out (by decide)) (fun _ hk => hk.2) (.slice Ao34 t625.length co34)) (fun _ hk => hk.2) (.slice Ao38 t628.length co38)) (fun _ hk => hk.2) (.slice Ao39 t631.length co39)) (fun _ hk => hk.2) (.int .i64 t634)) (fun _ hk => hk.1)⟩
     have n1_ : Aside0 (Kd.R k72 72 ((((w33.setCell ⟨gb635, 0, none⟩ (.slice Ao34 t625.length co34)).setCell ⟨gb635, 1, none⟩ (.slice Ao38 t628.length co38)).setCell ⟨gb635, 2, none⟩ (.slice Ao39 t631.length co39)).setCell ⟨gb635, 3, none⟩ (.int .i64 t634)) w.heap.size (fun _ => True) (.slice Ao38 t628.length co38) t628) := ⟨by (with_reducible repeat (first | apply Kd.R_alloc | apply Kd.R_drewN | apply Kd.R_drew)); exact Kd.R_mono (Kd.R_far (p := ⟨gb635, 3, none⟩) (Kd.R_far (p := ⟨gb635, 2, none⟩) (Kd.R_far (p := ⟨gb635, 1, none⟩) (Kd.R_far (p := ⟨gb635, 0, none⟩) (Kd.R_types HO630.out BK635.out (by decide)) (fun _ hk => hk.2) (.slice Ao34 t625.length co34)) (fun _ hk => hk.2) (.slice Ao38 t628.length co38)) (fun _ hk => hk.2) (.slice Ao39 t631.length co39)) (fun _ hk => hk.2) (.int .i64 t634)) (fun _ hk => trivial)⟩
     have n2_ : Aside0 (Kd.R Kd.string 9 ((((w33.setCell ⟨gb635, 0, none⟩ (.slice Ao34 t625.length co34)).setCell ⟨gb635, 1, none⟩ (.slice Ao38 t628.length co38)).setCell ⟨gb635, 2, none⟩ (.slice Ao39 t631.length co39)).setCell ⟨gb635, 3, none⟩ (.int .i64 t634)) w.heap.size (fun k_ => some k_ ≠ (.slice Ao34 t625.length co34 : Value).ownBlock) (.slice Ao39 t631.length co39) t631) := ⟨by (with_reducible repeat (first | apply Kd.R_alloc | apply Kd.R_drewN | apply Kd.R_drew)); exact Kd.R_mono (Kd.R_far (p := ⟨gb635, 3, none⟩) (Kd.R_far (p := ⟨gb635, 2, none⟩) (Kd.R_far (p := ⟨gb635, 1, none⟩) (Kd.R_far (p := ⟨gb635, 0, none⟩) (Kd.R_types HO633.out BK635.out (by decide)) (fun _ hk => hk.2) (.slice Ao34 t625.length co34)) (fun _ hk => hk.2) (.slice Ao38 t628.length co38)) (fun _ hk => hk.2) (.slice Ao39 t631.length co39)) (fun _ hk => hk.2) (.int .i64 t634)) (fun _ hk => hk.1)⟩
     have n3_ : Aside0 (((((w33.setCell ⟨gb635, 0, none⟩ (.slice Ao34 t625.length co34)).setCell ⟨gb635, 1, none⟩ (.slice Ao38 t628.length co38)).setCell ⟨gb635, 2, none⟩ (.slice Ao39 t631.length co39)).setCell ⟨gb635, 3, none⟩ (.int .i64 t634)).heap[gb621]? = some (.cells #[.slice A0_0 l0_0.length c0_0, .slice A0_1 l0_1.length c0_1, .slice A0_2 l0_2.length c0_2, .int .i64 a0_3] 44 (0, 0))) := ⟨bf BK621 NB621_635⟩
     have n4_ : Aside0 (((((w33.setCell ⟨gb635, 0, none⟩ (.slice Ao34 t625.length co34)).setCell ⟨gb635, 1, none⟩ (.slice Ao38 t628.length co38)).setCell ⟨gb635, 2, none⟩ (.slice Ao39 t631.length co39)).setCell ⟨gb635, 3, none⟩ (.int .i64 t634)).heap[gb622]? = some (.cells #[.slice none 0 0, .slice none 0 0, .slice none 0 0, .int .i64 0] 44 (0, 0))) := ⟨bf BK622 NB622_635⟩
     have n5_ : Aside0 (((((w33.setCell ⟨gb635, 0, none⟩ (.slice Ao34 t625.length co34)).setCell ⟨gb635, 1, none⟩ (.slice Ao38 t628.length co38)).setCell ⟨gb635, 2, none⟩ (.slice Ao39 t631.length co39)).setCell ⟨gb635, 3, none⟩ (.int .i64 t634)).heap[gb635]? = some (.cells #[.slice Ao34 t625.length co34, .slice Ao38 t628.length co38, .slice Ao39 t631.length co39, .int .i64 t634] 44 (0, 0))) := ⟨by (with_reducible repeat (first | refine blk_drewN ?_ _ | refine blk_drew ?_ | refine blk_alloc ?_ _)); refine blk_put (cs := #[.slice Ao34 t625.length co34, .slice Ao38 t628.length co38, .slice Ao39 t631.length co39, .int .i64 0]) ?_ 3 _ rfl; (with_reducible repeat (first | refine blk_drewN ?_ _ | refine blk_drew ?_ | refine blk_alloc ?_ _)); refine blk_put (cs := #[.slice Ao34 t625.length co34, .slice Ao38 t628.length co38, .slice none 0 0, .int .i64 0]) ?_ 2 _ rfl; (with_reducible repeat (first | refine blk_drewN ?_ _ | refine blk_drew ?_ | refine blk_alloc ?_ _)); refine blk_put (cs := #[.slice Ao34 t625.length co34, .slice none 0 0, .slice none 0 0, .int .i64 0]) ?_ 1 _ rfl; (with_reducible repeat (first | refine blk_drewN ?_ _ | refine blk_drew ?_ | refine blk_alloc ?_ _)); refine blk_put (cs := #[.slice none 0 0, .slice none 0 0, .slice none 0 0, .int .i64 0]) ?_ 0 _ rfl; (with_reducible repeat (first | refine blk_drewN ?_ _ | refine blk_drew ?_ | refine blk_alloc ?_ _)); exact BK635.out⟩
     have n6_ : Aside0 (Below w.heap.size w ((((w33.setCell ⟨gb635, 0, none⟩ (.slice Ao34 t625.length co34)).setCell ⟨gb635, 1, none⟩ (.slice Ao38 t628.length co38)).setCell ⟨gb635, 2, none⟩ (.slice Ao39 t631.length co39)).setCell ⟨gb635, 3, none⟩ (.int .i64 t634))) := ⟨bs3 HB GE621 GE622 GE635⟩
     (try clear HO627)
     (try clear HO630)
     (try clear HO633)
     (try clear BK621)
     (try clear BK622)
     (try clear BK635)
     (try clear HB)
     generalize ((((w33.setCell ⟨gb635, 0, none⟩ (.slice Ao34 t625.length co34)).setCell ⟨gb635, 1, none⟩ (.slice Ao38 t628.length co38)).setCell ⟨gb635, 2, none⟩ (.slice Ao39 t631.length co39)).setCell ⟨gb635, 3, none⟩ (.int .i64 t634)) = w40 at n0_ n1_ n2_ n3_ n4_ n5_ n6_ ⊢
     have HO627 := n0_
     have HO630 := n1_
     have HO633 := n2_
     have BK621 := n3_
     have BK622 := n4_
     have BK635 := n5_
     have HB := n6_
     clear n0_ n1_ n2_ n3_ n4_ n5_ n6_
     have n0_ := Aside0.mk (Kd.R_drew HO627.out)
     have n1_ := Aside0.mk (Kd.R_drew HO630.out)
     have n2_ := Aside0.mk (Kd.R_drew HO633.out)
     have n3_ := Aside0.mk (blk_drew BK621.out)
     have n4_ := Aside0.mk (blk_drew BK622.out)
     have n5_ := Aside0.mk (blk_drew BK635.out)
     have n6_ := Aside0.mk (below_drew1 HB.out)
     clear HO627
     clear HO630
     clear HO633
     clear BK621
     clear BK622
     clear BK635
     clear HB
     have HO627 := n0_
     have HO630 := n1_
     have HO633 := n2_
     have BK621 := n3_
     have BK622 := n4_
     have BK635 := n5_
     have HB := n6_
     clear n0_ n1_ n2_ n3_ n4_ n5_ n6_
     refine start_ (n := 8) (S := fun w' => w'.cell? ⟨gb635, 0, none⟩ = some (.slice Ao34 t625.length co34) ∧ w'.cell? ⟨gb635, 1, none⟩ = some (.slice Ao38 t628.length co38) ∧ w'.cell? ⟨gb635, 2, none⟩ = some (.slice Ao39 t631.length co39) ∧ w'.cell? ⟨gb635, 3, none⟩ = some (.int .i64 t634)) (ds := [7]) #[false, false, false, false, false, false, false, false] (by kernel_rfl) rfl rfl ⟨(blk_cell BK635.out 0).trans rfl, (blk_cell BK635.out 1).trans rfl, (blk_cell BK635.out 2).trans rfl, (blk_cell BK635.out 3).trans rfl⟩ (fun hHeld => ?_); refine with_tabW impl_Commit.tab4 impl_Commit.bits4 (fun HT_ HW_ => ?_)
     generalize w40.drew = w41 at HO627 HO630 HO633 BK621 BK622 BK635 HB hHeld ⊢
     refine pure_ (i := 0) (N := some 28) (v := ?_) (a' := ?_) #[true, false, false, false, false, false, false, false] rfl rfl (any_of HT_.out (by kernel_rfl)) (fun _ _ _ h => h) (Or.inl ⟨by rfl, ?_⟩) ?_ ?_
     rotate_left
     ·
      intro w'
      go_simp
      with_reducible rfl
     rotate_left
     ·
      simp only [Act.put, List.setIfInBounds_toArray, List.set_cons_zero, List.set_cons_succ, i64_w, i32_w]
      rfl
     refine pure_ (i := 2) (N := some 30) (v := ?_) (a' := ?_) #[true, false, true, false, false, false, false, false] rfl rfl (any_of HT_.out (by kernel_rfl)) (fun _ _ _ h => h) (Or.inl ⟨by rfl, ?_⟩) ?_ ?_
     rotate_left
     ·
      intro w'
      go_simp
      with_reducible rfl
     rotate_left
     ·
      simp only [Act.put, List.setIfInBounds_toArray, List.set_cons_zero, List.set_cons_succ, i64_w, i32_w]
      rfl
     refine take_ (i := 1) (N := some 29) (v := ?_) (a' := ?_) #[true, true, true, false, false, false, false, false] rfl rfl (take_ofW HT_.out HW_.out (by kernel_rfl)) (fun _ _ _ h => h) (Or.inl ⟨by rfl, ?_⟩) hHeld ?_ ?_
     rotate_left
     ·
      rintro w' ⟨s0, s1, s2, s3⟩
      go_simp
      with_reducible rfl
     rotate_left
     ·
      simp only [Act.put, List.setIfInBounds_toArray, List.set_cons_zero, List.set_cons_succ, i64_w, i32_w]
      rfl
     refine one_ (i := 3) (N := some 31) #[true, true, true, true, false, false, false, false] rfl rfl (one_of HT_.out (by kernel_rfl)) (by decide) (fun K hK => ?_)
     refine goes_ Try.func65 (by kernel_rfl) rfl #[.slice A1 l1.length c1] (by rfl) rfl rfl (by (try simp only [List.map_toArray, List.map_cons, List.map_nil]); first | done | rfl | (simp only [List.length_drop, List.length_take]; rfl)) ?_
     with_reducible refine (impl_txnText.calls kj2 _ _ l1 t636 _ ?side1 ?side2 A28.out).mono ?_
     (case side1 => exact cb HR1 HB)
     (case side2 => exact HC1.out)
     rintro e w42 ⟨rfl, hb⟩
     refine ⟨_, rfl, ?_⟩
     have n0_ := Aside0.mk (Kd.R_below (rr HO627.out) hb)
     have n1_ := Aside0.mk (Kd.R_below (rr HO630.out) hb)
     have n2_ := Aside0.mk (Kd.R_below (rr HO633.out) hb)
     have n3_ := Aside0.mk (bb BK621 hb)
     have n4_ := Aside0.mk (bb BK622 hb)
     have n5_ := Aside0.mk (bb BK635 hb)
     have n6_ := Aside0.mk (below_step (bs3 HB GE621 GE622 GE635) hb)
     clear HO627
     clear HO630
     clear HO633
     clear BK621
     clear BK622
     clear BK635
     clear HB
     have HO627 := n0_
     have HO630 := n1_
     have HO633 := n2_
     have BK621 := n3_
     have BK622 := n4_
     have BK635 := n5_
     have HB := n6_
     clear n0_ n1_ n2_ n3_ n4_ n5_ n6_
     (try clear hb)
     (try clear hb2)
     (try clear hk)
     (try clear hi)
     refine hK.out _ _ ⟨(blk_cell BK635.out 0).trans rfl, (blk_cell BK635.out 1).trans rfl, (blk_cell BK635.out 2).trans rfl, (blk_cell BK635.out 3).trans rfl⟩ (fun hHeld => ?_)
     clear hK K
     refine norm_ (a' := ?_) ?_ ?_
     rotate_left
     ·
      show Act.put _ (some 31) _ = _
      simp only [Act.put, List.setIfInBounds_toArray, List.set_cons_zero, List.set_cons_succ, i64_w, i32_w]
      rfl
     refine one_ (i := 4) (N := some 32) #[true, true, true, true, true, false, false, false] rfl rfl (one_of HT_.out (by kernel_rfl)) (by decide) (fun K hK => ?_)
     refine value_ (w1 := ?_) (v := ?_) (by rfl) rfl ?_ ?_
     rotate_left 2
     ·
      go_simp
      constructor
      ·
       rfl
      ·
       rfl
     refine hK.out _ _ ⟨(blk_cell (blk_alloc BK635.out _) 0).trans rfl, (blk_cell (blk_alloc BK635.out _) 1).trans rfl, (blk_cell (blk_alloc BK635.out _) 2).trans rfl, (blk_cell (blk_alloc BK635.out _) 3).trans rfl⟩ (fun hHeld => ?_)
     clear hK K
     refine norm_ (a' := ?_) ?_ ?_
     rotate_left
     ·
      show Act.put _ (some 32) _ = _
      simp only [Act.put, List.setIfInBounds_toArray, List.set_cons_zero, List.set_cons_succ, i64_w, i32_w]
      rfl
     refine one_ (i := 5) (N := some 33) #[true, true, true, true, true, true, false, false] rfl rfl (one_of HT_.out (by kernel_rfl)) (by decide) (fun K hK => ?_)
     refine Kd.R_append_step Kd.string (w0 := w) w.heap.size (by rfl) (.tmp 29) (.tmp 32) 34 9 (.string ⟨#[]⟩) 16 rfl Try.underlying34 info9 rfl (by decide) (by omega) (.slice Ao39 t631.length co39) t631 t636 [.string t636] (fun k_ => some k_ ≠ (.slice Ao34 t625.length co34 : Value).ownBlock) (fun _ => False) rfl rfl ?aP (fun _ hk => hk.elim) ?aF ?aO ?aB ?aS ?aL ?_
     (case aP => exact rfl)
     (case aB => exact (bs3 HB GE621 GE622 GE635))
     (case aF => exact (fun k_ hk => Kd.fresh' (Kd.R_lt (rr HO627.out)) k_ hk))
     (case aO => exact (rr HO633.out))
     (case aS => exact (below_size (bs3 HB GE621 GE622 GE635)))
     (case aL => have := LMc29.out; omega)
     intro v638 w43 ho hb hg hat
     rw [← Ny637.out] at ho
     have n0_ := Aside0.mk (blk_grown (g := gb621) (o := .cells #[.slice A0_0 l0_0.length c0_0, .slice A0_1 l0_1.length c0_1, .slice A0_2 l0_2.length c0_2, .int .i64 a0_3] 44 (0, 0)) (bk BK621) hg (Kd.R_ne HO633.out BK621.out (by decide)))
     have n1_ := Aside0.mk (blk_grown (g := gb622) (o := .cells #[.slice none 0 0, .slice none 0 0, .slice none 0 0, .int .i64 0] 44 (0, 0)) (bk BK622) hg (Kd.R_ne HO633.out BK622.out (by decide)))
     have n2_ := Aside0.mk (Kd.R_after (ok := (fun _ => True)) (by (with_reducible repeat (first | apply Kd.R_alloc | apply Kd.R_drewN | apply Kd.R_drew)); exact Kd.R_mono HO627.out (fun _ hk => ⟨trivial, hk⟩)) hg hat)
     have n3_ := Aside0.mk (Kd.R_over' (rr HO630.out) (Kd.R_typed (rr HO633.out)) (by decide) hg)
     have n4_ := Aside0.mk (blk_grown (g := gb635) (o := .cells #[.slice Ao34 t625.length co34, .slice Ao38 t628.length co38, .slice Ao39 t631.length co39, .int .i64 t634] 44 (0, 0)) (bk BK635) hg (Kd.R_ne HO633.out BK635.out (by decide)))
     have n5_ := Aside0.mk (hb)
     have n6_ := Aside0.mk (ho)
     clear BK621
     clear BK622
     clear HO627
     clear HO630
     clear BK635
     clear HB
     clear HO633
     have BK621 := n0_
     have BK622 := n1_
     have HO627 := n2_
     have HO630 := n3_
     have BK635 := n4_
     have HB := n5_
     have HO639 := n6_
     clear n0_ n1_ n2_ n3_ n4_ n5_ n6_
     clear ho hb hg hat
     obtain ⟨Ao44, co44, eo44⟩ := Kd.R_slice HO639.out
     (first | subst eo44 | (injection eo44 with f1_ f2_ f3_; have f4_ := f1_.symm; have f5_ := f3_.symm; clear f1_ f2_ f3_; subst f4_; subst f5_))
     refine hK.out _ _ ⟨(blk_cell BK635.out 0).trans rfl, (blk_cell BK635.out 1).trans rfl, (blk_cell BK635.out 2).trans rfl, (blk_cell BK635.out 3).trans rfl⟩ (fun hHeld => ?_)
     clear hK K
     refine norm_ (a' := ?_) ?_ ?_
     rotate_left
     ·
      show Act.put _ (some 33) _ = _
      simp only [Act.put, List.setIfInBounds_toArray, List.set_cons_zero, List.set_cons_succ, i64_w, i32_w]
      rfl
     refine pure_ (i := 6) (N := some 34) (v := ?_) (a' := ?_) #[true, true, true, true, true, true, true, false] rfl rfl (any_of HT_.out (by kernel_rfl)) (fun _ _ _ h => h) (Or.inl ⟨by rfl, ?_⟩) ?_ ?_
     rotate_left
     ·
      intro w'
      go_simp
      with_reducible rfl
     rotate_left
     ·
      simp only [Act.put, List.setIfInBounds_toArray, List.set_cons_zero, List.set_cons_succ, i64_w, i32_w]
      rfl
     refine last_ (i := 7) (N := none) #[true, true, true, true, true, true, true, true] rfl rfl (one_of HT_.out (by kernel_rfl)) (by decide) (fun K hK => ?_)
     have hs45 : w43.cell? ⟨gb635, 2, none⟩ = some (.slice Ao39 t631.length co39) := (blk_cell BK635.out 2).trans rfl
     have hfs45 := blk_frozen BK635.out 2
     have hns45_0 := NB621_635.out
     have hns45_1 := NB622_635.out
     have hms45_0 := NB635_621.out
     have hms45_1 := NB635_622.out
     refine skip_ (w1 := ?_) (by rfl) rfl ?_ ?_
     rotate_left
     ·
      go_simp
      rfl
     refine hK.out _ _ ?_
     clear hK K
     refine done_ (done_of HT_.out (by kernel_rfl)) ?_
     obtain ⟨hcz46_0, hcz46_1, hcz46_2, hcz46_3⟩ := cz4 BK635
     obtain ⟨hfz46_0, hfz46_1, hfz46_2, hfz46_3⟩ := fz4 BK635
     obtain ⟨hcz47_0, hcz47_1, hcz47_2, hcz47_3⟩ := cz4 BK622
     obtain ⟨hfz47_0, hfz47_1, hfz47_2, hfz47_3⟩ := fz4 BK622
     try go_wp2
     refine bodyPost_ret (results_ct rfl _ _ gb622 44 #[.slice Ao34 t625.length co34, .slice Ao38 t628.length co38, .slice Ao44 y637.length co44, .int .i64 t634] (0, 0) _ rfl (by (with_reducible repeat (first | refine blk_drewN ?_ _ | refine blk_drew ?_ | refine blk_alloc ?_ _)); refine blk_put (cs := #[.slice Ao34 t625.length co34, .slice Ao38 t628.length co38, .slice Ao44 y637.length co44, .int .i64 0]) ?_ 3 _ rfl; (with_reducible repeat (first | refine blk_drewN ?_ _ | refine blk_drew ?_ | refine blk_alloc ?_ _)); refine blk_put (cs := #[.slice Ao34 t625.length co34, .slice Ao38 t628.length co38, .slice none 0 0, .int .i64 0]) ?_ 2 _ rfl; (with_reducible repeat (first | refine blk_drewN ?_ _ | refine blk_drew ?_ | refine blk_alloc ?_ _)); refine blk_put (cs := #[.slice Ao34 t625.length co34, .slice none 0 0, .slice none 0 0, .int .i64 0]) ?_ 1 _ rfl; (with_reducible repeat (first | refine blk_drewN ?_ _ | refine blk_drew ?_ | refine blk_alloc ?_ _)); refine blk_put (cs := #[.slice none 0 0, .slice none 0 0, .slice none 0 0, .int .i64 0]) ?_ 0 _ rfl; (with_reducible repeat (first | refine blk_drewN ?_ _ | refine blk_drew ?_ | refine blk_alloc ?_ _)); refine blk_far ?_ NB622_635.out _; (with_reducible repeat (first | refine blk_drewN ?_ _ | refine blk_drew ?_ | refine blk_alloc ?_ _)); exact BK622.out) Try.underlying44 rfl (by kernel_rfl)) rfl ?_
     exact ⟨_, _, _, by first | rfl | (simp [errW_none, errW_some] <;> rfl) | (simp [*, errW_none, errW_some] <;> rfl), by (with_reducible repeat (first | apply Kd.R_alloc | apply Kd.R_drewN | apply Kd.R_drew)); exact Kd.R_mono (Kd.R_far (p := ⟨gb622, 3, none⟩) (Kd.R_far (p := ⟨gb622, 2, none⟩) (Kd.R_far (p := ⟨gb622, 1, none⟩) (Kd.R_far (p := ⟨gb622, 0, none⟩) (Kd.R_far (p := ⟨gb635, 2, none⟩) (Kd.R_types (Kd.R_types HO627.out BK635.out (by decide)) BK622.out (by decide)) (fun _ hk => hk.1.2) (.slice Ao44 y637.length co44)) (fun _ hk => hk.2) (.slice Ao34 t625.length co34)) (fun _ hk => hk.2) (.slice Ao38 t628.length co38)) (fun _ hk => hk.2) (.slice Ao44 y637.length co44)) (fun _ hk => hk.2) (.int .i64 t634)) (fun _ hk => hk.1.1.2), by (with_reducible repeat (first | apply Kd.R_alloc | apply Kd.R_drewN | apply Kd.R_drew)); exact Kd.R_mono (Kd.R_far (p := ⟨gb622, 3, none⟩) (Kd.R_far (p := ⟨gb622, 2, none⟩) (Kd.R_far (p := ⟨gb622, 1, none⟩) (Kd.R_far (p := ⟨gb622, 0, none⟩) (Kd.R_far (p := ⟨gb635, 2, none⟩) (Kd.R_types (Kd.R_types HO630.out BK635.out (by decide)) BK622.out (by decide)) (fun _ hk => hk.1.2) (.slice Ao44 y637.length co44)) (fun _ hk => hk.2) (.slice Ao34 t625.length co34)) (fun _ hk => hk.2) (.slice Ao38 t628.length co38)) (fun _ hk => hk.2) (.slice Ao44 y637.length co44)) (fun _ hk => hk.2) (.int .i64 t634)) (fun _ hk => trivial), by (with_reducible repeat (first | apply Kd.R_alloc | apply Kd.R_drewN | apply Kd.R_drew)); exact Kd.R_mono (Kd.R_far (p := ⟨gb622, 3, none⟩) (Kd.R_far (p := ⟨gb622, 2, none⟩) (Kd.R_far (p := ⟨gb622, 1, none⟩) (Kd.R_far (p := ⟨gb622, 0, none⟩) (Kd.R_far (p := ⟨gb635, 2, none⟩) (Kd.R_types (Kd.R_types HO639.out BK635.out (by decide)) BK622.out (by decide)) (fun _ hk => hk.1.2) (.slice Ao44 y637.length co44)) (fun _ hk => hk.2) (.slice Ao34 t625.length co34)) (fun _ hk => hk.2) (.slice Ao38 t628.length co38)) (fun _ hk => hk.2) (.slice Ao44 y637.length co44)) (fun _ hk => hk.2) (.int .i64 t634)) (fun _ hk => hk.1.1), bs3 HB GE621 GE622 GE635⟩
    ·
     rw [if_neg c29] at H
     exact absurd H (by simp)

end Go.Proofs.Ytcdkgenfggdpaaa.G
