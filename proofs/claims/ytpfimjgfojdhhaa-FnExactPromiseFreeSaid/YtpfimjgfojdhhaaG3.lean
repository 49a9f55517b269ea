-- Printed by a program of this session (drive.py, by way of the kit's print). Not trusted: Lean checks it.
import Derived.Test.YtpfimjgfojdhhaaSortRow
import Derived.Test.YtpfimjgfojdhhaaSortLay
import Derived.Test.YtpfimjgfojdhhaaG0
import Derived.Test.YtpfimjgfojdhhaaG1
import Derived.Test.YtpfimjgfojdhhaaG2
namespace Go.Proofs.Ytpfimjgfojdhhaa.G
open Go.RowKit Go.Proofs.YtpfimjgfojdhhaaW.PrintWords Go.Proofs.YtpfimjgfojdhhaaW.PrintLast Go.Proofs.YtpfimjgfojdhhaaW.PrintMore
attribute [local go_sem] max2_int min2_int max_two min_two max_three min_three max_four min_four
set_option linter.unusedVariables false
set_option linter.unusedSimpArgs false
attribute [local go_sem high] eqA40
def spec_GoodFree.f (k : Nat) (a0_0 : Int) (l0_1 : List (S40)) (l0_2 : List (S40)) : Option (Bool) := (spec_l5Place.f k l0_1 a0_0).bind fun t180 => (if t180 = true then ((spec_l5BySize.f k l0_1).bind fun t181 => ((spec_l5Same.f k t181 l0_2).bind fun t184 => (some t184))) else (some false))
theorem spec_GoodFree.mono : ∀ a0 a1 a2 k, LeO (spec_GoodFree.f k a0 a1 a2) (spec_GoodFree.f (k + 1) a0 a1 a2) := by
 intro a0 a1 a2 k
 unfold spec_GoodFree.f
 repeat' first
   | (with_reducible exact spec_l5BySize.mono _ _)
   | (with_reducible exact spec_l5Place.mono _ _ _)
   | (with_reducible exact spec_l5Same.mono _ _ _)
   | (with_reducible exact LeO.refl _)
   | (with_reducible exact LeO.none _)
   | (with_reducible refine LeO.ite ?_ ?_)
   | (with_reducible refine LeO.bind ?_ (fun _ => ?_))
   | exact spec_l5BySize.mono _ _
   | exact spec_l5Place.mono _ _ _
   | exact spec_l5Same.mono _ _ _
   | exact LeO.none _
   | refine LeO.ite ?_ ?_
   | refine LeO.bind ?_ (fun _ => ?_)
def spec_GoodFree.T1 : Bool × List (List Nat × List Nat) := (true, [([], []), ([0], [0]), ([], []), ([2], [2]), ([1, 3], [1, 3]), ([4, 4], [4]), ([5], [5]), ([6, 5], [5, 6]), ([7, 5, 5], [5, 7]), ([5], [5]), ([9, 5], [5, 9]), ([8, 10, 8, 5], [5, 8, 10]), ([5, 11], [5, 11]), ([12, 11, 0, 1, 2, 3, 4, 5, 6, 7, 8, 9, 10, 11, 12], [12])])
def spec_GoodFree.B1 : List Nat := [0, 1, 0, 4, 15, 31, 63, 127, 255, 63, 575, 2047, 4095, 8191]
theorem spec_GoodFree.tab1 : rtab .any (opsOf Try.f38 1) = spec_GoodFree.T1 := by kernel_rfl
theorem spec_GoodFree.bits1 : waitsOk spec_GoodFree.T1.2 spec_GoodFree.B1 = true := by kernel_rfl
set_option maxHeartbeats 8000000 in
set_option maxRecDepth 100000 in
theorem spec_GoodFree.calls (k : Nat) (a0_0 : Int) (A0_1 : Option Addr) (c0_1 : Nat) (l0_1 : List (S40)) (A0_2 : Option Addr) (c0_2 : Nat) (l0_2 : List (S40)) (r : Bool) (w : World) (hr0_1 : Kd.C k40 w A0_1 l0_1.length l0_1) (hc0_1 : l0_1.length ≤ c0_1) (hr0_2 : Kd.C k40 w A0_2 l0_2.length l0_2) (hc0_2 : l0_2.length ≤ c0_2) (h : spec_GoodFree.f k a0_0 l0_1 l0_2 = some r) :
  Calls Try.prog 38 #[.agg #[.int .i64 a0_0, .slice A0_1 l0_1.length c0_1, .slice A0_2 l0_2.length c0_2]] w fun e w' => e = .returned (.bool r) ∧ Below w.heap.size w w' := by
 have hu33 := Try.underlying33
 have HR0_1 := Ah hr0_1
 have HC0_1 := Ah hc0_1
 clear hr0_1 hc0_1
 have HR0_2 := Ah hr0_2
 have HC0_2 := Ah hc0_2
 clear hr0_2 hc0_2
 have HB := Ah (Below.refl w.heap.size w)
 have H : ((spec_l5Place.f k l0_1 a0_0).bind fun t180 => (if t180 = true then ((spec_l5BySize.f k l0_1).bind fun t181 => ((spec_l5Same.f k t181 l0_2).bind fun t184 => (some t184))) else (some false))) = some r := h
 clear h
 replace H := Option.bind_eq_some_iff.mp H
 obtain ⟨t180, A20, H⟩ := H
 try dsimp only at H
 have A2 := Ah A20
 clear A20
 have H_ := Ah H
 clear H
 go_enter Try.func38, Try.ntmps38
 try go_wp2_with (first | ((with_reducible refine gate_dst (N := 1) rfl ?_); refine boxL 1 33 #[.int .i64 a0_0, .slice A0_1 l0_1.length c0_1, .slice A0_2 l0_2.length c0_2] ?_; intro gb179 hg w6 BK179 hb; have GW179 := gw hg (bs HB); have GE179 := gw hg (bs HB); replace HB := Ah (below_step (bs HB) hb); clear hb hg))
 have n0_ := Ah (blk_drew BK179.out)
 have n1_ := Ah (below_drew1 HB.out)
 clear BK179 HB
 have BK179 := n0_
 have HB := n1_
 clear n0_ n1_
 refine start_ (n := 14) (S := fun w' => w'.cell? ⟨gb179, 0, none⟩ = some (.int .i64 a0_0) ∧ w'.cell? ⟨gb179, 1, none⟩ = some (.slice A0_1 l0_1.length c0_1) ∧ w'.cell? ⟨gb179, 2, none⟩ = some (.slice A0_2 l0_2.length c0_2)) (ds := []) #[false, false, false, false, false, false, false, false, false, false, false, false, false, false] (by kernel_rfl) rfl rfl ⟨(blk_cell BK179.out 0).trans rfl, (blk_cell BK179.out 1).trans rfl, (blk_cell BK179.out 2).trans rfl⟩ (fun hHeld => ?_); refine with_tabW spec_GoodFree.tab1 spec_GoodFree.bits1 (fun HT_ HW_ => ?_)
 generalize w6.drew = w7 at BK179 HB hHeld ⊢
 refine pureS 0 3 HT_.out ?_
 refine pureS 2 5 HT_.out ?_
 refine takeS 1 4 HT_.out HW_.out hHeld (hr := by rintro w' ⟨s0, s1, s2⟩; go_simp; with_reducible rfl) (h := ?_)
 refine takeS 3 6 HT_.out HW_.out hHeld (hr := by rintro w' ⟨s0, s1, s2⟩; go_simp; with_reducible rfl) (h := ?_)
 refine one_ (i := 4) (N := some 7) #[true, true, true, true, true, false, false, false, false, false, false, false, false, false] rfl rfl (one_of HT_.out (by kernel_rfl)) (by decide) (fun K hK => ?_)
 refine goes_ Try.func60 (by kernel_rfl) rfl #[.slice A0_1 l0_1.length c0_1, .int .i64 a0_0] (by rfl) rfl rfl (by (try simp only [List.map_toArray, List.map_cons, List.map_nil]); first | done | rfl | (simp only [List.length_drop, List.length_take]; rfl)) ?_
 have H := H_.out
 clear H_
 by_cases c3 : t180 = true
 rotate_left
 ·
  replace c3 := Bool.eq_false_iff.mpr c3
  subst c3
  rw [if_neg fne] at H
  obtain rfl := Option.some.inj H
  with_reducible refine (spec_l5Place.calls k _ _ l0_1 a0_0 false _ ?side1 ?side2 A2.out).mono ?_
  (case side1 => exact cb HR0_1 HB)
  (case side2 => exact HC0_1.out)
  rintro e w13 ⟨rfl, hb⟩
  refine ⟨_, rfl, ?_⟩
  have n0_ := Ah (bb BK179 hb)
  have n1_ := Ah (below_step (bs1 HB GE179) hb)
  clear BK179 HB
  have BK179 := n0_
  have HB := n1_
  clear n0_ n1_
  (try clear hb)
  (try clear hb2)
  (try clear hk)
  (try clear hi)
  refine hK.out _ _ ⟨(blk_cell BK179.out 0).trans rfl, (blk_cell BK179.out 1).trans rfl, (blk_cell BK179.out 2).trans rfl⟩ (fun hHeld => ?_)
  clear hK K
  refine norm_ (a' := ?_) ?_ ?_
  rotate_left
  ·
   show Act.put _ (some 7) _ = _
   simp only [Act.put, List.setIfInBounds_toArray, List.set_cons_zero, List.set_cons_succ, i64_w, i32_w]
   rfl
  refine pureS 5 8 HT_.out ?_
  refine pureU 6 9 HT_.out ?_
  refine pureU 7 10 HT_.out ?_
  refine pureU 8 11 HT_.out ?_
  refine pureU 9 12 HT_.out ?_
  refine pureU 10 13 HT_.out ?_
  refine pureU 11 14 HT_.out ?_
  refine pureS 12 15 HT_.out ?_
  refine pureS 13 2 HT_.out ?_
  refine done_ (done_of HT_.out (by kernel_rfl)) ?_
  try go_wp2
  go_ret
  exact ⟨er, bs1 HB GE179⟩
 subst c3
 rw [if_pos rfl] at H
 replace H := Option.bind_eq_some_iff.mp H
 obtain ⟨t181, A40, H⟩ := H
 try dsimp only at H
 have A4 := Ah A40
 clear A40
 replace H := Option.bind_eq_some_iff.mp H
 obtain ⟨t184, A50, H⟩ := H
 try dsimp only at H
 have A5 := Ah A50
 clear A50
 obtain rfl := Option.some.inj H
 with_reducible refine (spec_l5Place.calls k _ _ l0_1 a0_0 true _ ?side1 ?side2 A2.out).mono ?_
 (case side1 => exact cb HR0_1 HB)
 (case side2 => exact HC0_1.out)
 rintro e w8 ⟨rfl, hb⟩
 refine ⟨_, rfl, ?_⟩
 have n0_ := Ah (bb BK179 hb)
 have n1_ := Ah (below_step (bs1 HB GE179) hb)
 clear BK179 HB
 have BK179 := n0_
 have HB := n1_
 clear n0_ n1_
 (try clear hb)
 (try clear hb2)
 (try clear hk)
 (try clear hi)
 refine hK.out _ _ ⟨(blk_cell BK179.out 0).trans rfl, (blk_cell BK179.out 1).trans rfl, (blk_cell BK179.out 2).trans rfl⟩ (fun hHeld => ?_)
 clear hK K
 refine norm_ (a' := ?_) ?_ ?_
 rotate_left
 ·
  show Act.put _ (some 7) _ = _
  simp only [Act.put, List.setIfInBounds_toArray, List.set_cons_zero, List.set_cons_succ, i64_w, i32_w]
  rfl
 refine pureS 5 8 HT_.out ?_
 refine pureS 6 9 HT_.out ?_
 refine pureS 9 12 HT_.out ?_
 refine takeS 7 10 HT_.out HW_.out hHeld (hr := by rintro w' ⟨s0, s1, s2⟩; go_simp; with_reducible rfl) (h := ?_)
 refine takeS 10 13 HT_.out HW_.out hHeld (hr := by rintro w' ⟨s0, s1, s2⟩; go_simp; with_reducible rfl) (h := ?_)
 refine one_ (i := 8) (N := some 11) #[true, true, true, true, true, true, true, true, true, true, true, false, false, false] rfl rfl (one_of HT_.out (by kernel_rfl)) (by decide) (fun K hK => ?_)
 refine goes_ Try.func47 (by kernel_rfl) rfl #[.slice A0_1 l0_1.length c0_1] (by rfl) rfl rfl (by (try simp only [List.map_toArray, List.map_cons, List.map_nil]); first | done | rfl | (simp only [List.length_drop, List.length_take]; rfl)) ?_
 with_reducible refine (spec_l5BySize.calls k _ _ l0_1 t181 _ ?side1 ?side2 A4.out).mono ?_
 (case side1 => exact cb HR0_1 HB)
 (case side2 => exact HC0_1.out)
 rintro e w9 ⟨v182, rfl, ho0, hb⟩
 refine ⟨_, rfl, ?_⟩
 have n0_ := Ah (Kd.R_lower ho0 (below_size (bs1 HB GE179)))
 have n1_ := Ah (bb BK179 hb)
 have n2_ := Ah (below_step (bs1 HB GE179) hb)
 clear BK179 HB
 have HO183 := n0_
 have BK179 := n1_
 have HB := n2_
 clear n0_ n1_ n2_
 (try clear hb)
 (try clear hb2)
 (try clear hk)
 (try clear hi)
 (try clear ho0)
 obtain ⟨Ao10, co10, eo10⟩ := Kd.R_slice HO183.out
 (first | subst eo10 | (injection eo10 with f1_ f2_ f3_; have f4_ := f1_.symm; have f5_ := f3_.symm; clear f1_ f2_ f3_; subst f4_; subst f5_))
 refine hK.out _ _ ⟨(blk_cell BK179.out 0).trans rfl, (blk_cell BK179.out 1).trans rfl, (blk_cell BK179.out 2).trans rfl⟩ (fun hHeld => ?_)
 clear hK K
 refine norm_ (a' := ?_) ?_ ?_
 rotate_left
 ·
  show Act.put _ (some 11) _ = _
  simp only [Act.put, List.setIfInBounds_toArray, List.set_cons_zero, List.set_cons_succ, i64_w, i32_w]
  rfl
 refine one_ (i := 11) (N := some 14) #[true, true, true, true, true, true, true, true, true, true, true, true, false, false] rfl rfl (one_of HT_.out (by kernel_rfl)) (by decide) (fun K hK => ?_)
 refine goes_ Try.func61 (by kernel_rfl) rfl #[.slice Ao10 t181.length co10, .slice A0_2 l0_2.length c0_2] (by rfl) rfl rfl (by (try simp only [List.map_toArray, List.map_cons, List.map_nil]); first | done | rfl | (simp only [List.length_drop, List.length_take]; rfl)) ?_
 with_reducible refine (spec_l5Same.calls k _ _ t181 _ _ l0_2 t184 _ ?side1 ?side2 ?side3 ?side4 A5.out).mono ?_
 (case side1 => exact rc0 HO183)
 (case side2 => exact (Kd.R_reads' HO183.out).2.1)
 (case side3 => exact cb HR0_2 HB)
 (case side4 => exact HC0_2.out)
 rintro e w' ⟨rfl, ⟨nd, rfl⟩⟩
 refine ⟨_, rfl, ?_⟩
 refine hK.out _ _ ⟨(blk_cell BK179.out 0).trans rfl, (blk_cell BK179.out 1).trans rfl, (blk_cell BK179.out 2).trans rfl⟩ (fun hHeld => ?_)
 clear hK K
 refine norm_ (a' := ?_) ?_ ?_
 rotate_left
 ·
  show Act.put _ (some 14) _ = _
  simp only [Act.put, List.setIfInBounds_toArray, List.set_cons_zero, List.set_cons_succ, i64_w, i32_w]
  rfl
 refine pureS 12 15 HT_.out ?_
 refine pureS 13 2 HT_.out ?_
 refine done_ (done_of HT_.out (by kernel_rfl)) ?_
 try go_wp2
 go_ret
 exact ⟨er, bs1 HB GE179⟩
def spec_GoodWork.f (k : Nat) (a0_0 : Int) (l0_1 : List (S40)) (l0_2 : List (S40)) (a0_3 : Int) (l0_4 : List (S56)) : Option (Bool) := (spec_GoodFree.f k a0_0 l0_1 l0_2).bind fun t186 => (if t186 = true then ((spec_l12Items.f k a0_0 l0_1 l0_2 l0_4).bind fun bt187 => (if bt187.2 = true then (some (bt187.1 == a0_3)) else (some false))) else (some false))
theorem spec_GoodWork.mono : ∀ a0 a1 a2 a3 a4 k, LeO (spec_GoodWork.f k a0 a1 a2 a3 a4) (spec_GoodWork.f (k + 1) a0 a1 a2 a3 a4) := by
 intro a0 a1 a2 a3 a4 k
 unfold spec_GoodWork.f
 repeat' first
   | (with_reducible exact spec_GoodFree.mono _ _ _ _)
   | (with_reducible exact spec_l12Items.mono _ _ _ _ _)
   | (with_reducible exact LeO.refl _)
   | (with_reducible exact LeO.none _)
   | (with_reducible refine LeO.ite ?_ ?_)
   | (with_reducible refine LeO.bind ?_ (fun _ => ?_))
   | exact spec_GoodFree.mono _ _ _ _
   | exact spec_l12Items.mono _ _ _ _ _
   | exact LeO.none _
   | refine LeO.ite ?_ ?_
   | refine LeO.bind ?_ (fun _ => ?_)
set_option maxHeartbeats 8000000 in
set_option maxRecDepth 100000 in
theorem spec_GoodWork.calls (k : Nat) (a0_0 : Int) (A0_1 : Option Addr) (c0_1 : Nat) (l0_1 : List (S40)) (A0_2 : Option Addr) (c0_2 : Nat) (l0_2 : List (S40)) (a0_3 : Int) (A0_4 : Option Addr) (c0_4 : Nat) (l0_4 : List (S56)) (r : Bool) (w : World) (hr0_1 : Kd.C k40 w A0_1 l0_1.length l0_1) (hc0_1 : l0_1.length ≤ c0_1) (hr0_2 : Kd.C k40 w A0_2 l0_2.length l0_2) (hc0_2 : l0_2.length ≤ c0_2) (hr0_4 : Kd.C k56 w A0_4 l0_4.length l0_4) (hc0_4 : l0_4.length ≤ c0_4) (h : spec_GoodWork.f k a0_0 l0_1 l0_2 a0_3 l0_4 = some r) :
  Calls Try.prog 20 #[.agg #[.int .i64 a0_0, .slice A0_1 l0_1.length c0_1, .slice A0_2 l0_2.length c0_2, .int .i64 a0_3, .slice A0_4 l0_4.length c0_4]] w fun e w' => e = .returned (.bool r) ∧ Below w.heap.size w w' := by
 have hu36 := Try.underlying36
 have hu33 := Try.underlying33
 have HR0_1 := Ah hr0_1
 have HC0_1 := Ah hc0_1
 clear hr0_1 hc0_1
 have HR0_2 := Ah hr0_2
 have HC0_2 := Ah hc0_2
 clear hr0_2 hc0_2
 have HR0_4 := Ah hr0_4
 have HC0_4 := Ah hc0_4
 clear hr0_4 hc0_4
 have HB := Ah (Below.refl w.heap.size w)
 have H : ((spec_GoodFree.f k a0_0 l0_1 l0_2).bind fun t186 => (if t186 = true then ((spec_l12Items.f k a0_0 l0_1 l0_2 l0_4).bind fun bt187 => (if bt187.2 = true then (some (bt187.1 == a0_3)) else (some false))) else (some false))) = some r := h
 clear h
 replace H := Option.bind_eq_some_iff.mp H
 obtain ⟨t186, A20, H⟩ := H
 try dsimp only at H
 have A2 := Ah A20
 clear A20
 by_cases c3 : t186 = true
 rotate_left
 ·
  replace c3 := Bool.eq_false_iff.mpr c3
  subst c3
  rw [if_neg fne] at H
  obtain rfl := Option.some.inj H
  go_enter Try.func20, Try.ntmps20
  go_wp2_with (first | ((with_reducible refine gate_dst (N := 1) rfl ?_); refine boxL 1 36 #[.int .i64 a0_0, .slice A0_1 l0_1.length c0_1, .slice A0_2 l0_2.length c0_2, .int .i64 a0_3, .slice A0_4 l0_4.length c0_4] ?_; intro gb185 hg w17 BK185 hb; have GW185 := gw hg (bs HB); have GE185 := gw hg (bs HB); replace HB := Ah (below_step (bs HB) hb); clear hb hg; obtain ⟨hcz18_0, hcz18_1, hcz18_2, hcz18_3, hcz18_4⟩ := cz5 BK185; obtain ⟨hfz18_0, hfz18_1, hfz18_2, hfz18_3, hfz18_4⟩ := fz5 BK185) | ((with_reducible refine gate_callee (f := 38) rfl ?_); refine gL (some 7) rfl rfl Try.func38 (by kernel_rfl) rfl #[.agg #[.int .i64 a0_0, .slice A0_1 l0_1.length c0_1, .slice A0_2 l0_2.length c0_2]] rfl ?_; (with_reducible refine (spec_GoodFree.calls k a0_0 _ _ l0_1 _ _ l0_2 false _ ?side1 ?side2 ?side3 ?side4 A2.out).mono ?_); (case side1 => exact cb HR0_1 HB); (case side2 => exact HC0_1.out); (case side3 => exact cb HR0_2 HB); (case side4 => exact HC0_2.out); rintro e w19 ⟨rfl, hb⟩; refine ⟨_, rfl, ?_⟩; replace BK185 := nb BK185 hb; replace HB := Ah (below_step (bs1 HB GE185) hb); (try clear hb)))
  go_ret
  exact ⟨er, bs1 HB GE185⟩
 subst c3
 rw [if_pos rfl] at H
 replace H := Option.bind_eq_some_iff.mp H
 obtain ⟨⟨t187, t188⟩, A40, H⟩ := H
 try dsimp only at H
 have A4 := Ah A40
 clear A40
 by_cases c5 : t188 = true
 rotate_left
 ·
  replace c5 := Bool.eq_false_iff.mpr c5
  subst c5
  rw [if_neg fne] at H
  obtain rfl := Option.some.inj H
  go_enter Try.func20, Try.ntmps20
  go_wp2_with (first | ((with_reducible refine gate_dst (N := 1) rfl ?_); refine boxL 1 36 #[.int .i64 a0_0, .slice A0_1 l0_1.length c0_1, .slice A0_2 l0_2.length c0_2, .int .i64 a0_3, .slice A0_4 l0_4.length c0_4] ?_; intro gb185 hg w12 BK185 hb; have GW185 := gw hg (bs HB); have GE185 := gw hg (bs HB); replace HB := Ah (below_step (bs HB) hb); clear hb hg; obtain ⟨hcz13_0, hcz13_1, hcz13_2, hcz13_3, hcz13_4⟩ := cz5 BK185; obtain ⟨hfz13_0, hfz13_1, hfz13_2, hfz13_3, hfz13_4⟩ := fz5 BK185) | ((with_reducible refine gate_callee (f := 38) rfl ?_); refine gL (some 7) rfl rfl Try.func38 (by kernel_rfl) rfl #[.agg #[.int .i64 a0_0, .slice A0_1 l0_1.length c0_1, .slice A0_2 l0_2.length c0_2]] rfl ?_; (with_reducible refine (spec_GoodFree.calls k a0_0 _ _ l0_1 _ _ l0_2 true _ ?side1 ?side2 ?side3 ?side4 A2.out).mono ?_); (case side1 => exact cb HR0_1 HB); (case side2 => exact HC0_1.out); (case side3 => exact cb HR0_2 HB); (case side4 => exact HC0_2.out); rintro e w14 ⟨rfl, hb⟩; refine ⟨_, rfl, ?_⟩; replace BK185 := nb BK185 hb; replace HB := Ah (below_step (bs1 HB GE185) hb); (try clear hb); obtain ⟨hcz15_0, hcz15_1, hcz15_2, hcz15_3, hcz15_4⟩ := cz5 BK185; obtain ⟨hfz15_0, hfz15_1, hfz15_2, hfz15_3, hfz15_4⟩ := fz5 BK185) | ((with_reducible refine gate_callee (f := 28) rfl ?_); refine gL (some 14) rfl rfl Try.func28 (by kernel_rfl) rfl #[.agg #[.int .i64 a0_0, .slice A0_1 l0_1.length c0_1, .slice A0_2 l0_2.length c0_2], .slice A0_4 l0_4.length c0_4] rfl ?_; (with_reducible refine (spec_l12Items.calls k a0_0 _ _ l0_1 _ _ l0_2 _ _ l0_4 t187 false _ ?side1 ?side2 ?side3 ?side4 ?side5 ?side6 A4.out).mono ?_); (case side1 => exact cb HR0_1 HB); (case side2 => exact HC0_1.out); (case side3 => exact cb HR0_2 HB); (case side4 => exact HC0_2.out); (case side5 => exact cb HR0_4 HB); (case side6 => exact HC0_4.out); rintro e w16 ⟨rfl, hb⟩; refine ⟨_, rfl, ?_⟩; replace BK185 := nb BK185 hb; replace HB := Ah (below_step (bs1 HB GE185) hb); (try clear hb)))
  go_ret
  exact ⟨er, bs1 HB GE185⟩
 subst c5
 rw [if_pos rfl] at H
 obtain rfl := Option.some.inj H
 go_enter Try.func20, Try.ntmps20
 go_wp2_with (first | ((with_reducible refine gate_dst (N := 1) rfl ?_); refine boxL 1 36 #[.int .i64 a0_0, .slice A0_1 l0_1.length c0_1, .slice A0_2 l0_2.length c0_2, .int .i64 a0_3, .slice A0_4 l0_4.length c0_4] ?_; intro gb185 hg w6 BK185 hb; have GW185 := gw hg (bs HB); have GE185 := gw hg (bs HB); replace HB := Ah (below_step (bs HB) hb); clear hb hg; obtain ⟨hcz7_0, hcz7_1, hcz7_2, hcz7_3, hcz7_4⟩ := cz5 BK185; obtain ⟨hfz7_0, hfz7_1, hfz7_2, hfz7_3, hfz7_4⟩ := fz5 BK185) | ((with_reducible refine gate_callee (f := 38) rfl ?_); refine gL (some 7) rfl rfl Try.func38 (by kernel_rfl) rfl #[.agg #[.int .i64 a0_0, .slice A0_1 l0_1.length c0_1, .slice A0_2 l0_2.length c0_2]] rfl ?_; (with_reducible refine (spec_GoodFree.calls k a0_0 _ _ l0_1 _ _ l0_2 true _ ?side1 ?side2 ?side3 ?side4 A2.out).mono ?_); (case side1 => exact cb HR0_1 HB); (case side2 => exact HC0_1.out); (case side3 => exact cb HR0_2 HB); (case side4 => exact HC0_2.out); rintro e w8 ⟨rfl, hb⟩; refine ⟨_, rfl, ?_⟩; replace BK185 := nb BK185 hb; replace HB := Ah (below_step (bs1 HB GE185) hb); (try clear hb); obtain ⟨hcz9_0, hcz9_1, hcz9_2, hcz9_3, hcz9_4⟩ := cz5 BK185; obtain ⟨hfz9_0, hfz9_1, hfz9_2, hfz9_3, hfz9_4⟩ := fz5 BK185) | ((with_reducible refine gate_callee (f := 28) rfl ?_); refine gL (some 14) rfl rfl Try.func28 (by kernel_rfl) rfl #[.agg #[.int .i64 a0_0, .slice A0_1 l0_1.length c0_1, .slice A0_2 l0_2.length c0_2], .slice A0_4 l0_4.length c0_4] rfl ?_; (with_reducible refine (spec_l12Items.calls k a0_0 _ _ l0_1 _ _ l0_2 _ _ l0_4 t187 true _ ?side1 ?side2 ?side3 ?side4 ?side5 ?side6 A4.out).mono ?_); (case side1 => exact cb HR0_1 HB); (case side2 => exact HC0_1.out); (case side3 => exact cb HR0_2 HB); (case side4 => exact HC0_2.out); (case side5 => exact cb HR0_4 HB); (case side6 => exact HC0_4.out); rintro e w10 ⟨rfl, hb⟩; refine ⟨_, rfl, ?_⟩; replace BK185 := nb BK185 hb; replace HB := Ah (below_step (bs1 HB GE185) hb); (try clear hb); obtain ⟨hcz11_0, hcz11_1, hcz11_2, hcz11_3, hcz11_4⟩ := cz5 BK185; obtain ⟨hfz11_0, hfz11_1, hfz11_2, hfz11_3, hfz11_4⟩ := fz5 BK185))
 go_ret
 exact ⟨er, bs1 HB GE185⟩
def spec_l5Of.f (k : Nat) (a0 : Int) (l1 : List (S40)) : Option (Int × (List (S40)) × (List (S40))) := (some (([] : List (S40)) : List (S40))).bind fun y190 => (if y190.length + l1.length < 8796093022208 then ((spec_l5BySize.f k l1).bind fun t196 => (some (a0, (y190 ++ l1), t196))) else (none))
theorem spec_l5Of.mono : ∀ a0 a1 k, LeO (spec_l5Of.f k a0 a1) (spec_l5Of.f (k + 1) a0 a1) := by
 intro a0 a1 k
 unfold spec_l5Of.f
 repeat' first
   | (with_reducible exact spec_l5BySize.mono _ _)
   | (with_reducible exact LeO.refl _)
   | (with_reducible exact LeO.none _)
   | (with_reducible refine LeO.ite ?_ ?_)
   | (with_reducible refine LeO.bind ?_ (fun _ => ?_))
   | exact spec_l5BySize.mono _ _
   | exact LeO.none _
   | refine LeO.ite ?_ ?_
   | refine LeO.bind ?_ (fun _ => ?_)
set_option maxHeartbeats 8000000 in
set_option maxRecDepth 100000 in
theorem spec_l5Of.calls (k : Nat) (a0 : Int) (A1 : Option Addr) (c1 : Nat) (l1 : List (S40)) (r1 : Int) (r2 : List (S40)) (r3 : List (S40)) (w : World) (hr1 : Kd.C k40 w A1 l1.length l1) (hc1 : l1.length ≤ c1) (h : spec_l5Of.f k a0 l1 = some (r1, r2, r3)) :
  Calls Try.prog 29 #[.int .i64 a0, .slice A1 l1.length c1] w fun e w' => ∃ v1_ v2_ : Value, e = .returned (.agg #[.int .i64 r1, v1_, v2_]) ∧ Kd.R k40 40 w' w.heap.size (fun k_ => some k_ ≠ (v2_ : Value).ownBlock) v1_ r2 ∧ Kd.R k40 40 w' w.heap.size (fun k_ => some k_ ≠ (v1_ : Value).ownBlock) v2_ r3 ∧ Below w.heap.size w w' := by
 have hu33 := Try.underlying33
 have HR1 := Ah hr1
 have HC1 := Ah hc1
 clear hr1 hc1
 have HB := Ah (Below.refl w.heap.size w)
 have H : ((some (([] : List (S40)) : List (S40))).bind fun y190 => (if y190.length + l1.length < 8796093022208 then ((spec_l5BySize.f k l1).bind fun t196 => (some (a0, (y190 ++ l1), t196))) else (none))) = some (r1, r2, r3) := h
 clear h
 obtain ⟨y190, hy190⟩ : ∃ y_ : List (S40), y_ = (([] : List (S40))) := ⟨_, rfl⟩
 replace H : (if y190.length + l1.length < 8796093022208 then ((spec_l5BySize.f k l1).bind fun t196 => (some (a0, (y190 ++ l1), t196))) else (none)) = some (r1, r2, r3) := by first | (rw [hy190]; with_reducible exact H) | (have H2_ := (Option.bind_some _ _).symm.trans H; rw [hy190]; with_reducible exact H2_) | (have H2_ := (Option.bind_some _ _).symm.trans H; with_reducible exact H2_) | with_reducible exact H | (rw [hy190]; exact H) | exact H
 have Ny190 := Ah hy190
 clear hy190
 by_cases c3 : y190.length + l1.length < 8796093022208
 rotate_left
 ·
  rw [if_neg c3] at H
  exact absurd H (by simp)
 rw [if_pos c3] at H
 have LMc3 := Ah c3
 clear c3
 obtain ⟨y193, hy193⟩ : ∃ y_ : List (S40), y_ = (y190 ++ l1) := ⟨_, rfl⟩
 replace H : ((spec_l5BySize.f k l1).bind fun t196 => (some (a0, y193, t196))) = some (r1, r2, r3) := by first | (rw [hy193]; with_reducible exact H) | (have H2_ := (Option.bind_some _ _).symm.trans H; rw [hy193]; with_reducible exact H2_) | (have H2_ := (Option.bind_some _ _).symm.trans H; with_reducible exact H2_) | with_reducible exact H | (rw [hy193]; exact H) | exact H
 have Ny193 := Ah hy193
 clear hy193
 replace H := Option.bind_eq_some_iff.mp H
 obtain ⟨t196, A40, H⟩ := H
 try dsimp only at H
 have A4 := Ah A40
 clear A40
 simp only [Option.some.injEq, Prod.mk.injEq] at H
 obtain ⟨rfl, rfl, rfl⟩ := H
 go_enter Try.func29, Try.ntmps29
 go_wp2_with (first | ((with_reducible refine gate_dst (N := 4) rfl ?_); refine boxL 4 33 #[.int .i64 0, .slice none 0 0, .slice none 0 0] ?_; intro gb189 hg w5 BK189 hb; have GW189 := gw hg (bs HB); have GE189 := gw hg (bs HB); replace HB := Ah (below_step (bs HB) hb); clear hb hg) | ((with_reducible refine gate_dst (N := 6) rfl ?_); refine Kd.R_lit k40 _ 40 ?hg (N := 6) ?hd (xs := ([] : List (S40))) (inner := []) (ok := fun _ => True) (okp := fun _ => True) ?hr ?hp (fun _ hk => hk) trivial (Below.refl _ _) (Nat.le_refl _) (by simp) ?_; (case hd => rfl); (case hg => rfl); (case hr => first | (go_simp; done) | (go_simp; rfl)); (case hp => exact (Reps.none _ _)); intro v191 w6 ho7 hb hg_ hnew_; clear hg_ hnew_; (first | rw [← Ny190.out] at ho7 | (simp only [Int.reduceToNat] at ho7; rw [← Ny190.out] at ho7)); have HO192 := Ah (Kd.R_lower ho7 (below_size (bs1 HB GE189))); replace BK189 := nb BK189 hb; replace HB := Ah (below_step (bs1 HB GE189) hb); clear hb ho7) | ((with_reducible refine gate_builtin (b := .append) (xs := #[.tmp 6, .tmp 7]) rfl ?_); at_builtin; refine Kd.R_append_rows k40 (w0 := w) w.heap.size rfl (.tmp 6) (.tmp 7) 31 40 (.agg #[(.int .i64 0), (.int .i64 0)]) 16 rfl Try.underlying31 info40 rfl (by decide) (by omega) v191 y190 l1 _ _ _ (fun _ => True) (fun _ => False) rfl rfl ?aO ?aR (fun _ _ h => h) (fun _ h => h.elim) ?aF ?aB ?aS ?aL ?_; (case aR => exact cb HR1 HB); (case aB => exact (bs1 HB GE189)); (case aF => exact (fun _ _ => trivial)); (case aO => exact (rr HO192.out)); (case aS => exact (below_size (bs1 HB GE189))); (case aL => have := LMc3.out; omega); intro v194 w8 ho hb hg hat; rw [← Ny193.out] at ho; replace BK189 := Ah (blk_grown (bk BK189) hg (Kd.R_ne HO192.out BK189.out (by decide))); replace HB := Ah (hb); have HO195 := Ah (ho); clear HO192; clear ho hb hg hat) | ((with_reducible refine gate_callee (f := 47) rfl ?_); refine gL (some 10) rfl rfl Try.func47 (by kernel_rfl) rfl #[.slice A1 l1.length c1] rfl ?_; (with_reducible refine (spec_l5BySize.calls k _ _ l1 t196 _ ?side1 ?side2 A4.out).mono ?_); (case side1 => exact cb HR1 HB); (case side2 => exact HC1.out); rintro e w9 ⟨v197, rfl, ho0, hb⟩; refine ⟨_, rfl, ?_⟩; have HO198 := Ah (Kd.R_lower (Kd.R_new' ho0 (Kd.R_lt (rr HO195.out))) (below_size (bs1 HB GE189))); replace HO195 := Ah (Kd.R_elder' (rr HO195.out) (Kd.R_base ho0) hb); replace BK189 := nb BK189 hb; replace HB := Ah (below_step (bs1 HB GE189) hb); (try clear hb ho0); obtain ⟨Ao10, co10, eo10⟩ := Kd.R_slice HO198.out; subst eo10; obtain ⟨Ao11, co11, eo11⟩ := Kd.R_slice HO195.out; subst eo11; obtain ⟨hcz12_0, hcz12_1, hcz12_2⟩ := cz3 BK189; obtain ⟨hfz12_0, hfz12_1, hfz12_2⟩ := fz3 BK189))
 refine bodyPost_ret (results_cell_row rfl _ _ gb189 33 #[.int .i64 a0, .slice Ao11 y193.length co11, .slice Ao10 t196.length co10] (0, 0) _ rfl (by (with_reducible repeat (first | refine blk_drewN ?_ _ | refine blk_drew ?_ | refine blk_alloc ?_ _)); refine blk_put (cs := #[.int .i64 a0, .slice Ao11 y193.length co11, .slice none 0 0]) ?_ 2 _ rfl; (with_reducible repeat (first | refine blk_drewN ?_ _ | refine blk_drew ?_ | refine blk_alloc ?_ _)); refine blk_put (cs := #[.int .i64 a0, .slice none 0 0, .slice none 0 0]) ?_ 1 _ rfl; (with_reducible repeat (first | refine blk_drewN ?_ _ | refine blk_drew ?_ | refine blk_alloc ?_ _)); refine blk_put (cs := #[.int .i64 0, .slice none 0 0, .slice none 0 0]) ?_ 0 _ rfl; (with_reducible repeat (first | refine blk_drewN ?_ _ | refine blk_drew ?_ | refine blk_alloc ?_ _)); exact BK189.out) Try.underlying33 rfl (by kernel_rfl)) rfl ?_
 exact ⟨_, _, er, by (with_reducible repeat (first | apply Kd.R_alloc | apply Kd.R_drewN | apply Kd.R_drew)); exact Kd.R_mono (Kd.R_far (p := ⟨gb189, 2, none⟩) (Kd.R_far (p := ⟨gb189, 1, none⟩) (Kd.R_far (p := ⟨gb189, 0, none⟩) (Kd.R_types HO195.out BK189.out (by decide)) (fun _ hk => hk.2) (.int .i64 a0)) (fun _ hk => hk.2) (.slice Ao11 y193.length co11)) (fun _ hk => hk.2) (.slice Ao10 t196.length co10)) (fun _ hk => hk.1.2), by (with_reducible repeat (first | apply Kd.R_alloc | apply Kd.R_drewN | apply Kd.R_drew)); exact Kd.R_mono (Kd.R_far (p := ⟨gb189, 2, none⟩) (Kd.R_far (p := ⟨gb189, 1, none⟩) (Kd.R_far (p := ⟨gb189, 0, none⟩) (Kd.R_types HO198.out BK189.out (by decide)) (fun _ hk => hk.2) (.int .i64 a0)) (fun _ hk => hk.2) (.slice Ao11 y193.length co11)) (fun _ hk => hk.2) (.slice Ao10 t196.length co10)) (fun _ hk => hk.1.2), bs1 HB GE189⟩
def spec_l12Own.f (k : Nat) (a0_0 : Int) (l0_1 : List (S40)) (l0_2 : List (S40)) (a0_3 : Int) (l0_4 : List (S56)) : Option (Int × (List (S40)) × (List (S40)) × Int × (List (S56))) := (spec_l5Of.f k a0_0 l0_1).bind fun bt201 => ((some (([] : List (S56)) : List (S56))).bind fun y208 => (if y208.length + l0_4.length < 3518437208883 then (some (bt201.1, bt201.2.1, bt201.2.2, a0_3, (y208 ++ l0_4))) else (none)))
theorem spec_l12Own.mono : ∀ a0 a1 a2 a3 a4 k, LeO (spec_l12Own.f k a0 a1 a2 a3 a4) (spec_l12Own.f (k + 1) a0 a1 a2 a3 a4) := by
 intro a0 a1 a2 a3 a4 k
 unfold spec_l12Own.f
 repeat' first
   | (with_reducible exact spec_l5Of.mono _ _ _)
   | (with_reducible exact LeO.refl _)
   | (with_reducible exact LeO.none _)
   | (with_reducible refine LeO.ite ?_ ?_)
   | (with_reducible refine LeO.bind ?_ (fun _ => ?_))
   | exact spec_l5Of.mono _ _ _
   | exact LeO.none _
   | refine LeO.ite ?_ ?_
   | refine LeO.bind ?_ (fun _ => ?_)
set_option maxHeartbeats 8000000 in
set_option maxRecDepth 100000 in
theorem spec_l12Own.calls (k : Nat) (a0_0 : Int) (A0_1 : Option Addr) (c0_1 : Nat) (l0_1 : List (S40)) (A0_2 : Option Addr) (c0_2 : Nat) (l0_2 : List (S40)) (a0_3 : Int) (A0_4 : Option Addr) (c0_4 : Nat) (l0_4 : List (S56)) (r1 : Int) (r2 : List (S40)) (r3 : List (S40)) (r4 : Int) (r5 : List (S56)) (w : World) (hr0_1 : Kd.C k40 w A0_1 l0_1.length l0_1) (hc0_1 : l0_1.length ≤ c0_1) (hr0_2 : Kd.C k40 w A0_2 l0_2.length l0_2) (hc0_2 : l0_2.length ≤ c0_2) (hr0_4 : Kd.C k56 w A0_4 l0_4.length l0_4) (hc0_4 : l0_4.length ≤ c0_4) (h : spec_l12Own.f k a0_0 l0_1 l0_2 a0_3 l0_4 = some (r1, r2, r3, r4, r5)) :
  Calls Try.prog 21 #[.agg #[.int .i64 a0_0, .slice A0_1 l0_1.length c0_1, .slice A0_2 l0_2.length c0_2, .int .i64 a0_3, .slice A0_4 l0_4.length c0_4]] w fun e w' => ∃ v1_ v2_ v4_ : Value, e = .returned (.agg #[.int .i64 r1, v1_, v2_, .int .i64 r4, v4_]) ∧ Kd.R k40 40 w' w.heap.size (fun k_ => some k_ ≠ (v2_ : Value).ownBlock) v1_ r2 ∧ Kd.R k40 40 w' w.heap.size (fun k_ => some k_ ≠ (v1_ : Value).ownBlock) v2_ r3 ∧ Kd.R k56 56 w' w.heap.size (fun _ => True) v4_ r5 ∧ Below w.heap.size w w' := by
 have hu36 := Try.underlying36
 have hu33 := Try.underlying33
 have HR0_1 := Ah hr0_1
 have HC0_1 := Ah hc0_1
 clear hr0_1 hc0_1
 have HR0_2 := Ah hr0_2
 have HC0_2 := Ah hc0_2
 clear hr0_2 hc0_2
 have HR0_4 := Ah hr0_4
 have HC0_4 := Ah hc0_4
 clear hr0_4 hc0_4
 have HB := Ah (Below.refl w.heap.size w)
 have H : ((spec_l5Of.f k a0_0 l0_1).bind fun bt201 => ((some (([] : List (S56)) : List (S56))).bind fun y208 => (if y208.length + l0_4.length < 3518437208883 then (some (bt201.1, bt201.2.1, bt201.2.2, a0_3, (y208 ++ l0_4))) else (none)))) = some (r1, r2, r3, r4, r5) := h
 clear h
 replace H := Option.bind_eq_some_iff.mp H
 obtain ⟨⟨t201, t202, t205⟩, A20, H⟩ := H
 try dsimp only at H
 have A2 := Ah A20
 clear A20
 obtain ⟨y208, hy208⟩ : ∃ y_ : List (S56), y_ = (([] : List (S56))) := ⟨_, rfl⟩
 replace H : (if y208.length + l0_4.length < 3518437208883 then (some (t201, t202, t205, a0_3, (y208 ++ l0_4))) else (none)) = some (r1, r2, r3, r4, r5) := by first | (rw [hy208]; with_reducible exact H) | (have H2_ := (Option.bind_some _ _).symm.trans H; rw [hy208]; with_reducible exact H2_) | (have H2_ := (Option.bind_some _ _).symm.trans H; with_reducible exact H2_) | with_reducible exact H | (rw [hy208]; exact H) | exact H
 have Ny208 := Ah hy208
 clear hy208
 by_cases c3 : y208.length + l0_4.length < 3518437208883
 rotate_left
 ·
  rw [if_neg c3] at H
  exact absurd H (by simp)
 rw [if_pos c3] at H
 have LMc3 := Ah c3
 clear c3
 obtain ⟨y211, hy211⟩ : ∃ y_ : List (S56), y_ = (y208 ++ l0_4) := ⟨_, rfl⟩
 replace H : (some (t201, t202, t205, a0_3, y211)) = some (r1, r2, r3, r4, r5) := by first | (rw [hy211]; with_reducible exact H) | (have H2_ := (Option.bind_some _ _).symm.trans H; rw [hy211]; with_reducible exact H2_) | (have H2_ := (Option.bind_some _ _).symm.trans H; with_reducible exact H2_) | with_reducible exact H | (rw [hy211]; exact H) | exact H
 have Ny211 := Ah hy211
 clear hy211
 simp only [Option.some.injEq, Prod.mk.injEq] at H
 obtain ⟨rfl, rfl, rfl, rfl, rfl⟩ := H
 go_enter Try.func21, Try.ntmps21
 go_wp2_with (first | ((with_reducible refine gate_dst (N := 1) rfl ?_); refine boxL 1 36 #[.int .i64 a0_0, .slice A0_1 l0_1.length c0_1, .slice A0_2 l0_2.length c0_2, .int .i64 a0_3, .slice A0_4 l0_4.length c0_4] ?_; intro gb199 hg w4 BK199 hb; have GW199 := gw hg (bs HB); have GE199 := gw hg (bs HB); replace HB := Ah (below_step (bs HB) hb); clear hb hg) | ((with_reducible refine gate_dst (N := 2) rfl ?_); refine boxL 2 36 #[.int .i64 0, .slice none 0 0, .slice none 0 0, .int .i64 0, .slice none 0 0] ?_; intro gb200 hg w5 BK200 hb; have GW200 := gw hg (bs1 HB GE199); have GE200 := gw hg (bs1 HB GE199); replace HB := Ah (below_step (bs1 HB GE199) hb); have NB199_200 := nn BK199 hg; have NB200_199 := nm BK199 hg; replace BK199 := nb BK199 hb; clear hb hg; have hnb6 := NB199_200.out; have hnc6 := NB200_199.out; obtain ⟨hcz7_0, hcz7_1, hcz7_2, hcz7_3, hcz7_4⟩ := cz5 BK199; obtain ⟨hfz7_0, hfz7_1, hfz7_2, hfz7_3, hfz7_4⟩ := fz5 BK199) | ((with_reducible refine gate_callee (f := 29) rfl ?_); refine gL (some 9) rfl rfl Try.func29 (by kernel_rfl) rfl #[.int .i64 a0_0, .slice A0_1 l0_1.length c0_1] rfl ?_; (with_reducible refine (spec_l5Of.calls k a0_0 _ _ l0_1 t201 t202 t205 _ ?side1 ?side2 A2.out).mono ?_); (case side1 => exact cb HR0_1 HB); (case side2 => exact HC0_1.out); rintro e w8 ⟨v203, v206, rfl, ho0, ho1, hb⟩; refine ⟨_, rfl, ?_⟩; have HO204 := Ah (Kd.R_lower ho0 (below_size (bs2 HB GE199 GE200))); have HO207 := Ah (Kd.R_lower ho1 (below_size (bs2 HB GE199 GE200))); replace BK199 := nb BK199 hb; replace BK200 := nb BK200 hb; replace HB := Ah (below_step (bs2 HB GE199 GE200) hb); (try clear hb ho0 ho1); obtain ⟨hcz9_0, hcz9_1, hcz9_2, hcz9_3, hcz9_4⟩ := cz5 BK199; obtain ⟨hfz9_0, hfz9_1, hfz9_2, hfz9_3, hfz9_4⟩ := fz5 BK199; obtain ⟨Ao10, co10, eo10⟩ := Kd.R_slice HO204.out; subst eo10; obtain ⟨Ao11, co11, eo11⟩ := Kd.R_slice HO207.out; subst eo11) | ((with_reducible refine gate_dst (N := 11) rfl ?_); refine Kd.R_lit k56 _ 56 ?hg (N := 11) ?hd (xs := ([] : List (S56))) (inner := []) (ok := fun _ => True) (okp := fun _ => True) ?hr ?hp (fun _ hk => hk) trivial (Below.refl _ _) (Nat.le_refl _) (by simp) ?_; (case hd => rfl); (case hg => rfl); (case hr => first | (go_simp; done) | (go_simp; rfl)); (case hp => exact (Reps.none _ _)); intro v209 w12 ho13 hb hg_ hnew_; clear hg_ hnew_; (first | rw [← Ny208.out] at ho13 | (simp only [Int.reduceToNat] at ho13; rw [← Ny208.out] at ho13)); replace HO204 := nf HO204 BK199 hb; replace HO207 := nf HO207 BK199 hb; have HO210 := Ah (Kd.R_lower ho13 (below_size (bs2 HB GE199 GE200))); replace BK199 := Ah (blk_below (g := gb199) (o := .cells #[.int .i64 t201, .slice Ao10 t202.length co10, .slice Ao11 t205.length co11, .int .i64 a0_3, .slice A0_4 l0_4.length c0_4] 36 (0, 0)) (by (with_reducible repeat (first | refine blk_drewN ?_ _ | refine blk_drew ?_ | refine blk_alloc ?_ _)); refine blk_put (cs := #[.int .i64 t201, .slice Ao10 t202.length co10, .slice A0_2 l0_2.length c0_2, .int .i64 a0_3, .slice A0_4 l0_4.length c0_4]) ?_ 2 _ rfl; (with_reducible repeat (first | refine blk_drewN ?_ _ | refine blk_drew ?_ | refine blk_alloc ?_ _)); refine blk_put (cs := #[.int .i64 t201, .slice A0_1 l0_1.length c0_1, .slice A0_2 l0_2.length c0_2, .int .i64 a0_3, .slice A0_4 l0_4.length c0_4]) ?_ 1 _ rfl; (with_reducible repeat (first | refine blk_drewN ?_ _ | refine blk_drew ?_ | refine blk_alloc ?_ _)); refine blk_put (cs := #[.int .i64 a0_0, .slice A0_1 l0_1.length c0_1, .slice A0_2 l0_2.length c0_2, .int .i64 a0_3, .slice A0_4 l0_4.length c0_4]) ?_ 0 _ rfl; (with_reducible repeat (first | refine blk_drewN ?_ _ | refine blk_drew ?_ | refine blk_alloc ?_ _)); exact BK199.out) hb); replace BK200 := Ah (blk_below (bf BK200 NB200_199) hb); replace HB := Ah (below_step (bs2 HB GE199 GE200) hb); clear hb ho13; obtain ⟨hcz14_0, hcz14_1, hcz14_2, hcz14_3, hcz14_4⟩ := cz5 BK199; obtain ⟨hfz14_0, hfz14_1, hfz14_2, hfz14_3, hfz14_4⟩ := fz5 BK199) | ((with_reducible refine gate_builtin (b := .append) (xs := #[.tmp 11, .tmp 13]) rfl ?_); at_builtin; refine Kd.R_append_rows k56 (w0 := w) w.heap.size rfl (.tmp 11) (.tmp 13) 34 56 (.agg #[(.int .i64 0), (.int .i64 0), (.int .i64 0), (.int .i64 0), (.int .i64 0)]) 40 rfl Try.underlying34 info56 rfl (by decide) (by omega) v209 y208 l0_4 _ _ _ (fun _ => True) (fun _ => False) rfl rfl ?aO ?aR (fun _ _ h => h) (fun _ h => h.elim) ?aF ?aB ?aS ?aL ?_; (case aR => exact cb HR0_4 HB); (case aB => exact (bs2 HB GE199 GE200)); (case aF => exact (fun _ _ => trivial)); (case aO => exact (rr HO210.out)); (case aS => exact (below_size (bs2 HB GE199 GE200))); (case aL => have := LMc3.out; omega); intro v212 w15 ho hb hg hat; rw [← Ny211.out] at ho; replace BK199 := Ah (blk_grown (bk BK199) hg (Kd.R_ne HO210.out BK199.out (by decide))); replace BK200 := Ah (blk_grown (bk BK200) hg (Kd.R_ne HO210.out BK200.out (by decide))); replace HO204 := Ah (Kd.R_over' (rr HO204.out) (Kd.R_typed (rr HO210.out)) (by decide) hg); replace HO207 := Ah (Kd.R_over' (rr HO207.out) (Kd.R_typed (rr HO210.out)) (by decide) hg); replace HB := Ah (hb); have HO213 := Ah (ho); clear HO210; clear ho hb hg hat; obtain ⟨Ao16, co16, eo16⟩ := Kd.R_slice HO213.out; subst eo16; obtain ⟨hcz17_0, hcz17_1, hcz17_2, hcz17_3, hcz17_4⟩ := cz5 BK199; obtain ⟨hfz17_0, hfz17_1, hfz17_2, hfz17_3, hfz17_4⟩ := fz5 BK199; obtain ⟨hcz18_0, hcz18_1, hcz18_2, hcz18_3, hcz18_4⟩ := cz5 BK200; obtain ⟨hfz18_0, hfz18_1, hfz18_2, hfz18_3, hfz18_4⟩ := fz5 BK200))
 refine bodyPost_ret (results_cell_row rfl _ _ gb200 36 #[.int .i64 t201, .slice Ao10 t202.length co10, .slice Ao11 t205.length co11, .int .i64 a0_3, .slice Ao16 y211.length co16] (0, 0) _ rfl (by (with_reducible repeat (first | refine blk_drewN ?_ _ | refine blk_drew ?_ | refine blk_alloc ?_ _)); refine blk_put (cs := #[.int .i64 t201, .slice Ao10 t202.length co10, .slice Ao11 t205.length co11, .int .i64 a0_3, .slice none 0 0]) ?_ 4 _ rfl; (with_reducible repeat (first | refine blk_drewN ?_ _ | refine blk_drew ?_ | refine blk_alloc ?_ _)); refine blk_put (cs := #[.int .i64 t201, .slice Ao10 t202.length co10, .slice Ao11 t205.length co11, .int .i64 0, .slice none 0 0]) ?_ 3 _ rfl; (with_reducible repeat (first | refine blk_drewN ?_ _ | refine blk_drew ?_ | refine blk_alloc ?_ _)); refine blk_put (cs := #[.int .i64 t201, .slice Ao10 t202.length co10, .slice none 0 0, .int .i64 0, .slice none 0 0]) ?_ 2 _ rfl; (with_reducible repeat (first | refine blk_drewN ?_ _ | refine blk_drew ?_ | refine blk_alloc ?_ _)); refine blk_put (cs := #[.int .i64 t201, .slice none 0 0, .slice none 0 0, .int .i64 0, .slice none 0 0]) ?_ 1 _ rfl; (with_reducible repeat (first | refine blk_drewN ?_ _ | refine blk_drew ?_ | refine blk_alloc ?_ _)); refine blk_put (cs := #[.int .i64 0, .slice none 0 0, .slice none 0 0, .int .i64 0, .slice none 0 0]) ?_ 0 _ rfl; (with_reducible repeat (first | refine blk_drewN ?_ _ | refine blk_drew ?_ | refine blk_alloc ?_ _)); refine blk_far ?_ NB200_199.out _; (with_reducible repeat (first | refine blk_drewN ?_ _ | refine blk_drew ?_ | refine blk_alloc ?_ _)); exact BK200.out) Try.underlying36 rfl (by kernel_rfl)) rfl ?_
 exact ⟨_, _, _, er, by (with_reducible repeat (first | apply Kd.R_alloc | apply Kd.R_drewN | apply Kd.R_drew)); exact Kd.R_mono (Kd.R_far (p := ⟨gb200, 4, none⟩) (Kd.R_far (p := ⟨gb200, 3, none⟩) (Kd.R_far (p := ⟨gb200, 2, none⟩) (Kd.R_far (p := ⟨gb200, 1, none⟩) (Kd.R_far (p := ⟨gb200, 0, none⟩) (Kd.R_far (p := ⟨gb199, 4, none⟩) (Kd.R_types (Kd.R_types HO204.out BK199.out (by decide)) BK200.out (by decide)) (fun _ hk => hk.1.2) (.slice Ao16 y211.length co16)) (fun _ hk => hk.2) (.int .i64 t201)) (fun _ hk => hk.2) (.slice Ao10 t202.length co10)) (fun _ hk => hk.2) (.slice Ao11 t205.length co11)) (fun _ hk => hk.2) (.int .i64 a0_3)) (fun _ hk => hk.2) (.slice Ao16 y211.length co16)) (fun _ hk => hk.1.1), by (with_reducible repeat (first | apply Kd.R_alloc | apply Kd.R_drewN | apply Kd.R_drew)); exact Kd.R_mono (Kd.R_far (p := ⟨gb200, 4, none⟩) (Kd.R_far (p := ⟨gb200, 3, none⟩) (Kd.R_far (p := ⟨gb200, 2, none⟩) (Kd.R_far (p := ⟨gb200, 1, none⟩) (Kd.R_far (p := ⟨gb200, 0, none⟩) (Kd.R_far (p := ⟨gb199, 4, none⟩) (Kd.R_types (Kd.R_types HO207.out BK199.out (by decide)) BK200.out (by decide)) (fun _ hk => hk.1.2) (.slice Ao16 y211.length co16)) (fun _ hk => hk.2) (.int .i64 t201)) (fun _ hk => hk.2) (.slice Ao10 t202.length co10)) (fun _ hk => hk.2) (.slice Ao11 t205.length co11)) (fun _ hk => hk.2) (.int .i64 a0_3)) (fun _ hk => hk.2) (.slice Ao16 y211.length co16)) (fun _ hk => hk.1.1), by (with_reducible repeat (first | apply Kd.R_alloc | apply Kd.R_drewN | apply Kd.R_drew)); exact Kd.R_mono (Kd.R_far (p := ⟨gb200, 4, none⟩) (Kd.R_far (p := ⟨gb200, 3, none⟩) (Kd.R_far (p := ⟨gb200, 2, none⟩) (Kd.R_far (p := ⟨gb200, 1, none⟩) (Kd.R_far (p := ⟨gb200, 0, none⟩) (Kd.R_far (p := ⟨gb199, 4, none⟩) (Kd.R_types (Kd.R_types HO213.out BK199.out (by decide)) BK200.out (by decide)) (fun _ hk => hk.1.2) (.slice Ao16 y211.length co16)) (fun _ hk => hk.2) (.int .i64 t201)) (fun _ hk => hk.2) (.slice Ao10 t202.length co10)) (fun _ hk => hk.2) (.slice Ao11 t205.length co11)) (fun _ hk => hk.2) (.int .i64 a0_3)) (fun _ hk => hk.2) (.slice Ao16 y211.length co16)) (fun _ hk => trivial), bs2 HB GE199 GE200⟩
def spec_PromiseFree.f (k : Nat) (a0_0 : Int) (l0_1 : List (S40)) (l0_2 : List (S40)) (a0_3 : Int) (l0_4 : List (S56)) (a1_0 : Int) (a1_1 : Int) : Option (Int × (List (S40)) × (List (S40)) × Int × (List (S56)) × Int × Bool) := (spec_GoodWork.f k a0_0 l0_1 l0_2 a0_3 l0_4).bind fun t217 => (if t217 = true then ((spec_l12Own.f k a0_0 l0_1 l0_2 a0_3 l0_4).bind fun bt218 => (if bt218.2.2.2.2.length < 3518437208883 then ((some (bt218.2.2.2.2 ++ [(⟨1, bt218.2.2.2.1, (⟨a1_0, a1_1⟩ : S40), 0⟩ : S56)] : List (S56))).bind fun y229 => ((spec_GoodWork.f k bt218.1 bt218.2.1 bt218.2.2.1 (wrap64 (bt218.2.2.2.1 + 1)) y229).bind fun t232 => (if t232 = true then (some (bt218.1, bt218.2.1, bt218.2.2.1, wrap64 (bt218.2.2.2.1 + 1), y229, wrap64 ((wrap64 (bt218.2.2.2.1 + 1)) - 1), true)) else (some (0, ([] : List (S40)), ([] : List (S40)), 0, ([] : List (S56)), 0, false))))) else (none))) else (some (0, ([] : List (S40)), ([] : List (S40)), 0, ([] : List (S56)), 0, false)))
theorem spec_PromiseFree.mono : ∀ a0 a1 a2 a3 a4 a5 a6 k, LeO (spec_PromiseFree.f k a0 a1 a2 a3 a4 a5 a6) (spec_PromiseFree.f (k + 1) a0 a1 a2 a3 a4 a5 a6) := by
 intro a0 a1 a2 a3 a4 a5 a6 k
 unfold spec_PromiseFree.f
 repeat' first
   | (with_reducible exact spec_GoodWork.mono _ _ _ _ _ _)
   | (with_reducible exact spec_l12Own.mono _ _ _ _ _ _)
   | (with_reducible exact LeO.refl _)
   | (with_reducible exact LeO.none _)
   | (with_reducible refine LeO.ite ?_ ?_)
   | (with_reducible refine LeO.bind ?_ (fun _ => ?_))
   | exact spec_GoodWork.mono _ _ _ _ _ _
   | exact spec_l12Own.mono _ _ _ _ _ _
   | exact LeO.none _
   | refine LeO.ite ?_ ?_
   | refine LeO.bind ?_ (fun _ => ?_)
set_option maxHeartbeats 8000000 in
set_option maxRecDepth 100000 in
theorem spec_PromiseFree.calls (k : Nat) (a0_0 : Int) (A0_1 : Option Addr) (c0_1 : Nat) (l0_1 : List (S40)) (A0_2 : Option Addr) (c0_2 : Nat) (l0_2 : List (S40)) (a0_3 : Int) (A0_4 : Option Addr) (c0_4 : Nat) (l0_4 : List (S56)) (a1_0 : Int) (a1_1 : Int) (r1 : Int) (r2 : List (S40)) (r3 : List (S40)) (r4 : Int) (r5 : List (S56)) (r6 : Int) (r7 : Bool) (w : World) (hr0_1 : Kd.C k40 w A0_1 l0_1.length l0_1) (hc0_1 : l0_1.length ≤ c0_1) (hr0_2 : Kd.C k40 w A0_2 l0_2.length l0_2) (hc0_2 : l0_2.length ≤ c0_2) (hr0_4 : Kd.C k56 w A0_4 l0_4.length l0_4) (hc0_4 : l0_4.length ≤ c0_4) (h : spec_PromiseFree.f k a0_0 l0_1 l0_2 a0_3 l0_4 a1_0 a1_1 = some (r1, r2, r3, r4, r5, r6, r7)) :
  Calls Try.prog 6 #[.agg #[.int .i64 a0_0, .slice A0_1 l0_1.length c0_1, .slice A0_2 l0_2.length c0_2, .int .i64 a0_3, .slice A0_4 l0_4.length c0_4], .agg #[.int .i64 a1_0, .int .i64 a1_1]] w fun e w' => ∃ v1_ v2_ v4_ : Value, e = .returned (.tuple #[.agg #[.int .i64 r1, v1_, v2_, .int .i64 r4, v4_], .int .i64 r6, .bool r7]) ∧ Kd.R k40 40 w' w.heap.size (fun k_ => some k_ ≠ (v2_ : Value).ownBlock) v1_ r2 ∧ Kd.R k40 40 w' w.heap.size (fun k_ => some k_ ≠ (v1_ : Value).ownBlock) v2_ r3 ∧ Kd.R k56 56 w' w.heap.size (fun _ => True) v4_ r5 ∧ Below w.heap.size w w' := by
 have hu36 := Try.underlying36
 have hu40 := Try.underlying40
 have hu56 := Try.underlying56
 have HR0_1 := Ah hr0_1
 have HC0_1 := Ah hc0_1
 clear hr0_1 hc0_1
 have HR0_2 := Ah hr0_2
 have HC0_2 := Ah hc0_2
 clear hr0_2 hc0_2
 have HR0_4 := Ah hr0_4
 have HC0_4 := Ah hc0_4
 clear hr0_4 hc0_4
 have HB := Ah (Below.refl w.heap.size w)
 have H : ((spec_GoodWork.f k a0_0 l0_1 l0_2 a0_3 l0_4).bind fun t217 => (if t217 = true then ((spec_l12Own.f k a0_0 l0_1 l0_2 a0_3 l0_4).bind fun bt218 => (if bt218.2.2.2.2.length < 3518437208883 then ((some (bt218.2.2.2.2 ++ [(⟨1, bt218.2.2.2.1, (⟨a1_0, a1_1⟩ : S40), 0⟩ : S56)] : List (S56))).bind fun y229 => ((spec_GoodWork.f k bt218.1 bt218.2.1 bt218.2.2.1 (wrap64 (bt218.2.2.2.1 + 1)) y229).bind fun t232 => (if t232 = true then (some (bt218.1, bt218.2.1, bt218.2.2.1, wrap64 (bt218.2.2.2.1 + 1), y229, wrap64 ((wrap64 (bt218.2.2.2.1 + 1)) - 1), true)) else (some (0, ([] : List (S40)), ([] : List (S40)), 0, ([] : List (S56)), 0, false))))) else (none))) else (some (0, ([] : List (S40)), ([] : List (S40)), 0, ([] : List (S56)), 0, false)))) = some (r1, r2, r3, r4, r5, r6, r7) := h
 clear h
 replace H := Option.bind_eq_some_iff.mp H
 obtain ⟨t217, A30, H⟩ := H
 try dsimp only at H
 have A3 := Ah A30
 clear A30
 by_cases c4 : t217 = true
 rotate_left
 ·
  replace c4 := Bool.eq_false_iff.mpr c4
  subst c4
  rw [if_neg fne] at H
  simp only [Option.some.injEq, Prod.mk.injEq] at H
  obtain ⟨rfl, rfl, rfl, rfl, rfl, rfl, rfl⟩ := H
  go_enter Try.func6, Try.ntmps6
  go_wp2_with (first | ((with_reducible refine gate_dst (N := 2) rfl ?_); refine boxL 2 36 #[.int .i64 a0_0, .slice A0_1 l0_1.length c0_1, .slice A0_2 l0_2.length c0_2, .int .i64 a0_3, .slice A0_4 l0_4.length c0_4] ?_; intro gb214 hg w54 BK214 hb; have GW214 := gw hg (bs HB); have GE214 := gw hg (bs HB); replace HB := Ah (below_step (bs HB) hb); clear hb hg) | ((with_reducible refine gate_dst (N := 3) rfl ?_); refine boxL 3 40 #[.int .i64 a1_0, .int .i64 a1_1] ?_; intro gb215 hg w55 BK215 hb; have GW215 := gw hg (bs1 HB GE214); have GE215 := gw hg (bs1 HB GE214); replace HB := Ah (below_step (bs1 HB GE214) hb); have NB214_215 := nn BK214 hg; have NB215_214 := nm BK214 hg; replace BK214 := nb BK214 hb; clear hb hg) | ((with_reducible refine gate_dst (N := 4) rfl ?_); refine boxL 4 36 #[.int .i64 0, .slice none 0 0, .slice none 0 0, .int .i64 0, .slice none 0 0] ?_; intro gb216 hg w56 BK216 hb; have GW216 := gw hg (bs2 HB GE214 GE215); have GE216 := gw hg (bs2 HB GE214 GE215); replace HB := Ah (below_step (bs2 HB GE214 GE215) hb); have NB214_216 := nn BK214 hg; have NB216_214 := nm BK214 hg; replace BK214 := nb BK214 hb; have NB215_216 := nn BK215 hg; have NB216_215 := nm BK215 hg; replace BK215 := nb BK215 hb; clear hb hg; have hnb57 := NB214_215.out; have hnc57 := NB215_214.out; have hnb58 := NB214_216.out; have hnc58 := NB216_214.out; obtain ⟨hcz59_0, hcz59_1, hcz59_2, hcz59_3, hcz59_4⟩ := cz5 BK214; obtain ⟨hfz59_0, hfz59_1, hfz59_2, hfz59_3, hfz59_4⟩ := fz5 BK214) | ((with_reducible refine gate_callee (f := 20) rfl ?_); refine gL (some 8) rfl rfl Try.func20 (by kernel_rfl) rfl #[.agg #[.int .i64 a0_0, .slice A0_1 l0_1.length c0_1, .slice A0_2 l0_2.length c0_2, .int .i64 a0_3, .slice A0_4 l0_4.length c0_4]] rfl ?_; (with_reducible refine (spec_GoodWork.calls k a0_0 _ _ l0_1 _ _ l0_2 a0_3 _ _ l0_4 false _ ?side1 ?side2 ?side3 ?side4 ?side5 ?side6 A3.out).mono ?_); (case side1 => exact cb HR0_1 HB); (case side2 => exact HC0_1.out); (case side3 => exact cb HR0_2 HB); (case side4 => exact HC0_2.out); (case side5 => exact cb HR0_4 HB); (case side6 => exact HC0_4.out); rintro e w60 ⟨rfl, hb⟩; refine ⟨_, rfl, ?_⟩; replace BK214 := nb BK214 hb; replace BK215 := nb BK215 hb; replace BK216 := nb BK216 hb; replace HB := Ah (below_step (bs3 HB GE214 GE215 GE216) hb); (try clear hb); have hnb61 := NB216_215.out; have hnc61 := NB215_216.out; obtain ⟨hcz62_0, hcz62_1, hcz62_2, hcz62_3, hcz62_4⟩ := cz5 BK216; obtain ⟨hfz62_0, hfz62_1, hfz62_2, hfz62_3, hfz62_4⟩ := fz5 BK216))
  refine bodyPost_ret (results_ctt rfl _ _ gb216 36 #[.int .i64 0, .slice none 0 0, .slice none 0 0, .int .i64 0, .slice none 0 0] (0, 0) _ rfl (by (with_reducible repeat (first | refine blk_drewN ?_ _ | refine blk_drew ?_ | refine blk_alloc ?_ _)); refine blk_put (cs := #[.int .i64 0, .slice none 0 0, .slice none 0 0, .int .i64 0, .slice none 0 0]) ?_ 4 _ rfl; (with_reducible repeat (first | refine blk_drewN ?_ _ | refine blk_drew ?_ | refine blk_alloc ?_ _)); refine blk_put (cs := #[.int .i64 0, .slice none 0 0, .slice none 0 0, .int .i64 0, .slice none 0 0]) ?_ 3 _ rfl; (with_reducible repeat (first | refine blk_drewN ?_ _ | refine blk_drew ?_ | refine blk_alloc ?_ _)); refine blk_put (cs := #[.int .i64 0, .slice none 0 0, .slice none 0 0, .int .i64 0, .slice none 0 0]) ?_ 2 _ rfl; (with_reducible repeat (first | refine blk_drewN ?_ _ | refine blk_drew ?_ | refine blk_alloc ?_ _)); refine blk_put (cs := #[.int .i64 0, .slice none 0 0, .slice none 0 0, .int .i64 0, .slice none 0 0]) ?_ 1 _ rfl; (with_reducible repeat (first | refine blk_drewN ?_ _ | refine blk_drew ?_ | refine blk_alloc ?_ _)); refine blk_put (cs := #[.int .i64 0, .slice none 0 0, .slice none 0 0, .int .i64 0, .slice none 0 0]) ?_ 0 _ rfl; (with_reducible repeat (first | refine blk_drewN ?_ _ | refine blk_drew ?_ | refine blk_alloc ?_ _)); exact BK216.out) Try.underlying36 rfl (by kernel_rfl)) rfl ?_
  exact ⟨_, _, _, er, by first | exact Kd.R_nil _ _ _ _ _ | exact Kd.N_nil _ _ _ _ _ | exact Kd.V_nil _ _ _ _ _ | exact Kd.Q_nil _ _ _ _ _ | exact Kd.S_nil _ _ _ _ _, by first | exact Kd.R_nil _ _ _ _ _ | exact Kd.N_nil _ _ _ _ _ | exact Kd.V_nil _ _ _ _ _ | exact Kd.Q_nil _ _ _ _ _ | exact Kd.S_nil _ _ _ _ _, by first | exact Kd.R_nil _ _ _ _ _ | exact Kd.N_nil _ _ _ _ _ | exact Kd.V_nil _ _ _ _ _ | exact Kd.Q_nil _ _ _ _ _ | exact Kd.S_nil _ _ _ _ _, bs3 HB GE214 GE215 GE216⟩
 subst c4
 rw [if_pos rfl] at H
 replace H := Option.bind_eq_some_iff.mp H
 obtain ⟨⟨t218, t219, t222, t225, t226⟩, A50, H⟩ := H
 try dsimp only at H
 have A5 := Ah A50
 clear A50
 by_cases c6 : t226.length < 3518437208883
 rotate_left
 ·
  rw [if_neg c6] at H
  exact absurd H (by simp)
 rw [if_pos c6] at H
 have LMc6 := Ah c6
 clear c6
 obtain ⟨y229, hy229⟩ : ∃ y_ : List (S56), y_ = (t226 ++ [(⟨1, t225, (⟨a1_0, a1_1⟩ : S40), 0⟩ : S56)]) := ⟨_, rfl⟩
 replace H : ((spec_GoodWork.f k t218 t219 t222 (wrap64 (t225 + 1)) y229).bind fun t232 => (if t232 = true then (some (t218, t219, t222, wrap64 (t225 + 1), y229, wrap64 ((wrap64 (t225 + 1)) - 1), true)) else (some (0, ([] : List (S40)), ([] : List (S40)), 0, ([] : List (S56)), 0, false)))) = some (r1, r2, r3, r4, r5, r6, r7) := by first | (rw [hy229]; with_reducible exact H) | (have H2_ := (Option.bind_some _ _).symm.trans H; rw [hy229]; with_reducible exact H2_) | (have H2_ := (Option.bind_some _ _).symm.trans H; with_reducible exact H2_) | with_reducible exact H | (rw [hy229]; exact H) | exact H
 have Ny229 := Ah hy229
 clear hy229
 replace H := Option.bind_eq_some_iff.mp H
 obtain ⟨t232, A70, H⟩ := H
 try dsimp only at H
 have A7 := Ah A70
 clear A70
 by_cases c8 : t232 = true
 rotate_left
 ·
  replace c8 := Bool.eq_false_iff.mpr c8
  subst c8
  rw [if_neg fne] at H
  simp only [Option.some.injEq, Prod.mk.injEq] at H
  obtain ⟨rfl, rfl, rfl, rfl, rfl, rfl, rfl⟩ := H
  go_enter Try.func6, Try.ntmps6
  go_wp2_with (first | ((with_reducible refine gate_dst (N := 2) rfl ?_); refine boxL 2 36 #[.int .i64 a0_0, .slice A0_1 l0_1.length c0_1, .slice A0_2 l0_2.length c0_2, .int .i64 a0_3, .slice A0_4 l0_4.length c0_4] ?_; intro gb214 hg w34 BK214 hb; have GW214 := gw hg (bs HB); have GE214 := gw hg (bs HB); replace HB := Ah (below_step (bs HB) hb); clear hb hg) | ((with_reducible refine gate_dst (N := 3) rfl ?_); refine boxL 3 40 #[.int .i64 a1_0, .int .i64 a1_1] ?_; intro gb215 hg w35 BK215 hb; have GW215 := gw hg (bs1 HB GE214); have GE215 := gw hg (bs1 HB GE214); replace HB := Ah (below_step (bs1 HB GE214) hb); have NB214_215 := nn BK214 hg; have NB215_214 := nm BK214 hg; replace BK214 := nb BK214 hb; clear hb hg) | ((with_reducible refine gate_dst (N := 4) rfl ?_); refine boxL 4 36 #[.int .i64 0, .slice none 0 0, .slice none 0 0, .int .i64 0, .slice none 0 0] ?_; intro gb216 hg w36 BK216 hb; have GW216 := gw hg (bs2 HB GE214 GE215); have GE216 := gw hg (bs2 HB GE214 GE215); replace HB := Ah (below_step (bs2 HB GE214 GE215) hb); have NB214_216 := nn BK214 hg; have NB216_214 := nm BK214 hg; replace BK214 := nb BK214 hb; have NB215_216 := nn BK215 hg; have NB216_215 := nm BK215 hg; replace BK215 := nb BK215 hb; clear hb hg; have hnb37 := NB214_215.out; have hnc37 := NB215_214.out; have hnb38 := NB214_216.out; have hnc38 := NB216_214.out; obtain ⟨hcz39_0, hcz39_1, hcz39_2, hcz39_3, hcz39_4⟩ := cz5 BK214; obtain ⟨hfz39_0, hfz39_1, hfz39_2, hfz39_3, hfz39_4⟩ := fz5 BK214) | ((with_reducible refine gate_callee (f := 20) rfl ?_); refine gL (some 8) rfl rfl Try.func20 (by kernel_rfl) rfl #[.agg #[.int .i64 a0_0, .slice A0_1 l0_1.length c0_1, .slice A0_2 l0_2.length c0_2, .int .i64 a0_3, .slice A0_4 l0_4.length c0_4]] rfl ?_; (with_reducible refine (spec_GoodWork.calls k a0_0 _ _ l0_1 _ _ l0_2 a0_3 _ _ l0_4 true _ ?side1 ?side2 ?side3 ?side4 ?side5 ?side6 A3.out).mono ?_); (case side1 => exact cb HR0_1 HB); (case side2 => exact HC0_1.out); (case side3 => exact cb HR0_2 HB); (case side4 => exact HC0_2.out); (case side5 => exact cb HR0_4 HB); (case side6 => exact HC0_4.out); rintro e w40 ⟨rfl, hb⟩; refine ⟨_, rfl, ?_⟩; replace BK214 := nb BK214 hb; replace BK215 := nb BK215 hb; replace BK216 := nb BK216 hb; replace HB := Ah (below_step (bs3 HB GE214 GE215 GE216) hb); (try clear hb); obtain ⟨hcz41_0, hcz41_1, hcz41_2, hcz41_3, hcz41_4⟩ := cz5 BK214; obtain ⟨hfz41_0, hfz41_1, hfz41_2, hfz41_3, hfz41_4⟩ := fz5 BK214) | ((with_reducible refine gate_callee (f := 21) rfl ?_); refine gL (some 12) rfl rfl Try.func21 (by kernel_rfl) rfl #[.agg #[.int .i64 a0_0, .slice A0_1 l0_1.length c0_1, .slice A0_2 l0_2.length c0_2, .int .i64 a0_3, .slice A0_4 l0_4.length c0_4]] rfl ?_; (with_reducible refine (spec_l12Own.calls k a0_0 _ _ l0_1 _ _ l0_2 a0_3 _ _ l0_4 t218 t219 t222 t225 t226 _ ?side1 ?side2 ?side3 ?side4 ?side5 ?side6 A5.out).mono ?_); (case side1 => exact cb HR0_1 HB); (case side2 => exact HC0_1.out); (case side3 => exact cb HR0_2 HB); (case side4 => exact HC0_2.out); (case side5 => exact cb HR0_4 HB); (case side6 => exact HC0_4.out); rintro e w42 ⟨v220, v223, v227, rfl, ho0, ho1, ho2, hb⟩; refine ⟨_, rfl, ?_⟩; have HO221 := Ah (Kd.R_lower (Kd.R_newB ho0 (g := gb215) (o := .cells #[.int .i64 a1_0, .int .i64 a1_1] 40 (0, 0)) (bk BK215)) (below_size (bs3 HB GE214 GE215 GE216))); have HO224 := Ah (Kd.R_lower (Kd.R_newB ho1 (g := gb215) (o := .cells #[.int .i64 a1_0, .int .i64 a1_1] 40 (0, 0)) (bk BK215)) (below_size (bs3 HB GE214 GE215 GE216))); have HO228 := Ah (Kd.R_lower ho2 (below_size (bs3 HB GE214 GE215 GE216))); replace BK214 := nb BK214 hb; replace BK215 := nb BK215 hb; replace BK216 := nb BK216 hb; replace HB := Ah (below_step (bs3 HB GE214 GE215 GE216) hb); (try clear hb ho0 ho1 ho2); obtain ⟨hcz43_0, hcz43_1, hcz43_2, hcz43_3, hcz43_4⟩ := cz5 BK214; obtain ⟨hfz43_0, hfz43_1, hfz43_2, hfz43_3, hfz43_4⟩ := fz5 BK214; obtain ⟨Ao44, co44, eo44⟩ := Kd.R_slice HO221.out; subst eo44; obtain ⟨Ao45, co45, eo45⟩ := Kd.R_slice HO224.out; subst eo45; obtain ⟨Ao46, co46, eo46⟩ := Kd.R_slice HO228.out; subst eo46; have hnb47 := NB215_216.out; have hnc47 := NB216_215.out; obtain ⟨hcz48_0, hcz48_1⟩ := cz2 BK215; obtain ⟨hfz48_0, hfz48_1⟩ := fz2 BK215) | ((with_reducible refine gate_builtin (b := .append) (xs := #[.tmp 14, .tmp 19]) rfl ?_); at_builtin; refine Kd.R_append k56 (w0 := w) w.heap.size rfl (.tmp 14) (.tmp 19) 34 56 (.agg #[(.int .i64 0), (.int .i64 0), (.int .i64 0), (.int .i64 0), (.int .i64 0)]) 40 rfl Try.underlying34 info56 rfl (by decide) (by omega) (.slice Ao46 t226.length co46) t226 (⟨1, t225, (⟨a1_0, a1_1⟩ : S40), 0⟩ : S56) [.int .i64 1, .int .i64 t225, .int .i64 a1_0, .int .i64 a1_1, .int .i64 0] (fun _ => True) (fun _ => False) rfl (by first | (go_simp; done) | (go_simp; rfl)) ?aP (fun _ hk => hk.elim) ?aF ?aO ?aB ?aS ?aL ?_; (case aP => exact k56_mkM _ _ _ (⟨1, t225, (⟨a1_0, a1_1⟩ : S40), 0⟩ : S56)); (case aB => exact (bs3 HB GE214 GE215 GE216)); (case aF => exact (fun _ _ => trivial)); (case aO => exact (by (with_reducible repeat (first | apply Kd.R_alloc | apply Kd.R_drewN | apply Kd.R_drew)); exact Kd.R_mono (Kd.R_far (p := ⟨gb214, 4, none⟩) (Kd.R_far (p := ⟨gb214, 3, none⟩) (Kd.R_far (p := ⟨gb214, 2, none⟩) (Kd.R_far (p := ⟨gb214, 1, none⟩) (Kd.R_far (p := ⟨gb214, 0, none⟩) (Kd.R_types HO228.out BK214.out (by decide)) (fun _ hk => hk.2) (.int .i64 t218)) (fun _ hk => hk.2) (.slice Ao44 t219.length co44)) (fun _ hk => hk.2) (.slice Ao45 t222.length co45)) (fun _ hk => hk.2) (.int .i64 t225)) (fun _ hk => hk.2) (.slice Ao46 t226.length co46)) (fun _ hk => trivial))); (case aS => exact (below_size (bs3 HB GE214 GE215 GE216))); (case aL => have := LMc6.out; omega); intro v230 w49 ho hb hg hat; rw [← Ny229.out] at ho; replace BK215 := Ah (blk_grown (bf BK215 NB215_214) hg (Kd.R_ne HO228.out BK215.out (by decide))); replace BK216 := Ah (blk_grown (bf BK216 NB216_214) hg (Kd.R_ne HO228.out BK216.out (by decide))); replace HO221 := Ah (Kd.R_over' (rf HO221 BK214) (Kd.R_typed (rf HO228 BK214)) (by decide) hg); replace HO224 := Ah (Kd.R_over' (rf HO224 BK214) (Kd.R_typed (rf HO228 BK214)) (by decide) hg); replace BK214 := Ah (blk_grown (g := gb214) (o := .cells #[.int .i64 t218, .slice Ao44 t219.length co44, .slice Ao45 t222.length co45, .int .i64 t225, .slice Ao46 t226.length co46] 36 (0, 0)) (by (with_reducible repeat (first | refine blk_drewN ?_ _ | refine blk_drew ?_ | refine blk_alloc ?_ _)); refine blk_put (cs := #[.int .i64 t218, .slice Ao44 t219.length co44, .slice Ao45 t222.length co45, .int .i64 t225, .slice A0_4 l0_4.length c0_4]) ?_ 4 _ rfl; (with_reducible repeat (first | refine blk_drewN ?_ _ | refine blk_drew ?_ | refine blk_alloc ?_ _)); refine blk_put (cs := #[.int .i64 t218, .slice Ao44 t219.length co44, .slice Ao45 t222.length co45, .int .i64 a0_3, .slice A0_4 l0_4.length c0_4]) ?_ 3 _ rfl; (with_reducible repeat (first | refine blk_drewN ?_ _ | refine blk_drew ?_ | refine blk_alloc ?_ _)); refine blk_put (cs := #[.int .i64 t218, .slice Ao44 t219.length co44, .slice A0_2 l0_2.length c0_2, .int .i64 a0_3, .slice A0_4 l0_4.length c0_4]) ?_ 2 _ rfl; (with_reducible repeat (first | refine blk_drewN ?_ _ | refine blk_drew ?_ | refine blk_alloc ?_ _)); refine blk_put (cs := #[.int .i64 t218, .slice A0_1 l0_1.length c0_1, .slice A0_2 l0_2.length c0_2, .int .i64 a0_3, .slice A0_4 l0_4.length c0_4]) ?_ 1 _ rfl; (with_reducible repeat (first | refine blk_drewN ?_ _ | refine blk_drew ?_ | refine blk_alloc ?_ _)); refine blk_put (cs := #[.int .i64 a0_0, .slice A0_1 l0_1.length c0_1, .slice A0_2 l0_2.length c0_2, .int .i64 a0_3, .slice A0_4 l0_4.length c0_4]) ?_ 0 _ rfl; (with_reducible repeat (first | refine blk_drewN ?_ _ | refine blk_drew ?_ | refine blk_alloc ?_ _)); exact BK214.out) hg (Kd.R_ne HO228.out BK214.out (by decide))); replace HB := Ah (hb); have HO231 := Ah (ho); clear HO228; clear ho hb hg hat; obtain ⟨Ao50, co50, eo50⟩ := Kd.R_slice HO231.out; subst eo50; obtain ⟨hcz51_0, hcz51_1, hcz51_2, hcz51_3, hcz51_4⟩ := cz5 BK214; obtain ⟨hfz51_0, hfz51_1, hfz51_2, hfz51_3, hfz51_4⟩ := fz5 BK214) | ((with_reducible refine gate_callee (f := 20) rfl ?_); refine gL (some 27) rfl rfl Try.func20 (by kernel_rfl) rfl #[.agg #[.int .i64 t218, .slice Ao44 t219.length co44, .slice Ao45 t222.length co45, .int .i64 (wrap64 (t225 + 1)), .slice Ao50 y229.length co50]] rfl ?_; (with_reducible refine (spec_GoodWork.calls k t218 _ _ t219 _ _ t222 (wrap64 (t225 + 1)) _ _ y229 false _ ?side1 ?side2 ?side3 ?side4 ?side5 ?side6 A7.out).mono ?_); (case side1 => refine (Kd.R_reads' (e := 40) (base := w.heap.size) (ok := fun k_ => (some k_ ≠ (.slice Ao45 t222.length co45 : Value).ownBlock ∧ k_ ≠ gb215)) (n := t219.length) (c := co44) ?_).2.2; exact (by (with_reducible repeat (first | apply Kd.R_alloc | apply Kd.R_drewN | apply Kd.R_drew)); exact (Kd.R_mono (Kd.R_far (p := ⟨gb214, 3, none⟩) (Kd.R_far (p := ⟨gb214, 4, none⟩) (Kd.R_types HO221.out BK214.out (by decide)) (fun _ hk => hk.2) (.slice Ao50 y229.length co50)) (fun _ hk => hk.2) (.int .i64 (wrap64 (t225 + 1)))) (fun _ h_ => h_.1)))); (case side2 => exact (Kd.R_reads' HO221.out).2.1); (case side3 => refine (Kd.R_reads' (e := 40) (base := w.heap.size) (ok := fun k_ => (some k_ ≠ (.slice Ao44 t219.length co44 : Value).ownBlock ∧ k_ ≠ gb215)) (n := t222.length) (c := co45) ?_).2.2; exact (by (with_reducible repeat (first | apply Kd.R_alloc | apply Kd.R_drewN | apply Kd.R_drew)); exact (Kd.R_mono (Kd.R_far (p := ⟨gb214, 3, none⟩) (Kd.R_far (p := ⟨gb214, 4, none⟩) (Kd.R_types HO224.out BK214.out (by decide)) (fun _ hk => hk.2) (.slice Ao50 y229.length co50)) (fun _ hk => hk.2) (.int .i64 (wrap64 (t225 + 1)))) (fun _ h_ => h_.1)))); (case side4 => exact (Kd.R_reads' HO224.out).2.1); (case side5 => refine (Kd.R_reads' (e := 56) (base := w.heap.size) (ok := fun k_ => True) (n := y229.length) (c := co50) ?_).2.2; exact (by (with_reducible repeat (first | apply Kd.R_alloc | apply Kd.R_drewN | apply Kd.R_drew)); exact (Kd.R_mono (Kd.R_far (p := ⟨gb214, 3, none⟩) (Kd.R_far (p := ⟨gb214, 4, none⟩) (Kd.R_types HO231.out BK214.out (by decide)) (fun _ hk => hk.2) (.slice Ao50 y229.length co50)) (fun _ hk => hk.2) (.int .i64 (wrap64 (t225 + 1)))) (fun _ h_ => h_.1)))); (case side6 => exact (Kd.R_reads' HO231.out).2.1); rintro e w52 ⟨rfl, hb⟩; refine ⟨_, rfl, ?_⟩; replace HO221 := Ah (Kd.R_below (by (with_reducible repeat (first | apply Kd.R_alloc | apply Kd.R_drewN | apply Kd.R_drew)); exact (Kd.R_mono (Kd.R_far (p := ⟨gb214, 3, none⟩) (Kd.R_far (p := ⟨gb214, 4, none⟩) (Kd.R_types HO221.out BK214.out (by decide)) (fun _ hk => hk.2) (.slice Ao50 y229.length co50)) (fun _ hk => hk.2) (.int .i64 (wrap64 (t225 + 1)))) (fun _ h_ => h_.1))) hb); replace HO224 := Ah (Kd.R_below (by (with_reducible repeat (first | apply Kd.R_alloc | apply Kd.R_drewN | apply Kd.R_drew)); exact (Kd.R_mono (Kd.R_far (p := ⟨gb214, 3, none⟩) (Kd.R_far (p := ⟨gb214, 4, none⟩) (Kd.R_types HO224.out BK214.out (by decide)) (fun _ hk => hk.2) (.slice Ao50 y229.length co50)) (fun _ hk => hk.2) (.int .i64 (wrap64 (t225 + 1)))) (fun _ h_ => h_.1))) hb); replace HO231 := Ah (Kd.R_below (by (with_reducible repeat (first | apply Kd.R_alloc | apply Kd.R_drewN | apply Kd.R_drew)); exact (Kd.R_mono (Kd.R_far (p := ⟨gb214, 3, none⟩) (Kd.R_far (p := ⟨gb214, 4, none⟩) (Kd.R_types HO231.out BK214.out (by decide)) (fun _ hk => hk.2) (.slice Ao50 y229.length co50)) (fun _ hk => hk.2) (.int .i64 (wrap64 (t225 + 1)))) (fun _ h_ => h_.1))) hb); replace BK214 := Ah (blk_below (g := gb214) (o := .cells #[.int .i64 t218, .slice Ao44 t219.length co44, .slice Ao45 t222.length co45, .int .i64 (wrap64 (t225 + 1)), .slice Ao50 y229.length co50] 36 (0, 0)) (by (with_reducible repeat (first | refine blk_drewN ?_ _ | refine blk_drew ?_ | refine blk_alloc ?_ _)); refine blk_put (cs := #[.int .i64 t218, .slice Ao44 t219.length co44, .slice Ao45 t222.length co45, .int .i64 t225, .slice Ao50 y229.length co50]) ?_ 3 _ rfl; (with_reducible repeat (first | refine blk_drewN ?_ _ | refine blk_drew ?_ | refine blk_alloc ?_ _)); refine blk_put (cs := #[.int .i64 t218, .slice Ao44 t219.length co44, .slice Ao45 t222.length co45, .int .i64 t225, .slice Ao46 t226.length co46]) ?_ 4 _ rfl; (with_reducible repeat (first | refine blk_drewN ?_ _ | refine blk_drew ?_ | refine blk_alloc ?_ _)); exact BK214.out) hb); replace BK215 := Ah (blk_below (bf BK215 NB215_214) hb); replace BK216 := Ah (blk_below (bf BK216 NB216_214) hb); replace HB := Ah (below_step (bs3 HB GE214 GE215 GE216) hb); (try clear hb hk); obtain ⟨hcz53_0, hcz53_1, hcz53_2, hcz53_3, hcz53_4⟩ := cz5 BK216; obtain ⟨hfz53_0, hfz53_1, hfz53_2, hfz53_3, hfz53_4⟩ := fz5 BK216))
  refine bodyPost_ret (results_ctt rfl _ _ gb216 36 #[.int .i64 0, .slice none 0 0, .slice none 0 0, .int .i64 0, .slice none 0 0] (0, 0) _ rfl (by (with_reducible repeat (first | refine blk_drewN ?_ _ | refine blk_drew ?_ | refine blk_alloc ?_ _)); refine blk_put (cs := #[.int .i64 0, .slice none 0 0, .slice none 0 0, .int .i64 0, .slice none 0 0]) ?_ 4 _ rfl; (with_reducible repeat (first | refine blk_drewN ?_ _ | refine blk_drew ?_ | refine blk_alloc ?_ _)); refine blk_put (cs := #[.int .i64 0, .slice none 0 0, .slice none 0 0, .int .i64 0, .slice none 0 0]) ?_ 3 _ rfl; (with_reducible repeat (first | refine blk_drewN ?_ _ | refine blk_drew ?_ | refine blk_alloc ?_ _)); refine blk_put (cs := #[.int .i64 0, .slice none 0 0, .slice none 0 0, .int .i64 0, .slice none 0 0]) ?_ 2 _ rfl; (with_reducible repeat (first | refine blk_drewN ?_ _ | refine blk_drew ?_ | refine blk_alloc ?_ _)); refine blk_put (cs := #[.int .i64 0, .slice none 0 0, .slice none 0 0, .int .i64 0, .slice none 0 0]) ?_ 1 _ rfl; (with_reducible repeat (first | refine blk_drewN ?_ _ | refine blk_drew ?_ | refine blk_alloc ?_ _)); refine blk_put (cs := #[.int .i64 0, .slice none 0 0, .slice none 0 0, .int .i64 0, .slice none 0 0]) ?_ 0 _ rfl; (with_reducible repeat (first | refine blk_drewN ?_ _ | refine blk_drew ?_ | refine blk_alloc ?_ _)); exact BK216.out) Try.underlying36 rfl (by kernel_rfl)) rfl ?_
  exact ⟨_, _, _, er, by first | exact Kd.R_nil _ _ _ _ _ | exact Kd.N_nil _ _ _ _ _ | exact Kd.V_nil _ _ _ _ _ | exact Kd.Q_nil _ _ _ _ _ | exact Kd.S_nil _ _ _ _ _, by first | exact Kd.R_nil _ _ _ _ _ | exact Kd.N_nil _ _ _ _ _ | exact Kd.V_nil _ _ _ _ _ | exact Kd.Q_nil _ _ _ _ _ | exact Kd.S_nil _ _ _ _ _, by first | exact Kd.R_nil _ _ _ _ _ | exact Kd.N_nil _ _ _ _ _ | exact Kd.V_nil _ _ _ _ _ | exact Kd.Q_nil _ _ _ _ _ | exact Kd.S_nil _ _ _ _ _, bs3 HB GE214 GE215 GE216⟩
 subst c8
 rw [if_pos rfl] at H
 simp only [Option.some.injEq, Prod.mk.injEq] at H
 obtain ⟨rfl, rfl, rfl, rfl, rfl, rfl, rfl⟩ := H
 go_enter Try.func6, Try.ntmps6
 try go_wp2_with (first | ((with_reducible refine gate_dst (N := 2) rfl ?_); refine boxL 2 36 #[.int .i64 a0_0, .slice A0_1 l0_1.length c0_1, .slice A0_2 l0_2.length c0_2, .int .i64 a0_3, .slice A0_4 l0_4.length c0_4] ?_; intro gb214 hg w9 BK214 hb; have GW214 := gw hg (bs HB); have GE214 := gw hg (bs HB); replace HB := Ah (below_step (bs HB) hb); clear hb hg) | ((with_reducible refine gate_dst (N := 3) rfl ?_); refine boxL 3 40 #[.int .i64 a1_0, .int .i64 a1_1] ?_; intro gb215 hg w10 BK215 hb; have GW215 := gw hg (bs1 HB GE214); have GE215 := gw hg (bs1 HB GE214); replace HB := Ah (below_step (bs1 HB GE214) hb); have NB214_215 := nn BK214 hg; have NB215_214 := nm BK214 hg; replace BK214 := nb BK214 hb; clear hb hg) | ((with_reducible refine gate_dst (N := 4) rfl ?_); refine boxL 4 36 #[.int .i64 0, .slice none 0 0, .slice none 0 0, .int .i64 0, .slice none 0 0] ?_; intro gb216 hg w11 BK216 hb; have GW216 := gw hg (bs2 HB GE214 GE215); have GE216 := gw hg (bs2 HB GE214 GE215); replace HB := Ah (below_step (bs2 HB GE214 GE215) hb); have NB214_216 := nn BK214 hg; have NB216_214 := nm BK214 hg; replace BK214 := nb BK214 hb; have NB215_216 := nn BK215 hg; have NB216_215 := nm BK215 hg; replace BK215 := nb BK215 hb; clear hb hg; have hnb12 := NB214_215.out; have hnc12 := NB215_214.out; have hnb13 := NB214_216.out; have hnc13 := NB216_214.out; obtain ⟨hcz14_0, hcz14_1, hcz14_2, hcz14_3, hcz14_4⟩ := cz5 BK214; obtain ⟨hfz14_0, hfz14_1, hfz14_2, hfz14_3, hfz14_4⟩ := fz5 BK214) | ((with_reducible refine gate_callee (f := 20) rfl ?_); refine gL (some 8) rfl rfl Try.func20 (by kernel_rfl) rfl #[.agg #[.int .i64 a0_0, .slice A0_1 l0_1.length c0_1, .slice A0_2 l0_2.length c0_2, .int .i64 a0_3, .slice A0_4 l0_4.length c0_4]] rfl ?_; (with_reducible refine (spec_GoodWork.calls k a0_0 _ _ l0_1 _ _ l0_2 a0_3 _ _ l0_4 true _ ?side1 ?side2 ?side3 ?side4 ?side5 ?side6 A3.out).mono ?_); (case side1 => exact cb HR0_1 HB); (case side2 => exact HC0_1.out); (case side3 => exact cb HR0_2 HB); (case side4 => exact HC0_2.out); (case side5 => exact cb HR0_4 HB); (case side6 => exact HC0_4.out); rintro e w15 ⟨rfl, hb⟩; refine ⟨_, rfl, ?_⟩; replace BK214 := nb BK214 hb; replace BK215 := nb BK215 hb; replace BK216 := nb BK216 hb; replace HB := Ah (below_step (bs3 HB GE214 GE215 GE216) hb); (try clear hb); obtain ⟨hcz16_0, hcz16_1, hcz16_2, hcz16_3, hcz16_4⟩ := cz5 BK214; obtain ⟨hfz16_0, hfz16_1, hfz16_2, hfz16_3, hfz16_4⟩ := fz5 BK214) | ((with_reducible refine gate_callee (f := 21) rfl ?_); refine gL (some 12) rfl rfl Try.func21 (by kernel_rfl) rfl #[.agg #[.int .i64 a0_0, .slice A0_1 l0_1.length c0_1, .slice A0_2 l0_2.length c0_2, .int .i64 a0_3, .slice A0_4 l0_4.length c0_4]] rfl ?_; (with_reducible refine (spec_l12Own.calls k a0_0 _ _ l0_1 _ _ l0_2 a0_3 _ _ l0_4 t218 t219 t222 t225 t226 _ ?side1 ?side2 ?side3 ?side4 ?side5 ?side6 A5.out).mono ?_); (case side1 => exact cb HR0_1 HB); (case side2 => exact HC0_1.out); (case side3 => exact cb HR0_2 HB); (case side4 => exact HC0_2.out); (case side5 => exact cb HR0_4 HB); (case side6 => exact HC0_4.out); rintro e w17 ⟨v220, v223, v227, rfl, ho0, ho1, ho2, hb⟩; refine ⟨_, rfl, ?_⟩; have HO221 := Ah (Kd.R_lower (Kd.R_newB ho0 (g := gb215) (o := .cells #[.int .i64 a1_0, .int .i64 a1_1] 40 (0, 0)) (bk BK215)) (below_size (bs3 HB GE214 GE215 GE216))); have HO224 := Ah (Kd.R_lower (Kd.R_newB ho1 (g := gb215) (o := .cells #[.int .i64 a1_0, .int .i64 a1_1] 40 (0, 0)) (bk BK215)) (below_size (bs3 HB GE214 GE215 GE216))); have HO228 := Ah (Kd.R_lower ho2 (below_size (bs3 HB GE214 GE215 GE216))); replace BK214 := nb BK214 hb; replace BK215 := nb BK215 hb; replace BK216 := nb BK216 hb; replace HB := Ah (below_step (bs3 HB GE214 GE215 GE216) hb); (try clear hb ho0 ho1 ho2); obtain ⟨hcz18_0, hcz18_1, hcz18_2, hcz18_3, hcz18_4⟩ := cz5 BK214; obtain ⟨hfz18_0, hfz18_1, hfz18_2, hfz18_3, hfz18_4⟩ := fz5 BK214; obtain ⟨Ao19, co19, eo19⟩ := Kd.R_slice HO221.out; subst eo19; obtain ⟨Ao20, co20, eo20⟩ := Kd.R_slice HO224.out; subst eo20; obtain ⟨Ao21, co21, eo21⟩ := Kd.R_slice HO228.out; subst eo21; have hnb22 := NB215_216.out; have hnc22 := NB216_215.out; obtain ⟨hcz23_0, hcz23_1⟩ := cz2 BK215; obtain ⟨hfz23_0, hfz23_1⟩ := fz2 BK215) | ((with_reducible refine gate_builtin (b := .append) (xs := #[.tmp 14, .tmp 19]) rfl ?_); at_builtin; refine Kd.R_append k56 (w0 := w) w.heap.size rfl (.tmp 14) (.tmp 19) 34 56 (.agg #[(.int .i64 0), (.int .i64 0), (.int .i64 0), (.int .i64 0), (.int .i64 0)]) 40 rfl Try.underlying34 info56 rfl (by decide) (by omega) (.slice Ao21 t226.length co21) t226 (⟨1, t225, (⟨a1_0, a1_1⟩ : S40), 0⟩ : S56) [.int .i64 1, .int .i64 t225, .int .i64 a1_0, .int .i64 a1_1, .int .i64 0] (fun _ => True) (fun _ => False) rfl (by first | (go_simp; done) | (go_simp; rfl)) ?aP (fun _ hk => hk.elim) ?aF ?aO ?aB ?aS ?aL ?_; (case aP => exact k56_mkM _ _ _ (⟨1, t225, (⟨a1_0, a1_1⟩ : S40), 0⟩ : S56)); (case aB => exact (bs3 HB GE214 GE215 GE216)); (case aF => exact (fun _ _ => trivial)); (case aO => exact (by (with_reducible repeat (first | apply Kd.R_alloc | apply Kd.R_drewN | apply Kd.R_drew)); exact Kd.R_mono (Kd.R_far (p := ⟨gb214, 4, none⟩) (Kd.R_far (p := ⟨gb214, 3, none⟩) (Kd.R_far (p := ⟨gb214, 2, none⟩) (Kd.R_far (p := ⟨gb214, 1, none⟩) (Kd.R_far (p := ⟨gb214, 0, none⟩) (Kd.R_types HO228.out BK214.out (by decide)) (fun _ hk => hk.2) (.int .i64 t218)) (fun _ hk => hk.2) (.slice Ao19 t219.length co19)) (fun _ hk => hk.2) (.slice Ao20 t222.length co20)) (fun _ hk => hk.2) (.int .i64 t225)) (fun _ hk => hk.2) (.slice Ao21 t226.length co21)) (fun _ hk => trivial))); (case aS => exact (below_size (bs3 HB GE214 GE215 GE216))); (case aL => have := LMc6.out; omega); intro v230 w24 ho hb hg hat; rw [← Ny229.out] at ho; replace BK215 := Ah (blk_grown (bf BK215 NB215_214) hg (Kd.R_ne HO228.out BK215.out (by decide))); replace BK216 := Ah (blk_grown (bf BK216 NB216_214) hg (Kd.R_ne HO228.out BK216.out (by decide))); replace HO221 := Ah (Kd.R_over' (rf HO221 BK214) (Kd.R_typed (rf HO228 BK214)) (by decide) hg); replace HO224 := Ah (Kd.R_over' (rf HO224 BK214) (Kd.R_typed (rf HO228 BK214)) (by decide) hg); replace BK214 := Ah (blk_grown (g := gb214) (o := .cells #[.int .i64 t218, .slice Ao19 t219.length co19, .slice Ao20 t222.length co20, .int .i64 t225, .slice Ao21 t226.length co21] 36 (0, 0)) (by (with_reducible repeat (first | refine blk_drewN ?_ _ | refine blk_drew ?_ | refine blk_alloc ?_ _)); refine blk_put (cs := #[.int .i64 t218, .slice Ao19 t219.length co19, .slice Ao20 t222.length co20, .int .i64 t225, .slice A0_4 l0_4.length c0_4]) ?_ 4 _ rfl; (with_reducible repeat (first | refine blk_drewN ?_ _ | refine blk_drew ?_ | refine blk_alloc ?_ _)); refine blk_put (cs := #[.int .i64 t218, .slice Ao19 t219.length co19, .slice Ao20 t222.length co20, .int .i64 a0_3, .slice A0_4 l0_4.length c0_4]) ?_ 3 _ rfl; (with_reducible repeat (first | refine blk_drewN ?_ _ | refine blk_drew ?_ | refine blk_alloc ?_ _)); refine blk_put (cs := #[.int .i64 t218, .slice Ao19 t219.length co19, .slice A0_2 l0_2.length c0_2, .int .i64 a0_3, .slice A0_4 l0_4.length c0_4]) ?_ 2 _ rfl; (with_reducible repeat (first | refine blk_drewN ?_ _ | refine blk_drew ?_ | refine blk_alloc ?_ _)); refine blk_put (cs := #[.int .i64 t218, .slice A0_1 l0_1.length c0_1, .slice A0_2 l0_2.length c0_2, .int .i64 a0_3, .slice A0_4 l0_4.length c0_4]) ?_ 1 _ rfl; (with_reducible repeat (first | refine blk_drewN ?_ _ | refine blk_drew ?_ | refine blk_alloc ?_ _)); refine blk_put (cs := #[.int .i64 a0_0, .slice A0_1 l0_1.length c0_1, .slice A0_2 l0_2.length c0_2, .int .i64 a0_3, .slice A0_4 l0_4.length c0_4]) ?_ 0 _ rfl; (with_reducible repeat (first | refine blk_drewN ?_ _ | refine blk_drew ?_ | refine blk_alloc ?_ _)); exact BK214.out) hg (Kd.R_ne HO228.out BK214.out (by decide))); replace HB := Ah (hb); have HO231 := Ah (ho); clear HO228; clear ho hb hg hat; obtain ⟨Ao25, co25, eo25⟩ := Kd.R_slice HO231.out; subst eo25; obtain ⟨hcz26_0, hcz26_1, hcz26_2, hcz26_3, hcz26_4⟩ := cz5 BK214; obtain ⟨hfz26_0, hfz26_1, hfz26_2, hfz26_3, hfz26_4⟩ := fz5 BK214) | ((with_reducible refine gate_callee (f := 20) rfl ?_); refine gL (some 27) rfl rfl Try.func20 (by kernel_rfl) rfl #[.agg #[.int .i64 t218, .slice Ao19 t219.length co19, .slice Ao20 t222.length co20, .int .i64 (wrap64 (t225 + 1)), .slice Ao25 y229.length co25]] rfl ?_; (with_reducible refine (spec_GoodWork.calls k t218 _ _ t219 _ _ t222 (wrap64 (t225 + 1)) _ _ y229 true _ ?side1 ?side2 ?side3 ?side4 ?side5 ?side6 A7.out).mono ?_); (case side1 => refine (Kd.R_reads' (e := 40) (base := w.heap.size) (ok := fun k_ => (some k_ ≠ (.slice Ao20 t222.length co20 : Value).ownBlock ∧ k_ ≠ gb215)) (n := t219.length) (c := co19) ?_).2.2; exact (by (with_reducible repeat (first | apply Kd.R_alloc | apply Kd.R_drewN | apply Kd.R_drew)); exact (Kd.R_mono (Kd.R_far (p := ⟨gb214, 3, none⟩) (Kd.R_far (p := ⟨gb214, 4, none⟩) (Kd.R_types HO221.out BK214.out (by decide)) (fun _ hk => hk.2) (.slice Ao25 y229.length co25)) (fun _ hk => hk.2) (.int .i64 (wrap64 (t225 + 1)))) (fun _ h_ => h_.1)))); (case side2 => exact (Kd.R_reads' HO221.out).2.1); (case side3 => refine (Kd.R_reads' (e := 40) (base := w.heap.size) (ok := fun k_ => (some k_ ≠ (.slice Ao19 t219.length co19 : Value).ownBlock ∧ k_ ≠ gb215)) (n := t222.length) (c := co20) ?_).2.2; exact (by (with_reducible repeat (first | apply Kd.R_alloc | apply Kd.R_drewN | apply Kd.R_drew)); exact (Kd.R_mono (Kd.R_far (p := ⟨gb214, 3, none⟩) (Kd.R_far (p := ⟨gb214, 4, none⟩) (Kd.R_types HO224.out BK214.out (by decide)) (fun _ hk => hk.2) (.slice Ao25 y229.length co25)) (fun _ hk => hk.2) (.int .i64 (wrap64 (t225 + 1)))) (fun _ h_ => h_.1)))); (case side4 => exact (Kd.R_reads' HO224.out).2.1); (case side5 => refine (Kd.R_reads' (e := 56) (base := w.heap.size) (ok := fun k_ => True) (n := y229.length) (c := co25) ?_).2.2; exact (by (with_reducible repeat (first | apply Kd.R_alloc | apply Kd.R_drewN | apply Kd.R_drew)); exact (Kd.R_mono (Kd.R_far (p := ⟨gb214, 3, none⟩) (Kd.R_far (p := ⟨gb214, 4, none⟩) (Kd.R_types HO231.out BK214.out (by decide)) (fun _ hk => hk.2) (.slice Ao25 y229.length co25)) (fun _ hk => hk.2) (.int .i64 (wrap64 (t225 + 1)))) (fun _ h_ => h_.1)))); (case side6 => exact (Kd.R_reads' HO231.out).2.1); rintro e w27 ⟨rfl, hb⟩; refine ⟨_, rfl, ?_⟩; replace HO221 := Ah (Kd.R_below (by (with_reducible repeat (first | apply Kd.R_alloc | apply Kd.R_drewN | apply Kd.R_drew)); exact (Kd.R_mono (Kd.R_far (p := ⟨gb214, 3, none⟩) (Kd.R_far (p := ⟨gb214, 4, none⟩) (Kd.R_types HO221.out BK214.out (by decide)) (fun _ hk => hk.2) (.slice Ao25 y229.length co25)) (fun _ hk => hk.2) (.int .i64 (wrap64 (t225 + 1)))) (fun _ h_ => h_.1))) hb); replace HO224 := Ah (Kd.R_below (by (with_reducible repeat (first | apply Kd.R_alloc | apply Kd.R_drewN | apply Kd.R_drew)); exact (Kd.R_mono (Kd.R_far (p := ⟨gb214, 3, none⟩) (Kd.R_far (p := ⟨gb214, 4, none⟩) (Kd.R_types HO224.out BK214.out (by decide)) (fun _ hk => hk.2) (.slice Ao25 y229.length co25)) (fun _ hk => hk.2) (.int .i64 (wrap64 (t225 + 1)))) (fun _ h_ => h_.1))) hb); replace HO231 := Ah (Kd.R_below (by (with_reducible repeat (first | apply Kd.R_alloc | apply Kd.R_drewN | apply Kd.R_drew)); exact (Kd.R_mono (Kd.R_far (p := ⟨gb214, 3, none⟩) (Kd.R_far (p := ⟨gb214, 4, none⟩) (Kd.R_types HO231.out BK214.out (by decide)) (fun _ hk => hk.2) (.slice Ao25 y229.length co25)) (fun _ hk => hk.2) (.int .i64 (wrap64 (t225 + 1)))) (fun _ h_ => h_.1))) hb); replace BK214 := Ah (blk_below (g := gb214) (o := .cells #[.int .i64 t218, .slice Ao19 t219.length co19, .slice Ao20 t222.length co20, .int .i64 (wrap64 (t225 + 1)), .slice Ao25 y229.length co25] 36 (0, 0)) (by (with_reducible repeat (first | refine blk_drewN ?_ _ | refine blk_drew ?_ | refine blk_alloc ?_ _)); refine blk_put (cs := #[.int .i64 t218, .slice Ao19 t219.length co19, .slice Ao20 t222.length co20, .int .i64 t225, .slice Ao25 y229.length co25]) ?_ 3 _ rfl; (with_reducible repeat (first | refine blk_drewN ?_ _ | refine blk_drew ?_ | refine blk_alloc ?_ _)); refine blk_put (cs := #[.int .i64 t218, .slice Ao19 t219.length co19, .slice Ao20 t222.length co20, .int .i64 t225, .slice Ao21 t226.length co21]) ?_ 4 _ rfl; (with_reducible repeat (first | refine blk_drewN ?_ _ | refine blk_drew ?_ | refine blk_alloc ?_ _)); exact BK214.out) hb); replace BK215 := Ah (blk_below (bf BK215 NB215_214) hb); replace BK216 := Ah (blk_below (bf BK216 NB216_214) hb); replace HB := Ah (below_step (bs3 HB GE214 GE215 GE216) hb); (try clear hb hk)))
 have n0_ := Ah (Kd.R_drew HO221.out)
 have n1_ := Ah (Kd.R_drew HO224.out)
 have n2_ := Ah (Kd.R_drew HO231.out)
 have n3_ := Ah (blk_drew BK214.out)
 have n4_ := Ah (blk_drew BK215.out)
 have n5_ := Ah (blk_drew BK216.out)
 have n6_ := Ah (below_drew1 HB.out)
 clear HO221 HO224 HO231 BK214 BK215 BK216 HB
 have HO221 := n0_
 have HO224 := n1_
 have HO231 := n2_
 have BK214 := n3_
 have BK215 := n4_
 have BK216 := n5_
 have HB := n6_
 clear n0_ n1_ n2_ n3_ n4_ n5_ n6_
 refine start_ (n := 7) (S := fun w' => w'.cell? ⟨gb214, 0, none⟩ = some (.int .i64 t218) ∧ w'.cell? ⟨gb214, 1, none⟩ = some (.slice Ao19 t219.length co19) ∧ w'.cell? ⟨gb214, 2, none⟩ = some (.slice Ao20 t222.length co20) ∧ w'.cell? ⟨gb214, 3, none⟩ = some (.int .i64 (wrap64 (t225 + 1))) ∧ w'.cell? ⟨gb214, 4, none⟩ = some (.slice Ao25 y229.length co25)) (ds := []) #[false, false, false, false, false, false, false] (by kernel_rfl) rfl rfl ⟨(blk_cell BK214.out 0).trans rfl, (blk_cell BK214.out 1).trans rfl, (blk_cell BK214.out 2).trans rfl, (blk_cell BK214.out 3).trans rfl, (blk_cell BK214.out 4).trans rfl⟩ (fun hHeld => ?_)
 generalize w27.drew = w28 at HO221 HO224 HO231 BK214 BK215 BK216 HB hHeld ⊢
 refine pure_ (i := 1) (N := some 31) (v := ?_) (a' := ?_) #[false, true, false, false, false, false, false] rfl rfl (by kernel_rfl) (fun _ _ _ h => h) (Or.inl ⟨by rfl, ?_⟩) ?_ ?_
 rotate_left
 ·
  intro w'
  go_simp
  with_reducible rfl
 rotate_left
 ·
  simp only [Act.put, List.setIfInBounds_toArray, List.set_cons_zero, List.set_cons_succ, i64_w, i32_w]
  rfl
 refine take_ (i := 0) (N := some 30) (v := ?_) (a' := ?_) #[true, true, false, false, false, false, false] rfl rfl (by kernel_rfl) (fun _ _ _ h => h) (Or.inl ⟨by rfl, ?_⟩) hHeld ?_ ?_
 rotate_left
 ·
  rintro w' ⟨s0, s1, s2, s3, s4⟩
  go_simp
  with_reducible rfl
 rotate_left
 ·
  simp only [Act.put, List.setIfInBounds_toArray, List.set_cons_zero, List.set_cons_succ, i64_w, i32_w]
  rfl
 refine take_ (i := 2) (N := some 32) (v := ?_) (a' := ?_) #[true, true, true, false, false, false, false] rfl rfl (by kernel_rfl) (fun _ _ _ h => h) (Or.inl ⟨by rfl, ?_⟩) hHeld ?_ ?_
 rotate_left
 ·
  rintro w' ⟨s0, s1, s2, s3, s4⟩
  go_simp
  with_reducible rfl
 rotate_left
 ·
  simp only [Act.put, List.setIfInBounds_toArray, List.set_cons_zero, List.set_cons_succ, i64_w, i32_w]
  rfl
 refine pure_ (i := 3) (N := some 33) (v := ?_) (a' := ?_) #[true, true, true, true, false, false, false] rfl rfl (by kernel_rfl) (fun _ _ _ h => h) (Or.inl ⟨by rfl, ?_⟩) ?_ ?_
 rotate_left
 ·
  intro w'
  go_simp
  with_reducible rfl
 rotate_left
 ·
  simp only [Act.put, List.setIfInBounds_toArray, List.set_cons_zero, List.set_cons_succ, i64_w, i32_w]
  rfl
 refine one_ (i := 4) (N := none) #[true, true, true, true, true, false, false] rfl rfl (by kernel_rfl) (by decide) (fun K hK => ?_)
 have hs29 : w28.cell? ⟨gb216, 0, none⟩ = some (.int .i64 0) := (blk_cell BK216.out 0).trans rfl
 have hfs29 := blk_frozen BK216.out 0
 have hns29_0 := NB214_216.out
 have hns29_1 := NB215_216.out
 have hms29_0 := NB216_214.out
 have hms29_1 := NB216_215.out
 have hs30 : w28.cell? ⟨gb216, 1, none⟩ = some (.slice none 0 0) := (blk_cell BK216.out 1).trans rfl
 have hfs30 := blk_frozen BK216.out 1
 have hns30_0 := NB214_216.out
 have hns30_1 := NB215_216.out
 have hms30_0 := NB216_214.out
 have hms30_1 := NB216_215.out
 have hs31 : w28.cell? ⟨gb216, 2, none⟩ = some (.slice none 0 0) := (blk_cell BK216.out 2).trans rfl
 have hfs31 := blk_frozen BK216.out 2
 have hns31_0 := NB214_216.out
 have hns31_1 := NB215_216.out
 have hms31_0 := NB216_214.out
 have hms31_1 := NB216_215.out
 have hs32 : w28.cell? ⟨gb216, 3, none⟩ = some (.int .i64 0) := (blk_cell BK216.out 3).trans rfl
 have hfs32 := blk_frozen BK216.out 3
 have hns32_0 := NB214_216.out
 have hns32_1 := NB215_216.out
 have hms32_0 := NB216_214.out
 have hms32_1 := NB216_215.out
 have hs33 : w28.cell? ⟨gb216, 4, none⟩ = some (.slice none 0 0) := (blk_cell BK216.out 4).trans rfl
 have hfs33 := blk_frozen BK216.out 4
 have hns33_0 := NB214_216.out
 have hns33_1 := NB215_216.out
 have hms33_0 := NB216_214.out
 have hms33_1 := NB216_215.out
 refine skip_ (w1 := ?_) (by rfl) rfl ?_ ?_
 rotate_left
 ·
  go_simp
  rfl
 refine hK.out _ _ ⟨((cell_far (p := ⟨gb216, _, none⟩) NB214_216.out _).trans (((cell_far (p := ⟨gb216, _, none⟩) NB214_216.out _).trans (((cell_far (p := ⟨gb216, _, none⟩) NB214_216.out _).trans (((cell_far (p := ⟨gb216, _, none⟩) NB214_216.out _).trans (((cell_far (p := ⟨gb216, _, none⟩) NB214_216.out _).trans (hHeld.1)))))))))), ((cell_far (p := ⟨gb216, _, none⟩) NB214_216.out _).trans (((cell_far (p := ⟨gb216, _, none⟩) NB214_216.out _).trans (((cell_far (p := ⟨gb216, _, none⟩) NB214_216.out _).trans (((cell_far (p := ⟨gb216, _, none⟩) NB214_216.out _).trans (((cell_far (p := ⟨gb216, _, none⟩) NB214_216.out _).trans (hHeld.2.1)))))))))), ((cell_far (p := ⟨gb216, _, none⟩) NB214_216.out _).trans (((cell_far (p := ⟨gb216, _, none⟩) NB214_216.out _).trans (((cell_far (p := ⟨gb216, _, none⟩) NB214_216.out _).trans (((cell_far (p := ⟨gb216, _, none⟩) NB214_216.out _).trans (((cell_far (p := ⟨gb216, _, none⟩) NB214_216.out _).trans (hHeld.2.2.1)))))))))), ((cell_far (p := ⟨gb216, _, none⟩) NB214_216.out _).trans (((cell_far (p := ⟨gb216, _, none⟩) NB214_216.out _).trans (((cell_far (p := ⟨gb216, _, none⟩) NB214_216.out _).trans (((cell_far (p := ⟨gb216, _, none⟩) NB214_216.out _).trans (((cell_far (p := ⟨gb216, _, none⟩) NB214_216.out _).trans (hHeld.2.2.2.1)))))))))), ((cell_far (p := ⟨gb216, _, none⟩) NB214_216.out _).trans (((cell_far (p := ⟨gb216, _, none⟩) NB214_216.out _).trans (((cell_far (p := ⟨gb216, _, none⟩) NB214_216.out _).trans (((cell_far (p := ⟨gb216, _, none⟩) NB214_216.out _).trans (((cell_far (p := ⟨gb216, _, none⟩) NB214_216.out _).trans (hHeld.2.2.2.2))))))))))⟩ (fun hHeld => ?_)
 clear hK K
 refine pure_ (i := 5) (N := some 5) (v := ?_) (a' := ?_) #[true, true, true, true, true, true, false] rfl rfl (by kernel_rfl) (fun _ _ _ h => h) (Or.inl ⟨by rfl, ?_⟩) ?_ ?_
 rotate_left
 ·
  intro w'
  go_simp
  with_reducible rfl
 rotate_left
 ·
  simp only [Act.put, List.setIfInBounds_toArray, List.set_cons_zero, List.set_cons_succ, i64_w, i32_w]
  rfl
 refine pure_ (i := 6) (N := some 6) (v := ?_) (a' := ?_) #[true, true, true, true, true, true, true] rfl rfl (by kernel_rfl) (fun _ _ _ h => h) (Or.inl ⟨by rfl, ?_⟩) ?_ ?_
 rotate_left
 ·
  intro w'
  go_simp
  with_reducible rfl
 rotate_left
 ·
  simp only [Act.put, List.setIfInBounds_toArray, List.set_cons_zero, List.set_cons_succ, i64_w, i32_w]
  rfl
 refine done_ (by kernel_rfl) ?_
 try go_wp2
 refine bodyPost_ret (results_ctt rfl _ _ gb216 36 #[.int .i64 t218, .slice Ao19 t219.length co19, .slice Ao20 t222.length co20, .int .i64 (wrap64 (t225 + 1)), .slice Ao25 y229.length co25] (0, 0) _ rfl (by (with_reducible repeat (first | refine blk_drewN ?_ _ | refine blk_drew ?_ | refine blk_alloc ?_ _)); refine blk_put (cs := #[.int .i64 t218, .slice Ao19 t219.length co19, .slice Ao20 t222.length co20, .int .i64 (wrap64 (t225 + 1)), .slice none 0 0]) ?_ 4 _ rfl; (with_reducible repeat (first | refine blk_drewN ?_ _ | refine blk_drew ?_ | refine blk_alloc ?_ _)); refine blk_put (cs := #[.int .i64 t218, .slice Ao19 t219.length co19, .slice Ao20 t222.length co20, .int .i64 0, .slice none 0 0]) ?_ 3 _ rfl; (with_reducible repeat (first | refine blk_drewN ?_ _ | refine blk_drew ?_ | refine blk_alloc ?_ _)); refine blk_put (cs := #[.int .i64 t218, .slice Ao19 t219.length co19, .slice none 0 0, .int .i64 0, .slice none 0 0]) ?_ 2 _ rfl; (with_reducible repeat (first | refine blk_drewN ?_ _ | refine blk_drew ?_ | refine blk_alloc ?_ _)); refine blk_put (cs := #[.int .i64 t218, .slice none 0 0, .slice none 0 0, .int .i64 0, .slice none 0 0]) ?_ 1 _ rfl; (with_reducible repeat (first | refine blk_drewN ?_ _ | refine blk_drew ?_ | refine blk_alloc ?_ _)); refine blk_put (cs := #[.int .i64 0, .slice none 0 0, .slice none 0 0, .int .i64 0, .slice none 0 0]) ?_ 0 _ rfl; (with_reducible repeat (first | refine blk_drewN ?_ _ | refine blk_drew ?_ | refine blk_alloc ?_ _)); exact BK216.out) Try.underlying36 rfl (by kernel_rfl)) rfl ?_
 exact ⟨_, _, _, er, by (with_reducible repeat (first | apply Kd.R_alloc | apply Kd.R_drewN | apply Kd.R_drew)); exact Kd.R_mono (Kd.R_far (p := ⟨gb216, 4, none⟩) (Kd.R_far (p := ⟨gb216, 3, none⟩) (Kd.R_far (p := ⟨gb216, 2, none⟩) (Kd.R_far (p := ⟨gb216, 1, none⟩) (Kd.R_far (p := ⟨gb216, 0, none⟩) (Kd.R_types HO221.out BK216.out (by decide)) (fun _ hk => hk.2) (.int .i64 t218)) (fun _ hk => hk.2) (.slice Ao19 t219.length co19)) (fun _ hk => hk.2) (.slice Ao20 t222.length co20)) (fun _ hk => hk.2) (.int .i64 (wrap64 (t225 + 1)))) (fun _ hk => hk.2) (.slice Ao25 y229.length co25)) (fun _ hk => hk.1.1), by (with_reducible repeat (first | apply Kd.R_alloc | apply Kd.R_drewN | apply Kd.R_drew)); exact Kd.R_mono (Kd.R_far (p := ⟨gb216, 4, none⟩) (Kd.R_far (p := ⟨gb216, 3, none⟩) (Kd.R_far (p := ⟨gb216, 2, none⟩) (Kd.R_far (p := ⟨gb216, 1, none⟩) (Kd.R_far (p := ⟨gb216, 0, none⟩) (Kd.R_types HO224.out BK216.out (by decide)) (fun _ hk => hk.2) (.int .i64 t218)) (fun _ hk => hk.2) (.slice Ao19 t219.length co19)) (fun _ hk => hk.2) (.slice Ao20 t222.length co20)) (fun _ hk => hk.2) (.int .i64 (wrap64 (t225 + 1)))) (fun _ hk => hk.2) (.slice Ao25 y229.length co25)) (fun _ hk => hk.1.1), by (with_reducible repeat (first | apply Kd.R_alloc | apply Kd.R_drewN | apply Kd.R_drew)); exact Kd.R_mono (Kd.R_far (p := ⟨gb216, 4, none⟩) (Kd.R_far (p := ⟨gb216, 3, none⟩) (Kd.R_far (p := ⟨gb216, 2, none⟩) (Kd.R_far (p := ⟨gb216, 1, none⟩) (Kd.R_far (p := ⟨gb216, 0, none⟩) (Kd.R_types HO231.out BK216.out (by decide)) (fun _ hk => hk.2) (.int .i64 t218)) (fun _ hk => hk.2) (.slice Ao19 t219.length co19)) (fun _ hk => hk.2) (.slice Ao20 t222.length co20)) (fun _ hk => hk.2) (.int .i64 (wrap64 (t225 + 1)))) (fun _ hk => hk.2) (.slice Ao25 y229.length co25)) (fun _ hk => trivial), bs3 HB GE214 GE215 GE216⟩
def laws_toExtent.f (a0_0 : Int) (a0_1 : Int) : Option (Int × Int) := some (a0_0, a0_1)
set_option maxHeartbeats 8000000 in
set_option maxRecDepth 100000 in
theorem laws_toExtent.calls (a0_0 : Int) (a0_1 : Int) (r1 : Int) (r2 : Int) (w : World) (h : laws_toExtent.f a0_0 a0_1 = some (r1, r2)) :
  Calls Try.prog 8 #[.agg #[.int .i64 a0_0, .int .i64 a0_1]] w fun e w' => e = .returned (.agg #[.int .i64 r1, .int .i64 r2]) ∧ Below w.heap.size w w' := by
 have hu29 := Try.underlying29
 have hu40 := Try.underlying40
 have HB := Ah (Below.refl w.heap.size w)
 have H : (some (a0_0, a0_1)) = some (r1, r2) := h
 clear h
 simp only [Option.some.injEq, Prod.mk.injEq] at H
 obtain ⟨rfl, rfl⟩ := H
 go_enter Try.func8, Try.ntmps8
 go_wp2_with (first | ((with_reducible refine gate_dst (N := 1) rfl ?_); refine boxL 1 29 #[.int .i64 a0_0, .int .i64 a0_1] ?_; intro gb233 hg w2 BK233 hb; have GW233 := gw hg (bs HB); have GE233 := gw hg (bs HB); replace HB := Ah (below_step (bs HB) hb); clear hb hg) | ((with_reducible refine gate_dst (N := 2) rfl ?_); refine boxL 2 40 #[.int .i64 0, .int .i64 0] ?_; intro gb234 hg w3 BK234 hb; have GW234 := gw hg (bs1 HB GE233); have GE234 := gw hg (bs1 HB GE233); replace HB := Ah (below_step (bs1 HB GE233) hb); have NB233_234 := nn BK233 hg; have NB234_233 := nm BK233 hg; replace BK233 := nb BK233 hb; clear hb hg) | ((with_reducible refine gate_dst (N := 3) rfl ?_); refine boxL 3 40 #[.int .i64 0, .int .i64 0] ?_; intro gb235 hg w4 BK235 hb; have GW235 := gw hg (bs2 HB GE233 GE234); have GE235 := gw hg (bs2 HB GE233 GE234); replace HB := Ah (below_step (bs2 HB GE233 GE234) hb); have NB233_235 := nn BK233 hg; have NB235_233 := nm BK233 hg; replace BK233 := nb BK233 hb; have NB234_235 := nn BK234 hg; have NB235_234 := nm BK234 hg; replace BK234 := nb BK234 hb; clear hb hg; have hnb5 := NB233_234.out; have hnc5 := NB234_233.out; have hnb6 := NB233_235.out; have hnc6 := NB235_233.out; obtain ⟨hcz7_0, hcz7_1⟩ := cz2 BK233; obtain ⟨hfz7_0, hfz7_1⟩ := fz2 BK233; have hnb8 := NB235_234.out; have hnc8 := NB234_235.out; obtain ⟨hcz9_0, hcz9_1⟩ := cz2 BK235; obtain ⟨hfz9_0, hfz9_1⟩ := fz2 BK235; obtain ⟨hcz10_0, hcz10_1⟩ := cz2 BK234; obtain ⟨hfz10_0, hfz10_1⟩ := fz2 BK234))
 refine bodyPost_ret (results_cell_row rfl _ _ gb234 40 #[.int .i64 a0_0, .int .i64 a0_1] (0, 0) _ rfl (by (with_reducible repeat (first | refine blk_drewN ?_ _ | refine blk_drew ?_ | refine blk_alloc ?_ _)); refine blk_put (cs := #[.int .i64 a0_0, .int .i64 0]) ?_ 1 _ rfl; (with_reducible repeat (first | refine blk_drewN ?_ _ | refine blk_drew ?_ | refine blk_alloc ?_ _)); refine blk_put (cs := #[.int .i64 0, .int .i64 0]) ?_ 0 _ rfl; (with_reducible repeat (first | refine blk_drewN ?_ _ | refine blk_drew ?_ | refine blk_alloc ?_ _)); refine blk_far ?_ NB234_235.out _; (with_reducible repeat (first | refine blk_drewN ?_ _ | refine blk_drew ?_ | refine blk_alloc ?_ _)); refine blk_far ?_ NB234_235.out _; (with_reducible repeat (first | refine blk_drewN ?_ _ | refine blk_drew ?_ | refine blk_alloc ?_ _)); exact BK234.out) Try.underlying40 rfl (by kernel_rfl)) rfl ?_
 exact ⟨er, bs3 HB GE233 GE234 GE235⟩
def laws_toItem.f (a0_0 : Int) (a0_1 : Int) (a0_2 : Int) (a0_3 : Int) (a0_4 : Int) : Option (Int × Int × Int × Int × Int) := (laws_toExtent.f a0_2 a0_3).bind fun bt239 => (some (a0_0, a0_1, bt239.1, bt239.2, a0_4))
set_option maxHeartbeats 8000000 in
set_option maxRecDepth 100000 in
theorem laws_toItem.calls (a0_0 : Int) (a0_1 : Int) (a0_2 : Int) (a0_3 : Int) (a0_4 : Int) (r1 : Int) (r2 : Int) (r3 : Int) (r4 : Int) (r5 : Int) (w : World) (h : laws_toItem.f a0_0 a0_1 a0_2 a0_3 a0_4 = some (r1, r2, r3, r4, r5)) :
  Calls Try.prog 31 #[.agg #[.int .i64 a0_0, .int .i64 a0_1, .int .i64 a0_2, .int .i64 a0_3, .int .i64 a0_4]] w fun e w' => e = .returned (.agg #[.int .i64 r1, .int .i64 r2, .int .i64 r3, .int .i64 r4, .int .i64 r5]) ∧ Below w.heap.size w w' := by
 have hu68 := Try.underlying68
 have hu56 := Try.underlying56
 have hu29 := Try.underlying29
 have hu40 := Try.underlying40
 have HB := Ah (Below.refl w.heap.size w)
 have H : ((laws_toExtent.f a0_2 a0_3).bind fun bt239 => (some (a0_0, a0_1, bt239.1, bt239.2, a0_4))) = some (r1, r2, r3, r4, r5) := h
 clear h
 replace H := Option.bind_eq_some_iff.mp H
 obtain ⟨⟨t239, t240⟩, A20, H⟩ := H
 try dsimp only at H
 have A2 := Ah A20
 clear A20
 simp only [Option.some.injEq, Prod.mk.injEq] at H
 obtain ⟨rfl, rfl, rfl, rfl, rfl⟩ := H
 go_enter Try.func31, Try.ntmps31
 go_wp2_with (first | ((with_reducible refine gate_dst (N := 1) rfl ?_); refine boxL 1 68 #[.int .i64 a0_0, .int .i64 a0_1, .int .i64 a0_2, .int .i64 a0_3, .int .i64 a0_4] ?_; intro gb236 hg w3 BK236 hb; have GW236 := gw hg (bs HB); have GE236 := gw hg (bs HB); replace HB := Ah (below_step (bs HB) hb); clear hb hg) | ((with_reducible refine gate_dst (N := 2) rfl ?_); refine boxL 2 56 #[.int .i64 0, .int .i64 0, .int .i64 0, .int .i64 0, .int .i64 0] ?_; intro gb237 hg w4 BK237 hb; have GW237 := gw hg (bs1 HB GE236); have GE237 := gw hg (bs1 HB GE236); replace HB := Ah (below_step (bs1 HB GE236) hb); have NB236_237 := nn BK236 hg; have NB237_236 := nm BK236 hg; replace BK236 := nb BK236 hb; clear hb hg) | ((with_reducible refine gate_dst (N := 3) rfl ?_); refine boxL 3 56 #[.int .i64 0, .int .i64 0, .int .i64 0, .int .i64 0, .int .i64 0] ?_; intro gb238 hg w5 BK238 hb; have GW238 := gw hg (bs2 HB GE236 GE237); have GE238 := gw hg (bs2 HB GE236 GE237); replace HB := Ah (below_step (bs2 HB GE236 GE237) hb); have NB236_238 := nn BK236 hg; have NB238_236 := nm BK236 hg; replace BK236 := nb BK236 hb; have NB237_238 := nn BK237 hg; have NB238_237 := nm BK237 hg; replace BK237 := nb BK237 hb; clear hb hg; have hnb6 := NB236_237.out; have hnc6 := NB237_236.out; have hnb7 := NB236_238.out; have hnc7 := NB238_236.out; obtain ⟨hcz8_0, hcz8_1, hcz8_2, hcz8_3, hcz8_4⟩ := cz5 BK236; obtain ⟨hfz8_0, hfz8_1, hfz8_2, hfz8_3, hfz8_4⟩ := fz5 BK236; have hnb9 := NB238_237.out; have hnc9 := NB237_238.out; obtain ⟨hcz10_0, hcz10_1, hcz10_2, hcz10_3, hcz10_4⟩ := cz5 BK238; obtain ⟨hfz10_0, hfz10_1, hfz10_2, hfz10_3, hfz10_4⟩ := fz5 BK238) | ((with_reducible refine gate_callee (f := 8) rfl ?_); refine gL (some 12) rfl rfl Try.func8 (by kernel_rfl) rfl #[.agg #[.int .i64 a0_2, .int .i64 a0_3]] rfl ?_; (with_reducible refine (laws_toExtent.calls a0_2 a0_3 t239 t240 _ A2.out).mono ?_); rintro e w11 ⟨rfl, hb⟩; refine ⟨_, rfl, ?_⟩; replace BK236 := Ah (blk_below (bf BK236 NB236_238) hb); replace BK237 := Ah (blk_below (bf BK237 NB237_238) hb); replace BK238 := Ah (blk_below (g := gb238) (o := .cells #[.int .i64 a0_0, .int .i64 a0_1, .int .i64 0, .int .i64 0, .int .i64 0] 56 (0, 0)) (by (with_reducible repeat (first | refine blk_drewN ?_ _ | refine blk_drew ?_ | refine blk_alloc ?_ _)); refine blk_put (cs := #[.int .i64 a0_0, .int .i64 0, .int .i64 0, .int .i64 0, .int .i64 0]) ?_ 1 _ rfl; (with_reducible repeat (first | refine blk_drewN ?_ _ | refine blk_drew ?_ | refine blk_alloc ?_ _)); refine blk_put (cs := #[.int .i64 0, .int .i64 0, .int .i64 0, .int .i64 0, .int .i64 0]) ?_ 0 _ rfl; (with_reducible repeat (first | refine blk_drewN ?_ _ | refine blk_drew ?_ | refine blk_alloc ?_ _)); exact BK238.out) hb); replace HB := Ah (below_step (bs3 HB GE236 GE237 GE238) hb); (try clear hb); obtain ⟨hcz12_0, hcz12_1, hcz12_2, hcz12_3, hcz12_4⟩ := cz5 BK238; obtain ⟨hfz12_0, hfz12_1, hfz12_2, hfz12_3, hfz12_4⟩ := fz5 BK238; obtain ⟨hcz13_0, hcz13_1, hcz13_2, hcz13_3, hcz13_4⟩ := cz5 BK236; obtain ⟨hfz13_0, hfz13_1, hfz13_2, hfz13_3, hfz13_4⟩ := fz5 BK236; obtain ⟨hcz14_0, hcz14_1, hcz14_2, hcz14_3, hcz14_4⟩ := cz5 BK237; obtain ⟨hfz14_0, hfz14_1, hfz14_2, hfz14_3, hfz14_4⟩ := fz5 BK237))
 refine bodyPost_ret (results_cell_row rfl _ _ gb237 56 #[.int .i64 a0_0, .int .i64 a0_1, .int .i64 t239, .int .i64 t240, .int .i64 a0_4] (0, 0) _ rfl (by (with_reducible repeat (first | refine blk_drewN ?_ _ | refine blk_drew ?_ | refine blk_alloc ?_ _)); refine blk_put (cs := #[.int .i64 a0_0, .int .i64 a0_1, .int .i64 t239, .int .i64 t240, .int .i64 0]) ?_ 4 _ rfl; (with_reducible repeat (first | refine blk_drewN ?_ _ | refine blk_drew ?_ | refine blk_alloc ?_ _)); refine blk_put (cs := #[.int .i64 a0_0, .int .i64 a0_1, .int .i64 t239, .int .i64 0, .int .i64 0]) ?_ 3 _ rfl; (with_reducible repeat (first | refine blk_drewN ?_ _ | refine blk_drew ?_ | refine blk_alloc ?_ _)); refine blk_put (cs := #[.int .i64 a0_0, .int .i64 a0_1, .int .i64 0, .int .i64 0, .int .i64 0]) ?_ 2 _ rfl; (with_reducible repeat (first | refine blk_drewN ?_ _ | refine blk_drew ?_ | refine blk_alloc ?_ _)); refine blk_put (cs := #[.int .i64 a0_0, .int .i64 0, .int .i64 0, .int .i64 0, .int .i64 0]) ?_ 1 _ rfl; (with_reducible repeat (first | refine blk_drewN ?_ _ | refine blk_drew ?_ | refine blk_alloc ?_ _)); refine blk_put (cs := #[.int .i64 0, .int .i64 0, .int .i64 0, .int .i64 0, .int .i64 0]) ?_ 0 _ rfl; (with_reducible repeat (first | refine blk_drewN ?_ _ | refine blk_drew ?_ | refine blk_alloc ?_ _)); refine blk_far ?_ NB237_238.out _; (with_reducible repeat (first | refine blk_drewN ?_ _ | refine blk_drew ?_ | refine blk_alloc ?_ _)); refine blk_far ?_ NB237_238.out _; (with_reducible repeat (first | refine blk_drewN ?_ _ | refine blk_drew ?_ | refine blk_alloc ?_ _)); refine blk_far ?_ NB237_238.out _; (with_reducible repeat (first | refine blk_drewN ?_ _ | refine blk_drew ?_ | refine blk_alloc ?_ _)); exact BK237.out) Try.underlying56 rfl (by kernel_rfl)) rfl ?_
 exact ⟨er, bs3 HB GE236 GE237 GE238⟩
def laws_toItemS.l0 : Nat → List (S68) → List (S56) → Int → Option ((List (S56)))
 | 0, _, _, _ => none
 | k + 1, x0, x3, x4 => if x4 < (x0.length : Int) then (if 0 ≤ x4 then ((laws_toItem.f ((rd_T68 x0 x4).f0) ((rd_T68 x0 x4).f1) ((rd_T68 x0 x4).f2.f0) ((rd_T68 x0 x4).f2.f1) ((rd_T68 x0 x4).f3)).bind fun bt245 => (if x4 < (x3.length : Int) then (laws_toItemS.l0 k x0 (x3.set (x4 : Int).toNat (⟨bt245.1, bt245.2.1, (⟨bt245.2.2.1, bt245.2.2.2.1⟩ : S40), bt245.2.2.2.2⟩ : S56)) (wrap64 (x4 + 1))) else (none))) else (none)) else (some x3)
def laws_toItemS.f (k : Nat) (l0 : List (S68)) : Option ((List (S56))) := if 0 ≤ (l0.length : Int) then (if ((l0.length : Int) : Int).toNat ≤ 7036874417766 then (laws_toItemS.l0 k l0 (List.replicate ((l0.length : Int) : Int).toNat z56) 0) else (none)) else (none)
theorem laws_toItemS.mono_l : ∀ k, (∀ y0 y1 y2, LeO (laws_toItemS.l0 k y0 y1 y2) (laws_toItemS.l0 (k + 1) y0 y1 y2))
 | 0 => fun _ _ _ r h => by simp [laws_toItemS.l0] at h
 | k + 1 => by
  have ih0 := laws_toItemS.mono_l k
  ·
   intro y0 y1 y2
   unfold laws_toItemS.l0
   repeat' first
   | (with_reducible exact ih0 _ _ _)
   | (with_reducible exact LeO.refl _)
   | (with_reducible exact LeO.none _)
   | (with_reducible refine LeO.ite ?_ ?_)
   | (with_reducible refine LeO.bind ?_ (fun _ => ?_))
   | exact ih0 _ _ _
   | exact LeO.none _
   | refine LeO.ite ?_ ?_
   | refine LeO.bind ?_ (fun _ => ?_)
theorem laws_toItemS.mono : ∀ a0 k, LeO (laws_toItemS.f k a0) (laws_toItemS.f (k + 1) a0) := by
 intro a0 k
 have ih0 := laws_toItemS.mono_l k
 unfold laws_toItemS.f
 repeat' first
   | (with_reducible exact ih0 _ _ _)
   | (with_reducible exact LeO.refl _)
   | (with_reducible exact LeO.none _)
   | (with_reducible refine LeO.ite ?_ ?_)
   | (with_reducible refine LeO.bind ?_ (fun _ => ?_))
   | exact ih0 _ _ _
   | exact LeO.none _
   | refine LeO.ite ?_ ?_
   | refine LeO.bind ?_ (fun _ => ?_)
set_option maxHeartbeats 8000000 in
set_option maxRecDepth 100000 in
theorem laws_toItemS.calls (k : Nat) (A0 : Option Addr) (c0 : Nat) (l0 : List (S68)) (r : List (S56)) (w : World) (hr0 : Kd.C k68 w A0 l0.length l0) (hc0 : l0.length ≤ c0) (h : laws_toItemS.f k l0 = some r) :
  Calls Try.prog 15 #[.slice A0 l0.length c0] w fun e w' => ∃ v0_ : Value, e = .returned (v0_) ∧ Kd.R k56 56 w' w.heap.size (fun _ => True) v0_ r ∧ Below w.heap.size w w' := by
 have hu68 := Try.underlying68
 have hu56 := Try.underlying56
 have HR0 := Ah hr0
 have HC0 := Ah hc0
 clear hr0 hc0
 have HB := Ah (Below.refl w.heap.size w)
 have H : (if 0 ≤ (l0.length : Int) then (if ((l0.length : Int) : Int).toNat ≤ 7036874417766 then (laws_toItemS.l0 k l0 (List.replicate ((l0.length : Int) : Int).toNat z56) 0) else (none)) else (none)) = some r := h
 clear h
 by_cases c2 : 0 ≤ (l0.length : Int)
 rotate_left
 ·
  rw [if_neg c2] at H
  exact absurd H (by simp)
 rw [if_pos c2] at H
 have c2b0 := eq_true c2
 have c2b1 : decide (0 ≤ (l0.length : Int)) = true := decide_eq_true c2
 clear c2
 by_cases c3 : ((l0.length : Int) : Int).toNat ≤ 7036874417766
 rotate_left
 ·
  rw [if_neg c3] at H
  exact absurd H (by simp)
 rw [if_pos c3] at H
 have c3b0 := eq_true c3
 have c3b1 : decide (((l0.length : Int) : Int).toNat ≤ 7036874417766) = true := decide_eq_true c3
 clear c3
 obtain ⟨y241, hy241⟩ : ∃ y_ : List (S56), y_ = (List.replicate ((l0.length : Int) : Int).toNat z56) := ⟨_, rfl⟩
 replace H : (laws_toItemS.l0 k l0 y241 0) = some r := by first | (rw [hy241]; with_reducible exact H) | (have H2_ := (Option.bind_some _ _).symm.trans H; rw [hy241]; with_reducible exact H2_) | (have H2_ := (Option.bind_some _ _).symm.trans H; with_reducible exact H2_) | with_reducible exact H | (rw [hy241]; exact H) | exact H
 have Ny241 := Ah hy241
 clear hy241
 have H' := Ah H
 clear H
 go_enter Try.func15, Try.ntmps15
 go_wp2_with (first | ((with_reducible refine gate_dst (N := 7) rfl ?_); refine Kd.R_make k56 _ 56 rfl (N := 7) rfl 34 _ _ rfl (l0.length : Int) rfl rfl Try.underlying34 (.agg #[(.int .i64 0), (.int .i64 0), (.int .i64 0), (.int .i64 0), (.int .i64 0)]) 40 info56 rfl (by decide) (by omega) z56 (ok := fun _ => True) (okp := fun _ => True) (k56_mkM _ _ _ z56 ) (fun _ hk => hk) trivial (od) (Nat.le_trans (Nat.mul_le_mul_right _ (od : (l0.length : Int).toNat ≤ 7036874417766)) (by omega)) (Below.refl _ _) (Nat.le_refl _) ?_; intro v242 w4 ho5 hb hg_ hnew_; clear hg_ hnew_; (first | rw [← Ny241.out] at ho5 | (simp only [Int.reduceToNat] at ho5; rw [← Ny241.out] at ho5)); have HO243 := Ah (Kd.R_lower ho5 (below_size (bs HB))); replace HB := Ah (below_step (bs HB) hb); clear hb ho5))
 go_loopg [4] k (fun kq v4 w' => ∃ (x3_1 : List (S56)) (x4_1 : Int), v4 = .int .i64 x4_1 ∧ Aside0 (laws_toItemS.l0 kq l0 x3_1 x4_1 = some r) ∧ Aside0 (kq ≤ k) ∧ Aside0 (Kd.R k56 56 w' w.heap.size (fun _ => True) v242 x3_1) ∧ Aside0 (Below w.heap.size w w'))
 case atStart => exact ⟨(y241), (0), e3, H', ⟨Nat.le_refl _⟩, ⟨rr HO243.out⟩, ⟨bs HB⟩⟩
 case round =>
  clear H'
  try clear c1
  try clear c2
  try clear c2b0
  try clear c2b1
  try clear p2
  try clear c3
  try clear c3b0
  try clear c3b1
  obtain ⟨x3_1, x4_1, rfl, HA, HK1, HO_3, HB⟩ := hrel
  cases gk with
  | zero => exact absurd HA.out (by simp [laws_toItemS.l0])
  | succ k1 =>
   have H := HA.out
   clear HA
   simp only [laws_toItemS.l0] at H
   by_cases c6 : x4_1 < (l0.length : Int)
   rotate_left
   ·
    rw [if_neg c6] at H
    have c6b0 : decide (x4_1 < (l0.length : Int)) = false := decide_eq_false c6
    clear c6
    obtain rfl := Option.some.inj H
    go_wp2
    go_ret
    exact ⟨_, er, by (with_reducible repeat (first | apply Kd.R_alloc | apply Kd.R_drewN | apply Kd.R_drew)); exact HO_3.out, bs HB⟩
   rw [if_pos c6] at H
   have c6b0 : decide (x4_1 < (l0.length : Int)) = true := decide_eq_true c6
   clear c6
   by_cases c7 : 0 ≤ x4_1
   rotate_left
   ·
    rw [if_neg c7] at H
    exact absurd H (by simp)
   rw [if_pos c7] at H
   have c7b0 : decide (0 ≤ x4_1) = true := decide_eq_true c7
   clear c7
   replace H := Option.bind_eq_some_iff.mp H
   obtain ⟨⟨t245, t246, t247, t248, t249⟩, A80, H⟩ := H
   try dsimp only at H
   have A8 := Ah A80
   clear A80
   by_cases c9 : x4_1 < (x3_1.length : Int)
   rotate_left
   ·
    rw [if_neg c9] at H
    exact absurd H (by simp)
   rw [if_pos c9] at H
   have c9b0 : decide (x4_1 < (x3_1.length : Int)) = true := decide_eq_true c9
   clear c9
   obtain ⟨y250, hy250⟩ : ∃ y_ : List (S56), y_ = (x3_1.set (x4_1 : Int).toNat (⟨t245, t246, (⟨t247, t248⟩ : S40), t249⟩ : S56)) := ⟨_, rfl⟩
   replace H : (laws_toItemS.l0 k1 l0 y250 (wrap64 (x4_1 + 1))) = some r := by first | (rw [hy250]; with_reducible exact H) | (have H2_ := (Option.bind_some _ _).symm.trans H; rw [hy250]; with_reducible exact H2_) | (have H2_ := (Option.bind_some _ _).symm.trans H; with_reducible exact H2_) | with_reducible exact H | (rw [hy250]; exact H) | exact H
   have Ny250 := Ah hy250
   clear hy250
   have H' := Ah H
   clear H
   have p244 : 0 ≤ (x4_1 : Int) := od
   have q244 : x4_1 < (l0.length : Int) := od
   obtain ⟨ad244, e244, hx244_0, hx244_1, hx244_2, hx244_3, hx244_4⟩ := at_T68 HR0.out x4_1 p244 q244
   cases e244
   replace hx244_0 := (HB.out.cell (World.block_lt_of_cell? w _ hx244_0)).trans hx244_0
   replace hx244_1 := (HB.out.cell (World.block_lt_of_cell? w _ hx244_1)).trans hx244_1
   replace hx244_2 := (HB.out.cell (World.block_lt_of_cell? w _ hx244_2)).trans hx244_2
   replace hx244_3 := (HB.out.cell (World.block_lt_of_cell? w _ hx244_3)).trans hx244_3
   replace hx244_4 := (HB.out.cell (World.block_lt_of_cell? w _ hx244_4)).trans hx244_4
   replace p244 := eq_true p244
   replace q244 := eq_true q244
   go_wp2_with (first | ((with_reducible refine gate_callee (f := 31) rfl ?_); refine gL (some 20) rfl rfl Try.func31 (by kernel_rfl) rfl #[.agg #[.int .i64 ((rd_T68 l0 x4_1).f0), .int .i64 ((rd_T68 l0 x4_1).f1), .int .i64 ((rd_T68 l0 x4_1).f2.f0), .int .i64 ((rd_T68 l0 x4_1).f2.f1), .int .i64 ((rd_T68 l0 x4_1).f3)]] rfl ?_; (with_reducible refine (laws_toItem.calls ((rd_T68 l0 x4_1).f0) ((rd_T68 l0 x4_1).f1) ((rd_T68 l0 x4_1).f2.f0) ((rd_T68 l0 x4_1).f2.f1) ((rd_T68 l0 x4_1).f3) t245 t246 t247 t248 t249 _ A8.out).mono ?_); rintro e w11 ⟨rfl, hb⟩; refine ⟨_, rfl, ?_⟩; replace HO_3 := nr HO_3 hb; replace HB := Ah (below_step (bs HB) hb); (try clear hb); have p10 : 0 ≤ (x4_1 : Int) := od; have q10 : (x4_1 : Int) < ((x3_1.length : Int) : Int) := od; obtain ⟨go10, co10, eo10, gb10, gl10, cl10, HG10⟩ := Kd.R_form HO_3.out (by omega); (first | cases eo10 | (injection eo10 with ea_ en_ ec_; (first | subst ea_ | (injection ea_ with ea_; subst ea_)); subst ec_; clear en_)); have GB10 := Ah gb10; have GG10 := Ah HG10; clear gb10 gl10 HG10; obtain ⟨ce10, hcl10, hM10, hcc10, hfr10⟩ := Kd.R_elem HO_3.out z56 (x4_1 : Int) p10 q10; obtain rfl := k56_openM hM10; have hx10_0 : w11.cell? ⟨go10, (x4_1 : Int).toNat * 5, none⟩ = some (.int .i64 ((rd_T56 x3_1 x4_1).f0)) := hcc10 0 _ rfl; have hx10_1 : w11.cell? ⟨go10, (x4_1 : Int).toNat * 5 + 1, none⟩ = some (.int .i64 ((rd_T56 x3_1 x4_1).f1)) := hcc10 1 _ rfl; have hx10_2 : w11.cell? ⟨go10, (x4_1 : Int).toNat * 5 + 2, none⟩ = some (.int .i64 ((rd_T56 x3_1 x4_1).f2.f0)) := hcc10 2 _ rfl; have hx10_3 : w11.cell? ⟨go10, (x4_1 : Int).toNat * 5 + 3, none⟩ = some (.int .i64 ((rd_T56 x3_1 x4_1).f2.f1)) := hcc10 3 _ rfl; have hx10_4 : w11.cell? ⟨go10, (x4_1 : Int).toNat * 5 + 4, none⟩ = some (.int .i64 ((rd_T56 x3_1 x4_1).f3)) := hcc10 4 _ rfl; have hf10_0 : w11.frozen? ⟨go10, (x4_1 : Int).toNat * 5, none⟩ = false := hfr10 0; have hf10_1 : w11.frozen? ⟨go10, (x4_1 : Int).toNat * 5 + 1, none⟩ = false := hfr10 1; have hf10_2 : w11.frozen? ⟨go10, (x4_1 : Int).toNat * 5 + 2, none⟩ = false := hfr10 2; have hf10_3 : w11.frozen? ⟨go10, (x4_1 : Int).toNat * 5 + 3, none⟩ = false := hfr10 3; have hf10_4 : w11.frozen? ⟨go10, (x4_1 : Int).toNat * 5 + 4, none⟩ = false := hfr10 4; clear hcl10 hcc10 hfr10 hM10; replace p10 := eq_true p10; replace q10 := eq_true q10; have HX12 := Ah (show Kd.R k56 56 w11 w.heap.size (fun _ => True) (.slice (some ⟨go10, 0, none⟩) x3_1.length co10) x3_1 from (rr HO_3.out)); obtain ⟨ce12, hcl12, hM12, hcc12, hfr12⟩ := Kd.R_elem HX12.out z56 (x4_1 : Int) (od) (by have h_ : (x4_1 : Int) < ((x3_1.length : Int) : Int) := od; first | exact h_ | (have e_ := (Kd.R_reads' HO_3.out).1; omega) | simpa using h_); obtain rfl := k56_openM hM12; have HP12 := Kd.R_seg HX12.out (x4_1 : Int) (od) (by have h_ : (x4_1 : Int) < ((x3_1.length : Int) : Int) := od; first | exact h_ | (have e_ := (Kd.R_reads' HO_3.out).1; omega) | simpa using h_) (seg := [.int .i64 t245, .int .i64 t246, .int .i64 t247, .int .i64 t248, .int .i64 t249]) (j := 0) hcl12 hcc12 (show 5 ≤ 5 from by decide) (x' := (⟨t245, t246, (⟨t247, t248⟩ : S40), t249⟩ : S56)) (k56_mkM _ _ _ (⟨t245, t246, (⟨t247, t248⟩ : S40), t249⟩ : S56) ) (fun _ hk => hk); have hx12_0 := hcc12 0 _ rfl; (try simp only [show (k56).sz = 5 from rfl, Nat.mul_one, Nat.add_zero] at hx12_0); have hf12_0 := hfr12 0; (try simp only [show (k56).sz = 5 from rfl, Nat.mul_one, Nat.add_zero] at hf12_0); have hx12_1 := hcc12 1 _ rfl; (try simp only [show (k56).sz = 5 from rfl, Nat.mul_one, Nat.add_zero] at hx12_1); have hf12_1 := hfr12 1; (try simp only [show (k56).sz = 5 from rfl, Nat.mul_one, Nat.add_zero] at hf12_1); have hx12_2 := hcc12 2 _ rfl; (try simp only [show (k56).sz = 5 from rfl, Nat.mul_one, Nat.add_zero] at hx12_2); have hf12_2 := hfr12 2; (try simp only [show (k56).sz = 5 from rfl, Nat.mul_one, Nat.add_zero] at hf12_2); have hx12_3 := hcc12 3 _ rfl; (try simp only [show (k56).sz = 5 from rfl, Nat.mul_one, Nat.add_zero] at hx12_3); have hf12_3 := hfr12 3; (try simp only [show (k56).sz = 5 from rfl, Nat.mul_one, Nat.add_zero] at hf12_3); have hx12_4 := hcc12 4 _ rfl; (try simp only [show (k56).sz = 5 from rfl, Nat.mul_one, Nat.add_zero] at hx12_4); have hf12_4 := hfr12 4; (try simp only [show (k56).sz = 5 from rfl, Nat.mul_one, Nat.add_zero] at hf12_4); clear hcl12 hcc12 hfr12 hM12) | ((with_reducible refine gate_store (t := 56) (p := 21) rfl ?_); refine store_event (t := 56) (p := 21) (v := ?vo_w13) (w1 := (((((w11.setCell ⟨go10, (x4_1 : Int).toNat * 5, none⟩ (.int .i64 t245)).setCell ⟨go10, (x4_1 : Int).toNat * 5 + 1, none⟩ (.int .i64 t246)).setCell ⟨go10, (x4_1 : Int).toNat * 5 + 2, none⟩ (.int .i64 t247)).setCell ⟨go10, (x4_1 : Int).toNat * 5 + 3, none⟩ (.int .i64 t248)).setCell ⟨go10, (x4_1 : Int).toNat * 5 + 4, none⟩ (.int .i64 t249))) ?hg ?ho ?hn ?hr ?_; (case ho => rfl); (case hg => rfl); (case hn => rfl); (case hr => first | (go_simp; done) | (go_simp; rfl)); intro w13 hw; have hg : w11.grownBy w13 (some go10) := (by rw [hw]; exact HP12.2); have hp_ : Kd.R k56 56 w13 w.heap.size (fun _ => True) (.slice (some ⟨go10, 0, none⟩) x3_1.length co10) y250 := (by rw [hw, Ny250.out]; exact HP12.1); clear HP12; replace HO_3 := Ah (hp_); replace HB := Ah ((by rw [hw]; exact below_set (below_set (below_set (below_set (below_set (HB.out) GB10.out) GB10.out) GB10.out) GB10.out) GB10.out : Below w.heap.size w w13)); clear hg hw hp_))
   go_roundg k1
   case measure => have := HK1.out; omega
   case rel => exact ⟨(y250), (wrap64 (x4_1 + 1)), e3, H', ⟨by have := HK1.out; omega⟩, ⟨rr HO_3.out⟩, ⟨bs HB⟩⟩
def laws_toExtentS.l0 : Nat → List (S29) → List (S40) → Int → Option ((List (S40)))
 | 0, _, _, _ => none
 | k + 1, x0, x3, x4 => if x4 < (x0.length : Int) then (if 0 ≤ x4 then ((laws_toExtent.f ((rd_T29 x0 x4).f0) ((rd_T29 x0 x4).f1)).bind fun bt255 => (if x4 < (x3.length : Int) then (laws_toExtentS.l0 k x0 (x3.set (x4 : Int).toNat (⟨bt255.1, bt255.2⟩ : S40)) (wrap64 (x4 + 1))) else (none))) else (none)) else (some x3)
def laws_toExtentS.f (k : Nat) (l0 : List (S29)) : Option ((List (S40))) := if 0 ≤ (l0.length : Int) then (if ((l0.length : Int) : Int).toNat ≤ 17592186044416 then (laws_toExtentS.l0 k l0 (List.replicate ((l0.length : Int) : Int).toNat z40) 0) else (none)) else (none)
theorem laws_toExtentS.mono_l : ∀ k, (∀ y0 y1 y2, LeO (laws_toExtentS.l0 k y0 y1 y2) (laws_toExtentS.l0 (k + 1) y0 y1 y2))
 | 0 => fun _ _ _ r h => by simp [laws_toExtentS.l0] at h
 | k + 1 => by
  have ih0 := laws_toExtentS.mono_l k
  ·
   intro y0 y1 y2
   unfold laws_toExtentS.l0
   repeat' first
   | (with_reducible exact ih0 _ _ _)
   | (with_reducible exact LeO.refl _)
   | (with_reducible exact LeO.none _)
   | (with_reducible refine LeO.ite ?_ ?_)
   | (with_reducible refine LeO.bind ?_ (fun _ => ?_))
   | exact ih0 _ _ _
   | exact LeO.none _
   | refine LeO.ite ?_ ?_
   | refine LeO.bind ?_ (fun _ => ?_)
theorem laws_toExtentS.mono : ∀ a0 k, LeO (laws_toExtentS.f k a0) (laws_toExtentS.f (k + 1) a0) := by
 intro a0 k
 have ih0 := laws_toExtentS.mono_l k
 unfold laws_toExtentS.f
 repeat' first
   | (with_reducible exact ih0 _ _ _)
   | (with_reducible exact LeO.refl _)
   | (with_reducible exact LeO.none _)
   | (with_reducible refine LeO.ite ?_ ?_)
   | (with_reducible refine LeO.bind ?_ (fun _ => ?_))
   | exact ih0 _ _ _
   | exact LeO.none _
   | refine LeO.ite ?_ ?_
   | refine LeO.bind ?_ (fun _ => ?_)
set_option maxHeartbeats 8000000 in
set_option maxRecDepth 100000 in
theorem laws_toExtentS.calls (k : Nat) (A0 : Option Addr) (c0 : Nat) (l0 : List (S29)) (r : List (S40)) (w : World) (hr0 : Kd.C k29 w A0 l0.length l0) (hc0 : l0.length ≤ c0) (h : laws_toExtentS.f k l0 = some r) :
  Calls Try.prog 39 #[.slice A0 l0.length c0] w fun e w' => ∃ v0_ : Value, e = .returned (v0_) ∧ Kd.R k40 40 w' w.heap.size (fun _ => True) v0_ r ∧ Below w.heap.size w w' := by
 have hu29 := Try.underlying29
 have hu40 := Try.underlying40
 have HR0 := Ah hr0
 have HC0 := Ah hc0
 clear hr0 hc0
 have HB := Ah (Below.refl w.heap.size w)
 have H : (if 0 ≤ (l0.length : Int) then (if ((l0.length : Int) : Int).toNat ≤ 17592186044416 then (laws_toExtentS.l0 k l0 (List.replicate ((l0.length : Int) : Int).toNat z40) 0) else (none)) else (none)) = some r := h
 clear h
 by_cases c2 : 0 ≤ (l0.length : Int)
 rotate_left
 ·
  rw [if_neg c2] at H
  exact absurd H (by simp)
 rw [if_pos c2] at H
 have c2b0 := eq_true c2
 have c2b1 : decide (0 ≤ (l0.length : Int)) = true := decide_eq_true c2
 clear c2
 by_cases c3 : ((l0.length : Int) : Int).toNat ≤ 17592186044416
 rotate_left
 ·
  rw [if_neg c3] at H
  exact absurd H (by simp)
 rw [if_pos c3] at H
 have c3b0 := eq_true c3
 have c3b1 : decide (((l0.length : Int) : Int).toNat ≤ 17592186044416) = true := decide_eq_true c3
 clear c3
 obtain ⟨y251, hy251⟩ : ∃ y_ : List (S40), y_ = (List.replicate ((l0.length : Int) : Int).toNat z40) := ⟨_, rfl⟩
 replace H : (laws_toExtentS.l0 k l0 y251 0) = some r := by first | (rw [hy251]; with_reducible exact H) | (have H2_ := (Option.bind_some _ _).symm.trans H; rw [hy251]; with_reducible exact H2_) | (have H2_ := (Option.bind_some _ _).symm.trans H; with_reducible exact H2_) | with_reducible exact H | (rw [hy251]; exact H) | exact H
 have Ny251 := Ah hy251
 clear hy251
 have H' := Ah H
 clear H
 go_enter Try.func39, Try.ntmps39
 go_wp2_with (first | ((with_reducible refine gate_dst (N := 7) rfl ?_); refine Kd.R_make k40 _ 40 rfl (N := 7) rfl 31 _ _ rfl (l0.length : Int) rfl rfl Try.underlying31 (.agg #[(.int .i64 0), (.int .i64 0)]) 16 info40 rfl (by decide) (by omega) z40 (ok := fun _ => True) (okp := fun _ => True) (k40_mkM _ _ _ z40 ) (fun _ hk => hk) trivial (od) (Nat.le_trans (Nat.mul_le_mul_right _ (od : (l0.length : Int).toNat ≤ 17592186044416)) (by omega)) (Below.refl _ _) (Nat.le_refl _) ?_; intro v252 w4 ho5 hb hg_ hnew_; clear hg_ hnew_; (first | rw [← Ny251.out] at ho5 | (simp only [Int.reduceToNat] at ho5; rw [← Ny251.out] at ho5)); have HO253 := Ah (Kd.R_lower ho5 (below_size (bs HB))); replace HB := Ah (below_step (bs HB) hb); clear hb ho5))
 go_loopg [4] k (fun kq v4 w' => ∃ (x3_1 : List (S40)) (x4_1 : Int), v4 = .int .i64 x4_1 ∧ Aside0 (laws_toExtentS.l0 kq l0 x3_1 x4_1 = some r) ∧ Aside0 (kq ≤ k) ∧ Aside0 (Kd.R k40 40 w' w.heap.size (fun _ => True) v252 x3_1) ∧ Aside0 (Below w.heap.size w w'))
 case atStart => exact ⟨(y251), (0), e3, H', ⟨Nat.le_refl _⟩, ⟨rr HO253.out⟩, ⟨bs HB⟩⟩
 case round =>
  clear H'
  try clear c2
  try clear c2b0
  try clear c2b1
  try clear p2
  try clear c3
  try clear c3b0
  try clear c3b1
  obtain ⟨x3_1, x4_1, rfl, HA, HK1, HO_3, HB⟩ := hrel
  cases gk with
  | zero => exact absurd HA.out (by simp [laws_toExtentS.l0])
  | succ k1 =>
   have H := HA.out
   clear HA
   simp only [laws_toExtentS.l0] at H
   by_cases c6 : x4_1 < (l0.length : Int)
   rotate_left
   ·
    rw [if_neg c6] at H
    have c6b0 : decide (x4_1 < (l0.length : Int)) = false := decide_eq_false c6
    clear c6
    obtain rfl := Option.some.inj H
    go_wp2
    go_ret
    exact ⟨_, er, by (with_reducible repeat (first | apply Kd.R_alloc | apply Kd.R_drewN | apply Kd.R_drew)); exact HO_3.out, bs HB⟩
   rw [if_pos c6] at H
   have c6b0 : decide (x4_1 < (l0.length : Int)) = true := decide_eq_true c6
   clear c6
   by_cases c7 : 0 ≤ x4_1
   rotate_left
   ·
    rw [if_neg c7] at H
    exact absurd H (by simp)
   rw [if_pos c7] at H
   have c7b0 : decide (0 ≤ x4_1) = true := decide_eq_true c7
   clear c7
   replace H := Option.bind_eq_some_iff.mp H
   obtain ⟨⟨t255, t256⟩, A80, H⟩ := H
   try dsimp only at H
   have A8 := Ah A80
   clear A80
   by_cases c9 : x4_1 < (x3_1.length : Int)
   rotate_left
   ·
    rw [if_neg c9] at H
    exact absurd H (by simp)
   rw [if_pos c9] at H
   have c9b0 : decide (x4_1 < (x3_1.length : Int)) = true := decide_eq_true c9
   clear c9
   obtain ⟨y257, hy257⟩ : ∃ y_ : List (S40), y_ = (x3_1.set (x4_1 : Int).toNat (⟨t255, t256⟩ : S40)) := ⟨_, rfl⟩
   replace H : (laws_toExtentS.l0 k1 l0 y257 (wrap64 (x4_1 + 1))) = some r := by first | (rw [hy257]; with_reducible exact H) | (have H2_ := (Option.bind_some _ _).symm.trans H; rw [hy257]; with_reducible exact H2_) | (have H2_ := (Option.bind_some _ _).symm.trans H; with_reducible exact H2_) | with_reducible exact H | (rw [hy257]; exact H) | exact H
   have Ny257 := Ah hy257
   clear hy257
   have H' := Ah H
   clear H
   have p254 : 0 ≤ (x4_1 : Int) := od
   have q254 : x4_1 < (l0.length : Int) := od
   obtain ⟨ad254, e254, hx254_0, hx254_1⟩ := at_T29 HR0.out x4_1 p254 q254
   cases e254
   replace hx254_0 := (HB.out.cell (World.block_lt_of_cell? w _ hx254_0)).trans hx254_0
   replace hx254_1 := (HB.out.cell (World.block_lt_of_cell? w _ hx254_1)).trans hx254_1
   replace p254 := eq_true p254
   replace q254 := eq_true q254
   go_wp2_with (first | ((with_reducible refine gate_callee (f := 8) rfl ?_); refine gL (some 20) rfl rfl Try.func8 (by kernel_rfl) rfl #[.agg #[.int .i64 ((rd_T29 l0 x4_1).f0), .int .i64 ((rd_T29 l0 x4_1).f1)]] rfl ?_; (with_reducible refine (laws_toExtent.calls ((rd_T29 l0 x4_1).f0) ((rd_T29 l0 x4_1).f1) t255 t256 _ A8.out).mono ?_); rintro e w11 ⟨rfl, hb⟩; refine ⟨_, rfl, ?_⟩; replace HO_3 := nr HO_3 hb; replace HB := Ah (below_step (bs HB) hb); (try clear hb); have p10 : 0 ≤ (x4_1 : Int) := od; have q10 : (x4_1 : Int) < ((x3_1.length : Int) : Int) := od; obtain ⟨go10, co10, eo10, gb10, gl10, cl10, HG10⟩ := Kd.R_form HO_3.out (by omega); (first | cases eo10 | (injection eo10 with ea_ en_ ec_; (first | subst ea_ | (injection ea_ with ea_; subst ea_)); subst ec_; clear en_)); have GB10 := Ah gb10; have GG10 := Ah HG10; clear gb10 gl10 HG10; obtain ⟨ce10, hcl10, hM10, hcc10, hfr10⟩ := Kd.R_elem HO_3.out z40 (x4_1 : Int) p10 q10; obtain rfl := k40_openM hM10; have hx10_0 : w11.cell? ⟨go10, (x4_1 : Int).toNat * 2, none⟩ = some (.int .i64 ((rd_T40 x3_1 x4_1).f0)) := hcc10 0 _ rfl; have hx10_1 : w11.cell? ⟨go10, (x4_1 : Int).toNat * 2 + 1, none⟩ = some (.int .i64 ((rd_T40 x3_1 x4_1).f1)) := hcc10 1 _ rfl; have hf10_0 : w11.frozen? ⟨go10, (x4_1 : Int).toNat * 2, none⟩ = false := hfr10 0; have hf10_1 : w11.frozen? ⟨go10, (x4_1 : Int).toNat * 2 + 1, none⟩ = false := hfr10 1; clear hcl10 hcc10 hfr10 hM10; replace p10 := eq_true p10; replace q10 := eq_true q10; have HX12 := Ah (show Kd.R k40 40 w11 w.heap.size (fun _ => True) (.slice (some ⟨go10, 0, none⟩) x3_1.length co10) x3_1 from (rr HO_3.out)); obtain ⟨ce12, hcl12, hM12, hcc12, hfr12⟩ := Kd.R_elem HX12.out z40 (x4_1 : Int) (od) (by have h_ : (x4_1 : Int) < ((x3_1.length : Int) : Int) := od; first | exact h_ | (have e_ := (Kd.R_reads' HO_3.out).1; omega) | simpa using h_); obtain rfl := k40_openM hM12; have HP12 := Kd.R_seg HX12.out (x4_1 : Int) (od) (by have h_ : (x4_1 : Int) < ((x3_1.length : Int) : Int) := od; first | exact h_ | (have e_ := (Kd.R_reads' HO_3.out).1; omega) | simpa using h_) (seg := [.int .i64 t255, .int .i64 t256]) (j := 0) hcl12 hcc12 (show 2 ≤ 2 from by decide) (x' := (⟨t255, t256⟩ : S40)) (k40_mkM _ _ _ (⟨t255, t256⟩ : S40) ) (fun _ hk => hk); have hx12_0 := hcc12 0 _ rfl; (try simp only [show (k40).sz = 2 from rfl, Nat.mul_one, Nat.add_zero] at hx12_0); have hf12_0 := hfr12 0; (try simp only [show (k40).sz = 2 from rfl, Nat.mul_one, Nat.add_zero] at hf12_0); have hx12_1 := hcc12 1 _ rfl; (try simp only [show (k40).sz = 2 from rfl, Nat.mul_one, Nat.add_zero] at hx12_1); have hf12_1 := hfr12 1; (try simp only [show (k40).sz = 2 from rfl, Nat.mul_one, Nat.add_zero] at hf12_1); clear hcl12 hcc12 hfr12 hM12) | ((with_reducible refine gate_store (t := 40) (p := 21) rfl ?_); refine store_event (t := 40) (p := 21) (v := ?vo_w13) (w1 := ((w11.setCell ⟨go10, (x4_1 : Int).toNat * 2, none⟩ (.int .i64 t255)).setCell ⟨go10, (x4_1 : Int).toNat * 2 + 1, none⟩ (.int .i64 t256))) ?hg ?ho ?hn ?hr ?_; (case ho => rfl); (case hg => rfl); (case hn => rfl); (case hr => first | (go_simp; done) | (go_simp; rfl)); intro w13 hw; have hg : w11.grownBy w13 (some go10) := (by rw [hw]; exact HP12.2); have hp_ : Kd.R k40 40 w13 w.heap.size (fun _ => True) (.slice (some ⟨go10, 0, none⟩) x3_1.length co10) y257 := (by rw [hw, Ny257.out]; exact HP12.1); clear HP12; replace HO_3 := Ah (hp_); replace HB := Ah ((by rw [hw]; exact below_set (below_set (HB.out) GB10.out) GB10.out : Below w.heap.size w w13)); clear hg hw hp_))
   go_roundg k1
   case measure => have := HK1.out; omega
   case rel => exact ⟨(y257), (wrap64 (x4_1 + 1)), e3, H', ⟨by have := HK1.out; omega⟩, ⟨rr HO_3.out⟩, ⟨bs HB⟩⟩
def laws_toFree.f (k : Nat) (a0_0 : Int) (l0_1 : List (S29)) (l0_2 : List (S29)) : Option (Int × (List (S40)) × (List (S40))) := (laws_toExtentS.f k l0_1).bind fun t261 => ((laws_toExtentS.f k l0_2).bind fun t264 => (some (a0_0, t261, t264)))
theorem laws_toFree.mono : ∀ a0 a1 a2 k, LeO (laws_toFree.f k a0 a1 a2) (laws_toFree.f (k + 1) a0 a1 a2) := by
 intro a0 a1 a2 k
 unfold laws_toFree.f
 repeat' first
   | (with_reducible exact laws_toExtentS.mono _ _)
   | (with_reducible exact LeO.refl _)
   | (with_reducible exact LeO.none _)
   | (with_reducible refine LeO.ite ?_ ?_)
   | (with_reducible refine LeO.bind ?_ (fun _ => ?_))
   | exact laws_toExtentS.mono _ _
   | exact LeO.none _
   | refine LeO.ite ?_ ?_
   | refine LeO.bind ?_ (fun _ => ?_)
set_option maxHeartbeats 8000000 in
set_option maxRecDepth 100000 in
theorem laws_toFree.calls (k : Nat) (a0_0 : Int) (A0_1 : Option Addr) (c0_1 : Nat) (l0_1 : List (S29)) (A0_2 : Option Addr) (c0_2 : Nat) (l0_2 : List (S29)) (r1 : Int) (r2 : List (S40)) (r3 : List (S40)) (w : World) (hr0_1 : Kd.C k29 w A0_1 l0_1.length l0_1) (hc0_1 : l0_1.length ≤ c0_1) (hr0_2 : Kd.C k29 w A0_2 l0_2.length l0_2) (hc0_2 : l0_2.length ≤ c0_2) (h : laws_toFree.f k a0_0 l0_1 l0_2 = some (r1, r2, r3)) :
  Calls Try.prog 22 #[.agg #[.int .i64 a0_0, .slice A0_1 l0_1.length c0_1, .slice A0_2 l0_2.length c0_2]] w fun e w' => ∃ v1_ v2_ : Value, e = .returned (.agg #[.int .i64 r1, v1_, v2_]) ∧ Kd.R k40 40 w' w.heap.size (fun k_ => some k_ ≠ (v2_ : Value).ownBlock) v1_ r2 ∧ Kd.R k40 40 w' w.heap.size (fun k_ => some k_ ≠ (v1_ : Value).ownBlock) v2_ r3 ∧ Below w.heap.size w w' := by
 have hu24 := Try.underlying24
 have hu33 := Try.underlying33
 have HR0_1 := Ah hr0_1
 have HC0_1 := Ah hc0_1
 clear hr0_1 hc0_1
 have HR0_2 := Ah hr0_2
 have HC0_2 := Ah hc0_2
 clear hr0_2 hc0_2
 have HB := Ah (Below.refl w.heap.size w)
 have H : ((laws_toExtentS.f k l0_1).bind fun t261 => ((laws_toExtentS.f k l0_2).bind fun t264 => (some (a0_0, t261, t264)))) = some (r1, r2, r3) := h
 clear h
 replace H := Option.bind_eq_some_iff.mp H
 obtain ⟨t261, A20, H⟩ := H
 try dsimp only at H
 have A2 := Ah A20
 clear A20
 replace H := Option.bind_eq_some_iff.mp H
 obtain ⟨t264, A30, H⟩ := H
 try dsimp only at H
 have A3 := Ah A30
 clear A30
 simp only [Option.some.injEq, Prod.mk.injEq] at H
 obtain ⟨rfl, rfl, rfl⟩ := H
 go_enter Try.func22, Try.ntmps22
 go_wp2_with (first | ((with_reducible refine gate_dst (N := 1) rfl ?_); refine boxL 1 24 #[.int .i64 a0_0, .slice A0_1 l0_1.length c0_1, .slice A0_2 l0_2.length c0_2] ?_; intro gb258 hg w4 BK258 hb; have GW258 := gw hg (bs HB); have GE258 := gw hg (bs HB); replace HB := Ah (below_step (bs HB) hb); clear hb hg) | ((with_reducible refine gate_dst (N := 2) rfl ?_); refine boxL 2 33 #[.int .i64 0, .slice none 0 0, .slice none 0 0] ?_; intro gb259 hg w5 BK259 hb; have GW259 := gw hg (bs1 HB GE258); have GE259 := gw hg (bs1 HB GE258); replace HB := Ah (below_step (bs1 HB GE258) hb); have NB258_259 := nn BK258 hg; have NB259_258 := nm BK258 hg; replace BK258 := nb BK258 hb; clear hb hg) | ((with_reducible refine gate_dst (N := 3) rfl ?_); refine boxL 3 33 #[.int .i64 0, .slice none 0 0, .slice none 0 0] ?_; intro gb260 hg w6 BK260 hb; have GW260 := gw hg (bs2 HB GE258 GE259); have GE260 := gw hg (bs2 HB GE258 GE259); replace HB := Ah (below_step (bs2 HB GE258 GE259) hb); have NB258_260 := nn BK258 hg; have NB260_258 := nm BK258 hg; replace BK258 := nb BK258 hb; have NB259_260 := nn BK259 hg; have NB260_259 := nm BK259 hg; replace BK259 := nb BK259 hb; clear hb hg; have hnb7 := NB258_259.out; have hnc7 := NB259_258.out; have hnb8 := NB258_260.out; have hnc8 := NB260_258.out; obtain ⟨hcz9_0, hcz9_1, hcz9_2⟩ := cz3 BK258; obtain ⟨hfz9_0, hfz9_1, hfz9_2⟩ := fz3 BK258; have hnb10 := NB260_259.out; have hnc10 := NB259_260.out; obtain ⟨hcz11_0, hcz11_1, hcz11_2⟩ := cz3 BK260; obtain ⟨hfz11_0, hfz11_1, hfz11_2⟩ := fz3 BK260) | ((with_reducible refine gate_callee (f := 39) rfl ?_); refine gL (some 9) rfl rfl Try.func39 (by kernel_rfl) rfl #[.slice A0_1 l0_1.length c0_1] rfl ?_; (with_reducible refine (laws_toExtentS.calls k _ _ l0_1 t261 _ ?side1 ?side2 A2.out).mono ?_); (case side1 => exact Kd.C_below HR0_1.out (bs3 HB GE258 GE259 GE260)); (case side2 => exact HC0_1.out); rintro e w12 ⟨v262, rfl, ho0, hb⟩; refine ⟨_, rfl, ?_⟩; have HO263 := Ah (Kd.R_lower ho0 (below_size (bs3 HB GE258 GE259 GE260))); replace BK258 := Ah (blk_below (bf BK258 NB258_260) hb); replace BK259 := Ah (blk_below (bf BK259 NB259_260) hb); replace BK260 := Ah (blk_below (g := gb260) (o := .cells #[.int .i64 a0_0, .slice none 0 0, .slice none 0 0] 33 (0, 0)) (by (with_reducible repeat (first | refine blk_drewN ?_ _ | refine blk_drew ?_ | refine blk_alloc ?_ _)); refine blk_put (cs := #[.int .i64 0, .slice none 0 0, .slice none 0 0]) ?_ 0 _ rfl; (with_reducible repeat (first | refine blk_drewN ?_ _ | refine blk_drew ?_ | refine blk_alloc ?_ _)); exact BK260.out) hb); replace HB := Ah (below_step (bs3 HB GE258 GE259 GE260) hb); (try clear hb ho0); obtain ⟨Ao13, co13, eo13⟩ := Kd.R_slice HO263.out; subst eo13; obtain ⟨hcz14_0, hcz14_1, hcz14_2⟩ := cz3 BK260; obtain ⟨hfz14_0, hfz14_1, hfz14_2⟩ := fz3 BK260; obtain ⟨hcz15_0, hcz15_1, hcz15_2⟩ := cz3 BK258; obtain ⟨hfz15_0, hfz15_1, hfz15_2⟩ := fz3 BK258) | ((with_reducible refine gate_callee (f := 39) rfl ?_); refine gL (some 13) rfl rfl Try.func39 (by kernel_rfl) rfl #[.slice A0_2 l0_2.length c0_2] rfl ?_; (with_reducible refine (laws_toExtentS.calls k _ _ l0_2 t264 _ ?side1 ?side2 A3.out).mono ?_); (case side1 => exact Kd.C_below HR0_2.out (bs3 HB GE258 GE259 GE260)); (case side2 => exact HC0_2.out); rintro e w16 ⟨v265, rfl, ho0, hb⟩; refine ⟨_, rfl, ?_⟩; have HO266 := Ah (Kd.R_lower (Kd.R_new' ho0 (Kd.R_lt (rf HO263 BK260))) (below_size (bs3 HB GE258 GE259 GE260))); replace HO263 := Ah (Kd.R_elder' (rf HO263 BK260) (Kd.R_base ho0) hb); replace BK258 := Ah (blk_below (bf BK258 NB258_260) hb); replace BK259 := Ah (blk_below (bf BK259 NB259_260) hb); replace BK260 := Ah (blk_below (g := gb260) (o := .cells #[.int .i64 a0_0, .slice Ao13 t261.length co13, .slice none 0 0] 33 (0, 0)) (by (with_reducible repeat (first | refine blk_drewN ?_ _ | refine blk_drew ?_ | refine blk_alloc ?_ _)); refine blk_put (cs := #[.int .i64 a0_0, .slice none 0 0, .slice none 0 0]) ?_ 1 _ rfl; (with_reducible repeat (first | refine blk_drewN ?_ _ | refine blk_drew ?_ | refine blk_alloc ?_ _)); exact BK260.out) hb); replace HB := Ah (below_step (bs3 HB GE258 GE259 GE260) hb); (try clear hb ho0); obtain ⟨Ao17, co17, eo17⟩ := Kd.R_slice HO266.out; subst eo17; obtain ⟨hcz18_0, hcz18_1, hcz18_2⟩ := cz3 BK260; obtain ⟨hfz18_0, hfz18_1, hfz18_2⟩ := fz3 BK260; obtain ⟨hcz19_0, hcz19_1, hcz19_2⟩ := cz3 BK259; obtain ⟨hfz19_0, hfz19_1, hfz19_2⟩ := fz3 BK259))
 refine bodyPost_ret (results_cell_row rfl _ _ gb259 33 #[.int .i64 a0_0, .slice Ao13 t261.length co13, .slice Ao17 t264.length co17] (0, 0) _ rfl (by (with_reducible repeat (first | refine blk_drewN ?_ _ | refine blk_drew ?_ | refine blk_alloc ?_ _)); refine blk_put (cs := #[.int .i64 a0_0, .slice Ao13 t261.length co13, .slice none 0 0]) ?_ 2 _ rfl; (with_reducible repeat (first | refine blk_drewN ?_ _ | refine blk_drew ?_ | refine blk_alloc ?_ _)); refine blk_put (cs := #[.int .i64 a0_0, .slice none 0 0, .slice none 0 0]) ?_ 1 _ rfl; (with_reducible repeat (first | refine blk_drewN ?_ _ | refine blk_drew ?_ | refine blk_alloc ?_ _)); refine blk_put (cs := #[.int .i64 0, .slice none 0 0, .slice none 0 0]) ?_ 0 _ rfl; (with_reducible repeat (first | refine blk_drewN ?_ _ | refine blk_drew ?_ | refine blk_alloc ?_ _)); refine blk_far ?_ NB259_260.out _; (with_reducible repeat (first | refine blk_drewN ?_ _ | refine blk_drew ?_ | refine blk_alloc ?_ _)); exact BK259.out) Try.underlying33 rfl (by kernel_rfl)) rfl ?_
 exact ⟨_, _, er, by (with_reducible repeat (first | apply Kd.R_alloc | apply Kd.R_drewN | apply Kd.R_drew)); exact Kd.R_mono (Kd.R_far (p := ⟨gb259, 2, none⟩) (Kd.R_far (p := ⟨gb259, 1, none⟩) (Kd.R_far (p := ⟨gb259, 0, none⟩) (Kd.R_far (p := ⟨gb260, 2, none⟩) (Kd.R_types (Kd.R_types HO263.out BK260.out (by decide)) BK259.out (by decide)) (fun _ hk => hk.1.2) (.slice Ao17 t264.length co17)) (fun _ hk => hk.2) (.int .i64 a0_0)) (fun _ hk => hk.2) (.slice Ao13 t261.length co13)) (fun _ hk => hk.2) (.slice Ao17 t264.length co17)) (fun _ hk => hk.1.1.2), by (with_reducible repeat (first | apply Kd.R_alloc | apply Kd.R_drewN | apply Kd.R_drew)); exact Kd.R_mono (Kd.R_far (p := ⟨gb259, 2, none⟩) (Kd.R_far (p := ⟨gb259, 1, none⟩) (Kd.R_far (p := ⟨gb259, 0, none⟩) (Kd.R_far (p := ⟨gb260, 2, none⟩) (Kd.R_types (Kd.R_types HO266.out BK260.out (by decide)) BK259.out (by decide)) (fun _ hk => hk.1.2) (.slice Ao17 t264.length co17)) (fun _ hk => hk.2) (.int .i64 a0_0)) (fun _ hk => hk.2) (.slice Ao13 t261.length co13)) (fun _ hk => hk.2) (.slice Ao17 t264.length co17)) (fun _ hk => hk.1.1.2), bs3 HB GE258 GE259 GE260⟩
def laws_toWork.f (k : Nat) (a0_0 : Int) (l0_1 : List (S29)) (l0_2 : List (S29)) (a0_3 : Int) (l0_4 : List (S68)) : Option (Int × (List (S40)) × (List (S40)) × Int × (List (S56))) := (laws_toFree.f k a0_0 l0_1 l0_2).bind fun bt270 => ((laws_toItemS.f k l0_4).bind fun t277 => (some (bt270.1, bt270.2.1, bt270.2.2, a0_3, t277)))
theorem laws_toWork.mono : ∀ a0 a1 a2 a3 a4 k, LeO (laws_toWork.f k a0 a1 a2 a3 a4) (laws_toWork.f (k + 1) a0 a1 a2 a3 a4) := by
 intro a0 a1 a2 a3 a4 k
 unfold laws_toWork.f
 repeat' first
   | (with_reducible exact laws_toFree.mono _ _ _ _)
   | (with_reducible exact laws_toItemS.mono _ _)
   | (with_reducible exact LeO.refl _)
   | (with_reducible exact LeO.none _)
   | (with_reducible refine LeO.ite ?_ ?_)
   | (with_reducible refine LeO.bind ?_ (fun _ => ?_))
   | exact laws_toFree.mono _ _ _ _
   | exact laws_toItemS.mono _ _
   | exact LeO.none _
   | refine LeO.ite ?_ ?_
   | refine LeO.bind ?_ (fun _ => ?_)
set_option maxHeartbeats 8000000 in
set_option maxRecDepth 100000 in
theorem laws_toWork.calls (k : Nat) (a0_0 : Int) (A0_1 : Option Addr) (c0_1 : Nat) (l0_1 : List (S29)) (A0_2 : Option Addr) (c0_2 : Nat) (l0_2 : List (S29)) (a0_3 : Int) (A0_4 : Option Addr) (c0_4 : Nat) (l0_4 : List (S68)) (r1 : Int) (r2 : List (S40)) (r3 : List (S40)) (r4 : Int) (r5 : List (S56)) (w : World) (hr0_1 : Kd.C k29 w A0_1 l0_1.length l0_1) (hc0_1 : l0_1.length ≤ c0_1) (hr0_2 : Kd.C k29 w A0_2 l0_2.length l0_2) (hc0_2 : l0_2.length ≤ c0_2) (hr0_4 : Kd.C k68 w A0_4 l0_4.length l0_4) (hc0_4 : l0_4.length ≤ c0_4) (h : laws_toWork.f k a0_0 l0_1 l0_2 a0_3 l0_4 = some (r1, r2, r3, r4, r5)) :
  Calls Try.prog 7 #[.agg #[.int .i64 a0_0, .slice A0_1 l0_1.length c0_1, .slice A0_2 l0_2.length c0_2, .int .i64 a0_3, .slice A0_4 l0_4.length c0_4]] w fun e w' => ∃ v1_ v2_ v4_ : Value, e = .returned (.agg #[.int .i64 r1, v1_, v2_, .int .i64 r4, v4_]) ∧ Kd.R k40 40 w' w.heap.size (fun k_ => some k_ ≠ (v2_ : Value).ownBlock) v1_ r2 ∧ Kd.R k40 40 w' w.heap.size (fun k_ => some k_ ≠ (v1_ : Value).ownBlock) v2_ r3 ∧ Kd.R k56 56 w' w.heap.size (fun _ => True) v4_ r5 ∧ Below w.heap.size w w' := by
 have hu27 := Try.underlying27
 have hu36 := Try.underlying36
 have hu24 := Try.underlying24
 have hu33 := Try.underlying33
 have HR0_1 := Ah hr0_1
 have HC0_1 := Ah hc0_1
 clear hr0_1 hc0_1
 have HR0_2 := Ah hr0_2
 have HC0_2 := Ah hc0_2
 clear hr0_2 hc0_2
 have HR0_4 := Ah hr0_4
 have HC0_4 := Ah hc0_4
 clear hr0_4 hc0_4
 have HB := Ah (Below.refl w.heap.size w)
 have H : ((laws_toFree.f k a0_0 l0_1 l0_2).bind fun bt270 => ((laws_toItemS.f k l0_4).bind fun t277 => (some (bt270.1, bt270.2.1, bt270.2.2, a0_3, t277)))) = some (r1, r2, r3, r4, r5) := h
 clear h
 replace H := Option.bind_eq_some_iff.mp H
 obtain ⟨⟨t270, t271, t274⟩, A20, H⟩ := H
 try dsimp only at H
 have A2 := Ah A20
 clear A20
 replace H := Option.bind_eq_some_iff.mp H
 obtain ⟨t277, A30, H⟩ := H
 try dsimp only at H
 have A3 := Ah A30
 clear A30
 simp only [Option.some.injEq, Prod.mk.injEq] at H
 obtain ⟨rfl, rfl, rfl, rfl, rfl⟩ := H
 go_enter Try.func7, Try.ntmps7
 go_wp2_with (first | ((with_reducible refine gate_dst (N := 1) rfl ?_); refine boxL 1 27 #[.int .i64 a0_0, .slice A0_1 l0_1.length c0_1, .slice A0_2 l0_2.length c0_2, .int .i64 a0_3, .slice A0_4 l0_4.length c0_4] ?_; intro gb267 hg w4 BK267 hb; have GW267 := gw hg (bs HB); have GE267 := gw hg (bs HB); replace HB := Ah (below_step (bs HB) hb); clear hb hg) | ((with_reducible refine gate_dst (N := 2) rfl ?_); refine boxL 2 36 #[.int .i64 0, .slice none 0 0, .slice none 0 0, .int .i64 0, .slice none 0 0] ?_; intro gb268 hg w5 BK268 hb; have GW268 := gw hg (bs1 HB GE267); have GE268 := gw hg (bs1 HB GE267); replace HB := Ah (below_step (bs1 HB GE267) hb); have NB267_268 := nn BK267 hg; have NB268_267 := nm BK267 hg; replace BK267 := nb BK267 hb; clear hb hg) | ((with_reducible refine gate_dst (N := 3) rfl ?_); refine boxL 3 36 #[.int .i64 0, .slice none 0 0, .slice none 0 0, .int .i64 0, .slice none 0 0] ?_; intro gb269 hg w6 BK269 hb; have GW269 := gw hg (bs2 HB GE267 GE268); have GE269 := gw hg (bs2 HB GE267 GE268); replace HB := Ah (below_step (bs2 HB GE267 GE268) hb); have NB267_269 := nn BK267 hg; have NB269_267 := nm BK267 hg; replace BK267 := nb BK267 hb; have NB268_269 := nn BK268 hg; have NB269_268 := nm BK268 hg; replace BK268 := nb BK268 hb; clear hb hg; have hnb7 := NB267_268.out; have hnc7 := NB268_267.out; have hnb8 := NB267_269.out; have hnc8 := NB269_267.out; obtain ⟨hcz9_0, hcz9_1, hcz9_2, hcz9_3, hcz9_4⟩ := cz5 BK267; obtain ⟨hfz9_0, hfz9_1, hfz9_2, hfz9_3, hfz9_4⟩ := fz5 BK267) | ((with_reducible refine gate_callee (f := 22) rfl ?_); refine gL (some 6) rfl rfl Try.func22 (by kernel_rfl) rfl #[.agg #[.int .i64 a0_0, .slice A0_1 l0_1.length c0_1, .slice A0_2 l0_2.length c0_2]] rfl ?_; (with_reducible refine (laws_toFree.calls k a0_0 _ _ l0_1 _ _ l0_2 t270 t271 t274 _ ?side1 ?side2 ?side3 ?side4 A2.out).mono ?_); (case side1 => exact cb HR0_1 HB); (case side2 => exact HC0_1.out); (case side3 => exact cb HR0_2 HB); (case side4 => exact HC0_2.out); rintro e w10 ⟨v272, v275, rfl, ho0, ho1, hb⟩; refine ⟨_, rfl, ?_⟩; have HO273 := Ah (Kd.R_lower ho0 (below_size (bs3 HB GE267 GE268 GE269))); have HO276 := Ah (Kd.R_lower ho1 (below_size (bs3 HB GE267 GE268 GE269))); replace BK267 := nb BK267 hb; replace BK268 := nb BK268 hb; replace BK269 := nb BK269 hb; replace HB := Ah (below_step (bs3 HB GE267 GE268 GE269) hb); (try clear hb ho0 ho1); have hnb11 := NB269_268.out; have hnc11 := NB268_269.out; obtain ⟨hcz12_0, hcz12_1, hcz12_2, hcz12_3, hcz12_4⟩ := cz5 BK269; obtain ⟨hfz12_0, hfz12_1, hfz12_2, hfz12_3, hfz12_4⟩ := fz5 BK269; obtain ⟨Ao13, co13, eo13⟩ := Kd.R_slice HO273.out; subst eo13; obtain ⟨Ao14, co14, eo14⟩ := Kd.R_slice HO276.out; subst eo14; obtain ⟨hcz15_0, hcz15_1, hcz15_2, hcz15_3, hcz15_4⟩ := cz5 BK267; obtain ⟨hfz15_0, hfz15_1, hfz15_2, hfz15_3, hfz15_4⟩ := fz5 BK267) | ((with_reducible refine gate_callee (f := 15) rfl ?_); refine gL (some 13) rfl rfl Try.func15 (by kernel_rfl) rfl #[.slice A0_4 l0_4.length c0_4] rfl ?_; (with_reducible refine (laws_toItemS.calls k _ _ l0_4 t277 _ ?side1 ?side2 A3.out).mono ?_); (case side1 => exact Kd.C_below HR0_4.out (bs3 HB GE267 GE268 GE269)); (case side2 => exact HC0_4.out); rintro e w16 ⟨v278, rfl, ho0, hb⟩; refine ⟨_, rfl, ?_⟩; replace HO273 := nf HO273 BK269 hb; replace HO276 := nf HO276 BK269 hb; have HO279 := Ah (Kd.R_lower ho0 (below_size (bs3 HB GE267 GE268 GE269))); replace BK267 := Ah (blk_below (bf BK267 NB267_269) hb); replace BK268 := Ah (blk_below (bf BK268 NB268_269) hb); replace BK269 := Ah (blk_below (g := gb269) (o := .cells #[.int .i64 t270, .slice Ao13 t271.length co13, .slice Ao14 t274.length co14, .int .i64 a0_3, .slice none 0 0] 36 (0, 0)) (by (with_reducible repeat (first | refine blk_drewN ?_ _ | refine blk_drew ?_ | refine blk_alloc ?_ _)); refine blk_put (cs := #[.int .i64 t270, .slice Ao13 t271.length co13, .slice Ao14 t274.length co14, .int .i64 0, .slice none 0 0]) ?_ 3 _ rfl; (with_reducible repeat (first | refine blk_drewN ?_ _ | refine blk_drew ?_ | refine blk_alloc ?_ _)); refine blk_put (cs := #[.int .i64 t270, .slice Ao13 t271.length co13, .slice none 0 0, .int .i64 0, .slice none 0 0]) ?_ 2 _ rfl; (with_reducible repeat (first | refine blk_drewN ?_ _ | refine blk_drew ?_ | refine blk_alloc ?_ _)); refine blk_put (cs := #[.int .i64 t270, .slice none 0 0, .slice none 0 0, .int .i64 0, .slice none 0 0]) ?_ 1 _ rfl; (with_reducible repeat (first | refine blk_drewN ?_ _ | refine blk_drew ?_ | refine blk_alloc ?_ _)); refine blk_put (cs := #[.int .i64 0, .slice none 0 0, .slice none 0 0, .int .i64 0, .slice none 0 0]) ?_ 0 _ rfl; (with_reducible repeat (first | refine blk_drewN ?_ _ | refine blk_drew ?_ | refine blk_alloc ?_ _)); exact BK269.out) hb); replace HB := Ah (below_step (bs3 HB GE267 GE268 GE269) hb); (try clear hb ho0); obtain ⟨Ao17, co17, eo17⟩ := Kd.R_slice HO279.out; subst eo17; obtain ⟨hcz18_0, hcz18_1, hcz18_2, hcz18_3, hcz18_4⟩ := cz5 BK269; obtain ⟨hfz18_0, hfz18_1, hfz18_2, hfz18_3, hfz18_4⟩ := fz5 BK269; obtain ⟨hcz19_0, hcz19_1, hcz19_2, hcz19_3, hcz19_4⟩ := cz5 BK268; obtain ⟨hfz19_0, hfz19_1, hfz19_2, hfz19_3, hfz19_4⟩ := fz5 BK268))
 refine bodyPost_ret (results_cell_row rfl _ _ gb268 36 #[.int .i64 t270, .slice Ao13 t271.length co13, .slice Ao14 t274.length co14, .int .i64 a0_3, .slice Ao17 t277.length co17] (0, 0) _ rfl (by (with_reducible repeat (first | refine blk_drewN ?_ _ | refine blk_drew ?_ | refine blk_alloc ?_ _)); refine blk_put (cs := #[.int .i64 t270, .slice Ao13 t271.length co13, .slice Ao14 t274.length co14, .int .i64 a0_3, .slice none 0 0]) ?_ 4 _ rfl; (with_reducible repeat (first | refine blk_drewN ?_ _ | refine blk_drew ?_ | refine blk_alloc ?_ _)); refine blk_put (cs := #[.int .i64 t270, .slice Ao13 t271.length co13, .slice Ao14 t274.length co14, .int .i64 0, .slice none 0 0]) ?_ 3 _ rfl; (with_reducible repeat (first | refine blk_drewN ?_ _ | refine blk_drew ?_ | refine blk_alloc ?_ _)); refine blk_put (cs := #[.int .i64 t270, .slice Ao13 t271.length co13, .slice none 0 0, .int .i64 0, .slice none 0 0]) ?_ 2 _ rfl; (with_reducible repeat (first | refine blk_drewN ?_ _ | refine blk_drew ?_ | refine blk_alloc ?_ _)); refine blk_put (cs := #[.int .i64 t270, .slice none 0 0, .slice none 0 0, .int .i64 0, .slice none 0 0]) ?_ 1 _ rfl; (with_reducible repeat (first | refine blk_drewN ?_ _ | refine blk_drew ?_ | refine blk_alloc ?_ _)); refine blk_put (cs := #[.int .i64 0, .slice none 0 0, .slice none 0 0, .int .i64 0, .slice none 0 0]) ?_ 0 _ rfl; (with_reducible repeat (first | refine blk_drewN ?_ _ | refine blk_drew ?_ | refine blk_alloc ?_ _)); refine blk_far ?_ NB268_269.out _; (with_reducible repeat (first | refine blk_drewN ?_ _ | refine blk_drew ?_ | refine blk_alloc ?_ _)); exact BK268.out) Try.underlying36 rfl (by kernel_rfl)) rfl ?_
 exact ⟨_, _, _, er, by (with_reducible repeat (first | apply Kd.R_alloc | apply Kd.R_drewN | apply Kd.R_drew)); exact Kd.R_mono (Kd.R_far (p := ⟨gb268, 4, none⟩) (Kd.R_far (p := ⟨gb268, 3, none⟩) (Kd.R_far (p := ⟨gb268, 2, none⟩) (Kd.R_far (p := ⟨gb268, 1, none⟩) (Kd.R_far (p := ⟨gb268, 0, none⟩) (Kd.R_far (p := ⟨gb269, 4, none⟩) (Kd.R_types (Kd.R_types HO273.out BK269.out (by decide)) BK268.out (by decide)) (fun _ hk => hk.1.2) (.slice Ao17 t277.length co17)) (fun _ hk => hk.2) (.int .i64 t270)) (fun _ hk => hk.2) (.slice Ao13 t271.length co13)) (fun _ hk => hk.2) (.slice Ao14 t274.length co14)) (fun _ hk => hk.2) (.int .i64 a0_3)) (fun _ hk => hk.2) (.slice Ao17 t277.length co17)) (fun _ hk => hk.1.1), by (with_reducible repeat (first | apply Kd.R_alloc | apply Kd.R_drewN | apply Kd.R_drew)); exact Kd.R_mono (Kd.R_far (p := ⟨gb268, 4, none⟩) (Kd.R_far (p := ⟨gb268, 3, none⟩) (Kd.R_far (p := ⟨gb268, 2, none⟩) (Kd.R_far (p := ⟨gb268, 1, none⟩) (Kd.R_far (p := ⟨gb268, 0, none⟩) (Kd.R_far (p := ⟨gb269, 4, none⟩) (Kd.R_types (Kd.R_types HO276.out BK269.out (by decide)) BK268.out (by decide)) (fun _ hk => hk.1.2) (.slice Ao17 t277.length co17)) (fun _ hk => hk.2) (.int .i64 t270)) (fun _ hk => hk.2) (.slice Ao13 t271.length co13)) (fun _ hk => hk.2) (.slice Ao14 t274.length co14)) (fun _ hk => hk.2) (.int .i64 a0_3)) (fun _ hk => hk.2) (.slice Ao17 t277.length co17)) (fun _ hk => hk.1.1), by (with_reducible repeat (first | apply Kd.R_alloc | apply Kd.R_drewN | apply Kd.R_drew)); exact Kd.R_mono (Kd.R_far (p := ⟨gb268, 4, none⟩) (Kd.R_far (p := ⟨gb268, 3, none⟩) (Kd.R_far (p := ⟨gb268, 2, none⟩) (Kd.R_far (p := ⟨gb268, 1, none⟩) (Kd.R_far (p := ⟨gb268, 0, none⟩) (Kd.R_far (p := ⟨gb269, 4, none⟩) (Kd.R_types (Kd.R_types HO279.out BK269.out (by decide)) BK268.out (by decide)) (fun _ hk => hk.1.2) (.slice Ao17 t277.length co17)) (fun _ hk => hk.2) (.int .i64 t270)) (fun _ hk => hk.2) (.slice Ao13 t271.length co13)) (fun _ hk => hk.2) (.slice Ao14 t274.length co14)) (fun _ hk => hk.2) (.int .i64 a0_3)) (fun _ hk => hk.2) (.slice Ao17 t277.length co17)) (fun _ hk => trivial), bs3 HB GE267 GE268 GE269⟩
def impl_within.f (a0 : Int) (a1 : Int) (a2 : Int) : Option (Bool) := if a0 ≥ a1 then (some (decide (a0 ≤ a2))) else (some false)
set_option maxHeartbeats 8000000 in
set_option maxRecDepth 100000 in
theorem impl_within.calls (a0 : Int) (a1 : Int) (a2 : Int) (r : Bool) (w : World) (h : impl_within.f a0 a1 a2 = some r) :
  Calls Try.prog 49 #[.int .i64 a0, .int .i64 a1, .int .i64 a2] w fun e w' => e = .returned (.bool r) ∧ Drawn0 w w' := by
 have H : (if a0 ≥ a1 then (some (decide (a0 ≤ a2))) else (some false)) = some r := h
 clear h
 by_cases c4 : a0 ≥ a1
 ·
  rw [if_pos c4] at H
  have c4b0 : decide (a1 ≤ a0) = true := decide_eq_true c4
  clear c4
  obtain rfl := Option.some.inj H
  go_enter Try.func49, Try.ntmps49
  go_wp2
  go_ret
  exact ⟨by first | rfl | (simp; done) | (simp [*]; done), by repeat (first | exact Drawn0.refl _ | apply Drawn0.step)⟩
 ·
  rw [if_neg c4] at H
  have c4b0 : decide (a1 ≤ a0) = false := decide_eq_false c4
  clear c4
  obtain rfl := Option.some.inj H
  go_enter Try.func49, Try.ntmps49
  go_wp2
  go_ret
  exact ⟨by first | rfl | (simp; done) | (simp [*]; done), by repeat (first | exact Drawn0.refl _ | apply Drawn0.step)⟩
def impl_isExtent.f (a0_0 : Int) (a0_1 : Int) (a1 : Int) : Option (Bool) := (impl_within.f a0_0 0 (wrap64 (a1 - 1))).bind fun t281 => (if t281 = true then ((impl_within.f a0_1 1 (wrap64 (a1 - a0_0))).bind fun t282 => (some t282)) else (some false))
set_option maxHeartbeats 8000000 in
set_option maxRecDepth 100000 in
theorem impl_isExtent.calls (a0_0 : Int) (a0_1 : Int) (a1 : Int) (r : Bool) (w : World) (h : impl_isExtent.f a0_0 a0_1 a1 = some r) :
  Calls Try.prog 53 #[.agg #[.int .i64 a0_0, .int .i64 a0_1], .int .i64 a1] w fun e w' => e = .returned (.bool r) ∧ Below w.heap.size w w' := by
 have hu40 := Try.underlying40
 have HB := Ah (Below.refl w.heap.size w)
 have H : ((impl_within.f a0_0 0 (wrap64 (a1 - 1))).bind fun t281 => (if t281 = true then ((impl_within.f a0_1 1 (wrap64 (a1 - a0_0))).bind fun t282 => (some t282)) else (some false))) = some r := h
 clear h
 replace H := Option.bind_eq_some_iff.mp H
 obtain ⟨t281, A30, H⟩ := H
 try dsimp only at H
 have A3 := Ah A30
 clear A30
 by_cases c4 : t281 = true
 rotate_left
 ·
  replace c4 := Bool.eq_false_iff.mpr c4
  subst c4
  rw [if_neg fne] at H
  obtain rfl := Option.some.inj H
  go_enter Try.func53, Try.ntmps53
  go_wp2_with (first | ((with_reducible refine gate_dst (N := 2) rfl ?_); refine boxL 2 40 #[.int .i64 a0_0, .int .i64 a0_1] ?_; intro gb280 hg w8 BK280 hb; have GW280 := gw hg (bs HB); have GE280 := gw hg (bs HB); replace HB := Ah (below_step (bs HB) hb); clear hb hg; obtain ⟨hcz9_0, hcz9_1⟩ := cz2 BK280; obtain ⟨hfz9_0, hfz9_1⟩ := fz2 BK280) | ((with_reducible refine gate_callee (f := 49) rfl ?_); refine gL (some 9) rfl rfl Try.func49 (by kernel_rfl) rfl #[.int .i64 a0_0, .int .i64 0, .int .i64 (wrap64 (a1 - 1))] rfl ?_; (with_reducible refine (impl_within.calls a0_0 0 (wrap64 (a1 - 1)) false _ A3.out).mono ?_); rintro e w' ⟨rfl, ⟨nd, rfl⟩⟩; refine ⟨_, rfl, ?_⟩))
  go_ret
  exact ⟨er, bs1 HB GE280⟩
 subst c4
 rw [if_pos rfl] at H
 replace H := Option.bind_eq_some_iff.mp H
 obtain ⟨t282, A50, H⟩ := H
 try dsimp only at H
 have A5 := Ah A50
 clear A50
 obtain rfl := Option.some.inj H
 go_enter Try.func53, Try.ntmps53
 go_wp2_with (first | ((with_reducible refine gate_dst (N := 2) rfl ?_); refine boxL 2 40 #[.int .i64 a0_0, .int .i64 a0_1] ?_; intro gb280 hg w6 BK280 hb; have GW280 := gw hg (bs HB); have GE280 := gw hg (bs HB); replace HB := Ah (below_step (bs HB) hb); clear hb hg; obtain ⟨hcz7_0, hcz7_1⟩ := cz2 BK280; obtain ⟨hfz7_0, hfz7_1⟩ := fz2 BK280) | ((with_reducible refine gate_callee (f := 49) rfl ?_); refine gL (some 9) rfl rfl Try.func49 (by kernel_rfl) rfl #[.int .i64 a0_0, .int .i64 0, .int .i64 (wrap64 (a1 - 1))] rfl ?_; (with_reducible refine (impl_within.calls a0_0 0 (wrap64 (a1 - 1)) true _ A3.out).mono ?_); rintro e w' ⟨rfl, ⟨nd, rfl⟩⟩; refine ⟨_, rfl, ?_⟩) | (go_at_call 49; (with_reducible refine (impl_within.calls a0_1 1 (wrap64 (a1 - a0_0)) t282 _ A5.out).mono ?_); rintro e w' ⟨rfl, ⟨nd, rfl⟩⟩))
 go_ret
 exact ⟨er, bs1 HB GE280⟩
def impl_Extent_57.f (l0 : List (S40)) : Option (List (S40)) := if l0.length * 16 ≤ 140737488355328 then some l0 else none
set_option maxRecDepth 100000 in
theorem impl_Extent_57.calls (A0 : Option Addr) (c0 : Nat) (l0 : List (S40)) (r : List (S40)) (w : World) (hr0 : Kd.C k40 w A0 l0.length l0) (hc0 : l0.length ≤ c0) (h : impl_Extent_57.f l0 = some r) :
    Calls Try.prog 57 #[.slice A0 l0.length c0] w fun e w' => ∃ v0_ : Value, e = .returned (v0_) ∧ Kd.R k40 40 w' w.heap.size (fun _ => True) v0_ r ∧ Below w.heap.size w w' := by
  have hus := Try.underlying31
  have huu : ∀ w, Sem.run Try.prog (underlying 31) w = .ok (TypeDesc.slice 40) w := run_underlying hus
  have hee : ∀ (w : World) (a : Option Addr) (n c n' c' : Nat), (binOp .eql 31 (.slice a n c) (.slice none n' c')).run Try.prog w = .ok (.bool a.isNone) w := fun w a n c n' c' => Lib.run_eql_slice_nil w _ _ a n c n' c' hus
  unfold impl_Extent_57.f at h
  by_cases hl : l0.length * 16 ≤ 140737488355328
  · rw [if_pos hl] at h
    obtain rfl := Option.some.inj h
    have hR := Aside0.mk hr0
    have hL := Aside0.mk hl
    clear hr0 h hl
    rcases A0 with _ | ad
    · have h0 : l0 = [] := by
        rcases Nat.eq_zero_or_pos l0.length with h0 | h0
        · exact List.eq_nil_of_length_eq_zero h0
        · obtain ⟨ad, h, _⟩ := hR.out.2.2 h0
          cases h
      subst h0
      go_enter Try.func57, Try.ntmps57
      go_wp2
      go_ret
      exact ⟨_, rfl, Kd.R_nil _ _ _ _ _, Below.refl _ _⟩
    · go_enter Try.func57, Try.ntmps57
      go_wp2_with (first
        | ((with_reducible refine gate_dst (N := 5) rfl ?_); refine Kd.R_lit k40 _ 40 ?hg (N := 5) ?hd (xs := ([] : List (S40))) (inner := []) (ok := fun _ => True) (okp := fun _ => True) ?hr ?hp (fun _ hk => hk) trivial (Below.refl _ _) (Nat.le_refl _) (by simp) ?_; (case hd => rfl); (case hg => rfl); (case hr => first | (go_simp; done) | (go_simp; rfl)); (case hp => exact (Reps.none _ _)); intro v391 w4 ho5 hb hg_ hnew_; clear hg_ hnew_; have n0_ := Aside0.mk (Kd.R_lower ho5 (Nat.le_refl _)); have n1_ := Aside0.mk hb; clear ho5 hb)
        | ((with_reducible refine gate_builtin (b := .append) (xs := #[.tmp 5, .tmp 6]) rfl ?_); at_builtin; refine Kd.R_append_rows k40 (w0 := w) w.heap.size rfl (.tmp 5) (.tmp 6) 31 40 (.agg #[(.int .i64 0), (.int .i64 0)]) 16 rfl hus info40 rfl (by decide) (by omega) v391 ([] : List (S40)) l0 _ _ _ (fun _ => True) (fun _ => False) rfl rfl ?aO ?aR (fun _ _ h => h) (fun _ h => h.elim) ?aF ?aB ?aS ?aL ?_; (case aR => exact Kd.C_below hR.out n1_.out); (case aB => exact n1_.out); (case aF => exact (fun _ _ => trivial)); (case aO => exact n0_.out); (case aS => exact n1_.out.size); (case aL => have := hL.out; simp only [List.length_nil, Nat.zero_add]; omega); intro v394 w6 ho hb hg hat; rw [List.nil_append] at ho; have m0_ := Aside0.mk ho; have m1_ := Aside0.mk hb; clear n0_ n1_ ho hb hg hat))
      go_ret
      exact ⟨_, rfl, m0_.out, m1_.out⟩
  · rw [if_neg hl] at h
    cases h
def impl_Extent_63.l0 : Nat → List (S40) → List (S40) → Int → Int → Option (Bool)
 | 0, _, _, _, _ => none
 | k + 1, x0, x1, x12, x13 => if x13 < x12 then (if 0 ≤ x13 then (if x13 < (x0.length : Int) then (if x13 < (x1.length : Int) then (if (!(((rd_T40 x0 x13).f0) == ((rd_T40 x1 x13).f0)) || (!(((rd_T40 x0 x13).f1) == ((rd_T40 x1 x13).f1)))) = true then (some false) else (impl_Extent_63.l0 k x0 x1 x12 (wrap64 (x13 + 1)))) else (none)) else (none)) else (none)) else (some true)
def impl_Extent_63.f (k : Nat) (l0 : List (S40)) (l1 : List (S40)) : Option (Bool) := if (l0.length : Int) = (l1.length : Int) then (impl_Extent_63.l0 k l0 l1 (l0.length : Int) 0) else (some false)
theorem impl_Extent_63.mono_l : ∀ k, (∀ y0 y1 y2 y3, LeO (impl_Extent_63.l0 k y0 y1 y2 y3) (impl_Extent_63.l0 (k + 1) y0 y1 y2 y3))
 | 0 => fun _ _ _ _ r h => by simp [impl_Extent_63.l0] at h
 | k + 1 => by
  have ih0 := impl_Extent_63.mono_l k
  ·
   intro y0 y1 y2 y3
   unfold impl_Extent_63.l0
   repeat' first
   | (with_reducible exact ih0 _ _ _ _)
   | (with_reducible exact LeO.refl _)
   | (with_reducible exact LeO.none _)
   | (with_reducible refine LeO.ite ?_ ?_)
   | (with_reducible refine LeO.bind ?_ (fun _ => ?_))
   | exact ih0 _ _ _ _
   | exact LeO.none _
   | refine LeO.ite ?_ ?_
   | refine LeO.bind ?_ (fun _ => ?_)
theorem impl_Extent_63.mono : ∀ a0 a1 k, LeO (impl_Extent_63.f k a0 a1) (impl_Extent_63.f (k + 1) a0 a1) := by
 intro a0 a1 k
 have ih0 := impl_Extent_63.mono_l k
 unfold impl_Extent_63.f
 repeat' first
   | (with_reducible exact ih0 _ _ _ _)
   | (with_reducible exact LeO.refl _)
   | (with_reducible exact LeO.none _)
   | (with_reducible refine LeO.ite ?_ ?_)
   | (with_reducible refine LeO.bind ?_ (fun _ => ?_))
   | exact ih0 _ _ _ _
   | exact LeO.none _
   | refine LeO.ite ?_ ?_
   | refine LeO.bind ?_ (fun _ => ?_)
set_option maxHeartbeats 8000000 in
set_option maxRecDepth 100000 in
theorem impl_Extent_63.calls (k : Nat) (A0 : Option Addr) (c0 : Nat) (l0 : List (S40)) (A1 : Option Addr) (c1 : Nat) (l1 : List (S40)) (r : Bool) (w : World) (hr0 : Kd.C k40 w A0 l0.length l0) (hc0 : l0.length ≤ c0) (hr1 : Kd.C k40 w A1 l1.length l1) (hc1 : l1.length ≤ c1) (h : impl_Extent_63.f k l0 l1 = some r) :
  Calls Try.prog 63 #[.slice A0 l0.length c0, .slice A1 l1.length c1] w fun e w' => e = .returned (.bool r) ∧ Drawn0 w w' := by
 have hu40 := Try.underlying40
 have HR0 := Ah hr0
 have HC0 := Ah hc0
 clear hr0 hc0
 have HR1 := Ah hr1
 have HC1 := Ah hc1
 clear hr1 hc1
 have H : (if (l0.length : Int) = (l1.length : Int) then (impl_Extent_63.l0 k l0 l1 (l0.length : Int) 0) else (some false)) = some r := h
 clear h
 by_cases c3 : (l0.length : Int) = (l1.length : Int)
 rotate_left
 ·
  rw [if_neg c3] at H
  have c3b0 : ((l0.length : Int) == (l1.length : Int)) = false := beq_eq_false_iff_ne.mpr c3
  have c3b1 : ((l0.length : Int) != (l1.length : Int)) = true := bne_iff_ne.mpr c3
  have c3b2 : (l0.length == l1.length) = false := by first | simpa using c3 | (simp at c3 ⊢; omega)
  obtain rfl := Option.some.inj H
  go_enter Try.func63, Try.ntmps63
  go_wp2
  repeat (go_quiet (fail); try go_wp2)
  go_ret
  exact ⟨e3, by repeat (first | exact Drawn0.refl _ | apply Drawn0.step)⟩
 rw [if_pos c3] at H
 have c3b0 : ((l0.length : Int) == (l1.length : Int)) = true := beq_iff_eq.mpr c3
 have c3b1 : ((l0.length : Int) != (l1.length : Int)) = false := bne_eq_false_iff_eq.mpr c3
 have c3b2 : (l0.length == l1.length) = true := by first | simpa using c3 | (simp at c3 ⊢; omega)
 clear c3
 have H' := Ah H
 clear H
 go_enter Try.func63, Try.ntmps63
 go_wp2
 repeat (go_quiet (fail); try go_wp2)
 go_loopg [13] k (fun kq v13 w' => ∃ (x13_1 : Int), v13 = .int .i64 x13_1 ∧ Aside0 (impl_Extent_63.l0 kq l0 l1 (l0.length : Int) x13_1 = some r) ∧ Aside0 (kq ≤ k) ∧ Drawn0 w w')
 case atStart => exact ⟨(0), e3, H', ⟨Nat.le_refl _⟩, by repeat (first | exact Drawn0.refl _ | apply Drawn0.step)⟩
 case round =>
  clear H'
  try clear c1
  try clear p2
  try clear c3
  try clear c3b0
  try clear c3b1
  try clear c3b2
  obtain ⟨x13_1, rfl, HA, HK1, ⟨m1, rfl⟩⟩ := hrel
  cases gk with
  | zero => exact absurd HA.out (by simp [impl_Extent_63.l0])
  | succ k1 =>
   have H := HA.out
   clear HA
   simp only [impl_Extent_63.l0] at H
   by_cases c4 : x13_1 < (l0.length : Int)
   rotate_left
   ·
    rw [if_neg c4] at H
    have c4b0 : decide (x13_1 < (l0.length : Int)) = false := decide_eq_false c4
    clear c4
    obtain rfl := Option.some.inj H
    go_wp2
    repeat (go_quiet (fail); try go_wp2)
    go_ret
    exact ⟨e3, by repeat (first | exact Drawn0.refl _ | apply Drawn0.step)⟩
   rw [if_pos c4] at H
   have c4b0 : decide (x13_1 < (l0.length : Int)) = true := decide_eq_true c4
   clear c4
   by_cases c5 : 0 ≤ x13_1
   rotate_left
   ·
    rw [if_neg c5] at H
    exact absurd H (by simp)
   rw [if_pos c5] at H
   have c5b0 : decide (0 ≤ x13_1) = true := decide_eq_true c5
   clear c5
   by_cases c6 : x13_1 < (l0.length : Int)
   rotate_left
   ·
    rw [if_neg c6] at H
    exact absurd H (by simp)
   rw [if_pos c6] at H
   have c6b0 : decide (x13_1 < (l0.length : Int)) = true := decide_eq_true c6
   clear c6
   by_cases c7 : x13_1 < (l1.length : Int)
   rotate_left
   ·
    rw [if_neg c7] at H
    exact absurd H (by simp)
   rw [if_pos c7] at H
   have c7b0 : decide (x13_1 < (l1.length : Int)) = true := decide_eq_true c7
   clear c7
   by_cases c8 : (!(((rd_T40 l0 x13_1).f0) == ((rd_T40 l1 x13_1).f0)) || (!(((rd_T40 l0 x13_1).f1) == ((rd_T40 l1 x13_1).f1)))) = true
   ·
    rw [if_pos c8] at H
    have c8b0 : (!(((rd_T40 l0 x13_1).f0) == ((rd_T40 l1 x13_1).f0)) || (!(((rd_T40 l0 x13_1).f1) == ((rd_T40 l1 x13_1).f1)))) = true := c8
    clear c8
    obtain rfl := Option.some.inj H
    have p283 : 0 ≤ (x13_1 : Int) := od
    have q283 : x13_1 < (l0.length : Int) := od
    obtain ⟨ad283, e283, hx283_0, hx283_1⟩ := at_T40 HR0.out x13_1 p283 q283
    cases e283
    replace p283 := eq_true p283
    replace q283 := eq_true q283
    have p284 : 0 ≤ (x13_1 : Int) := od
    have q284 : x13_1 < (l1.length : Int) := od
    obtain ⟨ad284, e284, hx284_0, hx284_1⟩ := at_T40 HR1.out x13_1 p284 q284
    cases e284
    replace p284 := eq_true p284
    replace q284 := eq_true q284
    go_wp2
    repeat (go_quiet (fail); try go_wp2)
    go_ret
    exact ⟨e3, by repeat (first | exact Drawn0.refl _ | apply Drawn0.step)⟩
   rw [if_neg c8] at H
   have c8b0 : (!(((rd_T40 l0 x13_1).f0) == ((rd_T40 l1 x13_1).f0)) || (!(((rd_T40 l0 x13_1).f1) == ((rd_T40 l1 x13_1).f1)))) = false := by simpa using c8
   clear c8
   have H' := Ah H
   clear H
   have p283 : 0 ≤ (x13_1 : Int) := od
   have q283 : x13_1 < (l0.length : Int) := od
   obtain ⟨ad283, e283, hx283_0, hx283_1⟩ := at_T40 HR0.out x13_1 p283 q283
   cases e283
   replace p283 := eq_true p283
   replace q283 := eq_true q283
   have p284 : 0 ≤ (x13_1 : Int) := od
   have q284 : x13_1 < (l1.length : Int) := od
   obtain ⟨ad284, e284, hx284_0, hx284_1⟩ := at_T40 HR1.out x13_1 p284 q284
   cases e284
   replace p284 := eq_true p284
   replace q284 := eq_true q284
   go_wp2
   repeat (go_quiet (fail); try go_wp2)
   go_roundg k1
   case measure => have := HK1.out; omega
   case rel => exact ⟨(wrap64 (x13_1 + 1)), e3, H', ⟨by have := HK1.out; omega⟩, by repeat (first | exact Drawn0.refl _ | apply Drawn0.step)⟩
def cmp_Or_int.l0 : Nat → Int → List Int → Int → Int → Option (Int)
 | 0, _, _, _, _ => none
 | k + 1, x3, x6, x7, x8 => if x8 < x7 then (if 0 ≤ x8 then (if x8 < (x6.length : Int) then (if (rd x6 x8) = x3 then (cmp_Or_int.l0 k x3 x6 x7 (wrap64 (x8 + 1))) else (some (rd x6 x8))) else (none)) else (none)) else (some x3)
def cmp_Or_int.f (k : Nat) (l0 : List Int) : Option (Int) := cmp_Or_int.l0 k 0 l0 (l0.length : Int) 0
theorem cmp_Or_int.mono_l : ∀ k, (∀ y0 y1 y2 y3, LeO (cmp_Or_int.l0 k y0 y1 y2 y3) (cmp_Or_int.l0 (k + 1) y0 y1 y2 y3))
 | 0 => fun _ _ _ _ r h => by simp [cmp_Or_int.l0] at h
 | k + 1 => by
  have ih0 := cmp_Or_int.mono_l k
  ·
   intro y0 y1 y2 y3
   unfold cmp_Or_int.l0
   repeat' first
   | (with_reducible exact ih0 _ _ _ _)
   | (with_reducible exact LeO.refl _)
   | (with_reducible exact LeO.none _)
   | (with_reducible refine LeO.ite ?_ ?_)
   | (with_reducible refine LeO.bind ?_ (fun _ => ?_))
   | exact ih0 _ _ _ _
   | exact LeO.none _
   | refine LeO.ite ?_ ?_
   | refine LeO.bind ?_ (fun _ => ?_)
theorem cmp_Or_int.mono : ∀ a0 k, LeO (cmp_Or_int.f k a0) (cmp_Or_int.f (k + 1) a0) := by
 intro a0 k
 have ih0 := cmp_Or_int.mono_l k
 unfold cmp_Or_int.f
 repeat' first
   | (with_reducible exact ih0 _ _ _ _)
   | (with_reducible exact LeO.refl _)
   | (with_reducible exact LeO.none _)
   | (with_reducible refine LeO.ite ?_ ?_)
   | (with_reducible refine LeO.bind ?_ (fun _ => ?_))
   | exact ih0 _ _ _ _
   | exact LeO.none _
   | refine LeO.ite ?_ ?_
   | refine LeO.bind ?_ (fun _ => ?_)
set_option maxHeartbeats 8000000 in
set_option maxRecDepth 100000 in
theorem cmp_Or_int.calls (k : Nat) (A0 : Option Addr) (c0 : Nat) (l0 : List Int) (r : Int) (w : World) (hr0 : Kd.C (Kd.int .i64) w A0 l0.length l0) (hc0 : l0.length ≤ c0) (h : cmp_Or_int.f k l0 = some r) :
  Calls Try.prog 74 #[.slice A0 l0.length c0] w fun e w' => e = .returned (.int .i64 r) ∧ Drawn0 w w' := by
 have HR0 := Ah hr0
 have HC0 := Ah hc0
 clear hr0 hc0
 have H : (cmp_Or_int.l0 k 0 l0 (l0.length : Int) 0) = some r := h
 clear h
 have H' := Ah H
 clear H
 go_enter Try.func74, Try.ntmps74
 go_wp2
 go_loopg [8] k (fun kq v8 w' => ∃ (x8_1 : Int), v8 = .int .i64 x8_1 ∧ Aside0 (cmp_Or_int.l0 kq 0 l0 (l0.length : Int) x8_1 = some r) ∧ Aside0 (kq ≤ k) ∧ Drawn0 w w')
 case atStart => exact ⟨(0), e3, H', ⟨Nat.le_refl _⟩, by repeat (first | exact Drawn0.refl _ | apply Drawn0.step)⟩
 case round =>
  clear H'
  obtain ⟨x8_1, rfl, HA, HK1, ⟨m1, rfl⟩⟩ := hrel
  cases gk with
  | zero => exact absurd HA.out (by simp [cmp_Or_int.l0])
  | succ k1 =>
   have H := HA.out
   clear HA
   simp only [cmp_Or_int.l0] at H
   by_cases c2 : x8_1 < (l0.length : Int)
   rotate_left
   ·
    rw [if_neg c2] at H
    have c2b0 : decide (x8_1 < (l0.length : Int)) = false := decide_eq_false c2
    clear c2
    obtain rfl := Option.some.inj H
    go_wp2
    go_ret
    exact ⟨e3, by repeat (first | exact Drawn0.refl _ | apply Drawn0.step)⟩
   rw [if_pos c2] at H
   have c2b0 : decide (x8_1 < (l0.length : Int)) = true := decide_eq_true c2
   clear c2
   by_cases c3 : 0 ≤ x8_1
   rotate_left
   ·
    rw [if_neg c3] at H
    exact absurd H (by simp)
   rw [if_pos c3] at H
   have c3b0 : decide (0 ≤ x8_1) = true := decide_eq_true c3
   clear c3
   by_cases c4 : x8_1 < (l0.length : Int)
   rotate_left
   ·
    rw [if_neg c4] at H
    exact absurd H (by simp)
   rw [if_pos c4] at H
   have c4b0 : decide (x8_1 < (l0.length : Int)) = true := decide_eq_true c4
   clear c4
   by_cases c5 : (rd l0 x8_1) = 0
   rotate_left
   ·
    rw [if_neg c5] at H
    have c5b0 : ((rd l0 x8_1) == 0) = false := beq_eq_false_iff_ne.mpr c5
    have c5b1 : ((rd l0 x8_1) != 0) = true := bne_iff_ne.mpr c5
    obtain rfl := Option.some.inj H
    have p287 : 0 ≤ (x8_1 : Int) := od
    have q287 : x8_1 < (l0.length : Int) := od
    obtain ⟨ad287, e287, hx287_0⟩ := Kd.at_int HR0.out x8_1 p287 q287
    cases e287
    replace p287 := eq_true p287
    replace q287 := eq_true q287
    go_wp2
    go_ret
    exact ⟨e3, by repeat (first | exact Drawn0.refl _ | apply Drawn0.step)⟩
   rw [if_pos c5] at H
   have c5b0 : ((rd l0 x8_1) == 0) = true := beq_iff_eq.mpr c5
   have c5b1 : ((rd l0 x8_1) != 0) = false := bne_eq_false_iff_eq.mpr c5
   clear c5
   have H' := Ah H
   clear H
   have p287 : 0 ≤ (x8_1 : Int) := od
   have q287 : x8_1 < (l0.length : Int) := od
   obtain ⟨ad287, e287, hx287_0⟩ := Kd.at_int HR0.out x8_1 p287 q287
   cases e287
   replace p287 := eq_true p287
   replace q287 := eq_true q287
   go_wp2
   go_roundg k1
   case measure => have := HK1.out; omega
   case rel => exact ⟨(wrap64 (x8_1 + 1)), e3, H', ⟨by have := HK1.out; omega⟩, by repeat (first | exact Drawn0.refl _ | apply Drawn0.step)⟩
def cmp_isNaN_int.f (a0 : Int) : Option (Bool) := some (a0 != a0)
set_option maxHeartbeats 8000000 in
set_option maxRecDepth 100000 in
theorem cmp_isNaN_int.calls (a0 : Int) (r : Bool) (w : World) (h : cmp_isNaN_int.f a0 = some r) :
  Calls Try.prog 86 #[.int .i64 a0] w fun e w' => e = .returned (.bool r) ∧ Drawn0 w w' := by
 have H : (some (a0 != a0)) = some r := h
 clear h
 obtain rfl := Option.some.inj H
 go_enter Try.func86, Try.ntmps86
 go_wp2
 go_ret
 exact ⟨by first | rfl | (simp; done) | (simp [*]; done), by repeat (first | exact Drawn0.refl _ | apply Drawn0.step)⟩
def cmp_Compare_int.f (a0 : Int) (a1 : Int) : Option (Int) := (cmp_isNaN_int.f a0).bind fun t288 => ((cmp_isNaN_int.f a1).bind fun t289 => (if t288 = true then (if t289 = true then (some 0) else (some (-1))) else (if t289 = true then (some 1) else (if a0 < a1 then (some (-1)) else (if a0 > a1 then (some 1) else (some 0))))))
set_option maxHeartbeats 8000000 in
set_option maxRecDepth 100000 in
theorem cmp_Compare_int.calls (a0 : Int) (a1 : Int) (r : Int) (w : World) (h : cmp_Compare_int.f a0 a1 = some r) :
  Calls Try.prog 75 #[.int .i64 a0, .int .i64 a1] w fun e w' => e = .returned (.int .i64 r) ∧ Drawn0 w w' := by
 have H : ((cmp_isNaN_int.f a0).bind fun t288 => ((cmp_isNaN_int.f a1).bind fun t289 => (if t288 = true then (if t289 = true then (some 0) else (some (-1))) else (if t289 = true then (some 1) else (if a0 < a1 then (some (-1)) else (if a0 > a1 then (some 1) else (some 0))))))) = some r := h
 clear h
 replace H := Option.bind_eq_some_iff.mp H
 obtain ⟨t288, A30, H⟩ := H
 try dsimp only at H
 have A3 := Ah A30
 clear A30
 replace H := Option.bind_eq_some_iff.mp H
 obtain ⟨t289, A40, H⟩ := H
 try dsimp only at H
 have A4 := Ah A40
 clear A40
 by_cases c5 : t288 = true
 ·
  subst c5
  rw [if_pos rfl] at H
  by_cases c6 : t289 = true
  ·
   subst c6
   rw [if_pos rfl] at H
   obtain rfl := Option.some.inj H
   go_enter Try.func75, Try.ntmps75
   go_wp2_with (first | ((with_reducible refine gate_callee (f := 86) rfl ?_); refine gL (some 8) rfl rfl Try.func86 (by kernel_rfl) rfl #[.int .i64 a0] rfl ?_; (with_reducible refine (cmp_isNaN_int.calls a0 true _ A3.out).mono ?_); rintro e w' ⟨rfl, ⟨nd, rfl⟩⟩; refine ⟨_, rfl, ?_⟩) | ((with_reducible refine gate_callee (f := 86) rfl ?_); refine gL (some 10) rfl rfl Try.func86 (by kernel_rfl) rfl #[.int .i64 a1] rfl ?_; (with_reducible refine (cmp_isNaN_int.calls a1 true _ A4.out).mono ?_); rintro e w' ⟨rfl, ⟨nd, rfl⟩⟩; refine ⟨_, rfl, ?_⟩))
   go_ret
   exact ⟨e3, by repeat (first | exact Drawn0.refl _ | apply Drawn0.step)⟩
  replace c6 := Bool.eq_false_iff.mpr c6
  subst c6
  rw [if_neg fne] at H
  obtain rfl := Option.some.inj H
  go_enter Try.func75, Try.ntmps75
  go_wp2_with (first | ((with_reducible refine gate_callee (f := 86) rfl ?_); refine gL (some 8) rfl rfl Try.func86 (by kernel_rfl) rfl #[.int .i64 a0] rfl ?_; (with_reducible refine (cmp_isNaN_int.calls a0 true _ A3.out).mono ?_); rintro e w' ⟨rfl, ⟨nd, rfl⟩⟩; refine ⟨_, rfl, ?_⟩) | ((with_reducible refine gate_callee (f := 86) rfl ?_); refine gL (some 10) rfl rfl Try.func86 (by kernel_rfl) rfl #[.int .i64 a1] rfl ?_; (with_reducible refine (cmp_isNaN_int.calls a1 false _ A4.out).mono ?_); rintro e w' ⟨rfl, ⟨nd, rfl⟩⟩; refine ⟨_, rfl, ?_⟩))
  go_ret
  exact ⟨e3, by repeat (first | exact Drawn0.refl _ | apply Drawn0.step)⟩
 replace c5 := Bool.eq_false_iff.mpr c5
 subst c5
 rw [if_neg fne] at H
 by_cases c7 : t289 = true
 ·
  subst c7
  rw [if_pos rfl] at H
  obtain rfl := Option.some.inj H
  go_enter Try.func75, Try.ntmps75
  go_wp2_with (first | ((with_reducible refine gate_callee (f := 86) rfl ?_); refine gL (some 8) rfl rfl Try.func86 (by kernel_rfl) rfl #[.int .i64 a0] rfl ?_; (with_reducible refine (cmp_isNaN_int.calls a0 false _ A3.out).mono ?_); rintro e w' ⟨rfl, ⟨nd, rfl⟩⟩; refine ⟨_, rfl, ?_⟩) | ((with_reducible refine gate_callee (f := 86) rfl ?_); refine gL (some 10) rfl rfl Try.func86 (by kernel_rfl) rfl #[.int .i64 a1] rfl ?_; (with_reducible refine (cmp_isNaN_int.calls a1 true _ A4.out).mono ?_); rintro e w' ⟨rfl, ⟨nd, rfl⟩⟩; refine ⟨_, rfl, ?_⟩))
  go_ret
  exact ⟨e3, by repeat (first | exact Drawn0.refl _ | apply Drawn0.step)⟩
 replace c7 := Bool.eq_false_iff.mpr c7
 subst c7
 rw [if_neg fne] at H
 by_cases c8 : a0 < a1
 ·
  rw [if_pos c8] at H
  have c8b0 : decide (a0 < a1) = true := decide_eq_true c8
  clear c8
  obtain rfl := Option.some.inj H
  go_enter Try.func75, Try.ntmps75
  go_wp2_with (first | ((with_reducible refine gate_callee (f := 86) rfl ?_); refine gL (some 8) rfl rfl Try.func86 (by kernel_rfl) rfl #[.int .i64 a0] rfl ?_; (with_reducible refine (cmp_isNaN_int.calls a0 false _ A3.out).mono ?_); rintro e w' ⟨rfl, ⟨nd, rfl⟩⟩; refine ⟨_, rfl, ?_⟩) | ((with_reducible refine gate_callee (f := 86) rfl ?_); refine gL (some 10) rfl rfl Try.func86 (by kernel_rfl) rfl #[.int .i64 a1] rfl ?_; (with_reducible refine (cmp_isNaN_int.calls a1 false _ A4.out).mono ?_); rintro e w' ⟨rfl, ⟨nd, rfl⟩⟩; refine ⟨_, rfl, ?_⟩))
  go_ret
  exact ⟨e3, by repeat (first | exact Drawn0.refl _ | apply Drawn0.step)⟩
 rw [if_neg c8] at H
 have c8b0 : decide (a0 < a1) = false := decide_eq_false c8
 clear c8
 by_cases c9 : a0 > a1
 ·
  rw [if_pos c9] at H
  have c9b0 : decide (a1 < a0) = true := decide_eq_true c9
  clear c9
  obtain rfl := Option.some.inj H
  go_enter Try.func75, Try.ntmps75
  go_wp2_with (first | ((with_reducible refine gate_callee (f := 86) rfl ?_); refine gL (some 8) rfl rfl Try.func86 (by kernel_rfl) rfl #[.int .i64 a0] rfl ?_; (with_reducible refine (cmp_isNaN_int.calls a0 false _ A3.out).mono ?_); rintro e w' ⟨rfl, ⟨nd, rfl⟩⟩; refine ⟨_, rfl, ?_⟩) | ((with_reducible refine gate_callee (f := 86) rfl ?_); refine gL (some 10) rfl rfl Try.func86 (by kernel_rfl) rfl #[.int .i64 a1] rfl ?_; (with_reducible refine (cmp_isNaN_int.calls a1 false _ A4.out).mono ?_); rintro e w' ⟨rfl, ⟨nd, rfl⟩⟩; refine ⟨_, rfl, ?_⟩))
  go_ret
  exact ⟨e3, by repeat (first | exact Drawn0.refl _ | apply Drawn0.step)⟩
 rw [if_neg c9] at H
 have c9b0 : decide (a1 < a0) = false := decide_eq_false c9
 clear c9
 obtain rfl := Option.some.inj H
 go_enter Try.func75, Try.ntmps75
 go_wp2_with (first | ((with_reducible refine gate_callee (f := 86) rfl ?_); refine gL (some 8) rfl rfl Try.func86 (by kernel_rfl) rfl #[.int .i64 a0] rfl ?_; (with_reducible refine (cmp_isNaN_int.calls a0 false _ A3.out).mono ?_); rintro e w' ⟨rfl, ⟨nd, rfl⟩⟩; refine ⟨_, rfl, ?_⟩) | ((with_reducible refine gate_callee (f := 86) rfl ?_); refine gL (some 10) rfl rfl Try.func86 (by kernel_rfl) rfl #[.int .i64 a1] rfl ?_; (with_reducible refine (cmp_isNaN_int.calls a1 false _ A4.out).mono ?_); rintro e w' ⟨rfl, ⟨nd, rfl⟩⟩; refine ⟨_, rfl, ?_⟩))
 go_ret
 exact ⟨e3, by repeat (first | exact Drawn0.refl _ | apply Drawn0.step)⟩
def impl_compareSizes.f (k : Nat) (a0_0 : Int) (a0_1 : Int) (a1_0 : Int) (a1_1 : Int) : Option (Int) := (cmp_Compare_int.f a0_1 a1_1).bind fun t292 => ((cmp_Compare_int.f a0_0 a1_0).bind fun t293 => ((cmp_Or_int.f k (([t292, t293] : List Int))).bind fun t297 => (some t297)))
theorem impl_compareSizes.mono : ∀ a0 a1 a2 a3 k, LeO (impl_compareSizes.f k a0 a1 a2 a3) (impl_compareSizes.f (k + 1) a0 a1 a2 a3) := by
 intro a0 a1 a2 a3 k
 unfold impl_compareSizes.f
 repeat' first
   | (with_reducible exact cmp_Or_int.mono _ _)
   | (with_reducible exact LeO.refl _)
   | (with_reducible exact LeO.none _)
   | (with_reducible refine LeO.ite ?_ ?_)
   | (with_reducible refine LeO.bind ?_ (fun _ => ?_))
   | exact cmp_Or_int.mono _ _
   | exact LeO.none _
   | refine LeO.ite ?_ ?_
   | refine LeO.bind ?_ (fun _ => ?_)
def impl_compareSizes.T1 : Bool × List (List Nat × List Nat) := (true, [([], []), ([0], [0]), ([], []), ([2], [2]), ([1, 3], [1, 3]), ([], []), ([5], [5]), ([], []), ([7], [7]), ([6, 8, 4], [6, 8]), ([4, 9], [4, 9]), ([10, 9], [10]), ([11, 11, 0, 1, 2, 3, 4, 5, 6, 7, 8, 9, 10, 11], [11])])
def impl_compareSizes.B1 : List Nat := [0, 1, 0, 4, 15, 0, 32, 0, 128, 511, 1023, 2047, 4095]
theorem impl_compareSizes.tab1 : rtab .any (opsOf Try.f71 1) = impl_compareSizes.T1 := by kernel_rfl
theorem impl_compareSizes.bits1 : waitsOk impl_compareSizes.T1.2 impl_compareSizes.B1 = true := by kernel_rfl
set_option maxHeartbeats 8000000 in
set_option maxRecDepth 100000 in
theorem impl_compareSizes.calls (k : Nat) (a0_0 : Int) (a0_1 : Int) (a1_0 : Int) (a1_1 : Int) (r : Int) (w : World) (h : impl_compareSizes.f k a0_0 a0_1 a1_0 a1_1 = some r) :
  Calls Try.prog 71 #[.agg #[.int .i64 a0_0, .int .i64 a0_1], .agg #[.int .i64 a1_0, .int .i64 a1_1]] w fun e w' => e = .returned (.int .i64 r) ∧ Below w.heap.size w w' := by
 have hu40 := Try.underlying40
 have HB := Ah (Below.refl w.heap.size w)
 have H : ((cmp_Compare_int.f a0_1 a1_1).bind fun t292 => ((cmp_Compare_int.f a0_0 a1_0).bind fun t293 => ((cmp_Or_int.f k (([t292, t293] : List Int))).bind fun t297 => (some t297)))) = some r := h
 clear h
 replace H := Option.bind_eq_some_iff.mp H
 obtain ⟨t292, A30, H⟩ := H
 try dsimp only at H
 have A3 := Ah A30
 clear A30
 replace H := Option.bind_eq_some_iff.mp H
 obtain ⟨t293, A40, H⟩ := H
 try dsimp only at H
 have A4 := Ah A40
 clear A40
 obtain ⟨y294, hy294⟩ : ∃ y_ : List Int, y_ = (([t292, t293] : List Int)) := ⟨_, rfl⟩
 replace H : ((cmp_Or_int.f k y294).bind fun t297 => (some t297)) = some r := by first | (rw [hy294]; with_reducible exact H) | (have H2_ := (Option.bind_some _ _).symm.trans H; rw [hy294]; with_reducible exact H2_) | (have H2_ := (Option.bind_some _ _).symm.trans H; with_reducible exact H2_) | with_reducible exact H | (rw [hy294]; exact H) | exact H
 have Ny294 := Ah hy294
 clear hy294
 replace H := Option.bind_eq_some_iff.mp H
 obtain ⟨t297, A50, H⟩ := H
 try dsimp only at H
 have A5 := Ah A50
 clear A50
 obtain rfl := Option.some.inj H
 go_enter Try.func71, Try.ntmps71
 try go_wp2_with (first | ((with_reducible refine gate_dst (N := 2) rfl ?_); refine boxL 2 40 #[.int .i64 a0_0, .int .i64 a0_1] ?_; intro gb290 hg w6 BK290 hb; have GW290 := gw hg (bs HB); have GE290 := gw hg (bs HB); replace HB := Ah (below_step (bs HB) hb); clear hb hg) | ((with_reducible refine gate_dst (N := 3) rfl ?_); refine boxL 3 40 #[.int .i64 a1_0, .int .i64 a1_1] ?_; intro gb291 hg w7 BK291 hb; have GW291 := gw hg (bs1 HB GE290); have GE291 := gw hg (bs1 HB GE290); replace HB := Ah (below_step (bs1 HB GE290) hb); have NB290_291 := nn BK290 hg; have NB291_290 := nm BK290 hg; replace BK290 := nb BK290 hb; clear hb hg))
 have n0_ := Ah (blk_drew BK290.out)
 have n1_ := Ah (blk_drew BK291.out)
 have n2_ := Ah (below_drew1 HB.out)
 clear BK290 BK291 HB
 have BK290 := n0_
 have BK291 := n1_
 have HB := n2_
 clear n0_ n1_ n2_
 refine start_ (n := 13) (S := fun w' => w'.cell? ⟨gb290, 0, none⟩ = some (.int .i64 a0_0) ∧ w'.cell? ⟨gb290, 1, none⟩ = some (.int .i64 a0_1) ∧ w'.cell? ⟨gb291, 0, none⟩ = some (.int .i64 a1_0) ∧ w'.cell? ⟨gb291, 1, none⟩ = some (.int .i64 a1_1)) (ds := []) #[false, false, false, false, false, false, false, false, false, false, false, false, false] (by kernel_rfl) rfl rfl ⟨(blk_cell BK290.out 0).trans rfl, (blk_cell BK290.out 1).trans rfl, (blk_cell BK291.out 0).trans rfl, (blk_cell BK291.out 1).trans rfl⟩ (fun hHeld => ?_); refine with_tabW impl_compareSizes.tab1 impl_compareSizes.bits1 (fun HT_ HW_ => ?_)
 generalize w7.drew = w8 at BK290 BK291 HB hHeld ⊢
 refine pureS 0 5 HT_.out ?_
 refine pureS 2 7 HT_.out ?_
 refine pureS 5 10 HT_.out ?_
 refine pureS 7 12 HT_.out ?_
 refine takeS 1 6 HT_.out HW_.out hHeld (hr := by rintro w' ⟨s0, s1, s2, s3⟩; go_simp; with_reducible rfl) (h := ?_)
 refine takeS 3 8 HT_.out HW_.out hHeld (hr := by rintro w' ⟨s0, s1, s2, s3⟩; go_simp; with_reducible rfl) (h := ?_)
 refine takeS 6 11 HT_.out HW_.out hHeld (hr := by rintro w' ⟨s0, s1, s2, s3⟩; go_simp; with_reducible rfl) (h := ?_)
 refine takeS 8 13 HT_.out HW_.out hHeld (hr := by rintro w' ⟨s0, s1, s2, s3⟩; go_simp; with_reducible rfl) (h := ?_)
 refine one_ (i := 4) (N := some 9) #[true, true, true, true, true, true, true, true, true, false, false, false, false] rfl rfl (one_of HT_.out (by kernel_rfl)) (by decide) (fun K hK => ?_)
 refine goes_ Try.func75 (by kernel_rfl) rfl #[.int .i64 a0_1, .int .i64 a1_1] (by rfl) rfl rfl (by (try simp only [List.map_toArray, List.map_cons, List.map_nil]); first | done | rfl | (simp only [List.length_drop, List.length_take]; rfl)) ?_
 with_reducible refine (cmp_Compare_int.calls a0_1 a1_1 t292 _ A3.out).mono ?_
 rintro e w' ⟨rfl, ⟨nd, rfl⟩⟩
 refine ⟨_, rfl, ?_⟩
 refine hK.out _ _ ⟨(blk_cell BK290.out 0).trans rfl, (blk_cell BK290.out 1).trans rfl, (blk_cell BK291.out 0).trans rfl, (blk_cell BK291.out 1).trans rfl⟩ (fun hHeld => ?_)
 clear hK K
 refine norm_ (a' := ?_) ?_ ?_
 rotate_left
 ·
  show Act.put _ (some 9) _ = _
  simp only [Act.put, List.setIfInBounds_toArray, List.set_cons_zero, List.set_cons_succ, i64_w, i32_w]
  rfl
 refine one_ (i := 9) (N := some 14) #[true, true, true, true, true, true, true, true, true, true, false, false, false] rfl rfl (one_of HT_.out (by kernel_rfl)) (by decide) (fun K hK => ?_)
 refine goes_ Try.func75 (by kernel_rfl) rfl #[.int .i64 a0_0, .int .i64 a1_0] (by rfl) rfl rfl (by (try simp only [List.map_toArray, List.map_cons, List.map_nil]); first | done | rfl | (simp only [List.length_drop, List.length_take]; rfl)) ?_
 with_reducible refine (cmp_Compare_int.calls a0_0 a1_0 t293 _ A4.out).mono ?_
 rintro e w' ⟨rfl, ⟨nd, rfl⟩⟩
 refine ⟨_, rfl, ?_⟩
 refine hK.out _ _ ⟨(blk_cell BK290.out 0).trans rfl, (blk_cell BK290.out 1).trans rfl, (blk_cell BK291.out 0).trans rfl, (blk_cell BK291.out 1).trans rfl⟩ (fun hHeld => ?_)
 clear hK K
 refine norm_ (a' := ?_) ?_ ?_
 rotate_left
 ·
  show Act.put _ (some 14) _ = _
  simp only [Act.put, List.setIfInBounds_toArray, List.set_cons_zero, List.set_cons_succ, i64_w, i32_w]
  rfl
 refine one_ (i := 10) (N := some 15) #[true, true, true, true, true, true, true, true, true, true, true, false, false] rfl rfl (one_of HT_.out (by kernel_rfl)) (by decide) (fun K hK => ?_)
 refine Kd.R_lit_step (Kd.int .i64) _ 3 ?hg (N := 15) ?hd (xs := ([t292, t293] : List Int)) (inner := [.int .i64 t292, .int .i64 t293]) (ok := fun _ => True) (okp := fun _ => True) ?hr ?hp (fun _ hk => hk) trivial (Below.refl _ _) (Nat.le_refl _) (by simp) ?_; (case hd => rfl); (case hg => rfl); (case hr => first | (go_simp; done) | (go_simp; rfl)); (case hp => exact (Reps.one (show Kd.M (Kd.int .i64) _ _ _ t292 [.int .i64 t292] from rfl) (Reps.one (show Kd.M (Kd.int .i64) _ _ _ t293 [.int .i64 t293] from rfl) (Reps.none _ _))))
 intro v295 w9 ho10 hb hg_ hnew_
 clear hg_ hnew_
 (first | rw [← Ny294.out] at ho10 | (simp only [Int.reduceToNat] at ho10; rw [← Ny294.out] at ho10))
 have n0_ := Ah (Kd.R_lower ho10 (below_size (bs2 HB GE290 GE291)))
 have n1_ := Ah (bb BK290 hb)
 have n2_ := Ah (bb BK291 hb)
 have n3_ := Ah (below_step (bs2 HB GE290 GE291) hb)
 clear BK290 BK291 HB
 have HO296 := n0_
 have BK290 := n1_
 have BK291 := n2_
 have HB := n3_
 clear n0_ n1_ n2_ n3_ hb ho10
 obtain ⟨Ao11, co11, eo11⟩ := Kd.R_slice HO296.out
 (first | subst eo11 | (injection eo11 with f1_ f2_ f3_; have f4_ := f1_.symm; have f5_ := f3_.symm; clear f1_ f2_ f3_; subst f4_; subst f5_))
 refine hK.out _ _ ⟨(blk_cell BK290.out 0).trans rfl, (blk_cell BK290.out 1).trans rfl, (blk_cell BK291.out 0).trans rfl, (blk_cell BK291.out 1).trans rfl⟩ (fun hHeld => ?_)
 clear hK K
 refine norm_ (a' := ?_) ?_ ?_
 rotate_left
 ·
  show Act.put _ (some 15) _ = _
  simp only [Act.put, List.setIfInBounds_toArray, List.set_cons_zero, List.set_cons_succ, i64_w, i32_w]
  rfl
 refine one_ (i := 11) (N := some 16) #[true, true, true, true, true, true, true, true, true, true, true, true, false] rfl rfl (one_of HT_.out (by kernel_rfl)) (by decide) (fun K hK => ?_)
 refine goes_ Try.func74 (by kernel_rfl) rfl #[.slice Ao11 y294.length co11] (by rfl) rfl rfl (by (try simp only [List.map_toArray, List.map_cons, List.map_nil]); first | done | rfl | (simp only [List.length_drop, List.length_take]; rfl)) ?_
 with_reducible refine (cmp_Or_int.calls k _ _ y294 t297 _ ?side1 ?side2 A5.out).mono ?_
 (case side1 => exact rc0 HO296)
 (case side2 => exact (Kd.R_reads' HO296.out).2.1)
 rintro e w' ⟨rfl, ⟨nd, rfl⟩⟩
 refine ⟨_, rfl, ?_⟩
 refine hK.out _ _ ⟨(blk_cell BK290.out 0).trans rfl, (blk_cell BK290.out 1).trans rfl, (blk_cell BK291.out 0).trans rfl, (blk_cell BK291.out 1).trans rfl⟩ (fun hHeld => ?_)
 clear hK K
 refine norm_ (a' := ?_) ?_ ?_
 rotate_left
 ·
  show Act.put _ (some 16) _ = _
  simp only [Act.put, List.setIfInBounds_toArray, List.set_cons_zero, List.set_cons_succ, i64_w, i32_w]
  rfl
 refine pureS 12 4 HT_.out ?_
 refine done_ (done_of HT_.out (by kernel_rfl)) ?_
 try go_wp2
 go_ret
 exact ⟨er, bs2 HB GE290 GE291⟩
set_option maxHeartbeats 8000000 in
set_option maxRecDepth 100000 in
theorem impl_compareSizes.exact (k : Nat) (a0_0 : Int) (a0_1 : Int) (a1_0 : Int) (a1_1 : Int) (r : Int) (w : World) (h : impl_compareSizes.f k a0_0 a0_1 a1_0 a1_1 = some r) :
  Calls Try.prog 71 #[.agg #[.int .i64 a0_0, .int .i64 a0_1], .agg #[.int .i64 a1_0, .int .i64 a1_1]] w fun e w' => e = .returned (.int .i64 r) ∧ Below w.heap.size w w' ∧ w.drawn ≤ w'.drawn := by
 have DR := Ah (Nat.le_refl w.drawn)
 have hu40 := Try.underlying40
 have HB := Ah (Below.refl w.heap.size w)
 have H : ((cmp_Compare_int.f a0_1 a1_1).bind fun t292 => ((cmp_Compare_int.f a0_0 a1_0).bind fun t293 => ((cmp_Or_int.f k (([t292, t293] : List Int))).bind fun t297 => (some t297)))) = some r := h
 clear h
 replace H := Option.bind_eq_some_iff.mp H
 obtain ⟨t292, A30, H⟩ := H
 try dsimp only at H
 have A3 := Ah A30
 clear A30
 replace H := Option.bind_eq_some_iff.mp H
 obtain ⟨t293, A40, H⟩ := H
 try dsimp only at H
 have A4 := Ah A40
 clear A40
 obtain ⟨y294, hy294⟩ : ∃ y_ : List Int, y_ = (([t292, t293] : List Int)) := ⟨_, rfl⟩
 replace H : ((cmp_Or_int.f k y294).bind fun t297 => (some t297)) = some r := by first | (rw [hy294]; with_reducible exact H) | (have H2_ := (Option.bind_some _ _).symm.trans H; rw [hy294]; with_reducible exact H2_) | (have H2_ := (Option.bind_some _ _).symm.trans H; with_reducible exact H2_) | with_reducible exact H | (rw [hy294]; exact H) | exact H
 have Ny294 := Ah hy294
 clear hy294
 replace H := Option.bind_eq_some_iff.mp H
 obtain ⟨t297, A50, H⟩ := H
 try dsimp only at H
 have A5 := Ah A50
 clear A50
 obtain rfl := Option.some.inj H
 go_enter Try.func71, Try.ntmps71
 try go_wp2_with (first | ((with_reducible refine gate_dst (N := 2) rfl ?_); refine box_eventD ?hg (N := 2) ?hd (cs := #[.int .i64 a0_0, .int .i64 a0_1]) (t := 40) ?hr ?_; (case hd => rfl); (case hg => rfl); (case hr => first | (go_simp; done) | (go_simp; rfl)); intro gb290 hg w6 hbox hb hdr_; replace DR := Ah (Nat.le_trans DR.out (Nat.le_of_eq hdr_.symm)); clear hdr_; have BK290 := Ah (hbox); have GW290 := gw hg (bs HB); have GE290 := gw hg (bs HB); replace HB := Ah (below_step (bs HB) hb); clear hb hbox hg) | ((with_reducible refine gate_dst (N := 3) rfl ?_); refine box_eventD ?hg (N := 3) ?hd (cs := #[.int .i64 a1_0, .int .i64 a1_1]) (t := 40) ?hr ?_; (case hd => rfl); (case hg => rfl); (case hr => first | (go_simp; done) | (go_simp; rfl)); intro gb291 hg w7 hbox hb hdr_; replace DR := Ah (Nat.le_trans DR.out (Nat.le_of_eq hdr_.symm)); clear hdr_; have BK291 := Ah (hbox); have GW291 := gw hg (bs1 HB GE290); have GE291 := gw hg (bs1 HB GE290); replace HB := Ah (below_step (bs1 HB GE290) hb); have NB290_291 := nn BK290 hg; have NB291_290 := nm BK290 hg; replace BK290 := nb BK290 hb; clear hb hbox hg))
 have n0_ := Ah (blk_drew BK290.out)
 have n1_ := Ah (blk_drew BK291.out)
 have n2_ := Ah (below_drew1 HB.out)
 clear BK290 BK291 HB
 have BK290 := n0_
 have BK291 := n1_
 have HB := n2_
 clear n0_ n1_ n2_
 refine start_ (n := 13) (S := fun w' => w'.cell? ⟨gb290, 0, none⟩ = some (.int .i64 a0_0) ∧ w'.cell? ⟨gb290, 1, none⟩ = some (.int .i64 a0_1) ∧ w'.cell? ⟨gb291, 0, none⟩ = some (.int .i64 a1_0) ∧ w'.cell? ⟨gb291, 1, none⟩ = some (.int .i64 a1_1)) (ds := []) #[false, false, false, false, false, false, false, false, false, false, false, false, false] (by kernel_rfl) rfl rfl ⟨(blk_cell BK290.out 0).trans rfl, (blk_cell BK290.out 1).trans rfl, (blk_cell BK291.out 0).trans rfl, (blk_cell BK291.out 1).trans rfl⟩ (fun hHeld => ?_); refine with_tabW impl_compareSizes.tab1 impl_compareSizes.bits1 (fun HT_ HW_ => ?_)
 have DR2 : w.drawn ≤ (w7.drew).drawn := Nat.le_trans DR.out (Nat.le_succ _)
 replace DR := Ah DR2
 clear DR2
 generalize w7.drew = w8 at DR BK290 BK291 HB hHeld ⊢
 refine pureS 0 5 HT_.out ?_
 refine pureS 2 7 HT_.out ?_
 refine pureS 5 10 HT_.out ?_
 refine pureS 7 12 HT_.out ?_
 refine takeS 1 6 HT_.out HW_.out hHeld (hr := by rintro w' ⟨s0, s1, s2, s3⟩; go_simp; with_reducible rfl) (h := ?_)
 refine takeS 3 8 HT_.out HW_.out hHeld (hr := by rintro w' ⟨s0, s1, s2, s3⟩; go_simp; with_reducible rfl) (h := ?_)
 refine takeS 6 11 HT_.out HW_.out hHeld (hr := by rintro w' ⟨s0, s1, s2, s3⟩; go_simp; with_reducible rfl) (h := ?_)
 refine takeS 8 13 HT_.out HW_.out hHeld (hr := by rintro w' ⟨s0, s1, s2, s3⟩; go_simp; with_reducible rfl) (h := ?_)
 refine one_ (i := 4) (N := some 9) #[true, true, true, true, true, true, true, true, true, false, false, false, false] rfl rfl (one_of HT_.out (by kernel_rfl)) (by decide) (fun K hK => ?_)
 refine goes_ Try.func75 (by kernel_rfl) rfl #[.int .i64 a0_1, .int .i64 a1_1] (by rfl) rfl rfl (by (try simp only [List.map_toArray, List.map_cons, List.map_nil]); first | done | rfl | (simp only [List.length_drop, List.length_take]; rfl)) ?_
 with_reducible refine (cmp_Compare_int.calls a0_1 a1_1 t292 _ A3.out).mono ?_
 rintro e w' ⟨rfl, ⟨nd, rfl⟩⟩
 refine ⟨_, rfl, ?_⟩
 refine hK.out _ _ ⟨(blk_cell BK290.out 0).trans rfl, (blk_cell BK290.out 1).trans rfl, (blk_cell BK291.out 0).trans rfl, (blk_cell BK291.out 1).trans rfl⟩ (fun hHeld => ?_)
 clear hK K
 refine norm_ (a' := ?_) ?_ ?_
 rotate_left
 ·
  show Act.put _ (some 9) _ = _
  simp only [Act.put, List.setIfInBounds_toArray, List.set_cons_zero, List.set_cons_succ, i64_w, i32_w]
  rfl
 refine one_ (i := 9) (N := some 14) #[true, true, true, true, true, true, true, true, true, true, false, false, false] rfl rfl (one_of HT_.out (by kernel_rfl)) (by decide) (fun K hK => ?_)
 refine goes_ Try.func75 (by kernel_rfl) rfl #[.int .i64 a0_0, .int .i64 a1_0] (by rfl) rfl rfl (by (try simp only [List.map_toArray, List.map_cons, List.map_nil]); first | done | rfl | (simp only [List.length_drop, List.length_take]; rfl)) ?_
 with_reducible refine (cmp_Compare_int.calls a0_0 a1_0 t293 _ A4.out).mono ?_
 rintro e w' ⟨rfl, ⟨nd, rfl⟩⟩
 refine ⟨_, rfl, ?_⟩
 refine hK.out _ _ ⟨(blk_cell BK290.out 0).trans rfl, (blk_cell BK290.out 1).trans rfl, (blk_cell BK291.out 0).trans rfl, (blk_cell BK291.out 1).trans rfl⟩ (fun hHeld => ?_)
 clear hK K
 refine norm_ (a' := ?_) ?_ ?_
 rotate_left
 ·
  show Act.put _ (some 14) _ = _
  simp only [Act.put, List.setIfInBounds_toArray, List.set_cons_zero, List.set_cons_succ, i64_w, i32_w]
  rfl
 refine one_ (i := 10) (N := some 15) #[true, true, true, true, true, true, true, true, true, true, true, false, false] rfl rfl (one_of HT_.out (by kernel_rfl)) (by decide) (fun K hK => ?_)
 refine Kd.R_lit_stepD (Kd.int .i64) _ 3 ?hg (N := 15) ?hd (xs := ([t292, t293] : List Int)) (inner := [.int .i64 t292, .int .i64 t293]) (ok := fun _ => True) (okp := fun _ => True) ?hr ?hp (fun _ hk => hk) trivial (Below.refl _ _) (Nat.le_refl _) (by simp) ?_; (case hd => rfl); (case hg => rfl); (case hr => first | (go_simp; done) | (go_simp; rfl)); (case hp => exact (Reps.one (show Kd.M (Kd.int .i64) _ _ _ t292 [.int .i64 t292] from rfl) (Reps.one (show Kd.M (Kd.int .i64) _ _ _ t293 [.int .i64 t293] from rfl) (Reps.none _ _))))
 intro v295 w9 ho10 hb hg_ hnew_ hdr_
 have DR2 : w.drawn ≤ w9.drawn := by have h1_ := DR.out; rw [hdr_]; simp only [World.drewN]; omega
 replace DR := Ah DR2
 clear DR2 hdr_ hg_ hnew_
 (first | rw [← Ny294.out] at ho10 | (simp only [Int.reduceToNat] at ho10; rw [← Ny294.out] at ho10))
 have n0_ := Ah (Kd.R_lower ho10 (below_size (bs2 HB GE290 GE291)))
 have n1_ := Ah (bb BK290 hb)
 have n2_ := Ah (bb BK291 hb)
 have n3_ := Ah (below_step (bs2 HB GE290 GE291) hb)
 clear BK290 BK291 HB
 have HO296 := n0_
 have BK290 := n1_
 have BK291 := n2_
 have HB := n3_
 clear n0_ n1_ n2_ n3_ hb ho10
 obtain ⟨Ao11, co11, eo11⟩ := Kd.R_slice HO296.out
 (first | subst eo11 | (injection eo11 with f1_ f2_ f3_; have f4_ := f1_.symm; have f5_ := f3_.symm; clear f1_ f2_ f3_; subst f4_; subst f5_))
 refine hK.out _ _ ⟨(blk_cell BK290.out 0).trans rfl, (blk_cell BK290.out 1).trans rfl, (blk_cell BK291.out 0).trans rfl, (blk_cell BK291.out 1).trans rfl⟩ (fun hHeld => ?_)
 clear hK K
 refine norm_ (a' := ?_) ?_ ?_
 rotate_left
 ·
  show Act.put _ (some 15) _ = _
  simp only [Act.put, List.setIfInBounds_toArray, List.set_cons_zero, List.set_cons_succ, i64_w, i32_w]
  rfl
 refine one_ (i := 11) (N := some 16) #[true, true, true, true, true, true, true, true, true, true, true, true, false] rfl rfl (one_of HT_.out (by kernel_rfl)) (by decide) (fun K hK => ?_)
 refine goes_ Try.func74 (by kernel_rfl) rfl #[.slice Ao11 y294.length co11] (by rfl) rfl rfl (by (try simp only [List.map_toArray, List.map_cons, List.map_nil]); first | done | rfl | (simp only [List.length_drop, List.length_take]; rfl)) ?_
 with_reducible refine (cmp_Or_int.calls k _ _ y294 t297 _ ?side1 ?side2 A5.out).mono ?_
 (case side1 => exact rc0 HO296)
 (case side2 => exact (Kd.R_reads' HO296.out).2.1)
 rintro e w' ⟨rfl, ⟨nd, rfl⟩⟩
 refine ⟨_, rfl, ?_⟩
 refine hK.out _ _ ⟨(blk_cell BK290.out 0).trans rfl, (blk_cell BK290.out 1).trans rfl, (blk_cell BK291.out 0).trans rfl, (blk_cell BK291.out 1).trans rfl⟩ (fun hHeld => ?_)
 clear hK K
 refine norm_ (a' := ?_) ?_ ?_
 rotate_left
 ·
  show Act.put _ (some 16) _ = _
  simp only [Act.put, List.setIfInBounds_toArray, List.set_cons_zero, List.set_cons_succ, i64_w, i32_w]
  rfl
 refine pureS 12 4 HT_.out ?_
 refine done_ (done_of HT_.out (by kernel_rfl)) ?_
 try go_wp2
 go_ret
 exact ⟨er, bs2 HB GE290 GE291, by have h1_ := DR.out; first | exact h1_ | (simp only [World.drewN]; omega)⟩
def leSizes (x y : S40) : Bool := decide (x.f1 < y.f1 ∨ x.f1 = y.f1 ∧ x.f0 ≤ y.f0)
def slices_SortFunc_impl_Extent_at_impl_compareSizes.f (l0 : List S40) : Option (List S40) := if l0.length ≤ 1048576 then some (l0.mergeSort leSizes) else none
def cmpInts (a b : Int) : Int := if a < b then -1 else if a > b then 1 else 0
def cmpSizes (x y : S40) : Int := if cmpInts x.f1 y.f1 = 0 then cmpInts x.f0 y.f0 else cmpInts x.f1 y.f1
theorem cmpInts_eq (a b : Int) : cmp_Compare_int.f a b = some (cmpInts a b) := by
  unfold cmp_Compare_int.f cmp_isNaN_int.f cmpInts
  have e : (a != a) = false := by simp
  have e2 : (b != b) = false := by simp
  rw [e, e2]
  simp only [Option.bind_some, Bool.false_eq_true, if_false]
  by_cases h1 : a < b
  · rw [if_pos h1, if_pos h1]
  · rw [if_neg h1, if_neg h1]
    by_cases h2 : a > b
    · rw [if_pos h2, if_pos h2]
    · rw [if_neg h2, if_neg h2]
theorem cmpOr_eq (a b : Int) : cmp_Or_int.f 3 [a, b] = some (if a = 0 then b else a) := by
  have w1 : wrap64 (0 + 1) = 1 := by unfold wrap64; omega
  have w2 : wrap64 (1 + 1) = 2 := by unfold wrap64; omega
  unfold cmp_Or_int.f
  have l : (([a, b] : List Int).length : Int) = 2 := rfl
  rw [l, cmp_Or_int.l0, if_pos (by decide), if_pos (by decide), l, if_pos (by decide), show rd [a, b] 0 = a from rfl]
  by_cases h : a = 0
  · rw [if_pos h, if_pos h, w1, cmp_Or_int.l0, if_pos (by decide), if_pos (by decide), l, if_pos (by decide), show rd [a, b] 1 = b from rfl]
    by_cases h2 : b = 0
    · rw [if_pos h2, w2, cmp_Or_int.l0, if_neg (by decide), h2]
    · rw [if_neg h2]
  · rw [if_neg h, if_neg h]
theorem cmpSizes_eq (x y : S40) : impl_compareSizes.f 3 x.f0 x.f1 y.f0 y.f1 = some (cmpSizes x y) := by
  unfold impl_compareSizes.f
  rw [cmpInts_eq, Option.bind_some, cmpInts_eq, Option.bind_some, cmpOr_eq, Option.bind_some]
  rfl
theorem cmpInts_lt (a b : Int) : cmpInts a b < 0 ↔ a < b := by
  unfold cmpInts
  split
  · omega
  · split <;> omega
theorem cmpInts_zero (a b : Int) : cmpInts a b = 0 ↔ a = b := by
  unfold cmpInts
  split
  · omega
  · split <;> omega
theorem cmpSizes_lt (x y : S40) : Go.Proofs.ltOf cmpSizes x y = decide (x.f1 < y.f1 ∨ x.f1 = y.f1 ∧ x.f0 < y.f0) := by
  unfold Go.Proofs.ltOf cmpSizes
  refine decide_eq_decide.2 ?_
  by_cases h : cmpInts x.f1 y.f1 = 0
  · rw [if_pos h, cmpInts_lt]
    have := (cmpInts_zero _ _).1 h
    omega
  · rw [if_neg h, cmpInts_lt]
    have : x.f1 ≠ y.f1 := fun e => h ((cmpInts_zero _ _).2 e)
    omega
def encSizes (x : S40) : List Value := [.int .i64 x.f0, .int .i64 x.f1]
instance : Inhabited S40 := ⟨z40⟩
theorem swoSizes : Go.Sort.SWO (Go.Proofs.ltOf cmpSizes) where
  irrefl x := by rw [cmpSizes_lt]; simp
  trans x y z h1 h2 := by rw [cmpSizes_lt] at *; simp only [decide_eq_true_eq] at *; omega
  ntrans x y z h1 h2 := by rw [cmpSizes_lt] at *; simp only [decide_eq_false_iff_not] at *; omega
theorem totSizes (x y : S40) (h1 : Go.Proofs.ltOf cmpSizes x y = false) (h2 : Go.Proofs.ltOf cmpSizes y x = false) : x = y := by
  rw [cmpSizes_lt] at *
  simp only [decide_eq_false_iff_not] at *
  obtain ⟨a, b⟩ := x
  obtain ⟨c, d⟩ := y
  simp only at *
  rw [show a = c by omega, show b = d by omega]
theorem leSizes_eq : (fun x y => !(Go.Proofs.ltOf cmpSizes) y x) = leSizes := by
  funext x y
  rw [cmpSizes_lt]
  unfold leSizes
  rw [Bool.eq_iff_iff, Bool.not_eq_true', decide_eq_false_iff_not, decide_eq_true_iff]
  omega
set_option maxRecDepth 100000 in
theorem slices_SortFunc_impl_Extent_at_impl_compareSizes.calls (P0_ : Nat → Prop) (u9000_ : Value) (l0 : List S40) (r : List S40) (w0 w : World) (hB : Below w0.heap.size w0 w) (ho0 : Kd.R k40 40 w w0.heap.size P0_ u9000_ l0) (h : slices_SortFunc_impl_Extent_at_impl_compareSizes.f l0 = some r) :
    Calls Try.prog 70 #[u9000_, .func (.func 71) #[] #[]] w fun e w' => e = .returned (.tuple #[]) ∧ Kd.R k40 40 w' w0.heap.size (fun k_ => (P0_ k_ ∨ w.heap.size ≤ k_)) u9000_ r ∧ Below w0.heap.size w0 w' ∧ Kept w w' (fun k_ => P0_ k_) := by
  unfold slices_SortFunc_impl_Extent_at_impl_compareSizes.f at h
  by_cases hl0 : l0.length ≤ 1048576
  case neg => rw [if_neg hl0] at h; cases h
  rw [if_pos hl0] at h
  obtain rfl := Option.some.inj h
  rcases holdsK_of_R (d := k40) encSizes (fun _ => rfl) (by decide) (fun hm => k40_openM hm) ho0 with ⟨rfl, rfl⟩ | ⟨g, cap, cur, rfl, hb, hok, hlt, hg, hc, hm, hs, hH⟩
  · refine (Go.Proofs.AnyF.slices_SortFunc_none Go.Proofs.Ytpfimjgfojdhhaa.Srt.sortEx none 0 _ w).mono fun e w' hp => ?_
    obtain ⟨rfl, rfl⟩ := hp
    exact ⟨rfl, by simpa using Kd.R_nil _ _ _ _ _, hB, Kept.refl _ _⟩
  · have eg : ∀ args w, (callFunc 71 args).run Try.prog w = .ok (.enter 71 args) w := Go.Proofs.enters_of Try.func71 (by kernel_rfl) rfl
    have hcmp : Go.Proofs.CmpLays Try.prog 71 #[] encSizes 2 cmpSizes g 0 l0.toArray.size w := fun m os dk _ x y =>
      (impl_compareSizes.exact 3 x.f0 x.f1 y.f0 y.f1 _ _ (cmpSizes_eq x y)).mono fun e w' hp => ⟨hp.1, grow_of_below hp.2.1 hp.2.2⟩
    have hm' : cap ≤ 9223372036854775807 := hm
    have hsz : l0.toArray.size < 4611686018427387904 := by
      rw [List.size_toArray]
      omega
    have hcon := Go.Proofs.AnyQ.slices_SortFunc_total Go.Proofs.Ytpfimjgfojdhhaa.Srt.sortEx 2 Try.isAgg40 Try.sizeOf40 encSizes (fun _ => rfl) (fun x v hv => by simp [encSizes] at hv; rcases hv with rfl | rfl <;> rfl) cmpSizes swoSizes 71 #[] g 0 cap l0.toArray w eg hcmp hH hlt hsz totSizes
    refine Calls.mono (show Calls Try.prog 70 #[.slice (some ⟨g, 0, none⟩) l0.length cap, .func (.func 71) #[] #[]] w _ from hcon) fun e w' hp => ?_
    obtain ⟨rfl, n, os, rfl⟩ := hp
    rw [leSizes_eq]
    have := R_of_sort (d := k40) encSizes (fun _ => rfl) (by decide) (fun W base ok x => k40_mkM W base ok x) hB hb hok hlt hg hc hm hs (l0.mergeSort leSizes).toArray (by simp) n os
    have h1 := this.1
    simp at h1
    exact ⟨rfl, h1, this.2.1, this.2.2⟩
def impl_freeOf.f (a0 : Int) (l1 : List (S40)) : Option (Int × (List (S40)) × (List (S40))) := (impl_Extent_57.f l1).bind fun t299 => ((slices_SortFunc_impl_Extent_at_impl_compareSizes.f t299).bind fun t302 => (some (a0, l1, t302)))
set_option maxHeartbeats 8000000 in
set_option maxRecDepth 100000 in
theorem impl_freeOf.calls (a0 : Int) (P1_ : Nat → Prop) (A1 : Option Addr) (c1 : Nat) (l1 : List (S40)) (r1 : Int) (r2 : List (S40)) (r3 : List (S40)) (w : World) (hs1 : Kd.V k40 40 w w.heap.size (fun k_ => P1_ k_) (.slice A1 l1.length c1) l1) (h : impl_freeOf.f a0 l1 = some (r1, r2, r3)) :
  Calls Try.prog 64 #[.int .i64 a0, .slice A1 l1.length c1] w fun e w' => ∃ v1_ v2_ : Value, e = .returned (.agg #[.int .i64 r1, v1_, v2_]) ∧ Kd.V k40 40 w' w.heap.size (fun k_ => (P1_ k_ ∨ w.heap.size ≤ k_) ∧ some k_ ≠ (v2_ : Value).ownBlock) v1_ r2 ∧ Kd.R k40 40 w' w.heap.size (fun k_ => (w.heap.size ≤ k_)) v2_ r3 ∧ Below w.heap.size w w' := by
 have hu33 := Try.underlying33
 have HO1 := Ah (show Kd.V k40 40 w w.heap.size (fun k_ => (P1_ k_ ∨ w.heap.size ≤ k_)) (.slice A1 l1.length c1) l1 from Kd.V_mono hs1 (fun k_ hk => .inl hk))
 have HB := Ah (Below.refl w.heap.size w)
 have H : ((impl_Extent_57.f l1).bind fun t299 => ((slices_SortFunc_impl_Extent_at_impl_compareSizes.f t299).bind fun t302 => (some (a0, l1, t302)))) = some (r1, r2, r3) := h
 clear h
 replace H := Option.bind_eq_some_iff.mp H
 obtain ⟨t299, A30, H⟩ := H
 try dsimp only at H
 have A3 := Ah A30
 clear A30
 replace H := Option.bind_eq_some_iff.mp H
 obtain ⟨t302, A40, H⟩ := H
 try dsimp only at H
 have A4 := Ah A40
 clear A40
 simp only [Option.some.injEq, Prod.mk.injEq] at H
 obtain ⟨rfl, rfl, rfl⟩ := H
 go_enter Try.func64, Try.ntmps64
 go_wp2_with (first | ((with_reducible refine gate_dst (N := 4) rfl ?_); refine boxL 4 33 #[.int .i64 0, .slice none 0 0, .slice none 0 0] ?_; intro gb298 hg w5 BK298 hb; replace HO1 := Ah (Kd.V_below (Kd.V_elderB (by (with_reducible repeat (first | apply Kd.V_alloc | apply Kd.V_drewN | apply Kd.V_drew)); exact HO1.out) gb298 (Nat.le_of_eq hg.symm)) hb); have GW298 := gw hg (bs HB); have GE298 := gw hg (bs HB); replace HB := Ah (below_step (bs HB) hb); clear hb hg) | ((with_reducible refine gate_callee (f := 57) rfl ?_); refine gL (some 7) rfl rfl Try.func57 (by kernel_rfl) rfl #[.slice A1 l1.length c1] rfl ?_; (with_reducible refine (impl_Extent_57.calls _ _ l1 t299 _ ?side1 ?side2 A3.out).mono ?_); (case side1 => repeat (first | exact (Kd.V_reads' HO1.out).2.2 | (with_reducible refine Kd.C_alloc ?_ _) | (with_reducible refine Kd.C_drewN ?_ _) | (with_reducible refine Kd.C_drew ?_))); (case side2 => exact (Kd.V_reads' HO1.out).2.1); rintro e w6 ⟨v300, rfl, ho0, hb⟩; refine ⟨_, rfl, ?_⟩; replace HO1 := Ah (Kd.V_elder' (by (with_reducible repeat (first | apply Kd.V_alloc | apply Kd.V_drewN | apply Kd.V_drew)); exact HO1.out) (Kd.R_base ho0) hb); have HO301 := Ah (Kd.R_lower (Kd.R_newM (M := fun k_ => (w.heap.size ≤ k_)) ho0 (below_size (bs1 HB GE298)) (fun k_ h_ => h_)) (below_size (bs1 HB GE298))); replace BK298 := nb BK298 hb; replace HB := Ah (below_step (bs1 HB GE298) hb); (try clear hb ho0); obtain ⟨Ao7, co7, eo7⟩ := Kd.R_slice HO301.out; subst eo7) | ((with_reducible refine gate_callee (f := 70) rfl ?_); refine gL (some 9) rfl rfl Try.func70 (by kernel_rfl) rfl #[.slice Ao7 t299.length co7, .func (.func 71) #[] #[]] rfl ?_; (with_reducible refine (slices_SortFunc_impl_Extent_at_impl_compareSizes.calls (fun k_ => some k_ = (.slice Ao7 t299.length co7 : Value).ownBlock) (.slice Ao7 t299.length co7) t299  t302 w _ ?side1 ?side2 A4.out).mono ?_); (case side1 => repeat (first | (with_reducible first | exact HB.out | apply below_alloc | apply pw_below_drewN | apply below_drew1 | refine below_set ?_ GE298.out) | exact HB.out)); (case side2 => exact Kd.R_tight rfl HO301.out); rintro e w8 ⟨rfl, hy0, hb, hkp⟩; refine ⟨_, rfl, ?_⟩; replace HO1 := Ah (Kd.V_mono (ok' := fun k_ => (P1_ k_ ∨ w.heap.size ≤ k_) ∧ some k_ ≠ (.slice Ao7 t299.length co7 : Value).ownBlock ∧ k_ ≠ gb298) (Kd.V_keptB (HO1.out) hkp (fun k_ hk_ hs_ => (hk_.2) hs_)) (fun k_ hk_ => ⟨hk_.1.1.1, hk_.1.2, hk_.1.1.2⟩)); replace BK298 := Ah (blk_kept (bk BK298) hkp (fun hs_ => (fun e_ => (Kd.R_ne HO301.out BK298.out (by decide)) e_) hs_)); replace HO301 := Ah (Kd.R_reok rfl hy0 (fun k_ e_ => HO301.out.1 k_ e_)); replace HB := Ah (hb); (try clear hb hkp hy0); obtain ⟨hcz9_0, hcz9_1, hcz9_2⟩ := cz3 BK298; obtain ⟨hfz9_0, hfz9_1, hfz9_2⟩ := fz3 BK298))
 refine bodyPost_ret (results_cell_row rfl _ _ gb298 33 #[.int .i64 a0, .slice A1 l1.length c1, .slice Ao7 t299.length co7] (0, 0) _ rfl (by (with_reducible repeat (first | refine blk_drewN ?_ _ | refine blk_drew ?_ | refine blk_alloc ?_ _)); refine blk_put (cs := #[.int .i64 a0, .slice A1 l1.length c1, .slice none 0 0]) ?_ 2 _ rfl; (with_reducible repeat (first | refine blk_drewN ?_ _ | refine blk_drew ?_ | refine blk_alloc ?_ _)); refine blk_put (cs := #[.int .i64 a0, .slice none 0 0, .slice none 0 0]) ?_ 1 _ rfl; (with_reducible repeat (first | refine blk_drewN ?_ _ | refine blk_drew ?_ | refine blk_alloc ?_ _)); refine blk_put (cs := #[.int .i64 0, .slice none 0 0, .slice none 0 0]) ?_ 0 _ rfl; (with_reducible repeat (first | refine blk_drewN ?_ _ | refine blk_drew ?_ | refine blk_alloc ?_ _)); exact BK298.out) Try.underlying33 rfl (by kernel_rfl)) rfl ?_
 exact ⟨_, _, er, by (with_reducible repeat (first | apply Kd.V_alloc | apply Kd.V_drewN | apply Kd.V_drew)); exact Kd.V_mono (Kd.V_far (p := ⟨gb298, 2, none⟩) (Kd.V_far (p := ⟨gb298, 1, none⟩) (Kd.V_far (p := ⟨gb298, 0, none⟩) (Kd.V_mono HO1.out (fun k_ hk => (⟨hk, hk.2.2⟩ : _ ∧ k_ ≠ gb298))) (fun _ hk => hk.2) (.int .i64 a0)) (fun _ hk => hk.2) (.slice A1 l1.length c1)) (fun _ hk => hk.2) (.slice Ao7 t299.length co7)) (fun _ hk => ⟨hk.1.1, hk.1.2.1⟩), by (with_reducible repeat (first | apply Kd.R_alloc | apply Kd.R_drewN | apply Kd.R_drew)); exact Kd.R_mono (Kd.R_far (p := ⟨gb298, 2, none⟩) (Kd.R_far (p := ⟨gb298, 1, none⟩) (Kd.R_far (p := ⟨gb298, 0, none⟩) (Kd.R_types HO301.out BK298.out (by decide)) (fun _ hk => hk.2) (.int .i64 a0)) (fun _ hk => hk.2) (.slice A1 l1.length c1)) (fun _ hk => hk.2) (.slice Ao7 t299.length co7)) (fun _ hk => hk.1.1), bs1 HB GE298⟩
end Go.Proofs.Ytpfimjgfojdhhaa.G
