-- Printed by a program of this session (drive.py, by way of the kit's print). Not trusted: Lean checks it.
import Derived.Test.YtakgjdckolllaaaG0
import Derived.Test.YtakgjdckolllaaaG4
import Derived.Test.YtakgjdckolllaaaG5
namespace Go.Proofs.Ytakgjdckolllaaa.G
open Go.RowKit Go.Proofs.YtakgjdckolllaaaW.PrintWords Go.Proofs.YtakgjdckolllaaaW.PrintLast Go.Proofs.YtakgjdckolllaaaW.PrintMore
attribute [local go_sem] max2_int min2_int max_two min_two max_three min_three max_four min_four
set_option linter.unusedVariables false
set_option linter.unusedSimpArgs false
def impl_withItem.f (k : Nat) (a0_0 : Int) (l0_1 : List (S53)) (l0_2 : List (S53)) (a0_3 : Int) (l0_4 : List (S71)) (a1_0 : Int) (a1_1 : Int) (a1_2 : Int) (a1_3 : Int) (a1_4 : Int) (a2 : Int) : Option (Int × (List (S53)) × (List (S53)) × Int × (List (S71)) × Bool) := (impl_ownFree.f a0_0 l0_1 l0_2).bind fun bt424 => ((impl_Item_68.f l0_4).bind fun t431 => ((some (([(⟨a1_0, a1_1, (⟨a1_2, a1_3⟩ : S53), a1_4⟩ : S71)] : List (S71)) : List (S71))).bind fun y434 => (if t431.length + y434.length < 3518437208883 then ((some (t431 ++ y434 : List (S71))).bind fun y437 => ((impl_GoodWork.f k a0_0 l0_1 l0_2 a0_3 l0_4).bind fun t441 => (if t441 = true then ((impl_GoodWork.f k bt424.1 bt424.2.1 bt424.2.2 a2 y437).bind fun t442 => (if t442 = true then (some (bt424.1, bt424.2.1, bt424.2.2, a2, y437, true)) else (some (0, ([] : List (S53)), ([] : List (S53)), 0, ([] : List (S71)), false)))) else (some (0, ([] : List (S53)), ([] : List (S53)), 0, ([] : List (S71)), false))))) else (none))))
theorem impl_withItem.mono : ∀ a0 a1 a2 a3 a4 a5 a6 a7 a8 a9 a10 k, LeO (impl_withItem.f k a0 a1 a2 a3 a4 a5 a6 a7 a8 a9 a10) (impl_withItem.f (k + 1) a0 a1 a2 a3 a4 a5 a6 a7 a8 a9 a10) := by
 intro a0 a1 a2 a3 a4 a5 a6 a7 a8 a9 a10 k
 unfold impl_withItem.f
 repeat' first
   | (with_reducible exact impl_GoodWork.mono _ _ _ _ _ _)
   | (with_reducible exact LeO.refl _)
   | (with_reducible exact LeO.none _)
   | (with_reducible refine LeO.ite ?_ ?_)
   | (with_reducible refine LeO.bind ?_ (fun _ => ?_))
   | exact impl_GoodWork.mono _ _ _ _ _ _
   | exact LeO.none _
   | refine LeO.ite ?_ ?_
   | refine LeO.bind ?_ (fun _ => ?_)
def impl_withItem.T1 : Bool × List (List Nat × List Nat) := (true, [([], []), ([0], [0]), ([1], [1]), ([], []), ([], []), ([4], [4]), ([5, 2], [5]), ([], []), ([7], [7]), ([6, 8, 6], [6, 8]), ([2, 3, 9], [2, 3, 9]), ([], []), ([11, 10, 9, 0, 1, 2, 3, 4, 5, 6, 7, 8, 9, 10, 11], [10, 11])])
def impl_withItem.B1 : List Nat := [0, 1, 3, 0, 0, 16, 55, 0, 128, 503, 1023, 0, 4095]
theorem impl_withItem.tab1 : rtab .any (opsOf Try.f49 1) = impl_withItem.T1 := by kernel_rfl
theorem impl_withItem.bits1 : waitsOk impl_withItem.T1.2 impl_withItem.B1 = true := by kernel_rfl
set_option maxHeartbeats 8000000 in
set_option maxRecDepth 100000 in
theorem impl_withItem.calls (k : Nat) (a0_0 : Int) (A0_1 : Option Addr) (c0_1 : Nat) (l0_1 : List (S53)) (A0_2 : Option Addr) (c0_2 : Nat) (l0_2 : List (S53)) (a0_3 : Int) (A0_4 : Option Addr) (c0_4 : Nat) (l0_4 : List (S71)) (a1_0 : Int) (a1_1 : Int) (a1_2 : Int) (a1_3 : Int) (a1_4 : Int) (a2 : Int) (r1 : Int) (r2 : List (S53)) (r3 : List (S53)) (r4 : Int) (r5 : List (S71)) (r6 : Bool) (w : World) (hr0_1 : Kd.C k53 w A0_1 l0_1.length l0_1) (hc0_1 : l0_1.length ≤ c0_1) (hr0_2 : Kd.C k53 w A0_2 l0_2.length l0_2) (hc0_2 : l0_2.length ≤ c0_2) (hr0_4 : Kd.C k71 w A0_4 l0_4.length l0_4) (hc0_4 : l0_4.length ≤ c0_4) (h : impl_withItem.f k a0_0 l0_1 l0_2 a0_3 l0_4 a1_0 a1_1 a1_2 a1_3 a1_4 a2 = some (r1, r2, r3, r4, r5, r6)) :
  Calls Try.prog 49 #[.agg #[.int .i64 a0_0, .slice A0_1 l0_1.length c0_1, .slice A0_2 l0_2.length c0_2, .int .i64 a0_3, .slice A0_4 l0_4.length c0_4], .agg #[.int .i64 a1_0, .int .i64 a1_1, .int .i64 a1_2, .int .i64 a1_3, .int .i64 a1_4], .int .i64 a2] w fun e w' => ∃ v1_ v2_ v4_ : Value, e = .returned (.tuple #[.agg #[.int .i64 r1, v1_, v2_, .int .i64 r4, v4_], .bool r6]) ∧ Kd.R k53 53 w' w.heap.size (fun k_ => some k_ ≠ (v2_ : Value).ownBlock) v1_ r2 ∧ Kd.R k53 53 w' w.heap.size (fun k_ => some k_ ≠ (v1_ : Value).ownBlock) v2_ r3 ∧ Kd.R k71 71 w' w.heap.size (fun _ => True) v4_ r5 ∧ Below w.heap.size w w' := by
 have hu27 := Try.underlying27
 have hu71 := Try.underlying71
 have hu24 := Try.underlying24
 have HR0_1 := Ah hr0_1
 have HC0_1 := Ah hc0_1
 clear hr0_1 hc0_1
 have HR0_2 := Ah hr0_2
 have HC0_2 := Ah hc0_2
 clear hr0_2 hc0_2
 have HR0_4 := Ah hr0_4
 have HC0_4 := Ah hc0_4
 clear hr0_4 hc0_4
 have HB := Ah (Below.refl w.heap.size w)
 have H : ((impl_ownFree.f a0_0 l0_1 l0_2).bind fun bt424 => ((impl_Item_68.f l0_4).bind fun t431 => ((some (([(⟨a1_0, a1_1, (⟨a1_2, a1_3⟩ : S53), a1_4⟩ : S71)] : List (S71)) : List (S71))).bind fun y434 => (if t431.length + y434.length < 3518437208883 then ((some (t431 ++ y434 : List (S71))).bind fun y437 => ((impl_GoodWork.f k a0_0 l0_1 l0_2 a0_3 l0_4).bind fun t441 => (if t441 = true then ((impl_GoodWork.f k bt424.1 bt424.2.1 bt424.2.2 a2 y437).bind fun t442 => (if t442 = true then (some (bt424.1, bt424.2.1, bt424.2.2, a2, y437, true)) else (some (0, ([] : List (S53)), ([] : List (S53)), 0, ([] : List (S71)), false)))) else (some (0, ([] : List (S53)), ([] : List (S53)), 0, ([] : List (S71)), false))))) else (none))))) = some (r1, r2, r3, r4, r5, r6) := h
 clear h
 replace H := Option.bind_eq_some_iff.mp H
 obtain ⟨⟨t424, t425, t428⟩, A40, H⟩ := H
 try dsimp only at H
 have A4 := Ah A40
 clear A40
 replace H := Option.bind_eq_some_iff.mp H
 obtain ⟨t431, A50, H⟩ := H
 try dsimp only at H
 have A5 := Ah A50
 clear A50
 obtain ⟨y434, hy434⟩ : ∃ y_ : List (S71), y_ = (([(⟨a1_0, a1_1, (⟨a1_2, a1_3⟩ : S53), a1_4⟩ : S71)] : List (S71))) := ⟨_, rfl⟩
 replace H : (if t431.length + y434.length < 3518437208883 then ((some (t431 ++ y434 : List (S71))).bind fun y437 => ((impl_GoodWork.f k a0_0 l0_1 l0_2 a0_3 l0_4).bind fun t441 => (if t441 = true then ((impl_GoodWork.f k t424 t425 t428 a2 y437).bind fun t442 => (if t442 = true then (some (t424, t425, t428, a2, y437, true)) else (some (0, ([] : List (S53)), ([] : List (S53)), 0, ([] : List (S71)), false)))) else (some (0, ([] : List (S53)), ([] : List (S53)), 0, ([] : List (S71)), false))))) else (none)) = some (r1, r2, r3, r4, r5, r6) := by first | (rw [hy434]; with_reducible exact H) | (have H2_ := (Option.bind_some _ _).symm.trans H; rw [hy434]; with_reducible exact H2_) | (have H2_ := (Option.bind_some _ _).symm.trans H; with_reducible exact H2_) | with_reducible exact H | (rw [hy434]; exact H) | exact H
 have Ny434 := Ah hy434
 clear hy434
 have H_ := Ah H
 clear H
 go_enter Try.func49, Try.ntmps49
 try go_wp2_with (first | ((with_reducible refine gate_dst (N := 3) rfl ?_); refine boxL 3 27 #[.int .i64 a0_0, .slice A0_1 l0_1.length c0_1, .slice A0_2 l0_2.length c0_2, .int .i64 a0_3, .slice A0_4 l0_4.length c0_4] ?_; intro gb421 hg w11 BK421 hb; have GW421 := gw hg (bs HB); have GE421 := gw hg (bs HB); replace HB := Ah (below_step (bs HB) hb); clear hb hg) | ((with_reducible refine gate_dst (N := 4) rfl ?_); refine boxL 4 71 #[.int .i64 a1_0, .int .i64 a1_1, .int .i64 a1_2, .int .i64 a1_3, .int .i64 a1_4] ?_; intro gb422 hg w12 BK422 hb; have GW422 := gw hg (bs1 HB GE421); have GE422 := gw hg (bs1 HB GE421); replace HB := Ah (below_step (bs1 HB GE421) hb); have NB421_422 := nn BK421 hg; have NB422_421 := nm BK421 hg; replace BK421 := nb BK421 hb; clear hb hg) | ((with_reducible refine gate_dst (N := 6) rfl ?_); refine boxL 6 27 #[.int .i64 0, .slice none 0 0, .slice none 0 0, .int .i64 0, .slice none 0 0] ?_; intro gb423 hg w13 BK423 hb; have GW423 := gw hg (bs2 HB GE421 GE422); have GE423 := gw hg (bs2 HB GE421 GE422); replace HB := Ah (below_step (bs2 HB GE421 GE422) hb); have NB421_423 := nn BK421 hg; have NB423_421 := nm BK421 hg; replace BK421 := nb BK421 hb; have NB422_423 := nn BK422 hg; have NB423_422 := nm BK422 hg; replace BK422 := nb BK422 hb; clear hb hg))
 have n0_ := Ah (blk_drew BK421.out)
 have n1_ := Ah (blk_drew BK422.out)
 have n2_ := Ah (blk_drew BK423.out)
 have n3_ := Ah (below_drew1 HB.out)
 clear BK421 BK422 BK423 HB
 have BK421 := n0_
 have BK422 := n1_
 have BK423 := n2_
 have HB := n3_
 clear n0_ n1_ n2_ n3_
 refine start_ (n := 13) (S := fun w' => w'.cell? ⟨gb421, 0, none⟩ = some (.int .i64 a0_0) ∧ w'.cell? ⟨gb421, 1, none⟩ = some (.slice A0_1 l0_1.length c0_1) ∧ w'.cell? ⟨gb421, 2, none⟩ = some (.slice A0_2 l0_2.length c0_2) ∧ w'.cell? ⟨gb421, 3, none⟩ = some (.int .i64 a0_3) ∧ w'.cell? ⟨gb421, 4, none⟩ = some (.slice A0_4 l0_4.length c0_4) ∧ w'.cell? ⟨gb422, 0, none⟩ = some (.int .i64 a1_0) ∧ w'.cell? ⟨gb422, 1, none⟩ = some (.int .i64 a1_1) ∧ w'.cell? ⟨gb422, 2, none⟩ = some (.int .i64 a1_2) ∧ w'.cell? ⟨gb422, 3, none⟩ = some (.int .i64 a1_3) ∧ w'.cell? ⟨gb422, 4, none⟩ = some (.int .i64 a1_4)) (ds := []) #[false, false, false, false, false, false, false, false, false, false, false, false, false] (by kernel_rfl) rfl rfl ⟨(blk_cell BK421.out 0).trans rfl, (blk_cell BK421.out 1).trans rfl, (blk_cell BK421.out 2).trans rfl, (blk_cell BK421.out 3).trans rfl, (blk_cell BK421.out 4).trans rfl, (blk_cell BK422.out 0).trans rfl, (blk_cell BK422.out 1).trans rfl, (blk_cell BK422.out 2).trans rfl, (blk_cell BK422.out 3).trans rfl, (blk_cell BK422.out 4).trans rfl⟩ (fun hHeld => ?_); refine with_tabW impl_withItem.tab1 impl_withItem.bits1 (fun HT_ HW_ => ?_)
 generalize w13.drew = w14 at BK421 BK422 BK423 HB hHeld ⊢
 refine pureS 0 9 HT_.out ?_
 refine pureS 3 12 HT_.out ?_
 refine pureS 4 13 HT_.out ?_
 refine takeS 1 10 HT_.out HW_.out hHeld (hr := by rintro w' ⟨s0, s1, s2, s3, s4, s5, s6, s7, s8, s9⟩; go_simp; with_reducible rfl) (h := ?_)
 refine takeS 5 14 HT_.out HW_.out hHeld (hr := by rintro w' ⟨s0, s1, s2, s3, s4, s5, s6, s7, s8, s9⟩; go_simp; with_reducible rfl) (h := ?_)
 refine takeS 7 16 HT_.out HW_.out hHeld (hr := by rintro w' ⟨s0, s1, s2, s3, s4, s5, s6, s7, s8, s9⟩; go_simp; with_reducible rfl) (h := ?_)
 have H := H_.out
 clear H_
 by_cases c6 : t431.length + y434.length < 3518437208883
 rotate_left
 ·
  rw [if_neg c6] at H
  exact absurd H (by simp)
 rw [if_pos c6] at H
 have LMc6 := Ah c6
 clear c6
 obtain ⟨y437, hy437⟩ : ∃ y_ : List (S71), y_ = (t431 ++ y434) := ⟨_, rfl⟩
 replace H : ((impl_GoodWork.f k a0_0 l0_1 l0_2 a0_3 l0_4).bind fun t441 => (if t441 = true then ((impl_GoodWork.f k t424 t425 t428 a2 y437).bind fun t442 => (if t442 = true then (some (t424, t425, t428, a2, y437, true)) else (some (0, ([] : List (S53)), ([] : List (S53)), 0, ([] : List (S71)), false)))) else (some (0, ([] : List (S53)), ([] : List (S53)), 0, ([] : List (S71)), false)))) = some (r1, r2, r3, r4, r5, r6) := by first | (rw [hy437]; with_reducible exact H) | (have H2_ := (Option.bind_some _ _).symm.trans H; rw [hy437]; with_reducible exact H2_) | (have H2_ := (Option.bind_some _ _).symm.trans H; with_reducible exact H2_) | with_reducible exact H | (rw [hy437]; exact H) | exact H
 have Ny437 := Ah hy437
 clear hy437
 replace H := Option.bind_eq_some_iff.mp H
 obtain ⟨t441, A70, H⟩ := H
 try dsimp only at H
 have A7 := Ah A70
 clear A70
 have H_ := Ah H
 clear H
 refine join_ (σ := Value × Value × Value × Value × Value × Nat) 1 #[true, true, true, true, true, true, true, true, true, true, true, true, false] (fun s_ => [(11, .agg #[.int .i64 t424, s_.1, s_.2.1]), (15, s_.2.2.1), (17, s_.2.2.2.1), (18, s_.2.2.2.2.1), (8, .pointer (some ⟨s_.2.2.2.2.2, 0, none⟩)), (19, .agg #[.int .i64 t424, s_.1, s_.2.1, .int .i64 a2, s_.2.2.2.2.1])]) (fun s_ w' => (w'.cell? ⟨gb421, 0, none⟩ = some (.int .i64 a0_0) ∧ w'.cell? ⟨gb421, 1, none⟩ = some (.slice A0_1 l0_1.length c0_1) ∧ w'.cell? ⟨gb421, 2, none⟩ = some (.slice A0_2 l0_2.length c0_2) ∧ w'.cell? ⟨gb421, 3, none⟩ = some (.int .i64 a0_3) ∧ w'.cell? ⟨gb421, 4, none⟩ = some (.slice A0_4 l0_4.length c0_4) ∧ w'.cell? ⟨gb422, 0, none⟩ = some (.int .i64 a1_0) ∧ w'.cell? ⟨gb422, 1, none⟩ = some (.int .i64 a1_1) ∧ w'.cell? ⟨gb422, 2, none⟩ = some (.int .i64 a1_2) ∧ w'.cell? ⟨gb422, 3, none⟩ = some (.int .i64 a1_3) ∧ w'.cell? ⟨gb422, 4, none⟩ = some (.int .i64 a1_4)) ∧ (Kd.R k53 53 w' w.heap.size (fun k_ => some k_ ≠ (s_.2.1 : Value).ownBlock) s_.1 t425) ∧ (Kd.R k53 53 w' w.heap.size (fun k_ => some k_ ≠ (s_.1 : Value).ownBlock) s_.2.1 t428) ∧ (Kd.R k71 71 w' w.heap.size (fun k_ => some k_ ≠ (s_.2.2.2.2.1 : Value).ownBlock ∧ k_ ≠ gb422) s_.2.2.2.1 y434) ∧ (Kd.R k71 71 w' w.heap.size (fun k_ => some k_ ≠ (s_.2.2.2.1 : Value).ownBlock ∧ k_ ≠ gb422) s_.2.2.2.2.1 y437) ∧ (w'.heap[gb421]? = some (.cells #[.int .i64 a0_0, .slice A0_1 l0_1.length c0_1, .slice A0_2 l0_2.length c0_2, .int .i64 a0_3, .slice A0_4 l0_4.length c0_4] 27 (0, 0))) ∧ (w'.heap[gb422]? = some (.cells #[.int .i64 a1_0, .int .i64 a1_1, .int .i64 a1_2, .int .i64 a1_3, .int .i64 a1_4] 71 (0, 0))) ∧ (w'.heap[gb423]? = some (.cells #[.int .i64 0, .slice none 0 0, .slice none 0 0, .int .i64 0, .slice none 0 0] 27 (0, 0))) ∧ (w'.heap[s_.2.2.2.2.2]? = some (.cells #[.int .i64 0, .slice none 0 0, .slice none 0 0, .int .i64 0, .slice none 0 0] 27 (0, 0))) ∧ (w.heap.size ≤ s_.2.2.2.2.2) ∧ (w.heap.size ≤ s_.2.2.2.2.2) ∧ (gb421 ≠ s_.2.2.2.2.2) ∧ (s_.2.2.2.2.2 ≠ gb421) ∧ (gb422 ≠ s_.2.2.2.2.2) ∧ (s_.2.2.2.2.2 ≠ gb422) ∧ (gb423 ≠ s_.2.2.2.2.2) ∧ (s_.2.2.2.2.2 ≠ gb423) ∧ (Below w.heap.size w w')) ?_ ?_
 rotate_left
 ·
  intro hJ2_6_8_9_11
  refine join_ (σ := Value × Value × Value × Value × Value) 2 #[true, true, true, true, true, true, true, true, true, true, true, false, false] (fun s_ => [(11, .agg #[.int .i64 t424, s_.1, s_.2.1]), (15, s_.2.2.1), (17, s_.2.2.2.1), (18, s_.2.2.2.2), (19, .agg #[.int .i64 t424, s_.1, s_.2.1, .int .i64 a2, s_.2.2.2.2])]) (fun s_ w' => (w'.cell? ⟨gb421, 0, none⟩ = some (.int .i64 a0_0) ∧ w'.cell? ⟨gb421, 1, none⟩ = some (.slice A0_1 l0_1.length c0_1) ∧ w'.cell? ⟨gb421, 2, none⟩ = some (.slice A0_2 l0_2.length c0_2) ∧ w'.cell? ⟨gb421, 3, none⟩ = some (.int .i64 a0_3) ∧ w'.cell? ⟨gb421, 4, none⟩ = some (.slice A0_4 l0_4.length c0_4) ∧ w'.cell? ⟨gb422, 0, none⟩ = some (.int .i64 a1_0) ∧ w'.cell? ⟨gb422, 1, none⟩ = some (.int .i64 a1_1) ∧ w'.cell? ⟨gb422, 2, none⟩ = some (.int .i64 a1_2) ∧ w'.cell? ⟨gb422, 3, none⟩ = some (.int .i64 a1_3) ∧ w'.cell? ⟨gb422, 4, none⟩ = some (.int .i64 a1_4)) ∧ (Kd.R k53 53 w' w.heap.size (fun k_ => some k_ ≠ (s_.2.1 : Value).ownBlock) s_.1 t425) ∧ (Kd.R k53 53 w' w.heap.size (fun k_ => some k_ ≠ (s_.1 : Value).ownBlock) s_.2.1 t428) ∧ (Kd.R k71 71 w' w.heap.size (fun k_ => some k_ ≠ (s_.2.2.2.2 : Value).ownBlock ∧ k_ ≠ gb422) s_.2.2.2.1 y434) ∧ (Kd.R k71 71 w' w.heap.size (fun k_ => some k_ ≠ (s_.2.2.2.1 : Value).ownBlock ∧ k_ ≠ gb422) s_.2.2.2.2 y437) ∧ (w'.heap[gb421]? = some (.cells #[.int .i64 a0_0, .slice A0_1 l0_1.length c0_1, .slice A0_2 l0_2.length c0_2, .int .i64 a0_3, .slice A0_4 l0_4.length c0_4] 27 (0, 0))) ∧ (w'.heap[gb422]? = some (.cells #[.int .i64 a1_0, .int .i64 a1_1, .int .i64 a1_2, .int .i64 a1_3, .int .i64 a1_4] 71 (0, 0))) ∧ (w'.heap[gb423]? = some (.cells #[.int .i64 0, .slice none 0 0, .slice none 0 0, .int .i64 0, .slice none 0 0] 27 (0, 0))) ∧ (Below w.heap.size w w')) ?_ ?_
  rotate_left
  ·
   intro hJ2_6_8_9
   refine join_ (σ := Value × Value × Value × Value × Nat) 3 #[true, true, true, true, true, true, true, true, true, false, false, true, false] (fun s_ => [(11, .agg #[.int .i64 t424, s_.1, s_.2.1]), (15, s_.2.2.1), (17, s_.2.2.2.1), (8, .pointer (some ⟨s_.2.2.2.2, 0, none⟩))]) (fun s_ w' => (w'.cell? ⟨gb421, 0, none⟩ = some (.int .i64 a0_0) ∧ w'.cell? ⟨gb421, 1, none⟩ = some (.slice A0_1 l0_1.length c0_1) ∧ w'.cell? ⟨gb421, 2, none⟩ = some (.slice A0_2 l0_2.length c0_2) ∧ w'.cell? ⟨gb421, 3, none⟩ = some (.int .i64 a0_3) ∧ w'.cell? ⟨gb421, 4, none⟩ = some (.slice A0_4 l0_4.length c0_4) ∧ w'.cell? ⟨gb422, 0, none⟩ = some (.int .i64 a1_0) ∧ w'.cell? ⟨gb422, 1, none⟩ = some (.int .i64 a1_1) ∧ w'.cell? ⟨gb422, 2, none⟩ = some (.int .i64 a1_2) ∧ w'.cell? ⟨gb422, 3, none⟩ = some (.int .i64 a1_3) ∧ w'.cell? ⟨gb422, 4, none⟩ = some (.int .i64 a1_4)) ∧ (Kd.R k53 53 w' w.heap.size (fun k_ => some k_ ≠ (s_.2.1 : Value).ownBlock) s_.1 t425) ∧ (Kd.R k53 53 w' w.heap.size (fun k_ => some k_ ≠ (s_.1 : Value).ownBlock) s_.2.1 t428) ∧ (Kd.R k71 71 w' w.heap.size (fun k_ => some k_ ≠ (s_.2.2.2.1 : Value).ownBlock ∧ k_ ≠ gb422) s_.2.2.1 t431) ∧ (Kd.R k71 71 w' w.heap.size (fun k_ => some k_ ≠ (s_.2.2.1 : Value).ownBlock ∧ k_ ≠ gb422) s_.2.2.2.1 y434) ∧ (w'.heap[gb421]? = some (.cells #[.int .i64 a0_0, .slice A0_1 l0_1.length c0_1, .slice A0_2 l0_2.length c0_2, .int .i64 a0_3, .slice A0_4 l0_4.length c0_4] 27 (0, 0))) ∧ (w'.heap[gb422]? = some (.cells #[.int .i64 a1_0, .int .i64 a1_1, .int .i64 a1_2, .int .i64 a1_3, .int .i64 a1_4] 71 (0, 0))) ∧ (w'.heap[gb423]? = some (.cells #[.int .i64 0, .slice none 0 0, .slice none 0 0, .int .i64 0, .slice none 0 0] 27 (0, 0))) ∧ (w'.heap[s_.2.2.2.2]? = some (.cells #[.int .i64 0, .slice none 0 0, .slice none 0 0, .int .i64 0, .slice none 0 0] 27 (0, 0))) ∧ (w.heap.size ≤ s_.2.2.2.2) ∧ (w.heap.size ≤ s_.2.2.2.2) ∧ (gb421 ≠ s_.2.2.2.2) ∧ (s_.2.2.2.2 ≠ gb421) ∧ (gb422 ≠ s_.2.2.2.2) ∧ (s_.2.2.2.2 ≠ gb422) ∧ (gb423 ≠ s_.2.2.2.2) ∧ (s_.2.2.2.2 ≠ gb423) ∧ (Below w.heap.size w w')) ?_ ?_
   rotate_left
   ·
    intro hJ2_6_8_11
    refine join_ (σ := Value × Value × Value × Value) 4 #[true, true, true, true, true, true, true, true, true, false, false, false, false] (fun s_ => [(11, .agg #[.int .i64 t424, s_.1, s_.2.1]), (15, s_.2.2.1), (17, s_.2.2.2)]) (fun s_ w' => (w'.cell? ⟨gb421, 0, none⟩ = some (.int .i64 a0_0) ∧ w'.cell? ⟨gb421, 1, none⟩ = some (.slice A0_1 l0_1.length c0_1) ∧ w'.cell? ⟨gb421, 2, none⟩ = some (.slice A0_2 l0_2.length c0_2) ∧ w'.cell? ⟨gb421, 3, none⟩ = some (.int .i64 a0_3) ∧ w'.cell? ⟨gb421, 4, none⟩ = some (.slice A0_4 l0_4.length c0_4) ∧ w'.cell? ⟨gb422, 0, none⟩ = some (.int .i64 a1_0) ∧ w'.cell? ⟨gb422, 1, none⟩ = some (.int .i64 a1_1) ∧ w'.cell? ⟨gb422, 2, none⟩ = some (.int .i64 a1_2) ∧ w'.cell? ⟨gb422, 3, none⟩ = some (.int .i64 a1_3) ∧ w'.cell? ⟨gb422, 4, none⟩ = some (.int .i64 a1_4)) ∧ (Kd.R k53 53 w' w.heap.size (fun k_ => some k_ ≠ (s_.2.1 : Value).ownBlock) s_.1 t425) ∧ (Kd.R k53 53 w' w.heap.size (fun k_ => some k_ ≠ (s_.1 : Value).ownBlock) s_.2.1 t428) ∧ (Kd.R k71 71 w' w.heap.size (fun k_ => some k_ ≠ (s_.2.2.2 : Value).ownBlock ∧ k_ ≠ gb422) s_.2.2.1 t431) ∧ (Kd.R k71 71 w' w.heap.size (fun k_ => some k_ ≠ (s_.2.2.1 : Value).ownBlock ∧ k_ ≠ gb422) s_.2.2.2 y434) ∧ (w'.heap[gb421]? = some (.cells #[.int .i64 a0_0, .slice A0_1 l0_1.length c0_1, .slice A0_2 l0_2.length c0_2, .int .i64 a0_3, .slice A0_4 l0_4.length c0_4] 27 (0, 0))) ∧ (w'.heap[gb422]? = some (.cells #[.int .i64 a1_0, .int .i64 a1_1, .int .i64 a1_2, .int .i64 a1_3, .int .i64 a1_4] 71 (0, 0))) ∧ (w'.heap[gb423]? = some (.cells #[.int .i64 0, .slice none 0 0, .slice none 0 0, .int .i64 0, .slice none 0 0] 27 (0, 0))) ∧ (Below w.heap.size w w')) ?_ ?_
    rotate_left
    ·
     intro hJ2_6_8
     refine join_ (σ := Value × Value × Value × Nat) 4 #[true, true, true, true, true, true, true, true, false, false, false, true, false] (fun s_ => [(11, .agg #[.int .i64 t424, s_.1, s_.2.1]), (15, s_.2.2.1), (8, .pointer (some ⟨s_.2.2.2, 0, none⟩))]) (fun s_ w' => (w'.cell? ⟨gb421, 0, none⟩ = some (.int .i64 a0_0) ∧ w'.cell? ⟨gb421, 1, none⟩ = some (.slice A0_1 l0_1.length c0_1) ∧ w'.cell? ⟨gb421, 2, none⟩ = some (.slice A0_2 l0_2.length c0_2) ∧ w'.cell? ⟨gb421, 3, none⟩ = some (.int .i64 a0_3) ∧ w'.cell? ⟨gb421, 4, none⟩ = some (.slice A0_4 l0_4.length c0_4) ∧ w'.cell? ⟨gb422, 0, none⟩ = some (.int .i64 a1_0) ∧ w'.cell? ⟨gb422, 1, none⟩ = some (.int .i64 a1_1) ∧ w'.cell? ⟨gb422, 2, none⟩ = some (.int .i64 a1_2) ∧ w'.cell? ⟨gb422, 3, none⟩ = some (.int .i64 a1_3) ∧ w'.cell? ⟨gb422, 4, none⟩ = some (.int .i64 a1_4)) ∧ (Kd.R k53 53 w' w.heap.size (fun k_ => some k_ ≠ (s_.2.1 : Value).ownBlock) s_.1 t425) ∧ (Kd.R k53 53 w' w.heap.size (fun k_ => some k_ ≠ (s_.1 : Value).ownBlock) s_.2.1 t428) ∧ (Kd.R k71 71 w' w.heap.size (fun k_ => k_ ≠ gb422) s_.2.2.1 t431) ∧ (w'.heap[gb421]? = some (.cells #[.int .i64 a0_0, .slice A0_1 l0_1.length c0_1, .slice A0_2 l0_2.length c0_2, .int .i64 a0_3, .slice A0_4 l0_4.length c0_4] 27 (0, 0))) ∧ (w'.heap[gb422]? = some (.cells #[.int .i64 a1_0, .int .i64 a1_1, .int .i64 a1_2, .int .i64 a1_3, .int .i64 a1_4] 71 (0, 0))) ∧ (w'.heap[gb423]? = some (.cells #[.int .i64 0, .slice none 0 0, .slice none 0 0, .int .i64 0, .slice none 0 0] 27 (0, 0))) ∧ (w'.heap[s_.2.2.2]? = some (.cells #[.int .i64 0, .slice none 0 0, .slice none 0 0, .int .i64 0, .slice none 0 0] 27 (0, 0))) ∧ (w.heap.size ≤ s_.2.2.2) ∧ (w.heap.size ≤ s_.2.2.2) ∧ (gb421 ≠ s_.2.2.2) ∧ (s_.2.2.2 ≠ gb421) ∧ (gb422 ≠ s_.2.2.2) ∧ (s_.2.2.2 ≠ gb422) ∧ (gb423 ≠ s_.2.2.2) ∧ (s_.2.2.2 ≠ gb423) ∧ (Below w.heap.size w w')) ?_ ?_
     rotate_left
     ·
      intro hJ2_6_11
      refine join_ (σ := Value × Value × Value × Nat) 4 #[true, true, true, true, true, true, false, true, true, false, false, true, false] (fun s_ => [(11, .agg #[.int .i64 t424, s_.1, s_.2.1]), (17, s_.2.2.1), (8, .pointer (some ⟨s_.2.2.2, 0, none⟩))]) (fun s_ w' => (w'.cell? ⟨gb421, 0, none⟩ = some (.int .i64 a0_0) ∧ w'.cell? ⟨gb421, 1, none⟩ = some (.slice A0_1 l0_1.length c0_1) ∧ w'.cell? ⟨gb421, 2, none⟩ = some (.slice A0_2 l0_2.length c0_2) ∧ w'.cell? ⟨gb421, 3, none⟩ = some (.int .i64 a0_3) ∧ w'.cell? ⟨gb421, 4, none⟩ = some (.slice A0_4 l0_4.length c0_4) ∧ w'.cell? ⟨gb422, 0, none⟩ = some (.int .i64 a1_0) ∧ w'.cell? ⟨gb422, 1, none⟩ = some (.int .i64 a1_1) ∧ w'.cell? ⟨gb422, 2, none⟩ = some (.int .i64 a1_2) ∧ w'.cell? ⟨gb422, 3, none⟩ = some (.int .i64 a1_3) ∧ w'.cell? ⟨gb422, 4, none⟩ = some (.int .i64 a1_4)) ∧ (Kd.R k53 53 w' w.heap.size (fun k_ => some k_ ≠ (s_.2.1 : Value).ownBlock) s_.1 t425) ∧ (Kd.R k53 53 w' w.heap.size (fun k_ => some k_ ≠ (s_.1 : Value).ownBlock) s_.2.1 t428) ∧ (Kd.R k71 71 w' w.heap.size (fun k_ => k_ ≠ gb422) s_.2.2.1 y434) ∧ (w'.heap[gb421]? = some (.cells #[.int .i64 a0_0, .slice A0_1 l0_1.length c0_1, .slice A0_2 l0_2.length c0_2, .int .i64 a0_3, .slice A0_4 l0_4.length c0_4] 27 (0, 0))) ∧ (w'.heap[gb422]? = some (.cells #[.int .i64 a1_0, .int .i64 a1_1, .int .i64 a1_2, .int .i64 a1_3, .int .i64 a1_4] 71 (0, 0))) ∧ (w'.heap[gb423]? = some (.cells #[.int .i64 0, .slice none 0 0, .slice none 0 0, .int .i64 0, .slice none 0 0] 27 (0, 0))) ∧ (w'.heap[s_.2.2.2]? = some (.cells #[.int .i64 0, .slice none 0 0, .slice none 0 0, .int .i64 0, .slice none 0 0] 27 (0, 0))) ∧ (w.heap.size ≤ s_.2.2.2) ∧ (w.heap.size ≤ s_.2.2.2) ∧ (gb421 ≠ s_.2.2.2) ∧ (s_.2.2.2 ≠ gb421) ∧ (gb422 ≠ s_.2.2.2) ∧ (s_.2.2.2 ≠ gb422) ∧ (gb423 ≠ s_.2.2.2) ∧ (s_.2.2.2 ≠ gb423) ∧ (Below w.heap.size w w')) ?_ ?_
      rotate_left
      ·
       intro hJ2_8_11
       refine join_ (σ := Value × Value × Value) 5 #[true, true, true, true, true, true, true, true, false, false, false, false, false] (fun s_ => [(11, .agg #[.int .i64 t424, s_.1, s_.2.1]), (15, s_.2.2)]) (fun s_ w' => (w'.cell? ⟨gb421, 0, none⟩ = some (.int .i64 a0_0) ∧ w'.cell? ⟨gb421, 1, none⟩ = some (.slice A0_1 l0_1.length c0_1) ∧ w'.cell? ⟨gb421, 2, none⟩ = some (.slice A0_2 l0_2.length c0_2) ∧ w'.cell? ⟨gb421, 3, none⟩ = some (.int .i64 a0_3) ∧ w'.cell? ⟨gb421, 4, none⟩ = some (.slice A0_4 l0_4.length c0_4) ∧ w'.cell? ⟨gb422, 0, none⟩ = some (.int .i64 a1_0) ∧ w'.cell? ⟨gb422, 1, none⟩ = some (.int .i64 a1_1) ∧ w'.cell? ⟨gb422, 2, none⟩ = some (.int .i64 a1_2) ∧ w'.cell? ⟨gb422, 3, none⟩ = some (.int .i64 a1_3) ∧ w'.cell? ⟨gb422, 4, none⟩ = some (.int .i64 a1_4)) ∧ (Kd.R k53 53 w' w.heap.size (fun k_ => some k_ ≠ (s_.2.1 : Value).ownBlock) s_.1 t425) ∧ (Kd.R k53 53 w' w.heap.size (fun k_ => some k_ ≠ (s_.1 : Value).ownBlock) s_.2.1 t428) ∧ (Kd.R k71 71 w' w.heap.size (fun k_ => k_ ≠ gb422) s_.2.2 t431) ∧ (w'.heap[gb421]? = some (.cells #[.int .i64 a0_0, .slice A0_1 l0_1.length c0_1, .slice A0_2 l0_2.length c0_2, .int .i64 a0_3, .slice A0_4 l0_4.length c0_4] 27 (0, 0))) ∧ (w'.heap[gb422]? = some (.cells #[.int .i64 a1_0, .int .i64 a1_1, .int .i64 a1_2, .int .i64 a1_3, .int .i64 a1_4] 71 (0, 0))) ∧ (w'.heap[gb423]? = some (.cells #[.int .i64 0, .slice none 0 0, .slice none 0 0, .int .i64 0, .slice none 0 0] 27 (0, 0))) ∧ (Below w.heap.size w w')) ?_ ?_
       rotate_left
       ·
        intro hJ2_6
        refine join_ (σ := Value × Value × Value) 5 #[true, true, true, true, true, true, false, true, true, false, false, false, false] (fun s_ => [(11, .agg #[.int .i64 t424, s_.1, s_.2.1]), (17, s_.2.2)]) (fun s_ w' => (w'.cell? ⟨gb421, 0, none⟩ = some (.int .i64 a0_0) ∧ w'.cell? ⟨gb421, 1, none⟩ = some (.slice A0_1 l0_1.length c0_1) ∧ w'.cell? ⟨gb421, 2, none⟩ = some (.slice A0_2 l0_2.length c0_2) ∧ w'.cell? ⟨gb421, 3, none⟩ = some (.int .i64 a0_3) ∧ w'.cell? ⟨gb421, 4, none⟩ = some (.slice A0_4 l0_4.length c0_4) ∧ w'.cell? ⟨gb422, 0, none⟩ = some (.int .i64 a1_0) ∧ w'.cell? ⟨gb422, 1, none⟩ = some (.int .i64 a1_1) ∧ w'.cell? ⟨gb422, 2, none⟩ = some (.int .i64 a1_2) ∧ w'.cell? ⟨gb422, 3, none⟩ = some (.int .i64 a1_3) ∧ w'.cell? ⟨gb422, 4, none⟩ = some (.int .i64 a1_4)) ∧ (Kd.R k53 53 w' w.heap.size (fun k_ => some k_ ≠ (s_.2.1 : Value).ownBlock) s_.1 t425) ∧ (Kd.R k53 53 w' w.heap.size (fun k_ => some k_ ≠ (s_.1 : Value).ownBlock) s_.2.1 t428) ∧ (Kd.R k71 71 w' w.heap.size (fun k_ => k_ ≠ gb422) s_.2.2 y434) ∧ (w'.heap[gb421]? = some (.cells #[.int .i64 a0_0, .slice A0_1 l0_1.length c0_1, .slice A0_2 l0_2.length c0_2, .int .i64 a0_3, .slice A0_4 l0_4.length c0_4] 27 (0, 0))) ∧ (w'.heap[gb422]? = some (.cells #[.int .i64 a1_0, .int .i64 a1_1, .int .i64 a1_2, .int .i64 a1_3, .int .i64 a1_4] 71 (0, 0))) ∧ (w'.heap[gb423]? = some (.cells #[.int .i64 0, .slice none 0 0, .slice none 0 0, .int .i64 0, .slice none 0 0] 27 (0, 0))) ∧ (Below w.heap.size w w')) ?_ ?_
        rotate_left
        ·
         intro hJ2_8
         refine join_ (σ := Value × Value × Nat) 5 #[true, true, true, true, true, true, false, true, false, false, false, true, false] (fun s_ => [(11, .agg #[.int .i64 t424, s_.1, s_.2.1]), (8, .pointer (some ⟨s_.2.2, 0, none⟩))]) (fun s_ w' => (w'.cell? ⟨gb421, 0, none⟩ = some (.int .i64 a0_0) ∧ w'.cell? ⟨gb421, 1, none⟩ = some (.slice A0_1 l0_1.length c0_1) ∧ w'.cell? ⟨gb421, 2, none⟩ = some (.slice A0_2 l0_2.length c0_2) ∧ w'.cell? ⟨gb421, 3, none⟩ = some (.int .i64 a0_3) ∧ w'.cell? ⟨gb421, 4, none⟩ = some (.slice A0_4 l0_4.length c0_4) ∧ w'.cell? ⟨gb422, 0, none⟩ = some (.int .i64 a1_0) ∧ w'.cell? ⟨gb422, 1, none⟩ = some (.int .i64 a1_1) ∧ w'.cell? ⟨gb422, 2, none⟩ = some (.int .i64 a1_2) ∧ w'.cell? ⟨gb422, 3, none⟩ = some (.int .i64 a1_3) ∧ w'.cell? ⟨gb422, 4, none⟩ = some (.int .i64 a1_4)) ∧ (Kd.R k53 53 w' w.heap.size (fun k_ => some k_ ≠ (s_.2.1 : Value).ownBlock) s_.1 t425) ∧ (Kd.R k53 53 w' w.heap.size (fun k_ => some k_ ≠ (s_.1 : Value).ownBlock) s_.2.1 t428) ∧ (w'.heap[gb421]? = some (.cells #[.int .i64 a0_0, .slice A0_1 l0_1.length c0_1, .slice A0_2 l0_2.length c0_2, .int .i64 a0_3, .slice A0_4 l0_4.length c0_4] 27 (0, 0))) ∧ (w'.heap[gb422]? = some (.cells #[.int .i64 a1_0, .int .i64 a1_1, .int .i64 a1_2, .int .i64 a1_3, .int .i64 a1_4] 71 (0, 0))) ∧ (w'.heap[gb423]? = some (.cells #[.int .i64 0, .slice none 0 0, .slice none 0 0, .int .i64 0, .slice none 0 0] 27 (0, 0))) ∧ (w'.heap[s_.2.2]? = some (.cells #[.int .i64 0, .slice none 0 0, .slice none 0 0, .int .i64 0, .slice none 0 0] 27 (0, 0))) ∧ (w.heap.size ≤ s_.2.2) ∧ (w.heap.size ≤ s_.2.2) ∧ (gb421 ≠ s_.2.2) ∧ (s_.2.2 ≠ gb421) ∧ (gb422 ≠ s_.2.2) ∧ (s_.2.2 ≠ gb422) ∧ (gb423 ≠ s_.2.2) ∧ (s_.2.2 ≠ gb423) ∧ (Below w.heap.size w w')) ?_ ?_
         rotate_left
         ·
          intro hJ2_11
          refine join_ (σ := Value × Nat) 5 #[true, true, false, true, true, true, false, true, true, false, false, true, false] (fun s_ => [(17, s_.1), (8, .pointer (some ⟨s_.2, 0, none⟩))]) (fun s_ w' => (w'.cell? ⟨gb421, 0, none⟩ = some (.int .i64 a0_0) ∧ w'.cell? ⟨gb421, 1, none⟩ = some (.slice A0_1 l0_1.length c0_1) ∧ w'.cell? ⟨gb421, 2, none⟩ = some (.slice A0_2 l0_2.length c0_2) ∧ w'.cell? ⟨gb421, 3, none⟩ = some (.int .i64 a0_3) ∧ w'.cell? ⟨gb421, 4, none⟩ = some (.slice A0_4 l0_4.length c0_4) ∧ w'.cell? ⟨gb422, 0, none⟩ = some (.int .i64 a1_0) ∧ w'.cell? ⟨gb422, 1, none⟩ = some (.int .i64 a1_1) ∧ w'.cell? ⟨gb422, 2, none⟩ = some (.int .i64 a1_2) ∧ w'.cell? ⟨gb422, 3, none⟩ = some (.int .i64 a1_3) ∧ w'.cell? ⟨gb422, 4, none⟩ = some (.int .i64 a1_4)) ∧ (Kd.R k71 71 w' w.heap.size (fun k_ => k_ ≠ gb422) s_.1 y434) ∧ (w'.heap[gb421]? = some (.cells #[.int .i64 a0_0, .slice A0_1 l0_1.length c0_1, .slice A0_2 l0_2.length c0_2, .int .i64 a0_3, .slice A0_4 l0_4.length c0_4] 27 (0, 0))) ∧ (w'.heap[gb422]? = some (.cells #[.int .i64 a1_0, .int .i64 a1_1, .int .i64 a1_2, .int .i64 a1_3, .int .i64 a1_4] 71 (0, 0))) ∧ (w'.heap[gb423]? = some (.cells #[.int .i64 0, .slice none 0 0, .slice none 0 0, .int .i64 0, .slice none 0 0] 27 (0, 0))) ∧ (w'.heap[s_.2]? = some (.cells #[.int .i64 0, .slice none 0 0, .slice none 0 0, .int .i64 0, .slice none 0 0] 27 (0, 0))) ∧ (w.heap.size ≤ s_.2) ∧ (w.heap.size ≤ s_.2) ∧ (gb421 ≠ s_.2) ∧ (s_.2 ≠ gb421) ∧ (gb422 ≠ s_.2) ∧ (s_.2 ≠ gb422) ∧ (gb423 ≠ s_.2) ∧ (s_.2 ≠ gb423) ∧ (Below w.heap.size w w')) ?_ ?_
          rotate_left
          ·
           intro hJ8_11
           refine join_ (σ := Value × Value) 6 #[true, true, true, true, true, true, false, true, false, false, false, false, false] (fun s_ => [(11, .agg #[.int .i64 t424, s_.1, s_.2])]) (fun s_ w' => (w'.cell? ⟨gb421, 0, none⟩ = some (.int .i64 a0_0) ∧ w'.cell? ⟨gb421, 1, none⟩ = some (.slice A0_1 l0_1.length c0_1) ∧ w'.cell? ⟨gb421, 2, none⟩ = some (.slice A0_2 l0_2.length c0_2) ∧ w'.cell? ⟨gb421, 3, none⟩ = some (.int .i64 a0_3) ∧ w'.cell? ⟨gb421, 4, none⟩ = some (.slice A0_4 l0_4.length c0_4) ∧ w'.cell? ⟨gb422, 0, none⟩ = some (.int .i64 a1_0) ∧ w'.cell? ⟨gb422, 1, none⟩ = some (.int .i64 a1_1) ∧ w'.cell? ⟨gb422, 2, none⟩ = some (.int .i64 a1_2) ∧ w'.cell? ⟨gb422, 3, none⟩ = some (.int .i64 a1_3) ∧ w'.cell? ⟨gb422, 4, none⟩ = some (.int .i64 a1_4)) ∧ (Kd.R k53 53 w' w.heap.size (fun k_ => some k_ ≠ (s_.2 : Value).ownBlock) s_.1 t425) ∧ (Kd.R k53 53 w' w.heap.size (fun k_ => some k_ ≠ (s_.1 : Value).ownBlock) s_.2 t428) ∧ (w'.heap[gb421]? = some (.cells #[.int .i64 a0_0, .slice A0_1 l0_1.length c0_1, .slice A0_2 l0_2.length c0_2, .int .i64 a0_3, .slice A0_4 l0_4.length c0_4] 27 (0, 0))) ∧ (w'.heap[gb422]? = some (.cells #[.int .i64 a1_0, .int .i64 a1_1, .int .i64 a1_2, .int .i64 a1_3, .int .i64 a1_4] 71 (0, 0))) ∧ (w'.heap[gb423]? = some (.cells #[.int .i64 0, .slice none 0 0, .slice none 0 0, .int .i64 0, .slice none 0 0] 27 (0, 0))) ∧ (Below w.heap.size w w')) ?_ ?_
           rotate_left
           ·
            intro hJ2
            refine join_ (σ := Value) 6 #[true, true, false, true, true, true, false, true, true, false, false, false, false] (fun s_ => [(17, s_)]) (fun s_ w' => (w'.cell? ⟨gb421, 0, none⟩ = some (.int .i64 a0_0) ∧ w'.cell? ⟨gb421, 1, none⟩ = some (.slice A0_1 l0_1.length c0_1) ∧ w'.cell? ⟨gb421, 2, none⟩ = some (.slice A0_2 l0_2.length c0_2) ∧ w'.cell? ⟨gb421, 3, none⟩ = some (.int .i64 a0_3) ∧ w'.cell? ⟨gb421, 4, none⟩ = some (.slice A0_4 l0_4.length c0_4) ∧ w'.cell? ⟨gb422, 0, none⟩ = some (.int .i64 a1_0) ∧ w'.cell? ⟨gb422, 1, none⟩ = some (.int .i64 a1_1) ∧ w'.cell? ⟨gb422, 2, none⟩ = some (.int .i64 a1_2) ∧ w'.cell? ⟨gb422, 3, none⟩ = some (.int .i64 a1_3) ∧ w'.cell? ⟨gb422, 4, none⟩ = some (.int .i64 a1_4)) ∧ (Kd.R k71 71 w' w.heap.size (fun k_ => k_ ≠ gb422) s_ y434) ∧ (w'.heap[gb421]? = some (.cells #[.int .i64 a0_0, .slice A0_1 l0_1.length c0_1, .slice A0_2 l0_2.length c0_2, .int .i64 a0_3, .slice A0_4 l0_4.length c0_4] 27 (0, 0))) ∧ (w'.heap[gb422]? = some (.cells #[.int .i64 a1_0, .int .i64 a1_1, .int .i64 a1_2, .int .i64 a1_3, .int .i64 a1_4] 71 (0, 0))) ∧ (w'.heap[gb423]? = some (.cells #[.int .i64 0, .slice none 0 0, .slice none 0 0, .int .i64 0, .slice none 0 0] 27 (0, 0))) ∧ (Below w.heap.size w w')) ?_ ?_
            rotate_left
            ·
             intro hJ8
             refine join_ (σ := Nat) 6 #[true, true, false, true, true, true, false, true, false, false, false, true, false] (fun s_ => [(8, .pointer (some ⟨s_, 0, none⟩))]) (fun s_ w' => (w'.cell? ⟨gb421, 0, none⟩ = some (.int .i64 a0_0) ∧ w'.cell? ⟨gb421, 1, none⟩ = some (.slice A0_1 l0_1.length c0_1) ∧ w'.cell? ⟨gb421, 2, none⟩ = some (.slice A0_2 l0_2.length c0_2) ∧ w'.cell? ⟨gb421, 3, none⟩ = some (.int .i64 a0_3) ∧ w'.cell? ⟨gb421, 4, none⟩ = some (.slice A0_4 l0_4.length c0_4) ∧ w'.cell? ⟨gb422, 0, none⟩ = some (.int .i64 a1_0) ∧ w'.cell? ⟨gb422, 1, none⟩ = some (.int .i64 a1_1) ∧ w'.cell? ⟨gb422, 2, none⟩ = some (.int .i64 a1_2) ∧ w'.cell? ⟨gb422, 3, none⟩ = some (.int .i64 a1_3) ∧ w'.cell? ⟨gb422, 4, none⟩ = some (.int .i64 a1_4)) ∧ (w'.heap[gb421]? = some (.cells #[.int .i64 a0_0, .slice A0_1 l0_1.length c0_1, .slice A0_2 l0_2.length c0_2, .int .i64 a0_3, .slice A0_4 l0_4.length c0_4] 27 (0, 0))) ∧ (w'.heap[gb422]? = some (.cells #[.int .i64 a1_0, .int .i64 a1_1, .int .i64 a1_2, .int .i64 a1_3, .int .i64 a1_4] 71 (0, 0))) ∧ (w'.heap[gb423]? = some (.cells #[.int .i64 0, .slice none 0 0, .slice none 0 0, .int .i64 0, .slice none 0 0] 27 (0, 0))) ∧ (w'.heap[s_]? = some (.cells #[.int .i64 0, .slice none 0 0, .slice none 0 0, .int .i64 0, .slice none 0 0] 27 (0, 0))) ∧ (w.heap.size ≤ s_) ∧ (w.heap.size ≤ s_) ∧ (gb421 ≠ s_) ∧ (s_ ≠ gb421) ∧ (gb422 ≠ s_) ∧ (s_ ≠ gb422) ∧ (gb423 ≠ s_) ∧ (s_ ≠ gb423) ∧ (Below w.heap.size w w')) ?_ ?_
             rotate_left
             ·
              intro hJ11
              refine three_ (i := 2) (j := 8) (k := 11) (Ni := some 11) (Nj := some 17) (Nk := some 8) #[true, true, true, true, true, true, false, true, false, false, false, false, false] #[true, true, false, true, true, true, false, true, true, false, false, false, false] #[true, true, false, true, true, true, false, true, false, false, false, true, false] rfl rfl rfl rfl rfl rfl (three_of HT_.out (by kernel_rfl)) (by decide) (by decide) (by decide) (fun K hK => ?_) (fun K hK => ?_) (fun K hK => ?_)
              ·
               skip
               refine goes_ Try.func67 (by kernel_rfl) rfl #[.agg #[.int .i64 a0_0, .slice A0_1 l0_1.length c0_1, .slice A0_2 l0_2.length c0_2]] (by rfl) rfl rfl (by (try simp only [List.map_toArray, List.map_cons, List.map_nil]); first | done | rfl | (simp only [List.length_drop, List.length_take]; rfl)) ?_
               with_reducible refine (impl_ownFree.calls a0_0 _ _ l0_1 _ _ l0_2 t424 t425 t428 _ ?side1 ?side2 ?side3 ?side4 A4.out).mono ?_
               (case side1 => exact cb HR0_1 HB)
               (case side2 => exact HC0_1.out)
               (case side3 => exact cb HR0_2 HB)
               (case side4 => exact HC0_2.out)
               rintro e w15 ⟨v426, v429, rfl, ho0, ho1, hb⟩
               refine ⟨_, rfl, ?_⟩
               have n0_ := Ah (Kd.R_lower ho0 (below_size (bs3 HB GE421 GE422 GE423)))
               have n1_ := Ah (Kd.R_lower ho1 (below_size (bs3 HB GE421 GE422 GE423)))
               have n2_ := Ah (bb BK421 hb)
               have n3_ := Ah (bb BK422 hb)
               have n4_ := Ah (bb BK423 hb)
               have n5_ := Ah (below_step (bs3 HB GE421 GE422 GE423) hb)
               clear BK421 BK422 BK423 HB
               have HO427 := n0_
               have HO430 := n1_
               have BK421 := n2_
               have BK422 := n3_
               have BK423 := n4_
               have HB := n5_
               clear n0_ n1_ n2_ n3_ n4_ n5_
               (try clear hb)
               (try clear hb2)
               (try clear hk)
               (try clear hi)
               (try clear ho0)
               (try clear ho1)
               refine hK.out _ _ ⟨(blk_cell BK421.out 0).trans rfl, (blk_cell BK421.out 1).trans rfl, (blk_cell BK421.out 2).trans rfl, (blk_cell BK421.out 3).trans rfl, (blk_cell BK421.out 4).trans rfl, (blk_cell BK422.out 0).trans rfl, (blk_cell BK422.out 1).trans rfl, (blk_cell BK422.out 2).trans rfl, (blk_cell BK422.out 3).trans rfl, (blk_cell BK422.out 4).trans rfl⟩ (fun hHeld => ?_)
               clear hK K
               refine norm_ (a' := ?_) ?_ ?_
               rotate_left
               ·
                show Act.put _ (some 11) _ = _
                simp only [Act.put, List.setIfInBounds_toArray, List.set_cons_zero, List.set_cons_succ, i64_w, i32_w]
                rfl
               exact norm_ (by first | (simp only [putAll, Act.put, List.setIfInBounds_toArray, List.set_cons_zero, List.set_cons_succ]; done) | (simp only [putAll, Act.put, List.setIfInBounds_toArray, List.set_cons_zero, List.set_cons_succ]; rfl)) (hJ2 (v426, v429) _ ⟨hHeld, (rr HO427.out), (rr HO430.out), (bk BK421), (bk BK422), (bk BK423), (bs3 HB GE421 GE422 GE423)⟩)
              ·
               skip
               refine Kd.R_lit_step k71 _ 71 ?hg (N := 17) ?hd (xs := ([(⟨a1_0, a1_1, (⟨a1_2, a1_3⟩ : S53), a1_4⟩ : S71)] : List (S71))) (inner := [.int .i64 a1_0, .int .i64 a1_1, .int .i64 a1_2, .int .i64 a1_3, .int .i64 a1_4]) (ok := fun _ => True) (okp := fun _ => True) ?hr ?hp (fun _ hk => hk) trivial (Below.refl _ _) (Nat.le_refl _) (by simp) ?_; (case hd => rfl); (case hg => rfl); (case hr => first | (go_simp; done) | (go_simp; rfl)); (case hp => exact (Reps.c5 (show Kd.M k71 _ _ _ (⟨a1_0, a1_1, (⟨a1_2, a1_3⟩ : S53), a1_4⟩ : S71) [.int .i64 a1_0, .int .i64 a1_1, .int .i64 a1_2, .int .i64 a1_3, .int .i64 a1_4] from (k71_mkM _ _ _ (⟨a1_0, a1_1, (⟨a1_2, a1_3⟩ : S53), a1_4⟩ : S71) )) (Reps.none _ _)))
               intro v435 w15 ho16 hb hg_ hnew_
               clear hg_ hnew_
               (first | rw [← Ny434.out] at ho16 | (simp only [Int.reduceToNat] at ho16; rw [← Ny434.out] at ho16))
               have n0_ := Ah (Kd.R_lower (Kd.R_newB ho16 (g := gb422) (o := .cells #[.int .i64 a1_0, .int .i64 a1_1, .int .i64 a1_2, .int .i64 a1_3, .int .i64 a1_4] 71 (0, 0)) (bk BK422)) (below_size (bs3 HB GE421 GE422 GE423)))
               have n1_ := Ah (bb BK421 hb)
               have n2_ := Ah (bb BK422 hb)
               have n3_ := Ah (bb BK423 hb)
               have n4_ := Ah (below_step (bs3 HB GE421 GE422 GE423) hb)
               clear BK421 BK422 BK423 HB
               have HO436 := n0_
               have BK421 := n1_
               have BK422 := n2_
               have BK423 := n3_
               have HB := n4_
               clear n0_ n1_ n2_ n3_ n4_ hb ho16
               refine hK.out _ _ ⟨(blk_cell BK421.out 0).trans rfl, (blk_cell BK421.out 1).trans rfl, (blk_cell BK421.out 2).trans rfl, (blk_cell BK421.out 3).trans rfl, (blk_cell BK421.out 4).trans rfl, (blk_cell BK422.out 0).trans rfl, (blk_cell BK422.out 1).trans rfl, (blk_cell BK422.out 2).trans rfl, (blk_cell BK422.out 3).trans rfl, (blk_cell BK422.out 4).trans rfl⟩ (fun hHeld => ?_)
               clear hK K
               refine norm_ (a' := ?_) ?_ ?_
               rotate_left
               ·
                show Act.put _ (some 17) _ = _
                simp only [Act.put, List.setIfInBounds_toArray, List.set_cons_zero, List.set_cons_succ, i64_w, i32_w]
                rfl
               exact norm_ (by first | (simp only [putAll, Act.put, List.setIfInBounds_toArray, List.set_cons_zero, List.set_cons_succ]; done) | (simp only [putAll, Act.put, List.setIfInBounds_toArray, List.set_cons_zero, List.set_cons_succ]; rfl)) (hJ8 (v435) _ ⟨hHeld, (by (with_reducible repeat (first | apply Kd.R_alloc | apply Kd.R_drewN | apply Kd.R_drew)); exact Kd.R_mono HO436.out (fun _ hk => hk.2)), (bk BK421), (bk BK422), (bk BK423), (bs3 HB GE421 GE422 GE423)⟩)
              ·
               skip
               refine box_step ?hg (N := 8) ?hd (cs := #[.int .i64 0, .slice none 0 0, .slice none 0 0, .int .i64 0, .slice none 0 0]) (t := 27) ?hr ?_; (case hd => rfl); (case hg => rfl); (case hr => first | (go_simp; done) | (go_simp; rfl))
               intro gb440 hg w15 hbox hb
               have n0_ := Ah (bb BK421 hb)
               have n1_ := Ah (bb BK422 hb)
               have n2_ := Ah (bb BK423 hb)
               have n3_ := Ah (below_step (bs3 HB GE421 GE422 GE423) hb)
               have n4_ := Ah (hbox)
               have n5_ := gw hg (bs3 HB GE421 GE422 GE423)
               have n6_ := gw hg (bs3 HB GE421 GE422 GE423)
               have n7_ := nn BK421 hg
               have n8_ := nm BK421 hg
               have n9_ := nn BK422 hg
               have n10_ := nm BK422 hg
               have n11_ := nn BK423 hg
               have n12_ := nm BK423 hg
               clear BK421 BK422 BK423 HB
               have BK421 := n0_
               have BK422 := n1_
               have BK423 := n2_
               have HB := n3_
               have BK440 := n4_
               have GW440 := n5_
               have GE440 := n6_
               have NB421_440 := n7_
               have NB440_421 := n8_
               have NB422_440 := n9_
               have NB440_422 := n10_
               have NB423_440 := n11_
               have NB440_423 := n12_
               clear n0_ n1_ n2_ n3_ n4_ n5_ n6_ n7_ n8_ n9_ n10_ n11_ n12_ hb hbox hg
               refine hK.out _ _ ⟨(blk_cell BK421.out 0).trans rfl, (blk_cell BK421.out 1).trans rfl, (blk_cell BK421.out 2).trans rfl, (blk_cell BK421.out 3).trans rfl, (blk_cell BK421.out 4).trans rfl, (blk_cell BK422.out 0).trans rfl, (blk_cell BK422.out 1).trans rfl, (blk_cell BK422.out 2).trans rfl, (blk_cell BK422.out 3).trans rfl, (blk_cell BK422.out 4).trans rfl⟩ (fun hHeld => ?_)
               clear hK K
               refine norm_ (a' := ?_) ?_ ?_
               rotate_left
               ·
                show Act.put _ (some 8) _ = _
                simp only [Act.put, List.setIfInBounds_toArray, List.set_cons_zero, List.set_cons_succ, i64_w, i32_w]
                rfl
               exact norm_ (by first | (simp only [putAll, Act.put, List.setIfInBounds_toArray, List.set_cons_zero, List.set_cons_succ]; done) | (simp only [putAll, Act.put, List.setIfInBounds_toArray, List.set_cons_zero, List.set_cons_succ]; rfl)) (hJ11 (gb440) _ ⟨hHeld, (bk BK421), (bk BK422), (bk BK423), (bk BK440), GW440.out, GE440.out, NB421_440.out, NB440_421.out, NB422_440.out, NB440_422.out, NB423_440.out, NB440_423.out, (bs4 HB GE421 GE422 GE423 GE440)⟩)
             ·
              skip
              rintro gb440 w16 ⟨hS_, h0_, h1_, h2_, h3_, h4_, h5_, h6_, h7_, h8_, h9_, h10_, h11_, h12_⟩
              have n0_ : Aside0 (w16.heap[gb421]? = some (.cells #[.int .i64 a0_0, .slice A0_1 l0_1.length c0_1, .slice A0_2 l0_2.length c0_2, .int .i64 a0_3, .slice A0_4 l0_4.length c0_4] 27 (0, 0))) := ⟨h0_⟩
              have n1_ : Aside0 (w16.heap[gb422]? = some (.cells #[.int .i64 a1_0, .int .i64 a1_1, .int .i64 a1_2, .int .i64 a1_3, .int .i64 a1_4] 71 (0, 0))) := ⟨h1_⟩
              have n2_ : Aside0 (w16.heap[gb423]? = some (.cells #[.int .i64 0, .slice none 0 0, .slice none 0 0, .int .i64 0, .slice none 0 0] 27 (0, 0))) := ⟨h2_⟩
              have n3_ : Aside0 (w16.heap[gb440]? = some (.cells #[.int .i64 0, .slice none 0 0, .slice none 0 0, .int .i64 0, .slice none 0 0] 27 (0, 0))) := ⟨h3_⟩
              have n4_ : Aside0 (w.heap.size ≤ gb440) := ⟨h4_⟩
              have n5_ : Aside0 (w.heap.size ≤ gb440) := ⟨h5_⟩
              have n6_ : Aside0 (gb421 ≠ gb440) := ⟨h6_⟩
              have n7_ : Aside0 (gb440 ≠ gb421) := ⟨h7_⟩
              have n8_ : Aside0 (gb422 ≠ gb440) := ⟨h8_⟩
              have n9_ : Aside0 (gb440 ≠ gb422) := ⟨h9_⟩
              have n10_ : Aside0 (gb423 ≠ gb440) := ⟨h10_⟩
              have n11_ : Aside0 (gb440 ≠ gb423) := ⟨h11_⟩
              have n12_ : Aside0 (Below w.heap.size w w16) := ⟨h12_⟩
              clear BK421 BK422 BK423 HB h0_ h1_ h2_ h3_ h4_ h5_ h6_ h7_ h8_ h9_ h10_ h11_ h12_
              have BK421 := n0_
              have BK422 := n1_
              have BK423 := n2_
              have BK440 := n3_
              have GW440 := n4_
              have GE440 := n5_
              have NB421_440 := n6_
              have NB440_421 := n7_
              have NB422_440 := n8_
              have NB440_422 := n9_
              have NB423_440 := n10_
              have NB440_423 := n11_
              have HB := n12_
              clear n0_ n1_ n2_ n3_ n4_ n5_ n6_ n7_ n8_ n9_ n10_ n11_ n12_
              have hHeld : w16.cell? ⟨gb421, 0, none⟩ = some (.int .i64 a0_0) ∧ w16.cell? ⟨gb421, 1, none⟩ = some (.slice A0_1 l0_1.length c0_1) ∧ w16.cell? ⟨gb421, 2, none⟩ = some (.slice A0_2 l0_2.length c0_2) ∧ w16.cell? ⟨gb421, 3, none⟩ = some (.int .i64 a0_3) ∧ w16.cell? ⟨gb421, 4, none⟩ = some (.slice A0_4 l0_4.length c0_4) ∧ w16.cell? ⟨gb422, 0, none⟩ = some (.int .i64 a1_0) ∧ w16.cell? ⟨gb422, 1, none⟩ = some (.int .i64 a1_1) ∧ w16.cell? ⟨gb422, 2, none⟩ = some (.int .i64 a1_2) ∧ w16.cell? ⟨gb422, 3, none⟩ = some (.int .i64 a1_3) ∧ w16.cell? ⟨gb422, 4, none⟩ = some (.int .i64 a1_4) := hS_
              refine norm_ (a' := ?_) ?_ ?_
              rotate_left
              ·
               simp only [putAll, Act.put, List.setIfInBounds_toArray, List.set_cons_zero, List.set_cons_succ]
               rfl
              refine two_ (i := 2) (j := 8) (Ni := some 11) (Nj := some 17) #[true, true, true, true, true, true, false, true, false, false, false, true, false] #[true, true, false, true, true, true, false, true, true, false, false, true, false] rfl rfl rfl rfl (two_of HT_.out (by kernel_rfl)) (by decide) (by decide) (fun K hK => ?_) (fun K hK => ?_)
              ·
               skip
               refine goes_ Try.func67 (by kernel_rfl) rfl #[.agg #[.int .i64 a0_0, .slice A0_1 l0_1.length c0_1, .slice A0_2 l0_2.length c0_2]] (by rfl) rfl rfl (by (try simp only [List.map_toArray, List.map_cons, List.map_nil]); first | done | rfl | (simp only [List.length_drop, List.length_take]; rfl)) ?_
               with_reducible refine (impl_ownFree.calls a0_0 _ _ l0_1 _ _ l0_2 t424 t425 t428 _ ?side1 ?side2 ?side3 ?side4 A4.out).mono ?_
               (case side1 => exact cb HR0_1 HB)
               (case side2 => exact HC0_1.out)
               (case side3 => exact cb HR0_2 HB)
               (case side4 => exact HC0_2.out)
               rintro e w17 ⟨v426, v429, rfl, ho0, ho1, hb⟩
               refine ⟨_, rfl, ?_⟩
               have n0_ := Ah (Kd.R_lower ho0 (below_size (bs4 HB GE421 GE422 GE423 GE440)))
               have n1_ := Ah (Kd.R_lower ho1 (below_size (bs4 HB GE421 GE422 GE423 GE440)))
               have n2_ := Ah (bb BK421 hb)
               have n3_ := Ah (bb BK422 hb)
               have n4_ := Ah (bb BK423 hb)
               have n5_ := Ah (bb BK440 hb)
               have n6_ := Ah (below_step (bs4 HB GE421 GE422 GE423 GE440) hb)
               clear BK421 BK422 BK423 BK440 HB
               have HO427 := n0_
               have HO430 := n1_
               have BK421 := n2_
               have BK422 := n3_
               have BK423 := n4_
               have BK440 := n5_
               have HB := n6_
               clear n0_ n1_ n2_ n3_ n4_ n5_ n6_
               (try clear hb)
               (try clear hb2)
               (try clear hk)
               (try clear hi)
               (try clear ho0)
               (try clear ho1)
               refine hK.out _ _ ⟨(blk_cell BK421.out 0).trans rfl, (blk_cell BK421.out 1).trans rfl, (blk_cell BK421.out 2).trans rfl, (blk_cell BK421.out 3).trans rfl, (blk_cell BK421.out 4).trans rfl, (blk_cell BK422.out 0).trans rfl, (blk_cell BK422.out 1).trans rfl, (blk_cell BK422.out 2).trans rfl, (blk_cell BK422.out 3).trans rfl, (blk_cell BK422.out 4).trans rfl⟩ (fun hHeld => ?_)
               clear hK K
               refine norm_ (a' := ?_) ?_ ?_
               rotate_left
               ·
                show Act.put _ (some 11) _ = _
                simp only [Act.put, List.setIfInBounds_toArray, List.set_cons_zero, List.set_cons_succ, i64_w, i32_w]
                rfl
               exact norm_ (by first | (simp only [putAll, Act.put, List.setIfInBounds_toArray, List.set_cons_zero, List.set_cons_succ]; done) | (simp only [putAll, Act.put, List.setIfInBounds_toArray, List.set_cons_zero, List.set_cons_succ]; rfl)) (hJ2_11 (v426, v429, gb440) _ ⟨hHeld, (rr HO427.out), (rr HO430.out), (bk BK421), (bk BK422), (bk BK423), (bk BK440), GW440.out, GE440.out, NB421_440.out, NB440_421.out, NB422_440.out, NB440_422.out, NB423_440.out, NB440_423.out, (bs4 HB GE421 GE422 GE423 GE440)⟩)
              ·
               skip
               refine Kd.R_lit_step k71 _ 71 ?hg (N := 17) ?hd (xs := ([(⟨a1_0, a1_1, (⟨a1_2, a1_3⟩ : S53), a1_4⟩ : S71)] : List (S71))) (inner := [.int .i64 a1_0, .int .i64 a1_1, .int .i64 a1_2, .int .i64 a1_3, .int .i64 a1_4]) (ok := fun _ => True) (okp := fun _ => True) ?hr ?hp (fun _ hk => hk) trivial (Below.refl _ _) (Nat.le_refl _) (by simp) ?_; (case hd => rfl); (case hg => rfl); (case hr => first | (go_simp; done) | (go_simp; rfl)); (case hp => exact (Reps.c5 (show Kd.M k71 _ _ _ (⟨a1_0, a1_1, (⟨a1_2, a1_3⟩ : S53), a1_4⟩ : S71) [.int .i64 a1_0, .int .i64 a1_1, .int .i64 a1_2, .int .i64 a1_3, .int .i64 a1_4] from (k71_mkM _ _ _ (⟨a1_0, a1_1, (⟨a1_2, a1_3⟩ : S53), a1_4⟩ : S71) )) (Reps.none _ _)))
               intro v435 w17 ho18 hb hg_ hnew_
               clear hg_ hnew_
               (first | rw [← Ny434.out] at ho18 | (simp only [Int.reduceToNat] at ho18; rw [← Ny434.out] at ho18))
               have n0_ := Ah (Kd.R_lower (Kd.R_newB ho18 (g := gb422) (o := .cells #[.int .i64 a1_0, .int .i64 a1_1, .int .i64 a1_2, .int .i64 a1_3, .int .i64 a1_4] 71 (0, 0)) (bk BK422)) (below_size (bs4 HB GE421 GE422 GE423 GE440)))
               have n1_ := Ah (bb BK421 hb)
               have n2_ := Ah (bb BK422 hb)
               have n3_ := Ah (bb BK423 hb)
               have n4_ := Ah (bb BK440 hb)
               have n5_ := Ah (below_step (bs4 HB GE421 GE422 GE423 GE440) hb)
               clear BK421 BK422 BK423 BK440 HB
               have HO436 := n0_
               have BK421 := n1_
               have BK422 := n2_
               have BK423 := n3_
               have BK440 := n4_
               have HB := n5_
               clear n0_ n1_ n2_ n3_ n4_ n5_ hb ho18
               refine hK.out _ _ ⟨(blk_cell BK421.out 0).trans rfl, (blk_cell BK421.out 1).trans rfl, (blk_cell BK421.out 2).trans rfl, (blk_cell BK421.out 3).trans rfl, (blk_cell BK421.out 4).trans rfl, (blk_cell BK422.out 0).trans rfl, (blk_cell BK422.out 1).trans rfl, (blk_cell BK422.out 2).trans rfl, (blk_cell BK422.out 3).trans rfl, (blk_cell BK422.out 4).trans rfl⟩ (fun hHeld => ?_)
               clear hK K
               refine norm_ (a' := ?_) ?_ ?_
               rotate_left
               ·
                show Act.put _ (some 17) _ = _
                simp only [Act.put, List.setIfInBounds_toArray, List.set_cons_zero, List.set_cons_succ, i64_w, i32_w]
                rfl
               exact norm_ (by first | (simp only [putAll, Act.put, List.setIfInBounds_toArray, List.set_cons_zero, List.set_cons_succ]; done) | (simp only [putAll, Act.put, List.setIfInBounds_toArray, List.set_cons_zero, List.set_cons_succ]; rfl)) (hJ8_11 (v435, gb440) _ ⟨hHeld, (by (with_reducible repeat (first | apply Kd.R_alloc | apply Kd.R_drewN | apply Kd.R_drew)); exact Kd.R_mono HO436.out (fun _ hk => hk.2)), (bk BK421), (bk BK422), (bk BK423), (bk BK440), GW440.out, GE440.out, NB421_440.out, NB440_421.out, NB422_440.out, NB440_422.out, NB423_440.out, NB440_423.out, (bs4 HB GE421 GE422 GE423 GE440)⟩)
            ·
             skip
             rintro v435 w17 ⟨hS_, h0_, h1_, h2_, h3_, h4_⟩
             have n0_ : Aside0 (Kd.R k71 71 w17 w.heap.size (fun k_ => k_ ≠ gb422) v435 y434) := ⟨h0_⟩
             have n1_ : Aside0 (w17.heap[gb421]? = some (.cells #[.int .i64 a0_0, .slice A0_1 l0_1.length c0_1, .slice A0_2 l0_2.length c0_2, .int .i64 a0_3, .slice A0_4 l0_4.length c0_4] 27 (0, 0))) := ⟨h1_⟩
             have n2_ : Aside0 (w17.heap[gb422]? = some (.cells #[.int .i64 a1_0, .int .i64 a1_1, .int .i64 a1_2, .int .i64 a1_3, .int .i64 a1_4] 71 (0, 0))) := ⟨h2_⟩
             have n3_ : Aside0 (w17.heap[gb423]? = some (.cells #[.int .i64 0, .slice none 0 0, .slice none 0 0, .int .i64 0, .slice none 0 0] 27 (0, 0))) := ⟨h3_⟩
             have n4_ : Aside0 (Below w.heap.size w w17) := ⟨h4_⟩
             clear BK421 BK422 BK423 HB h0_ h1_ h2_ h3_ h4_
             have HO436 := n0_
             have BK421 := n1_
             have BK422 := n2_
             have BK423 := n3_
             have HB := n4_
             clear n0_ n1_ n2_ n3_ n4_
             have hHeld : w17.cell? ⟨gb421, 0, none⟩ = some (.int .i64 a0_0) ∧ w17.cell? ⟨gb421, 1, none⟩ = some (.slice A0_1 l0_1.length c0_1) ∧ w17.cell? ⟨gb421, 2, none⟩ = some (.slice A0_2 l0_2.length c0_2) ∧ w17.cell? ⟨gb421, 3, none⟩ = some (.int .i64 a0_3) ∧ w17.cell? ⟨gb421, 4, none⟩ = some (.slice A0_4 l0_4.length c0_4) ∧ w17.cell? ⟨gb422, 0, none⟩ = some (.int .i64 a1_0) ∧ w17.cell? ⟨gb422, 1, none⟩ = some (.int .i64 a1_1) ∧ w17.cell? ⟨gb422, 2, none⟩ = some (.int .i64 a1_2) ∧ w17.cell? ⟨gb422, 3, none⟩ = some (.int .i64 a1_3) ∧ w17.cell? ⟨gb422, 4, none⟩ = some (.int .i64 a1_4) := hS_
             refine norm_ (a' := ?_) ?_ ?_
             rotate_left
             ·
              simp only [putAll, Act.put, List.setIfInBounds_toArray, List.set_cons_zero, List.set_cons_succ]
              rfl
             refine two_ (i := 2) (j := 11) (Ni := some 11) (Nj := some 8) #[true, true, true, true, true, true, false, true, true, false, false, false, false] #[true, true, false, true, true, true, false, true, true, false, false, true, false] rfl rfl rfl rfl (two_of HT_.out (by kernel_rfl)) (by decide) (by decide) (fun K hK => ?_) (fun K hK => ?_)
             ·
              skip
              refine goes_ Try.func67 (by kernel_rfl) rfl #[.agg #[.int .i64 a0_0, .slice A0_1 l0_1.length c0_1, .slice A0_2 l0_2.length c0_2]] (by rfl) rfl rfl (by (try simp only [List.map_toArray, List.map_cons, List.map_nil]); first | done | rfl | (simp only [List.length_drop, List.length_take]; rfl)) ?_
              with_reducible refine (impl_ownFree.calls a0_0 _ _ l0_1 _ _ l0_2 t424 t425 t428 _ ?side1 ?side2 ?side3 ?side4 A4.out).mono ?_
              (case side1 => exact cb HR0_1 HB)
              (case side2 => exact HC0_1.out)
              (case side3 => exact cb HR0_2 HB)
              (case side4 => exact HC0_2.out)
              rintro e w18 ⟨v426, v429, rfl, ho0, ho1, hb⟩
              refine ⟨_, rfl, ?_⟩
              have n0_ := Ah (Kd.R_below (rr HO436.out) hb)
              have n1_ := Ah (Kd.R_lower ho0 (below_size (bs3 HB GE421 GE422 GE423)))
              have n2_ := Ah (Kd.R_lower ho1 (below_size (bs3 HB GE421 GE422 GE423)))
              have n3_ := Ah (bb BK421 hb)
              have n4_ := Ah (bb BK422 hb)
              have n5_ := Ah (bb BK423 hb)
              have n6_ := Ah (below_step (bs3 HB GE421 GE422 GE423) hb)
              clear HO436 BK421 BK422 BK423 HB
              have HO436 := n0_
              have HO427 := n1_
              have HO430 := n2_
              have BK421 := n3_
              have BK422 := n4_
              have BK423 := n5_
              have HB := n6_
              clear n0_ n1_ n2_ n3_ n4_ n5_ n6_
              (try clear hb)
              (try clear hb2)
              (try clear hk)
              (try clear hi)
              (try clear ho0)
              (try clear ho1)
              refine hK.out _ _ ⟨(blk_cell BK421.out 0).trans rfl, (blk_cell BK421.out 1).trans rfl, (blk_cell BK421.out 2).trans rfl, (blk_cell BK421.out 3).trans rfl, (blk_cell BK421.out 4).trans rfl, (blk_cell BK422.out 0).trans rfl, (blk_cell BK422.out 1).trans rfl, (blk_cell BK422.out 2).trans rfl, (blk_cell BK422.out 3).trans rfl, (blk_cell BK422.out 4).trans rfl⟩ (fun hHeld => ?_)
              clear hK K
              refine norm_ (a' := ?_) ?_ ?_
              rotate_left
              ·
               show Act.put _ (some 11) _ = _
               simp only [Act.put, List.setIfInBounds_toArray, List.set_cons_zero, List.set_cons_succ, i64_w, i32_w]
               rfl
              exact norm_ (by first | (simp only [putAll, Act.put, List.setIfInBounds_toArray, List.set_cons_zero, List.set_cons_succ]; done) | (simp only [putAll, Act.put, List.setIfInBounds_toArray, List.set_cons_zero, List.set_cons_succ]; rfl)) (hJ2_8 (v426, v429, v435) _ ⟨hHeld, (rr HO427.out), (rr HO430.out), (rr HO436.out), (bk BK421), (bk BK422), (bk BK423), (bs3 HB GE421 GE422 GE423)⟩)
             ·
              skip
              refine box_step ?hg (N := 8) ?hd (cs := #[.int .i64 0, .slice none 0 0, .slice none 0 0, .int .i64 0, .slice none 0 0]) (t := 27) ?hr ?_; (case hd => rfl); (case hg => rfl); (case hr => first | (go_simp; done) | (go_simp; rfl))
              intro gb440 hg w18 hbox hb
              have n0_ := Ah (Kd.R_below (rr HO436.out) hb)
              have n1_ := Ah (bb BK421 hb)
              have n2_ := Ah (bb BK422 hb)
              have n3_ := Ah (bb BK423 hb)
              have n4_ := Ah (below_step (bs3 HB GE421 GE422 GE423) hb)
              have n5_ := Ah (hbox)
              have n6_ := gw hg (bs3 HB GE421 GE422 GE423)
              have n7_ := gw hg (bs3 HB GE421 GE422 GE423)
              have n8_ := nn BK421 hg
              have n9_ := nm BK421 hg
              have n10_ := nn BK422 hg
              have n11_ := nm BK422 hg
              have n12_ := nn BK423 hg
              have n13_ := nm BK423 hg
              clear HO436 BK421 BK422 BK423 HB
              have HO436 := n0_
              have BK421 := n1_
              have BK422 := n2_
              have BK423 := n3_
              have HB := n4_
              have BK440 := n5_
              have GW440 := n6_
              have GE440 := n7_
              have NB421_440 := n8_
              have NB440_421 := n9_
              have NB422_440 := n10_
              have NB440_422 := n11_
              have NB423_440 := n12_
              have NB440_423 := n13_
              clear n0_ n1_ n2_ n3_ n4_ n5_ n6_ n7_ n8_ n9_ n10_ n11_ n12_ n13_ hb hbox hg
              refine hK.out _ _ ⟨(blk_cell BK421.out 0).trans rfl, (blk_cell BK421.out 1).trans rfl, (blk_cell BK421.out 2).trans rfl, (blk_cell BK421.out 3).trans rfl, (blk_cell BK421.out 4).trans rfl, (blk_cell BK422.out 0).trans rfl, (blk_cell BK422.out 1).trans rfl, (blk_cell BK422.out 2).trans rfl, (blk_cell BK422.out 3).trans rfl, (blk_cell BK422.out 4).trans rfl⟩ (fun hHeld => ?_)
              clear hK K
              refine norm_ (a' := ?_) ?_ ?_
              rotate_left
              ·
               show Act.put _ (some 8) _ = _
               simp only [Act.put, List.setIfInBounds_toArray, List.set_cons_zero, List.set_cons_succ, i64_w, i32_w]
               rfl
              exact norm_ (by first | (simp only [putAll, Act.put, List.setIfInBounds_toArray, List.set_cons_zero, List.set_cons_succ]; done) | (simp only [putAll, Act.put, List.setIfInBounds_toArray, List.set_cons_zero, List.set_cons_succ]; rfl)) (hJ8_11 (v435, gb440) _ ⟨hHeld, (rr HO436.out), (bk BK421), (bk BK422), (bk BK423), (bk BK440), GW440.out, GE440.out, NB421_440.out, NB440_421.out, NB422_440.out, NB440_422.out, NB423_440.out, NB440_423.out, (bs4 HB GE421 GE422 GE423 GE440)⟩)
           ·
            skip
            rintro ⟨v426, v429⟩ w16 ⟨hS_, h0_, h1_, h2_, h3_, h4_, h5_⟩
            have n0_ : Aside0 (Kd.R k53 53 w16 w.heap.size (fun k_ => some k_ ≠ (v429 : Value).ownBlock) v426 t425) := ⟨h0_⟩
            have n1_ : Aside0 (Kd.R k53 53 w16 w.heap.size (fun k_ => some k_ ≠ (v426 : Value).ownBlock) v429 t428) := ⟨h1_⟩
            have n2_ : Aside0 (w16.heap[gb421]? = some (.cells #[.int .i64 a0_0, .slice A0_1 l0_1.length c0_1, .slice A0_2 l0_2.length c0_2, .int .i64 a0_3, .slice A0_4 l0_4.length c0_4] 27 (0, 0))) := ⟨h2_⟩
            have n3_ : Aside0 (w16.heap[gb422]? = some (.cells #[.int .i64 a1_0, .int .i64 a1_1, .int .i64 a1_2, .int .i64 a1_3, .int .i64 a1_4] 71 (0, 0))) := ⟨h3_⟩
            have n4_ : Aside0 (w16.heap[gb423]? = some (.cells #[.int .i64 0, .slice none 0 0, .slice none 0 0, .int .i64 0, .slice none 0 0] 27 (0, 0))) := ⟨h4_⟩
            have n5_ : Aside0 (Below w.heap.size w w16) := ⟨h5_⟩
            clear BK421 BK422 BK423 HB h0_ h1_ h2_ h3_ h4_ h5_
            have HO427 := n0_
            have HO430 := n1_
            have BK421 := n2_
            have BK422 := n3_
            have BK423 := n4_
            have HB := n5_
            clear n0_ n1_ n2_ n3_ n4_ n5_
            have hHeld : w16.cell? ⟨gb421, 0, none⟩ = some (.int .i64 a0_0) ∧ w16.cell? ⟨gb421, 1, none⟩ = some (.slice A0_1 l0_1.length c0_1) ∧ w16.cell? ⟨gb421, 2, none⟩ = some (.slice A0_2 l0_2.length c0_2) ∧ w16.cell? ⟨gb421, 3, none⟩ = some (.int .i64 a0_3) ∧ w16.cell? ⟨gb421, 4, none⟩ = some (.slice A0_4 l0_4.length c0_4) ∧ w16.cell? ⟨gb422, 0, none⟩ = some (.int .i64 a1_0) ∧ w16.cell? ⟨gb422, 1, none⟩ = some (.int .i64 a1_1) ∧ w16.cell? ⟨gb422, 2, none⟩ = some (.int .i64 a1_2) ∧ w16.cell? ⟨gb422, 3, none⟩ = some (.int .i64 a1_3) ∧ w16.cell? ⟨gb422, 4, none⟩ = some (.int .i64 a1_4) := hS_
            refine norm_ (a' := ?_) ?_ ?_
            rotate_left
            ·
             simp only [putAll, Act.put, List.setIfInBounds_toArray, List.set_cons_zero, List.set_cons_succ]
             rfl
            refine three_ (i := 6) (j := 8) (k := 11) (Ni := some 15) (Nj := some 17) (Nk := some 8) #[true, true, true, true, true, true, true, true, false, false, false, false, false] #[true, true, true, true, true, true, false, true, true, false, false, false, false] #[true, true, true, true, true, true, false, true, false, false, false, true, false] rfl rfl rfl rfl rfl rfl (three_of HT_.out (by kernel_rfl)) (by decide) (by decide) (by decide) (fun K hK => ?_) (fun K hK => ?_) (fun K hK => ?_)
            ·
             skip
             refine goes_ Try.func68 (by kernel_rfl) rfl #[.slice A0_4 l0_4.length c0_4] (by rfl) rfl rfl (by (try simp only [List.map_toArray, List.map_cons, List.map_nil]); first | done | rfl | (simp only [List.length_drop, List.length_take]; rfl)) ?_
             with_reducible refine (impl_Item_68.calls _ _ l0_4 t431 _ ?side1 ?side2 A5.out).mono ?_
             (case side1 => exact cb HR0_4 HB)
             (case side2 => exact HC0_4.out)
             rintro e w17 ⟨v432, rfl, ho0, hb⟩
             refine ⟨_, rfl, ?_⟩
             have n0_ := Ah (Kd.R_below (rr HO427.out) hb)
             have n1_ := Ah (Kd.R_below (rr HO430.out) hb)
             have n2_ := Ah (Kd.R_lower (Kd.R_newB ho0 (g := gb422) (o := .cells #[.int .i64 a1_0, .int .i64 a1_1, .int .i64 a1_2, .int .i64 a1_3, .int .i64 a1_4] 71 (0, 0)) (bk BK422)) (below_size (bs3 HB GE421 GE422 GE423)))
             have n3_ := Ah (bb BK421 hb)
             have n4_ := Ah (bb BK422 hb)
             have n5_ := Ah (bb BK423 hb)
             have n6_ := Ah (below_step (bs3 HB GE421 GE422 GE423) hb)
             clear HO427 HO430 BK421 BK422 BK423 HB
             have HO427 := n0_
             have HO430 := n1_
             have HO433 := n2_
             have BK421 := n3_
             have BK422 := n4_
             have BK423 := n5_
             have HB := n6_
             clear n0_ n1_ n2_ n3_ n4_ n5_ n6_
             (try clear hb)
             (try clear hb2)
             (try clear hk)
             (try clear hi)
             (try clear ho0)
             refine hK.out _ _ ⟨(blk_cell BK421.out 0).trans rfl, (blk_cell BK421.out 1).trans rfl, (blk_cell BK421.out 2).trans rfl, (blk_cell BK421.out 3).trans rfl, (blk_cell BK421.out 4).trans rfl, (blk_cell BK422.out 0).trans rfl, (blk_cell BK422.out 1).trans rfl, (blk_cell BK422.out 2).trans rfl, (blk_cell BK422.out 3).trans rfl, (blk_cell BK422.out 4).trans rfl⟩ (fun hHeld => ?_)
             clear hK K
             refine norm_ (a' := ?_) ?_ ?_
             rotate_left
             ·
              show Act.put _ (some 15) _ = _
              simp only [Act.put, List.setIfInBounds_toArray, List.set_cons_zero, List.set_cons_succ, i64_w, i32_w]
              rfl
             exact norm_ (by first | (simp only [putAll, Act.put, List.setIfInBounds_toArray, List.set_cons_zero, List.set_cons_succ]; done) | (simp only [putAll, Act.put, List.setIfInBounds_toArray, List.set_cons_zero, List.set_cons_succ]; rfl)) (hJ2_6 (v426, v429, v432) _ ⟨hHeld, (rr HO427.out), (rr HO430.out), (by (with_reducible repeat (first | apply Kd.R_alloc | apply Kd.R_drewN | apply Kd.R_drew)); exact Kd.R_mono HO433.out (fun _ hk => hk.2)), (bk BK421), (bk BK422), (bk BK423), (bs3 HB GE421 GE422 GE423)⟩)
            ·
             skip
             refine Kd.R_lit_step k71 _ 71 ?hg (N := 17) ?hd (xs := ([(⟨a1_0, a1_1, (⟨a1_2, a1_3⟩ : S53), a1_4⟩ : S71)] : List (S71))) (inner := [.int .i64 a1_0, .int .i64 a1_1, .int .i64 a1_2, .int .i64 a1_3, .int .i64 a1_4]) (ok := fun _ => True) (okp := fun _ => True) ?hr ?hp (fun _ hk => hk) trivial (Below.refl _ _) (Nat.le_refl _) (by simp) ?_; (case hd => rfl); (case hg => rfl); (case hr => first | (go_simp; done) | (go_simp; rfl)); (case hp => exact (Reps.c5 (show Kd.M k71 _ _ _ (⟨a1_0, a1_1, (⟨a1_2, a1_3⟩ : S53), a1_4⟩ : S71) [.int .i64 a1_0, .int .i64 a1_1, .int .i64 a1_2, .int .i64 a1_3, .int .i64 a1_4] from (k71_mkM _ _ _ (⟨a1_0, a1_1, (⟨a1_2, a1_3⟩ : S53), a1_4⟩ : S71) )) (Reps.none _ _)))
             intro v435 w17 ho18 hb hg_ hnew_
             clear hg_ hnew_
             (first | rw [← Ny434.out] at ho18 | (simp only [Int.reduceToNat] at ho18; rw [← Ny434.out] at ho18))
             have n0_ := Ah (Kd.R_below (rr HO427.out) hb)
             have n1_ := Ah (Kd.R_below (rr HO430.out) hb)
             have n2_ := Ah (Kd.R_lower (Kd.R_newB ho18 (g := gb422) (o := .cells #[.int .i64 a1_0, .int .i64 a1_1, .int .i64 a1_2, .int .i64 a1_3, .int .i64 a1_4] 71 (0, 0)) (bk BK422)) (below_size (bs3 HB GE421 GE422 GE423)))
             have n3_ := Ah (bb BK421 hb)
             have n4_ := Ah (bb BK422 hb)
             have n5_ := Ah (bb BK423 hb)
             have n6_ := Ah (below_step (bs3 HB GE421 GE422 GE423) hb)
             clear HO427 HO430 BK421 BK422 BK423 HB
             have HO427 := n0_
             have HO430 := n1_
             have HO436 := n2_
             have BK421 := n3_
             have BK422 := n4_
             have BK423 := n5_
             have HB := n6_
             clear n0_ n1_ n2_ n3_ n4_ n5_ n6_ hb ho18
             refine hK.out _ _ ⟨(blk_cell BK421.out 0).trans rfl, (blk_cell BK421.out 1).trans rfl, (blk_cell BK421.out 2).trans rfl, (blk_cell BK421.out 3).trans rfl, (blk_cell BK421.out 4).trans rfl, (blk_cell BK422.out 0).trans rfl, (blk_cell BK422.out 1).trans rfl, (blk_cell BK422.out 2).trans rfl, (blk_cell BK422.out 3).trans rfl, (blk_cell BK422.out 4).trans rfl⟩ (fun hHeld => ?_)
             clear hK K
             refine norm_ (a' := ?_) ?_ ?_
             rotate_left
             ·
              show Act.put _ (some 17) _ = _
              simp only [Act.put, List.setIfInBounds_toArray, List.set_cons_zero, List.set_cons_succ, i64_w, i32_w]
              rfl
             exact norm_ (by first | (simp only [putAll, Act.put, List.setIfInBounds_toArray, List.set_cons_zero, List.set_cons_succ]; done) | (simp only [putAll, Act.put, List.setIfInBounds_toArray, List.set_cons_zero, List.set_cons_succ]; rfl)) (hJ2_8 (v426, v429, v435) _ ⟨hHeld, (rr HO427.out), (rr HO430.out), (by (with_reducible repeat (first | apply Kd.R_alloc | apply Kd.R_drewN | apply Kd.R_drew)); exact Kd.R_mono HO436.out (fun _ hk => hk.2)), (bk BK421), (bk BK422), (bk BK423), (bs3 HB GE421 GE422 GE423)⟩)
            ·
             skip
             refine box_step ?hg (N := 8) ?hd (cs := #[.int .i64 0, .slice none 0 0, .slice none 0 0, .int .i64 0, .slice none 0 0]) (t := 27) ?hr ?_; (case hd => rfl); (case hg => rfl); (case hr => first | (go_simp; done) | (go_simp; rfl))
             intro gb440 hg w17 hbox hb
             have n0_ := Ah (Kd.R_below (rr HO427.out) hb)
             have n1_ := Ah (Kd.R_below (rr HO430.out) hb)
             have n2_ := Ah (bb BK421 hb)
             have n3_ := Ah (bb BK422 hb)
             have n4_ := Ah (bb BK423 hb)
             have n5_ := Ah (below_step (bs3 HB GE421 GE422 GE423) hb)
             have n6_ := Ah (hbox)
             have n7_ := gw hg (bs3 HB GE421 GE422 GE423)
             have n8_ := gw hg (bs3 HB GE421 GE422 GE423)
             have n9_ := nn BK421 hg
             have n10_ := nm BK421 hg
             have n11_ := nn BK422 hg
             have n12_ := nm BK422 hg
             have n13_ := nn BK423 hg
             have n14_ := nm BK423 hg
             clear HO427 HO430 BK421 BK422 BK423 HB
             have HO427 := n0_
             have HO430 := n1_
             have BK421 := n2_
             have BK422 := n3_
             have BK423 := n4_
             have HB := n5_
             have BK440 := n6_
             have GW440 := n7_
             have GE440 := n8_
             have NB421_440 := n9_
             have NB440_421 := n10_
             have NB422_440 := n11_
             have NB440_422 := n12_
             have NB423_440 := n13_
             have NB440_423 := n14_
             clear n0_ n1_ n2_ n3_ n4_ n5_ n6_ n7_ n8_ n9_ n10_ n11_ n12_ n13_ n14_ hb hbox hg
             refine hK.out _ _ ⟨(blk_cell BK421.out 0).trans rfl, (blk_cell BK421.out 1).trans rfl, (blk_cell BK421.out 2).trans rfl, (blk_cell BK421.out 3).trans rfl, (blk_cell BK421.out 4).trans rfl, (blk_cell BK422.out 0).trans rfl, (blk_cell BK422.out 1).trans rfl, (blk_cell BK422.out 2).trans rfl, (blk_cell BK422.out 3).trans rfl, (blk_cell BK422.out 4).trans rfl⟩ (fun hHeld => ?_)
             clear hK K
             refine norm_ (a' := ?_) ?_ ?_
             rotate_left
             ·
              show Act.put _ (some 8) _ = _
              simp only [Act.put, List.setIfInBounds_toArray, List.set_cons_zero, List.set_cons_succ, i64_w, i32_w]
              rfl
             exact norm_ (by first | (simp only [putAll, Act.put, List.setIfInBounds_toArray, List.set_cons_zero, List.set_cons_succ]; done) | (simp only [putAll, Act.put, List.setIfInBounds_toArray, List.set_cons_zero, List.set_cons_succ]; rfl)) (hJ2_11 (v426, v429, gb440) _ ⟨hHeld, (rr HO427.out), (rr HO430.out), (bk BK421), (bk BK422), (bk BK423), (bk BK440), GW440.out, GE440.out, NB421_440.out, NB440_421.out, NB422_440.out, NB440_422.out, NB423_440.out, NB440_423.out, (bs4 HB GE421 GE422 GE423 GE440)⟩)
          ·
           skip
           rintro ⟨v435, gb440⟩ w18 ⟨hS_, h0_, h1_, h2_, h3_, h4_, h5_, h6_, h7_, h8_, h9_, h10_, h11_, h12_, h13_⟩
           have n0_ : Aside0 (Kd.R k71 71 w18 w.heap.size (fun k_ => k_ ≠ gb422) v435 y434) := ⟨h0_⟩
           have n1_ : Aside0 (w18.heap[gb421]? = some (.cells #[.int .i64 a0_0, .slice A0_1 l0_1.length c0_1, .slice A0_2 l0_2.length c0_2, .int .i64 a0_3, .slice A0_4 l0_4.length c0_4] 27 (0, 0))) := ⟨h1_⟩
           have n2_ : Aside0 (w18.heap[gb422]? = some (.cells #[.int .i64 a1_0, .int .i64 a1_1, .int .i64 a1_2, .int .i64 a1_3, .int .i64 a1_4] 71 (0, 0))) := ⟨h2_⟩
           have n3_ : Aside0 (w18.heap[gb423]? = some (.cells #[.int .i64 0, .slice none 0 0, .slice none 0 0, .int .i64 0, .slice none 0 0] 27 (0, 0))) := ⟨h3_⟩
           have n4_ : Aside0 (w18.heap[gb440]? = some (.cells #[.int .i64 0, .slice none 0 0, .slice none 0 0, .int .i64 0, .slice none 0 0] 27 (0, 0))) := ⟨h4_⟩
           have n5_ : Aside0 (w.heap.size ≤ gb440) := ⟨h5_⟩
           have n6_ : Aside0 (w.heap.size ≤ gb440) := ⟨h6_⟩
           have n7_ : Aside0 (gb421 ≠ gb440) := ⟨h7_⟩
           have n8_ : Aside0 (gb440 ≠ gb421) := ⟨h8_⟩
           have n9_ : Aside0 (gb422 ≠ gb440) := ⟨h9_⟩
           have n10_ : Aside0 (gb440 ≠ gb422) := ⟨h10_⟩
           have n11_ : Aside0 (gb423 ≠ gb440) := ⟨h11_⟩
           have n12_ : Aside0 (gb440 ≠ gb423) := ⟨h12_⟩
           have n13_ : Aside0 (Below w.heap.size w w18) := ⟨h13_⟩
           clear BK421 BK422 BK423 HB h0_ h1_ h2_ h3_ h4_ h5_ h6_ h7_ h8_ h9_ h10_ h11_ h12_ h13_
           have HO436 := n0_
           have BK421 := n1_
           have BK422 := n2_
           have BK423 := n3_
           have BK440 := n4_
           have GW440 := n5_
           have GE440 := n6_
           have NB421_440 := n7_
           have NB440_421 := n8_
           have NB422_440 := n9_
           have NB440_422 := n10_
           have NB423_440 := n11_
           have NB440_423 := n12_
           have HB := n13_
           clear n0_ n1_ n2_ n3_ n4_ n5_ n6_ n7_ n8_ n9_ n10_ n11_ n12_ n13_
           have hHeld : w18.cell? ⟨gb421, 0, none⟩ = some (.int .i64 a0_0) ∧ w18.cell? ⟨gb421, 1, none⟩ = some (.slice A0_1 l0_1.length c0_1) ∧ w18.cell? ⟨gb421, 2, none⟩ = some (.slice A0_2 l0_2.length c0_2) ∧ w18.cell? ⟨gb421, 3, none⟩ = some (.int .i64 a0_3) ∧ w18.cell? ⟨gb421, 4, none⟩ = some (.slice A0_4 l0_4.length c0_4) ∧ w18.cell? ⟨gb422, 0, none⟩ = some (.int .i64 a1_0) ∧ w18.cell? ⟨gb422, 1, none⟩ = some (.int .i64 a1_1) ∧ w18.cell? ⟨gb422, 2, none⟩ = some (.int .i64 a1_2) ∧ w18.cell? ⟨gb422, 3, none⟩ = some (.int .i64 a1_3) ∧ w18.cell? ⟨gb422, 4, none⟩ = some (.int .i64 a1_4) := hS_
           refine norm_ (a' := ?_) ?_ ?_
           rotate_left
           ·
            simp only [putAll, Act.put, List.setIfInBounds_toArray, List.set_cons_zero, List.set_cons_succ]
            rfl
           refine one_ (i := 2) (N := some 11) #[true, true, true, true, true, true, false, true, true, false, false, true, false] rfl rfl (one_of HT_.out (by kernel_rfl)) (by decide) (fun K hK => ?_)
           refine goes_ Try.func67 (by kernel_rfl) rfl #[.agg #[.int .i64 a0_0, .slice A0_1 l0_1.length c0_1, .slice A0_2 l0_2.length c0_2]] (by rfl) rfl rfl (by (try simp only [List.map_toArray, List.map_cons, List.map_nil]); first | done | rfl | (simp only [List.length_drop, List.length_take]; rfl)) ?_
           with_reducible refine (impl_ownFree.calls a0_0 _ _ l0_1 _ _ l0_2 t424 t425 t428 _ ?side1 ?side2 ?side3 ?side4 A4.out).mono ?_
           (case side1 => exact cb HR0_1 HB)
           (case side2 => exact HC0_1.out)
           (case side3 => exact cb HR0_2 HB)
           (case side4 => exact HC0_2.out)
           rintro e w19 ⟨v426, v429, rfl, ho0, ho1, hb⟩
           refine ⟨_, rfl, ?_⟩
           have n0_ := Ah (Kd.R_below (rr HO436.out) hb)
           have n1_ := Ah (Kd.R_lower ho0 (below_size (bs4 HB GE421 GE422 GE423 GE440)))
           have n2_ := Ah (Kd.R_lower ho1 (below_size (bs4 HB GE421 GE422 GE423 GE440)))
           have n3_ := Ah (bb BK421 hb)
           have n4_ := Ah (bb BK422 hb)
           have n5_ := Ah (bb BK423 hb)
           have n6_ := Ah (bb BK440 hb)
           have n7_ := Ah (below_step (bs4 HB GE421 GE422 GE423 GE440) hb)
           clear HO436 BK421 BK422 BK423 BK440 HB
           have HO436 := n0_
           have HO427 := n1_
           have HO430 := n2_
           have BK421 := n3_
           have BK422 := n4_
           have BK423 := n5_
           have BK440 := n6_
           have HB := n7_
           clear n0_ n1_ n2_ n3_ n4_ n5_ n6_ n7_
           (try clear hb)
           (try clear hb2)
           (try clear hk)
           (try clear hi)
           (try clear ho0)
           (try clear ho1)
           refine hK.out _ _ ⟨(blk_cell BK421.out 0).trans rfl, (blk_cell BK421.out 1).trans rfl, (blk_cell BK421.out 2).trans rfl, (blk_cell BK421.out 3).trans rfl, (blk_cell BK421.out 4).trans rfl, (blk_cell BK422.out 0).trans rfl, (blk_cell BK422.out 1).trans rfl, (blk_cell BK422.out 2).trans rfl, (blk_cell BK422.out 3).trans rfl, (blk_cell BK422.out 4).trans rfl⟩ (fun hHeld => ?_)
           clear hK K
           refine norm_ (a' := ?_) ?_ ?_
           rotate_left
           ·
            show Act.put _ (some 11) _ = _
            simp only [Act.put, List.setIfInBounds_toArray, List.set_cons_zero, List.set_cons_succ, i64_w, i32_w]
            rfl
           exact norm_ (by first | (simp only [putAll, Act.put, List.setIfInBounds_toArray, List.set_cons_zero, List.set_cons_succ]; done) | (simp only [putAll, Act.put, List.setIfInBounds_toArray, List.set_cons_zero, List.set_cons_succ]; rfl)) (hJ2_8_11 (v426, v429, v435, gb440) _ ⟨hHeld, (rr HO427.out), (rr HO430.out), (rr HO436.out), (bk BK421), (bk BK422), (bk BK423), (bk BK440), GW440.out, GE440.out, NB421_440.out, NB440_421.out, NB422_440.out, NB440_422.out, NB423_440.out, NB440_423.out, (bs4 HB GE421 GE422 GE423 GE440)⟩)
         ·
          skip
          rintro ⟨v426, v429, gb440⟩ w17 ⟨hS_, h0_, h1_, h2_, h3_, h4_, h5_, h6_, h7_, h8_, h9_, h10_, h11_, h12_, h13_, h14_⟩
          have n0_ : Aside0 (Kd.R k53 53 w17 w.heap.size (fun k_ => some k_ ≠ (v429 : Value).ownBlock) v426 t425) := ⟨h0_⟩
          have n1_ : Aside0 (Kd.R k53 53 w17 w.heap.size (fun k_ => some k_ ≠ (v426 : Value).ownBlock) v429 t428) := ⟨h1_⟩
          have n2_ : Aside0 (w17.heap[gb421]? = some (.cells #[.int .i64 a0_0, .slice A0_1 l0_1.length c0_1, .slice A0_2 l0_2.length c0_2, .int .i64 a0_3, .slice A0_4 l0_4.length c0_4] 27 (0, 0))) := ⟨h2_⟩
          have n3_ : Aside0 (w17.heap[gb422]? = some (.cells #[.int .i64 a1_0, .int .i64 a1_1, .int .i64 a1_2, .int .i64 a1_3, .int .i64 a1_4] 71 (0, 0))) := ⟨h3_⟩
          have n4_ : Aside0 (w17.heap[gb423]? = some (.cells #[.int .i64 0, .slice none 0 0, .slice none 0 0, .int .i64 0, .slice none 0 0] 27 (0, 0))) := ⟨h4_⟩
          have n5_ : Aside0 (w17.heap[gb440]? = some (.cells #[.int .i64 0, .slice none 0 0, .slice none 0 0, .int .i64 0, .slice none 0 0] 27 (0, 0))) := ⟨h5_⟩
          have n6_ : Aside0 (w.heap.size ≤ gb440) := ⟨h6_⟩
          have n7_ : Aside0 (w.heap.size ≤ gb440) := ⟨h7_⟩
          have n8_ : Aside0 (gb421 ≠ gb440) := ⟨h8_⟩
          have n9_ : Aside0 (gb440 ≠ gb421) := ⟨h9_⟩
          have n10_ : Aside0 (gb422 ≠ gb440) := ⟨h10_⟩
          have n11_ : Aside0 (gb440 ≠ gb422) := ⟨h11_⟩
          have n12_ : Aside0 (gb423 ≠ gb440) := ⟨h12_⟩
          have n13_ : Aside0 (gb440 ≠ gb423) := ⟨h13_⟩
          have n14_ : Aside0 (Below w.heap.size w w17) := ⟨h14_⟩
          clear BK421 BK422 BK423 HB h0_ h1_ h2_ h3_ h4_ h5_ h6_ h7_ h8_ h9_ h10_ h11_ h12_ h13_ h14_
          have HO427 := n0_
          have HO430 := n1_
          have BK421 := n2_
          have BK422 := n3_
          have BK423 := n4_
          have BK440 := n5_
          have GW440 := n6_
          have GE440 := n7_
          have NB421_440 := n8_
          have NB440_421 := n9_
          have NB422_440 := n10_
          have NB440_422 := n11_
          have NB423_440 := n12_
          have NB440_423 := n13_
          have HB := n14_
          clear n0_ n1_ n2_ n3_ n4_ n5_ n6_ n7_ n8_ n9_ n10_ n11_ n12_ n13_ n14_
          have hHeld : w17.cell? ⟨gb421, 0, none⟩ = some (.int .i64 a0_0) ∧ w17.cell? ⟨gb421, 1, none⟩ = some (.slice A0_1 l0_1.length c0_1) ∧ w17.cell? ⟨gb421, 2, none⟩ = some (.slice A0_2 l0_2.length c0_2) ∧ w17.cell? ⟨gb421, 3, none⟩ = some (.int .i64 a0_3) ∧ w17.cell? ⟨gb421, 4, none⟩ = some (.slice A0_4 l0_4.length c0_4) ∧ w17.cell? ⟨gb422, 0, none⟩ = some (.int .i64 a1_0) ∧ w17.cell? ⟨gb422, 1, none⟩ = some (.int .i64 a1_1) ∧ w17.cell? ⟨gb422, 2, none⟩ = some (.int .i64 a1_2) ∧ w17.cell? ⟨gb422, 3, none⟩ = some (.int .i64 a1_3) ∧ w17.cell? ⟨gb422, 4, none⟩ = some (.int .i64 a1_4) := hS_
          refine norm_ (a' := ?_) ?_ ?_
          rotate_left
          ·
           simp only [putAll, Act.put, List.setIfInBounds_toArray, List.set_cons_zero, List.set_cons_succ]
           rfl
          refine two_ (i := 6) (j := 8) (Ni := some 15) (Nj := some 17) #[true, true, true, true, true, true, true, true, false, false, false, true, false] #[true, true, true, true, true, true, false, true, true, false, false, true, false] rfl rfl rfl rfl (two_of HT_.out (by kernel_rfl)) (by decide) (by decide) (fun K hK => ?_) (fun K hK => ?_)
          ·
           skip
           refine goes_ Try.func68 (by kernel_rfl) rfl #[.slice A0_4 l0_4.length c0_4] (by rfl) rfl rfl (by (try simp only [List.map_toArray, List.map_cons, List.map_nil]); first | done | rfl | (simp only [List.length_drop, List.length_take]; rfl)) ?_
           with_reducible refine (impl_Item_68.calls _ _ l0_4 t431 _ ?side1 ?side2 A5.out).mono ?_
           (case side1 => exact cb HR0_4 HB)
           (case side2 => exact HC0_4.out)
           rintro e w18 ⟨v432, rfl, ho0, hb⟩
           refine ⟨_, rfl, ?_⟩
           have n0_ := Ah (Kd.R_below (rr HO427.out) hb)
           have n1_ := Ah (Kd.R_below (rr HO430.out) hb)
           have n2_ := Ah (Kd.R_lower (Kd.R_newB ho0 (g := gb422) (o := .cells #[.int .i64 a1_0, .int .i64 a1_1, .int .i64 a1_2, .int .i64 a1_3, .int .i64 a1_4] 71 (0, 0)) (bk BK422)) (below_size (bs4 HB GE421 GE422 GE423 GE440)))
           have n3_ := Ah (bb BK421 hb)
           have n4_ := Ah (bb BK422 hb)
           have n5_ := Ah (bb BK423 hb)
           have n6_ := Ah (bb BK440 hb)
           have n7_ := Ah (below_step (bs4 HB GE421 GE422 GE423 GE440) hb)
           clear HO427 HO430 BK421 BK422 BK423 BK440 HB
           have HO427 := n0_
           have HO430 := n1_
           have HO433 := n2_
           have BK421 := n3_
           have BK422 := n4_
           have BK423 := n5_
           have BK440 := n6_
           have HB := n7_
           clear n0_ n1_ n2_ n3_ n4_ n5_ n6_ n7_
           (try clear hb)
           (try clear hb2)
           (try clear hk)
           (try clear hi)
           (try clear ho0)
           refine hK.out _ _ ⟨(blk_cell BK421.out 0).trans rfl, (blk_cell BK421.out 1).trans rfl, (blk_cell BK421.out 2).trans rfl, (blk_cell BK421.out 3).trans rfl, (blk_cell BK421.out 4).trans rfl, (blk_cell BK422.out 0).trans rfl, (blk_cell BK422.out 1).trans rfl, (blk_cell BK422.out 2).trans rfl, (blk_cell BK422.out 3).trans rfl, (blk_cell BK422.out 4).trans rfl⟩ (fun hHeld => ?_)
           clear hK K
           refine norm_ (a' := ?_) ?_ ?_
           rotate_left
           ·
            show Act.put _ (some 15) _ = _
            simp only [Act.put, List.setIfInBounds_toArray, List.set_cons_zero, List.set_cons_succ, i64_w, i32_w]
            rfl
           exact norm_ (by first | (simp only [putAll, Act.put, List.setIfInBounds_toArray, List.set_cons_zero, List.set_cons_succ]; done) | (simp only [putAll, Act.put, List.setIfInBounds_toArray, List.set_cons_zero, List.set_cons_succ]; rfl)) (hJ2_6_11 (v426, v429, v432, gb440) _ ⟨hHeld, (rr HO427.out), (rr HO430.out), (by (with_reducible repeat (first | apply Kd.R_alloc | apply Kd.R_drewN | apply Kd.R_drew)); exact Kd.R_mono HO433.out (fun _ hk => hk.2)), (bk BK421), (bk BK422), (bk BK423), (bk BK440), GW440.out, GE440.out, NB421_440.out, NB440_421.out, NB422_440.out, NB440_422.out, NB423_440.out, NB440_423.out, (bs4 HB GE421 GE422 GE423 GE440)⟩)
          ·
           skip
           refine Kd.R_lit_step k71 _ 71 ?hg (N := 17) ?hd (xs := ([(⟨a1_0, a1_1, (⟨a1_2, a1_3⟩ : S53), a1_4⟩ : S71)] : List (S71))) (inner := [.int .i64 a1_0, .int .i64 a1_1, .int .i64 a1_2, .int .i64 a1_3, .int .i64 a1_4]) (ok := fun _ => True) (okp := fun _ => True) ?hr ?hp (fun _ hk => hk) trivial (Below.refl _ _) (Nat.le_refl _) (by simp) ?_; (case hd => rfl); (case hg => rfl); (case hr => first | (go_simp; done) | (go_simp; rfl)); (case hp => exact (Reps.c5 (show Kd.M k71 _ _ _ (⟨a1_0, a1_1, (⟨a1_2, a1_3⟩ : S53), a1_4⟩ : S71) [.int .i64 a1_0, .int .i64 a1_1, .int .i64 a1_2, .int .i64 a1_3, .int .i64 a1_4] from (k71_mkM _ _ _ (⟨a1_0, a1_1, (⟨a1_2, a1_3⟩ : S53), a1_4⟩ : S71) )) (Reps.none _ _)))
           intro v435 w18 ho19 hb hg_ hnew_
           clear hg_ hnew_
           (first | rw [← Ny434.out] at ho19 | (simp only [Int.reduceToNat] at ho19; rw [← Ny434.out] at ho19))
           have n0_ := Ah (Kd.R_below (rr HO427.out) hb)
           have n1_ := Ah (Kd.R_below (rr HO430.out) hb)
           have n2_ := Ah (Kd.R_lower (Kd.R_newB ho19 (g := gb422) (o := .cells #[.int .i64 a1_0, .int .i64 a1_1, .int .i64 a1_2, .int .i64 a1_3, .int .i64 a1_4] 71 (0, 0)) (bk BK422)) (below_size (bs4 HB GE421 GE422 GE423 GE440)))
           have n3_ := Ah (bb BK421 hb)
           have n4_ := Ah (bb BK422 hb)
           have n5_ := Ah (bb BK423 hb)
           have n6_ := Ah (bb BK440 hb)
           have n7_ := Ah (below_step (bs4 HB GE421 GE422 GE423 GE440) hb)
           clear HO427 HO430 BK421 BK422 BK423 BK440 HB
           have HO427 := n0_
           have HO430 := n1_
           have HO436 := n2_
           have BK421 := n3_
           have BK422 := n4_
           have BK423 := n5_
           have BK440 := n6_
           have HB := n7_
           clear n0_ n1_ n2_ n3_ n4_ n5_ n6_ n7_ hb ho19
           refine hK.out _ _ ⟨(blk_cell BK421.out 0).trans rfl, (blk_cell BK421.out 1).trans rfl, (blk_cell BK421.out 2).trans rfl, (blk_cell BK421.out 3).trans rfl, (blk_cell BK421.out 4).trans rfl, (blk_cell BK422.out 0).trans rfl, (blk_cell BK422.out 1).trans rfl, (blk_cell BK422.out 2).trans rfl, (blk_cell BK422.out 3).trans rfl, (blk_cell BK422.out 4).trans rfl⟩ (fun hHeld => ?_)
           clear hK K
           refine norm_ (a' := ?_) ?_ ?_
           rotate_left
           ·
            show Act.put _ (some 17) _ = _
            simp only [Act.put, List.setIfInBounds_toArray, List.set_cons_zero, List.set_cons_succ, i64_w, i32_w]
            rfl
           exact norm_ (by first | (simp only [putAll, Act.put, List.setIfInBounds_toArray, List.set_cons_zero, List.set_cons_succ]; done) | (simp only [putAll, Act.put, List.setIfInBounds_toArray, List.set_cons_zero, List.set_cons_succ]; rfl)) (hJ2_8_11 (v426, v429, v435, gb440) _ ⟨hHeld, (rr HO427.out), (rr HO430.out), (by (with_reducible repeat (first | apply Kd.R_alloc | apply Kd.R_drewN | apply Kd.R_drew)); exact Kd.R_mono HO436.out (fun _ hk => hk.2)), (bk BK421), (bk BK422), (bk BK423), (bk BK440), GW440.out, GE440.out, NB421_440.out, NB440_421.out, NB422_440.out, NB440_422.out, NB423_440.out, NB440_423.out, (bs4 HB GE421 GE422 GE423 GE440)⟩)
        ·
         skip
         rintro ⟨v426, v429, v435⟩ w18 ⟨hS_, h0_, h1_, h2_, h3_, h4_, h5_, h6_⟩
         have n0_ : Aside0 (Kd.R k53 53 w18 w.heap.size (fun k_ => some k_ ≠ (v429 : Value).ownBlock) v426 t425) := ⟨h0_⟩
         have n1_ : Aside0 (Kd.R k53 53 w18 w.heap.size (fun k_ => some k_ ≠ (v426 : Value).ownBlock) v429 t428) := ⟨h1_⟩
         have n2_ : Aside0 (Kd.R k71 71 w18 w.heap.size (fun k_ => k_ ≠ gb422) v435 y434) := ⟨h2_⟩
         have n3_ : Aside0 (w18.heap[gb421]? = some (.cells #[.int .i64 a0_0, .slice A0_1 l0_1.length c0_1, .slice A0_2 l0_2.length c0_2, .int .i64 a0_3, .slice A0_4 l0_4.length c0_4] 27 (0, 0))) := ⟨h3_⟩
         have n4_ : Aside0 (w18.heap[gb422]? = some (.cells #[.int .i64 a1_0, .int .i64 a1_1, .int .i64 a1_2, .int .i64 a1_3, .int .i64 a1_4] 71 (0, 0))) := ⟨h4_⟩
         have n5_ : Aside0 (w18.heap[gb423]? = some (.cells #[.int .i64 0, .slice none 0 0, .slice none 0 0, .int .i64 0, .slice none 0 0] 27 (0, 0))) := ⟨h5_⟩
         have n6_ : Aside0 (Below w.heap.size w w18) := ⟨h6_⟩
         clear BK421 BK422 BK423 HB h0_ h1_ h2_ h3_ h4_ h5_ h6_
         have HO427 := n0_
         have HO430 := n1_
         have HO436 := n2_
         have BK421 := n3_
         have BK422 := n4_
         have BK423 := n5_
         have HB := n6_
         clear n0_ n1_ n2_ n3_ n4_ n5_ n6_
         have hHeld : w18.cell? ⟨gb421, 0, none⟩ = some (.int .i64 a0_0) ∧ w18.cell? ⟨gb421, 1, none⟩ = some (.slice A0_1 l0_1.length c0_1) ∧ w18.cell? ⟨gb421, 2, none⟩ = some (.slice A0_2 l0_2.length c0_2) ∧ w18.cell? ⟨gb421, 3, none⟩ = some (.int .i64 a0_3) ∧ w18.cell? ⟨gb421, 4, none⟩ = some (.slice A0_4 l0_4.length c0_4) ∧ w18.cell? ⟨gb422, 0, none⟩ = some (.int .i64 a1_0) ∧ w18.cell? ⟨gb422, 1, none⟩ = some (.int .i64 a1_1) ∧ w18.cell? ⟨gb422, 2, none⟩ = some (.int .i64 a1_2) ∧ w18.cell? ⟨gb422, 3, none⟩ = some (.int .i64 a1_3) ∧ w18.cell? ⟨gb422, 4, none⟩ = some (.int .i64 a1_4) := hS_
         refine norm_ (a' := ?_) ?_ ?_
         rotate_left
         ·
          simp only [putAll, Act.put, List.setIfInBounds_toArray, List.set_cons_zero, List.set_cons_succ]
          rfl
         refine two_ (i := 6) (j := 11) (Ni := some 15) (Nj := some 8) #[true, true, true, true, true, true, true, true, true, false, false, false, false] #[true, true, true, true, true, true, false, true, true, false, false, true, false] rfl rfl rfl rfl (two_of HT_.out (by kernel_rfl)) (by decide) (by decide) (fun K hK => ?_) (fun K hK => ?_)
         ·
          skip
          refine goes_ Try.func68 (by kernel_rfl) rfl #[.slice A0_4 l0_4.length c0_4] (by rfl) rfl rfl (by (try simp only [List.map_toArray, List.map_cons, List.map_nil]); first | done | rfl | (simp only [List.length_drop, List.length_take]; rfl)) ?_
          with_reducible refine (impl_Item_68.calls _ _ l0_4 t431 _ ?side1 ?side2 A5.out).mono ?_
          (case side1 => exact cb HR0_4 HB)
          (case side2 => exact HC0_4.out)
          rintro e w19 ⟨v432, rfl, ho0, hb⟩
          refine ⟨_, rfl, ?_⟩
          have n0_ := Ah (Kd.R_below (rr HO427.out) hb)
          have n1_ := Ah (Kd.R_below (rr HO430.out) hb)
          have n2_ := Ah (Kd.R_elder' (rr HO436.out) (Kd.R_base ho0) hb)
          have n3_ := Ah (Kd.R_lower (Kd.R_newB (Kd.R_new' ho0 (Kd.R_lt (rr HO436.out))) (g := gb422) (o := .cells #[.int .i64 a1_0, .int .i64 a1_1, .int .i64 a1_2, .int .i64 a1_3, .int .i64 a1_4] 71 (0, 0)) (bk BK422)) (below_size (bs3 HB GE421 GE422 GE423)))
          have n4_ := Ah (bb BK421 hb)
          have n5_ := Ah (bb BK422 hb)
          have n6_ := Ah (bb BK423 hb)
          have n7_ := Ah (below_step (bs3 HB GE421 GE422 GE423) hb)
          clear HO427 HO430 HO436 BK421 BK422 BK423 HB
          have HO427 := n0_
          have HO430 := n1_
          have HO436 := n2_
          have HO433 := n3_
          have BK421 := n4_
          have BK422 := n5_
          have BK423 := n6_
          have HB := n7_
          clear n0_ n1_ n2_ n3_ n4_ n5_ n6_ n7_
          (try clear hb)
          (try clear hb2)
          (try clear hk)
          (try clear hi)
          (try clear ho0)
          refine hK.out _ _ ⟨(blk_cell BK421.out 0).trans rfl, (blk_cell BK421.out 1).trans rfl, (blk_cell BK421.out 2).trans rfl, (blk_cell BK421.out 3).trans rfl, (blk_cell BK421.out 4).trans rfl, (blk_cell BK422.out 0).trans rfl, (blk_cell BK422.out 1).trans rfl, (blk_cell BK422.out 2).trans rfl, (blk_cell BK422.out 3).trans rfl, (blk_cell BK422.out 4).trans rfl⟩ (fun hHeld => ?_)
          clear hK K
          refine norm_ (a' := ?_) ?_ ?_
          rotate_left
          ·
           show Act.put _ (some 15) _ = _
           simp only [Act.put, List.setIfInBounds_toArray, List.set_cons_zero, List.set_cons_succ, i64_w, i32_w]
           rfl
          exact norm_ (by first | (simp only [putAll, Act.put, List.setIfInBounds_toArray, List.set_cons_zero, List.set_cons_succ]; done) | (simp only [putAll, Act.put, List.setIfInBounds_toArray, List.set_cons_zero, List.set_cons_succ]; rfl)) (hJ2_6_8 (v426, v429, v432, v435) _ ⟨hHeld, (rr HO427.out), (rr HO430.out), (by (with_reducible repeat (first | apply Kd.R_alloc | apply Kd.R_drewN | apply Kd.R_drew)); exact Kd.R_mono HO433.out (fun _ hk => ⟨hk.1.2, hk.2⟩)), (by (with_reducible repeat (first | apply Kd.R_alloc | apply Kd.R_drewN | apply Kd.R_drew)); exact Kd.R_mono HO436.out (fun _ hk => ⟨hk.2, hk.1⟩)), (bk BK421), (bk BK422), (bk BK423), (bs3 HB GE421 GE422 GE423)⟩)
         ·
          skip
          refine box_step ?hg (N := 8) ?hd (cs := #[.int .i64 0, .slice none 0 0, .slice none 0 0, .int .i64 0, .slice none 0 0]) (t := 27) ?hr ?_; (case hd => rfl); (case hg => rfl); (case hr => first | (go_simp; done) | (go_simp; rfl))
          intro gb440 hg w19 hbox hb
          have n0_ := Ah (Kd.R_below (rr HO427.out) hb)
          have n1_ := Ah (Kd.R_below (rr HO430.out) hb)
          have n2_ := Ah (Kd.R_below (rr HO436.out) hb)
          have n3_ := Ah (bb BK421 hb)
          have n4_ := Ah (bb BK422 hb)
          have n5_ := Ah (bb BK423 hb)
          have n6_ := Ah (below_step (bs3 HB GE421 GE422 GE423) hb)
          have n7_ := Ah (hbox)
          have n8_ := gw hg (bs3 HB GE421 GE422 GE423)
          have n9_ := gw hg (bs3 HB GE421 GE422 GE423)
          have n10_ := nn BK421 hg
          have n11_ := nm BK421 hg
          have n12_ := nn BK422 hg
          have n13_ := nm BK422 hg
          have n14_ := nn BK423 hg
          have n15_ := nm BK423 hg
          clear HO427 HO430 HO436 BK421 BK422 BK423 HB
          have HO427 := n0_
          have HO430 := n1_
          have HO436 := n2_
          have BK421 := n3_
          have BK422 := n4_
          have BK423 := n5_
          have HB := n6_
          have BK440 := n7_
          have GW440 := n8_
          have GE440 := n9_
          have NB421_440 := n10_
          have NB440_421 := n11_
          have NB422_440 := n12_
          have NB440_422 := n13_
          have NB423_440 := n14_
          have NB440_423 := n15_
          clear n0_ n1_ n2_ n3_ n4_ n5_ n6_ n7_ n8_ n9_ n10_ n11_ n12_ n13_ n14_ n15_ hb hbox hg
          refine hK.out _ _ ⟨(blk_cell BK421.out 0).trans rfl, (blk_cell BK421.out 1).trans rfl, (blk_cell BK421.out 2).trans rfl, (blk_cell BK421.out 3).trans rfl, (blk_cell BK421.out 4).trans rfl, (blk_cell BK422.out 0).trans rfl, (blk_cell BK422.out 1).trans rfl, (blk_cell BK422.out 2).trans rfl, (blk_cell BK422.out 3).trans rfl, (blk_cell BK422.out 4).trans rfl⟩ (fun hHeld => ?_)
          clear hK K
          refine norm_ (a' := ?_) ?_ ?_
          rotate_left
          ·
           show Act.put _ (some 8) _ = _
           simp only [Act.put, List.setIfInBounds_toArray, List.set_cons_zero, List.set_cons_succ, i64_w, i32_w]
           rfl
          exact norm_ (by first | (simp only [putAll, Act.put, List.setIfInBounds_toArray, List.set_cons_zero, List.set_cons_succ]; done) | (simp only [putAll, Act.put, List.setIfInBounds_toArray, List.set_cons_zero, List.set_cons_succ]; rfl)) (hJ2_8_11 (v426, v429, v435, gb440) _ ⟨hHeld, (rr HO427.out), (rr HO430.out), (rr HO436.out), (bk BK421), (bk BK422), (bk BK423), (bk BK440), GW440.out, GE440.out, NB421_440.out, NB440_421.out, NB422_440.out, NB440_422.out, NB423_440.out, NB440_423.out, (bs4 HB GE421 GE422 GE423 GE440)⟩)
       ·
        skip
        rintro ⟨v426, v429, v432⟩ w17 ⟨hS_, h0_, h1_, h2_, h3_, h4_, h5_, h6_⟩
        have n0_ : Aside0 (Kd.R k53 53 w17 w.heap.size (fun k_ => some k_ ≠ (v429 : Value).ownBlock) v426 t425) := ⟨h0_⟩
        have n1_ : Aside0 (Kd.R k53 53 w17 w.heap.size (fun k_ => some k_ ≠ (v426 : Value).ownBlock) v429 t428) := ⟨h1_⟩
        have n2_ : Aside0 (Kd.R k71 71 w17 w.heap.size (fun k_ => k_ ≠ gb422) v432 t431) := ⟨h2_⟩
        have n3_ : Aside0 (w17.heap[gb421]? = some (.cells #[.int .i64 a0_0, .slice A0_1 l0_1.length c0_1, .slice A0_2 l0_2.length c0_2, .int .i64 a0_3, .slice A0_4 l0_4.length c0_4] 27 (0, 0))) := ⟨h3_⟩
        have n4_ : Aside0 (w17.heap[gb422]? = some (.cells #[.int .i64 a1_0, .int .i64 a1_1, .int .i64 a1_2, .int .i64 a1_3, .int .i64 a1_4] 71 (0, 0))) := ⟨h4_⟩
        have n5_ : Aside0 (w17.heap[gb423]? = some (.cells #[.int .i64 0, .slice none 0 0, .slice none 0 0, .int .i64 0, .slice none 0 0] 27 (0, 0))) := ⟨h5_⟩
        have n6_ : Aside0 (Below w.heap.size w w17) := ⟨h6_⟩
        clear BK421 BK422 BK423 HB h0_ h1_ h2_ h3_ h4_ h5_ h6_
        have HO427 := n0_
        have HO430 := n1_
        have HO433 := n2_
        have BK421 := n3_
        have BK422 := n4_
        have BK423 := n5_
        have HB := n6_
        clear n0_ n1_ n2_ n3_ n4_ n5_ n6_
        have hHeld : w17.cell? ⟨gb421, 0, none⟩ = some (.int .i64 a0_0) ∧ w17.cell? ⟨gb421, 1, none⟩ = some (.slice A0_1 l0_1.length c0_1) ∧ w17.cell? ⟨gb421, 2, none⟩ = some (.slice A0_2 l0_2.length c0_2) ∧ w17.cell? ⟨gb421, 3, none⟩ = some (.int .i64 a0_3) ∧ w17.cell? ⟨gb421, 4, none⟩ = some (.slice A0_4 l0_4.length c0_4) ∧ w17.cell? ⟨gb422, 0, none⟩ = some (.int .i64 a1_0) ∧ w17.cell? ⟨gb422, 1, none⟩ = some (.int .i64 a1_1) ∧ w17.cell? ⟨gb422, 2, none⟩ = some (.int .i64 a1_2) ∧ w17.cell? ⟨gb422, 3, none⟩ = some (.int .i64 a1_3) ∧ w17.cell? ⟨gb422, 4, none⟩ = some (.int .i64 a1_4) := hS_
        refine norm_ (a' := ?_) ?_ ?_
        rotate_left
        ·
         simp only [putAll, Act.put, List.setIfInBounds_toArray, List.set_cons_zero, List.set_cons_succ]
         rfl
        refine two_ (i := 8) (j := 11) (Ni := some 17) (Nj := some 8) #[true, true, true, true, true, true, true, true, true, false, false, false, false] #[true, true, true, true, true, true, true, true, false, false, false, true, false] rfl rfl rfl rfl (two_of HT_.out (by kernel_rfl)) (by decide) (by decide) (fun K hK => ?_) (fun K hK => ?_)
        ·
         skip
         refine Kd.R_lit_step k71 _ 71 ?hg (N := 17) ?hd (xs := ([(⟨a1_0, a1_1, (⟨a1_2, a1_3⟩ : S53), a1_4⟩ : S71)] : List (S71))) (inner := [.int .i64 a1_0, .int .i64 a1_1, .int .i64 a1_2, .int .i64 a1_3, .int .i64 a1_4]) (ok := fun _ => True) (okp := fun _ => True) ?hr ?hp (fun _ hk => hk) trivial (Below.refl _ _) (Nat.le_refl _) (by simp) ?_; (case hd => rfl); (case hg => rfl); (case hr => first | (go_simp; done) | (go_simp; rfl)); (case hp => exact (Reps.c5 (show Kd.M k71 _ _ _ (⟨a1_0, a1_1, (⟨a1_2, a1_3⟩ : S53), a1_4⟩ : S71) [.int .i64 a1_0, .int .i64 a1_1, .int .i64 a1_2, .int .i64 a1_3, .int .i64 a1_4] from (k71_mkM _ _ _ (⟨a1_0, a1_1, (⟨a1_2, a1_3⟩ : S53), a1_4⟩ : S71) )) (Reps.none _ _)))
         intro v435 w18 ho19 hb hg_ hnew_
         clear hg_ hnew_
         (first | rw [← Ny434.out] at ho19 | (simp only [Int.reduceToNat] at ho19; rw [← Ny434.out] at ho19))
         have n0_ := Ah (Kd.R_below (rr HO427.out) hb)
         have n1_ := Ah (Kd.R_below (rr HO430.out) hb)
         have n2_ := Ah (Kd.R_elder' (rr HO433.out) (Kd.R_base ho19) hb)
         have n3_ := Ah (Kd.R_lower (Kd.R_newB (Kd.R_new' ho19 (Kd.R_lt (rr HO433.out))) (g := gb422) (o := .cells #[.int .i64 a1_0, .int .i64 a1_1, .int .i64 a1_2, .int .i64 a1_3, .int .i64 a1_4] 71 (0, 0)) (bk BK422)) (below_size (bs3 HB GE421 GE422 GE423)))
         have n4_ := Ah (bb BK421 hb)
         have n5_ := Ah (bb BK422 hb)
         have n6_ := Ah (bb BK423 hb)
         have n7_ := Ah (below_step (bs3 HB GE421 GE422 GE423) hb)
         clear HO427 HO430 HO433 BK421 BK422 BK423 HB
         have HO427 := n0_
         have HO430 := n1_
         have HO433 := n2_
         have HO436 := n3_
         have BK421 := n4_
         have BK422 := n5_
         have BK423 := n6_
         have HB := n7_
         clear n0_ n1_ n2_ n3_ n4_ n5_ n6_ n7_ hb ho19
         refine hK.out _ _ ⟨(blk_cell BK421.out 0).trans rfl, (blk_cell BK421.out 1).trans rfl, (blk_cell BK421.out 2).trans rfl, (blk_cell BK421.out 3).trans rfl, (blk_cell BK421.out 4).trans rfl, (blk_cell BK422.out 0).trans rfl, (blk_cell BK422.out 1).trans rfl, (blk_cell BK422.out 2).trans rfl, (blk_cell BK422.out 3).trans rfl, (blk_cell BK422.out 4).trans rfl⟩ (fun hHeld => ?_)
         clear hK K
         refine norm_ (a' := ?_) ?_ ?_
         rotate_left
         ·
          show Act.put _ (some 17) _ = _
          simp only [Act.put, List.setIfInBounds_toArray, List.set_cons_zero, List.set_cons_succ, i64_w, i32_w]
          rfl
         exact norm_ (by first | (simp only [putAll, Act.put, List.setIfInBounds_toArray, List.set_cons_zero, List.set_cons_succ]; done) | (simp only [putAll, Act.put, List.setIfInBounds_toArray, List.set_cons_zero, List.set_cons_succ]; rfl)) (hJ2_6_8 (v426, v429, v432, v435) _ ⟨hHeld, (rr HO427.out), (rr HO430.out), (by (with_reducible repeat (first | apply Kd.R_alloc | apply Kd.R_drewN | apply Kd.R_drew)); exact Kd.R_mono HO433.out (fun _ hk => ⟨hk.2, hk.1⟩)), (by (with_reducible repeat (first | apply Kd.R_alloc | apply Kd.R_drewN | apply Kd.R_drew)); exact Kd.R_mono HO436.out (fun _ hk => ⟨hk.1.2, hk.2⟩)), (bk BK421), (bk BK422), (bk BK423), (bs3 HB GE421 GE422 GE423)⟩)
        ·
         skip
         refine box_step ?hg (N := 8) ?hd (cs := #[.int .i64 0, .slice none 0 0, .slice none 0 0, .int .i64 0, .slice none 0 0]) (t := 27) ?hr ?_; (case hd => rfl); (case hg => rfl); (case hr => first | (go_simp; done) | (go_simp; rfl))
         intro gb440 hg w18 hbox hb
         have n0_ := Ah (Kd.R_below (rr HO427.out) hb)
         have n1_ := Ah (Kd.R_below (rr HO430.out) hb)
         have n2_ := Ah (Kd.R_below (rr HO433.out) hb)
         have n3_ := Ah (bb BK421 hb)
         have n4_ := Ah (bb BK422 hb)
         have n5_ := Ah (bb BK423 hb)
         have n6_ := Ah (below_step (bs3 HB GE421 GE422 GE423) hb)
         have n7_ := Ah (hbox)
         have n8_ := gw hg (bs3 HB GE421 GE422 GE423)
         have n9_ := gw hg (bs3 HB GE421 GE422 GE423)
         have n10_ := nn BK421 hg
         have n11_ := nm BK421 hg
         have n12_ := nn BK422 hg
         have n13_ := nm BK422 hg
         have n14_ := nn BK423 hg
         have n15_ := nm BK423 hg
         clear HO427 HO430 HO433 BK421 BK422 BK423 HB
         have HO427 := n0_
         have HO430 := n1_
         have HO433 := n2_
         have BK421 := n3_
         have BK422 := n4_
         have BK423 := n5_
         have HB := n6_
         have BK440 := n7_
         have GW440 := n8_
         have GE440 := n9_
         have NB421_440 := n10_
         have NB440_421 := n11_
         have NB422_440 := n12_
         have NB440_422 := n13_
         have NB423_440 := n14_
         have NB440_423 := n15_
         clear n0_ n1_ n2_ n3_ n4_ n5_ n6_ n7_ n8_ n9_ n10_ n11_ n12_ n13_ n14_ n15_ hb hbox hg
         refine hK.out _ _ ⟨(blk_cell BK421.out 0).trans rfl, (blk_cell BK421.out 1).trans rfl, (blk_cell BK421.out 2).trans rfl, (blk_cell BK421.out 3).trans rfl, (blk_cell BK421.out 4).trans rfl, (blk_cell BK422.out 0).trans rfl, (blk_cell BK422.out 1).trans rfl, (blk_cell BK422.out 2).trans rfl, (blk_cell BK422.out 3).trans rfl, (blk_cell BK422.out 4).trans rfl⟩ (fun hHeld => ?_)
         clear hK K
         refine norm_ (a' := ?_) ?_ ?_
         rotate_left
         ·
          show Act.put _ (some 8) _ = _
          simp only [Act.put, List.setIfInBounds_toArray, List.set_cons_zero, List.set_cons_succ, i64_w, i32_w]
          rfl
         exact norm_ (by first | (simp only [putAll, Act.put, List.setIfInBounds_toArray, List.set_cons_zero, List.set_cons_succ]; done) | (simp only [putAll, Act.put, List.setIfInBounds_toArray, List.set_cons_zero, List.set_cons_succ]; rfl)) (hJ2_6_11 (v426, v429, v432, gb440) _ ⟨hHeld, (rr HO427.out), (rr HO430.out), (rr HO433.out), (bk BK421), (bk BK422), (bk BK423), (bk BK440), GW440.out, GE440.out, NB421_440.out, NB440_421.out, NB422_440.out, NB440_422.out, NB423_440.out, NB440_423.out, (bs4 HB GE421 GE422 GE423 GE440)⟩)
      ·
       skip
       rintro ⟨v426, v429, v435, gb440⟩ w19 ⟨hS_, h0_, h1_, h2_, h3_, h4_, h5_, h6_, h7_, h8_, h9_, h10_, h11_, h12_, h13_, h14_, h15_⟩
       have n0_ : Aside0 (Kd.R k53 53 w19 w.heap.size (fun k_ => some k_ ≠ (v429 : Value).ownBlock) v426 t425) := ⟨h0_⟩
       have n1_ : Aside0 (Kd.R k53 53 w19 w.heap.size (fun k_ => some k_ ≠ (v426 : Value).ownBlock) v429 t428) := ⟨h1_⟩
       have n2_ : Aside0 (Kd.R k71 71 w19 w.heap.size (fun k_ => k_ ≠ gb422) v435 y434) := ⟨h2_⟩
       have n3_ : Aside0 (w19.heap[gb421]? = some (.cells #[.int .i64 a0_0, .slice A0_1 l0_1.length c0_1, .slice A0_2 l0_2.length c0_2, .int .i64 a0_3, .slice A0_4 l0_4.length c0_4] 27 (0, 0))) := ⟨h3_⟩
       have n4_ : Aside0 (w19.heap[gb422]? = some (.cells #[.int .i64 a1_0, .int .i64 a1_1, .int .i64 a1_2, .int .i64 a1_3, .int .i64 a1_4] 71 (0, 0))) := ⟨h4_⟩
       have n5_ : Aside0 (w19.heap[gb423]? = some (.cells #[.int .i64 0, .slice none 0 0, .slice none 0 0, .int .i64 0, .slice none 0 0] 27 (0, 0))) := ⟨h5_⟩
       have n6_ : Aside0 (w19.heap[gb440]? = some (.cells #[.int .i64 0, .slice none 0 0, .slice none 0 0, .int .i64 0, .slice none 0 0] 27 (0, 0))) := ⟨h6_⟩
       have n7_ : Aside0 (w.heap.size ≤ gb440) := ⟨h7_⟩
       have n8_ : Aside0 (w.heap.size ≤ gb440) := ⟨h8_⟩
       have n9_ : Aside0 (gb421 ≠ gb440) := ⟨h9_⟩
       have n10_ : Aside0 (gb440 ≠ gb421) := ⟨h10_⟩
       have n11_ : Aside0 (gb422 ≠ gb440) := ⟨h11_⟩
       have n12_ : Aside0 (gb440 ≠ gb422) := ⟨h12_⟩
       have n13_ : Aside0 (gb423 ≠ gb440) := ⟨h13_⟩
       have n14_ : Aside0 (gb440 ≠ gb423) := ⟨h14_⟩
       have n15_ : Aside0 (Below w.heap.size w w19) := ⟨h15_⟩
       clear BK421 BK422 BK423 HB h0_ h1_ h2_ h3_ h4_ h5_ h6_ h7_ h8_ h9_ h10_ h11_ h12_ h13_ h14_ h15_
       have HO427 := n0_
       have HO430 := n1_
       have HO436 := n2_
       have BK421 := n3_
       have BK422 := n4_
       have BK423 := n5_
       have BK440 := n6_
       have GW440 := n7_
       have GE440 := n8_
       have NB421_440 := n9_
       have NB440_421 := n10_
       have NB422_440 := n11_
       have NB440_422 := n12_
       have NB423_440 := n13_
       have NB440_423 := n14_
       have HB := n15_
       clear n0_ n1_ n2_ n3_ n4_ n5_ n6_ n7_ n8_ n9_ n10_ n11_ n12_ n13_ n14_ n15_
       have hHeld : w19.cell? ⟨gb421, 0, none⟩ = some (.int .i64 a0_0) ∧ w19.cell? ⟨gb421, 1, none⟩ = some (.slice A0_1 l0_1.length c0_1) ∧ w19.cell? ⟨gb421, 2, none⟩ = some (.slice A0_2 l0_2.length c0_2) ∧ w19.cell? ⟨gb421, 3, none⟩ = some (.int .i64 a0_3) ∧ w19.cell? ⟨gb421, 4, none⟩ = some (.slice A0_4 l0_4.length c0_4) ∧ w19.cell? ⟨gb422, 0, none⟩ = some (.int .i64 a1_0) ∧ w19.cell? ⟨gb422, 1, none⟩ = some (.int .i64 a1_1) ∧ w19.cell? ⟨gb422, 2, none⟩ = some (.int .i64 a1_2) ∧ w19.cell? ⟨gb422, 3, none⟩ = some (.int .i64 a1_3) ∧ w19.cell? ⟨gb422, 4, none⟩ = some (.int .i64 a1_4) := hS_
       refine norm_ (a' := ?_) ?_ ?_
       rotate_left
       ·
        simp only [putAll, Act.put, List.setIfInBounds_toArray, List.set_cons_zero, List.set_cons_succ]
        rfl
       refine one_ (i := 6) (N := some 15) #[true, true, true, true, true, true, true, true, true, false, false, true, false] rfl rfl (one_of HT_.out (by kernel_rfl)) (by decide) (fun K hK => ?_)
       refine goes_ Try.func68 (by kernel_rfl) rfl #[.slice A0_4 l0_4.length c0_4] (by rfl) rfl rfl (by (try simp only [List.map_toArray, List.map_cons, List.map_nil]); first | done | rfl | (simp only [List.length_drop, List.length_take]; rfl)) ?_
       with_reducible refine (impl_Item_68.calls _ _ l0_4 t431 _ ?side1 ?side2 A5.out).mono ?_
       (case side1 => exact cb HR0_4 HB)
       (case side2 => exact HC0_4.out)
       rintro e w20 ⟨v432, rfl, ho0, hb⟩
       refine ⟨_, rfl, ?_⟩
       have n0_ := Ah (Kd.R_below (rr HO427.out) hb)
       have n1_ := Ah (Kd.R_below (rr HO430.out) hb)
       have n2_ := Ah (Kd.R_elder' (rr HO436.out) (Kd.R_base ho0) hb)
       have n3_ := Ah (Kd.R_lower (Kd.R_newB (Kd.R_new' ho0 (Kd.R_lt (rr HO436.out))) (g := gb422) (o := .cells #[.int .i64 a1_0, .int .i64 a1_1, .int .i64 a1_2, .int .i64 a1_3, .int .i64 a1_4] 71 (0, 0)) (bk BK422)) (below_size (bs4 HB GE421 GE422 GE423 GE440)))
       have n4_ := Ah (bb BK421 hb)
       have n5_ := Ah (bb BK422 hb)
       have n6_ := Ah (bb BK423 hb)
       have n7_ := Ah (bb BK440 hb)
       have n8_ := Ah (below_step (bs4 HB GE421 GE422 GE423 GE440) hb)
       clear HO427 HO430 HO436 BK421 BK422 BK423 BK440 HB
       have HO427 := n0_
       have HO430 := n1_
       have HO436 := n2_
       have HO433 := n3_
       have BK421 := n4_
       have BK422 := n5_
       have BK423 := n6_
       have BK440 := n7_
       have HB := n8_
       clear n0_ n1_ n2_ n3_ n4_ n5_ n6_ n7_ n8_
       (try clear hb)
       (try clear hb2)
       (try clear hk)
       (try clear hi)
       (try clear ho0)
       refine hK.out _ _ ⟨(blk_cell BK421.out 0).trans rfl, (blk_cell BK421.out 1).trans rfl, (blk_cell BK421.out 2).trans rfl, (blk_cell BK421.out 3).trans rfl, (blk_cell BK421.out 4).trans rfl, (blk_cell BK422.out 0).trans rfl, (blk_cell BK422.out 1).trans rfl, (blk_cell BK422.out 2).trans rfl, (blk_cell BK422.out 3).trans rfl, (blk_cell BK422.out 4).trans rfl⟩ (fun hHeld => ?_)
       clear hK K
       refine norm_ (a' := ?_) ?_ ?_
       rotate_left
       ·
        show Act.put _ (some 15) _ = _
        simp only [Act.put, List.setIfInBounds_toArray, List.set_cons_zero, List.set_cons_succ, i64_w, i32_w]
        rfl
       exact norm_ (by first | (simp only [putAll, Act.put, List.setIfInBounds_toArray, List.set_cons_zero, List.set_cons_succ]; done) | (simp only [putAll, Act.put, List.setIfInBounds_toArray, List.set_cons_zero, List.set_cons_succ]; rfl)) (hJ2_6_8_11 (v426, v429, v432, v435, gb440) _ ⟨hHeld, (rr HO427.out), (rr HO430.out), (by (with_reducible repeat (first | apply Kd.R_alloc | apply Kd.R_drewN | apply Kd.R_drew)); exact Kd.R_mono HO433.out (fun _ hk => ⟨hk.1.2, hk.2⟩)), (by (with_reducible repeat (first | apply Kd.R_alloc | apply Kd.R_drewN | apply Kd.R_drew)); exact Kd.R_mono HO436.out (fun _ hk => ⟨hk.2, hk.1⟩)), (bk BK421), (bk BK422), (bk BK423), (bk BK440), GW440.out, GE440.out, NB421_440.out, NB440_421.out, NB422_440.out, NB440_422.out, NB423_440.out, NB440_423.out, (bs4 HB GE421 GE422 GE423 GE440)⟩)
     ·
      skip
      rintro ⟨v426, v429, v432, gb440⟩ w18 ⟨hS_, h0_, h1_, h2_, h3_, h4_, h5_, h6_, h7_, h8_, h9_, h10_, h11_, h12_, h13_, h14_, h15_⟩
      have n0_ : Aside0 (Kd.R k53 53 w18 w.heap.size (fun k_ => some k_ ≠ (v429 : Value).ownBlock) v426 t425) := ⟨h0_⟩
      have n1_ : Aside0 (Kd.R k53 53 w18 w.heap.size (fun k_ => some k_ ≠ (v426 : Value).ownBlock) v429 t428) := ⟨h1_⟩
      have n2_ : Aside0 (Kd.R k71 71 w18 w.heap.size (fun k_ => k_ ≠ gb422) v432 t431) := ⟨h2_⟩
      have n3_ : Aside0 (w18.heap[gb421]? = some (.cells #[.int .i64 a0_0, .slice A0_1 l0_1.length c0_1, .slice A0_2 l0_2.length c0_2, .int .i64 a0_3, .slice A0_4 l0_4.length c0_4] 27 (0, 0))) := ⟨h3_⟩
      have n4_ : Aside0 (w18.heap[gb422]? = some (.cells #[.int .i64 a1_0, .int .i64 a1_1, .int .i64 a1_2, .int .i64 a1_3, .int .i64 a1_4] 71 (0, 0))) := ⟨h4_⟩
      have n5_ : Aside0 (w18.heap[gb423]? = some (.cells #[.int .i64 0, .slice none 0 0, .slice none 0 0, .int .i64 0, .slice none 0 0] 27 (0, 0))) := ⟨h5_⟩
      have n6_ : Aside0 (w18.heap[gb440]? = some (.cells #[.int .i64 0, .slice none 0 0, .slice none 0 0, .int .i64 0, .slice none 0 0] 27 (0, 0))) := ⟨h6_⟩
      have n7_ : Aside0 (w.heap.size ≤ gb440) := ⟨h7_⟩
      have n8_ : Aside0 (w.heap.size ≤ gb440) := ⟨h8_⟩
      have n9_ : Aside0 (gb421 ≠ gb440) := ⟨h9_⟩
      have n10_ : Aside0 (gb440 ≠ gb421) := ⟨h10_⟩
      have n11_ : Aside0 (gb422 ≠ gb440) := ⟨h11_⟩
      have n12_ : Aside0 (gb440 ≠ gb422) := ⟨h12_⟩
      have n13_ : Aside0 (gb423 ≠ gb440) := ⟨h13_⟩
      have n14_ : Aside0 (gb440 ≠ gb423) := ⟨h14_⟩
      have n15_ : Aside0 (Below w.heap.size w w18) := ⟨h15_⟩
      clear BK421 BK422 BK423 HB h0_ h1_ h2_ h3_ h4_ h5_ h6_ h7_ h8_ h9_ h10_ h11_ h12_ h13_ h14_ h15_
      have HO427 := n0_
      have HO430 := n1_
      have HO433 := n2_
      have BK421 := n3_
      have BK422 := n4_
      have BK423 := n5_
      have BK440 := n6_
      have GW440 := n7_
      have GE440 := n8_
      have NB421_440 := n9_
      have NB440_421 := n10_
      have NB422_440 := n11_
      have NB440_422 := n12_
      have NB423_440 := n13_
      have NB440_423 := n14_
      have HB := n15_
      clear n0_ n1_ n2_ n3_ n4_ n5_ n6_ n7_ n8_ n9_ n10_ n11_ n12_ n13_ n14_ n15_
      have hHeld : w18.cell? ⟨gb421, 0, none⟩ = some (.int .i64 a0_0) ∧ w18.cell? ⟨gb421, 1, none⟩ = some (.slice A0_1 l0_1.length c0_1) ∧ w18.cell? ⟨gb421, 2, none⟩ = some (.slice A0_2 l0_2.length c0_2) ∧ w18.cell? ⟨gb421, 3, none⟩ = some (.int .i64 a0_3) ∧ w18.cell? ⟨gb421, 4, none⟩ = some (.slice A0_4 l0_4.length c0_4) ∧ w18.cell? ⟨gb422, 0, none⟩ = some (.int .i64 a1_0) ∧ w18.cell? ⟨gb422, 1, none⟩ = some (.int .i64 a1_1) ∧ w18.cell? ⟨gb422, 2, none⟩ = some (.int .i64 a1_2) ∧ w18.cell? ⟨gb422, 3, none⟩ = some (.int .i64 a1_3) ∧ w18.cell? ⟨gb422, 4, none⟩ = some (.int .i64 a1_4) := hS_
      refine norm_ (a' := ?_) ?_ ?_
      rotate_left
      ·
       simp only [putAll, Act.put, List.setIfInBounds_toArray, List.set_cons_zero, List.set_cons_succ]
       rfl
      refine one_ (i := 8) (N := some 17) #[true, true, true, true, true, true, true, true, true, false, false, true, false] rfl rfl (one_of HT_.out (by kernel_rfl)) (by decide) (fun K hK => ?_)
      refine Kd.R_lit_step k71 _ 71 ?hg (N := 17) ?hd (xs := ([(⟨a1_0, a1_1, (⟨a1_2, a1_3⟩ : S53), a1_4⟩ : S71)] : List (S71))) (inner := [.int .i64 a1_0, .int .i64 a1_1, .int .i64 a1_2, .int .i64 a1_3, .int .i64 a1_4]) (ok := fun _ => True) (okp := fun _ => True) ?hr ?hp (fun _ hk => hk) trivial (Below.refl _ _) (Nat.le_refl _) (by simp) ?_; (case hd => rfl); (case hg => rfl); (case hr => first | (go_simp; done) | (go_simp; rfl)); (case hp => exact (Reps.c5 (show Kd.M k71 _ _ _ (⟨a1_0, a1_1, (⟨a1_2, a1_3⟩ : S53), a1_4⟩ : S71) [.int .i64 a1_0, .int .i64 a1_1, .int .i64 a1_2, .int .i64 a1_3, .int .i64 a1_4] from (k71_mkM _ _ _ (⟨a1_0, a1_1, (⟨a1_2, a1_3⟩ : S53), a1_4⟩ : S71) )) (Reps.none _ _)))
      intro v435 w19 ho20 hb hg_ hnew_
      clear hg_ hnew_
      (first | rw [← Ny434.out] at ho20 | (simp only [Int.reduceToNat] at ho20; rw [← Ny434.out] at ho20))
      have n0_ := Ah (Kd.R_below (rr HO427.out) hb)
      have n1_ := Ah (Kd.R_below (rr HO430.out) hb)
      have n2_ := Ah (Kd.R_elder' (rr HO433.out) (Kd.R_base ho20) hb)
      have n3_ := Ah (Kd.R_lower (Kd.R_newB (Kd.R_new' ho20 (Kd.R_lt (rr HO433.out))) (g := gb422) (o := .cells #[.int .i64 a1_0, .int .i64 a1_1, .int .i64 a1_2, .int .i64 a1_3, .int .i64 a1_4] 71 (0, 0)) (bk BK422)) (below_size (bs4 HB GE421 GE422 GE423 GE440)))
      have n4_ := Ah (bb BK421 hb)
      have n5_ := Ah (bb BK422 hb)
      have n6_ := Ah (bb BK423 hb)
      have n7_ := Ah (bb BK440 hb)
      have n8_ := Ah (below_step (bs4 HB GE421 GE422 GE423 GE440) hb)
      clear HO427 HO430 HO433 BK421 BK422 BK423 BK440 HB
      have HO427 := n0_
      have HO430 := n1_
      have HO433 := n2_
      have HO436 := n3_
      have BK421 := n4_
      have BK422 := n5_
      have BK423 := n6_
      have BK440 := n7_
      have HB := n8_
      clear n0_ n1_ n2_ n3_ n4_ n5_ n6_ n7_ n8_ hb ho20
      refine hK.out _ _ ⟨(blk_cell BK421.out 0).trans rfl, (blk_cell BK421.out 1).trans rfl, (blk_cell BK421.out 2).trans rfl, (blk_cell BK421.out 3).trans rfl, (blk_cell BK421.out 4).trans rfl, (blk_cell BK422.out 0).trans rfl, (blk_cell BK422.out 1).trans rfl, (blk_cell BK422.out 2).trans rfl, (blk_cell BK422.out 3).trans rfl, (blk_cell BK422.out 4).trans rfl⟩ (fun hHeld => ?_)
      clear hK K
      refine norm_ (a' := ?_) ?_ ?_
      rotate_left
      ·
       show Act.put _ (some 17) _ = _
       simp only [Act.put, List.setIfInBounds_toArray, List.set_cons_zero, List.set_cons_succ, i64_w, i32_w]
       rfl
      exact norm_ (by first | (simp only [putAll, Act.put, List.setIfInBounds_toArray, List.set_cons_zero, List.set_cons_succ]; done) | (simp only [putAll, Act.put, List.setIfInBounds_toArray, List.set_cons_zero, List.set_cons_succ]; rfl)) (hJ2_6_8_11 (v426, v429, v432, v435, gb440) _ ⟨hHeld, (rr HO427.out), (rr HO430.out), (by (with_reducible repeat (first | apply Kd.R_alloc | apply Kd.R_drewN | apply Kd.R_drew)); exact Kd.R_mono HO433.out (fun _ hk => ⟨hk.2, hk.1⟩)), (by (with_reducible repeat (first | apply Kd.R_alloc | apply Kd.R_drewN | apply Kd.R_drew)); exact Kd.R_mono HO436.out (fun _ hk => ⟨hk.1.2, hk.2⟩)), (bk BK421), (bk BK422), (bk BK423), (bk BK440), GW440.out, GE440.out, NB421_440.out, NB440_421.out, NB422_440.out, NB440_422.out, NB423_440.out, NB440_423.out, (bs4 HB GE421 GE422 GE423 GE440)⟩)
    ·
     skip
     rintro ⟨v426, v429, v432, v435⟩ w19 ⟨hS_, h0_, h1_, h2_, h3_, h4_, h5_, h6_, h7_⟩
     have n0_ : Aside0 (Kd.R k53 53 w19 w.heap.size (fun k_ => some k_ ≠ (v429 : Value).ownBlock) v426 t425) := ⟨h0_⟩
     have n1_ : Aside0 (Kd.R k53 53 w19 w.heap.size (fun k_ => some k_ ≠ (v426 : Value).ownBlock) v429 t428) := ⟨h1_⟩
     have n2_ : Aside0 (Kd.R k71 71 w19 w.heap.size (fun k_ => some k_ ≠ (v435 : Value).ownBlock ∧ k_ ≠ gb422) v432 t431) := ⟨h2_⟩
     have n3_ : Aside0 (Kd.R k71 71 w19 w.heap.size (fun k_ => some k_ ≠ (v432 : Value).ownBlock ∧ k_ ≠ gb422) v435 y434) := ⟨h3_⟩
     have n4_ : Aside0 (w19.heap[gb421]? = some (.cells #[.int .i64 a0_0, .slice A0_1 l0_1.length c0_1, .slice A0_2 l0_2.length c0_2, .int .i64 a0_3, .slice A0_4 l0_4.length c0_4] 27 (0, 0))) := ⟨h4_⟩
     have n5_ : Aside0 (w19.heap[gb422]? = some (.cells #[.int .i64 a1_0, .int .i64 a1_1, .int .i64 a1_2, .int .i64 a1_3, .int .i64 a1_4] 71 (0, 0))) := ⟨h5_⟩
     have n6_ : Aside0 (w19.heap[gb423]? = some (.cells #[.int .i64 0, .slice none 0 0, .slice none 0 0, .int .i64 0, .slice none 0 0] 27 (0, 0))) := ⟨h6_⟩
     have n7_ : Aside0 (Below w.heap.size w w19) := ⟨h7_⟩
     clear BK421 BK422 BK423 HB h0_ h1_ h2_ h3_ h4_ h5_ h6_ h7_
     have HO427 := n0_
     have HO430 := n1_
     have HO433 := n2_
     have HO436 := n3_
     have BK421 := n4_
     have BK422 := n5_
     have BK423 := n6_
     have HB := n7_
     clear n0_ n1_ n2_ n3_ n4_ n5_ n6_ n7_
     have hHeld : w19.cell? ⟨gb421, 0, none⟩ = some (.int .i64 a0_0) ∧ w19.cell? ⟨gb421, 1, none⟩ = some (.slice A0_1 l0_1.length c0_1) ∧ w19.cell? ⟨gb421, 2, none⟩ = some (.slice A0_2 l0_2.length c0_2) ∧ w19.cell? ⟨gb421, 3, none⟩ = some (.int .i64 a0_3) ∧ w19.cell? ⟨gb421, 4, none⟩ = some (.slice A0_4 l0_4.length c0_4) ∧ w19.cell? ⟨gb422, 0, none⟩ = some (.int .i64 a1_0) ∧ w19.cell? ⟨gb422, 1, none⟩ = some (.int .i64 a1_1) ∧ w19.cell? ⟨gb422, 2, none⟩ = some (.int .i64 a1_2) ∧ w19.cell? ⟨gb422, 3, none⟩ = some (.int .i64 a1_3) ∧ w19.cell? ⟨gb422, 4, none⟩ = some (.int .i64 a1_4) := hS_
     obtain ⟨Ao21, co21, eo21⟩ := Kd.R_slice HO436.out
     (first | subst eo21 | (injection eo21 with f1_ f2_ f3_; have f4_ := f1_.symm; have f5_ := f3_.symm; clear f1_ f2_ f3_; subst f4_; subst f5_))
     refine norm_ (a' := ?_) ?_ ?_
     rotate_left
     ·
      simp only [putAll, Act.put, List.setIfInBounds_toArray, List.set_cons_zero, List.set_cons_succ]
      rfl
     refine two_ (i := 9) (j := 11) (Ni := some 18) (Nj := some 8) #[true, true, true, true, true, true, true, true, true, true, false, false, false] #[true, true, true, true, true, true, true, true, true, false, false, true, false] rfl rfl rfl rfl (two_of HT_.out (by kernel_rfl)) (by decide) (by decide) (fun K hK => ?_) (fun K hK => ?_)
     ·
      skip
      refine Kd.R_append_rows_step k71 (w0 := w) w.heap.size (by rfl) (.tmp 15) (.tmp 17) 25 71 (.agg #[(.int .i64 0), (.int .i64 0), (.int .i64 0), (.int .i64 0), (.int .i64 0)]) 40 rfl Try.underlying25 info71 rfl (by decide) (by omega) v432 t431 y434 _ _ _ (fun k_ => some k_ ≠ (.slice Ao21 y434.length co21 : Value).ownBlock ∧ k_ ≠ gb422) (fun _ => False) rfl rfl ?aO ?aR (fun _ _ h => h) (fun _ h => h.elim) ?aF ?aB ?aS ?aL ?_
      (case aR => exact rc0 HO436)
      (case aB => exact (bs3 HB GE421 GE422 GE423))
      (case aF => exact (fun k_ hk => ⟨Kd.fresh' (Kd.R_lt (rr HO436.out)) k_ hk, Kd.freshB (bk BK422) k_ hk⟩))
      (case aO => exact (rr HO433.out))
      (case aS => exact (below_size (bs3 HB GE421 GE422 GE423)))
      (case aL => have := LMc6.out; omega)
      intro v438 w20 ho hb hg hat
      rw [← Ny437.out] at ho
      have n0_ := Ah (blk_grown (bk BK421) hg (Kd.R_ne HO433.out BK421.out (by decide)))
      have n1_ := Ah (blk_grown (bk BK422) hg (Kd.R_away HO433.out (fun _ hk => hk.2)))
      have n2_ := Ah (blk_grown (bk BK423) hg (Kd.R_ne HO433.out BK423.out (by decide)))
      have n3_ := Ah (Kd.R_over' (rr HO427.out) (Kd.R_typed (rr HO433.out)) (by decide) hg)
      have n4_ := Ah (Kd.R_over' (rr HO430.out) (Kd.R_typed (rr HO433.out)) (by decide) hg)
      have n5_ := Ah (Kd.R_after (ok := (fun k_ => k_ ≠ gb422)) (by (with_reducible repeat (first | apply Kd.R_alloc | apply Kd.R_drewN | apply Kd.R_drew)); exact Kd.R_mono HO436.out (fun _ hk => ⟨hk.2, hk.1⟩)) hg hat)
      have n6_ := Ah (hb)
      have n7_ := Ah (ho)
      clear BK421 BK422 BK423 HO427 HO430 HO436 HB HO433
      have BK421 := n0_
      have BK422 := n1_
      have BK423 := n2_
      have HO427 := n3_
      have HO430 := n4_
      have HO436 := n5_
      have HB := n6_
      have HO439 := n7_
      clear n0_ n1_ n2_ n3_ n4_ n5_ n6_ n7_ ho hb hg hat
      obtain ⟨Ao22, co22, eo22⟩ := Kd.R_slice HO439.out
      (first | subst eo22 | (injection eo22 with f1_ f2_ f3_; have f4_ := f1_.symm; have f5_ := f3_.symm; clear f1_ f2_ f3_; subst f4_; subst f5_))
      obtain ⟨Ao23, co23, eo23⟩ := Kd.R_slice HO430.out
      (first | subst eo23 | (injection eo23 with f1_ f2_ f3_; have f4_ := f1_.symm; have f5_ := f3_.symm; clear f1_ f2_ f3_; subst f4_; subst f5_))
      obtain ⟨Ao24, co24, eo24⟩ := Kd.R_slice HO427.out
      (first | subst eo24 | (injection eo24 with f1_ f2_ f3_; have f4_ := f1_.symm; have f5_ := f3_.symm; clear f1_ f2_ f3_; subst f4_; subst f5_))
      refine hK.out _ _ ⟨(blk_cell BK421.out 0).trans rfl, (blk_cell BK421.out 1).trans rfl, (blk_cell BK421.out 2).trans rfl, (blk_cell BK421.out 3).trans rfl, (blk_cell BK421.out 4).trans rfl, (blk_cell BK422.out 0).trans rfl, (blk_cell BK422.out 1).trans rfl, (blk_cell BK422.out 2).trans rfl, (blk_cell BK422.out 3).trans rfl, (blk_cell BK422.out 4).trans rfl⟩ (fun hHeld => ?_)
      clear hK K
      refine norm_ (a' := ?_) ?_ ?_
      rotate_left
      ·
       show Act.put _ (some 18) _ = _
       simp only [Act.put, List.setIfInBounds_toArray, List.set_cons_zero, List.set_cons_succ, i64_w, i32_w]
       rfl
      refine pureS 10 19 HT_.out ?_
      exact norm_ (by first | (simp only [putAll, Act.put, List.setIfInBounds_toArray, List.set_cons_zero, List.set_cons_succ]; done) | (simp only [putAll, Act.put, List.setIfInBounds_toArray, List.set_cons_zero, List.set_cons_succ]; rfl)) (hJ2_6_8_9 (.slice Ao24 t425.length co24, .slice Ao23 t428.length co23, v432, .slice Ao21 y434.length co21, .slice Ao22 y437.length co22) _ ⟨hHeld, (rr HO427.out), (rr HO430.out), (by (with_reducible repeat (first | apply Kd.R_alloc | apply Kd.R_drewN | apply Kd.R_drew)); exact Kd.R_mono HO436.out (fun _ hk => ⟨hk.2, hk.1⟩)), (rr HO439.out), (bk BK421), (bk BK422), (bk BK423), (bs3 HB GE421 GE422 GE423)⟩)
     ·
      skip
      refine box_step ?hg (N := 8) ?hd (cs := #[.int .i64 0, .slice none 0 0, .slice none 0 0, .int .i64 0, .slice none 0 0]) (t := 27) ?hr ?_; (case hd => rfl); (case hg => rfl); (case hr => first | (go_simp; done) | (go_simp; rfl))
      intro gb440 hg w20 hbox hb
      have n0_ := Ah (Kd.R_below (rr HO427.out) hb)
      have n1_ := Ah (Kd.R_below (rr HO430.out) hb)
      have n2_ := Ah (Kd.R_below (rr HO433.out) hb)
      have n3_ := Ah (Kd.R_below (rr HO436.out) hb)
      have n4_ := Ah (bb BK421 hb)
      have n5_ := Ah (bb BK422 hb)
      have n6_ := Ah (bb BK423 hb)
      have n7_ := Ah (below_step (bs3 HB GE421 GE422 GE423) hb)
      have n8_ := Ah (hbox)
      have n9_ := gw hg (bs3 HB GE421 GE422 GE423)
      have n10_ := gw hg (bs3 HB GE421 GE422 GE423)
      have n11_ := nn BK421 hg
      have n12_ := nm BK421 hg
      have n13_ := nn BK422 hg
      have n14_ := nm BK422 hg
      have n15_ := nn BK423 hg
      have n16_ := nm BK423 hg
      clear HO427 HO430 HO433 HO436 BK421 BK422 BK423 HB
      have HO427 := n0_
      have HO430 := n1_
      have HO433 := n2_
      have HO436 := n3_
      have BK421 := n4_
      have BK422 := n5_
      have BK423 := n6_
      have HB := n7_
      have BK440 := n8_
      have GW440 := n9_
      have GE440 := n10_
      have NB421_440 := n11_
      have NB440_421 := n12_
      have NB422_440 := n13_
      have NB440_422 := n14_
      have NB423_440 := n15_
      have NB440_423 := n16_
      clear n0_ n1_ n2_ n3_ n4_ n5_ n6_ n7_ n8_ n9_ n10_ n11_ n12_ n13_ n14_ n15_ n16_ hb hbox hg
      refine hK.out _ _ ⟨(blk_cell BK421.out 0).trans rfl, (blk_cell BK421.out 1).trans rfl, (blk_cell BK421.out 2).trans rfl, (blk_cell BK421.out 3).trans rfl, (blk_cell BK421.out 4).trans rfl, (blk_cell BK422.out 0).trans rfl, (blk_cell BK422.out 1).trans rfl, (blk_cell BK422.out 2).trans rfl, (blk_cell BK422.out 3).trans rfl, (blk_cell BK422.out 4).trans rfl⟩ (fun hHeld => ?_)
      clear hK K
      refine norm_ (a' := ?_) ?_ ?_
      rotate_left
      ·
       show Act.put _ (some 8) _ = _
       simp only [Act.put, List.setIfInBounds_toArray, List.set_cons_zero, List.set_cons_succ, i64_w, i32_w]
       rfl
      exact norm_ (by first | (simp only [putAll, Act.put, List.setIfInBounds_toArray, List.set_cons_zero, List.set_cons_succ]; done) | (simp only [putAll, Act.put, List.setIfInBounds_toArray, List.set_cons_zero, List.set_cons_succ]; rfl)) (hJ2_6_8_11 (v426, v429, v432, (.slice Ao21 y434.length co21), gb440) _ ⟨hHeld, (rr HO427.out), (rr HO430.out), (rr HO433.out), (rr HO436.out), (bk BK421), (bk BK422), (bk BK423), (bk BK440), GW440.out, GE440.out, NB421_440.out, NB440_421.out, NB422_440.out, NB440_422.out, NB423_440.out, NB440_423.out, (bs4 HB GE421 GE422 GE423 GE440)⟩)
   ·
    skip
    rintro ⟨v426, v429, v432, v435, gb440⟩ w20 ⟨hS_, h0_, h1_, h2_, h3_, h4_, h5_, h6_, h7_, h8_, h9_, h10_, h11_, h12_, h13_, h14_, h15_, h16_⟩
    have n0_ : Aside0 (Kd.R k53 53 w20 w.heap.size (fun k_ => some k_ ≠ (v429 : Value).ownBlock) v426 t425) := ⟨h0_⟩
    have n1_ : Aside0 (Kd.R k53 53 w20 w.heap.size (fun k_ => some k_ ≠ (v426 : Value).ownBlock) v429 t428) := ⟨h1_⟩
    have n2_ : Aside0 (Kd.R k71 71 w20 w.heap.size (fun k_ => some k_ ≠ (v435 : Value).ownBlock ∧ k_ ≠ gb422) v432 t431) := ⟨h2_⟩
    have n3_ : Aside0 (Kd.R k71 71 w20 w.heap.size (fun k_ => some k_ ≠ (v432 : Value).ownBlock ∧ k_ ≠ gb422) v435 y434) := ⟨h3_⟩
    have n4_ : Aside0 (w20.heap[gb421]? = some (.cells #[.int .i64 a0_0, .slice A0_1 l0_1.length c0_1, .slice A0_2 l0_2.length c0_2, .int .i64 a0_3, .slice A0_4 l0_4.length c0_4] 27 (0, 0))) := ⟨h4_⟩
    have n5_ : Aside0 (w20.heap[gb422]? = some (.cells #[.int .i64 a1_0, .int .i64 a1_1, .int .i64 a1_2, .int .i64 a1_3, .int .i64 a1_4] 71 (0, 0))) := ⟨h5_⟩
    have n6_ : Aside0 (w20.heap[gb423]? = some (.cells #[.int .i64 0, .slice none 0 0, .slice none 0 0, .int .i64 0, .slice none 0 0] 27 (0, 0))) := ⟨h6_⟩
    have n7_ : Aside0 (w20.heap[gb440]? = some (.cells #[.int .i64 0, .slice none 0 0, .slice none 0 0, .int .i64 0, .slice none 0 0] 27 (0, 0))) := ⟨h7_⟩
    have n8_ : Aside0 (w.heap.size ≤ gb440) := ⟨h8_⟩
    have n9_ : Aside0 (w.heap.size ≤ gb440) := ⟨h9_⟩
    have n10_ : Aside0 (gb421 ≠ gb440) := ⟨h10_⟩
    have n11_ : Aside0 (gb440 ≠ gb421) := ⟨h11_⟩
    have n12_ : Aside0 (gb422 ≠ gb440) := ⟨h12_⟩
    have n13_ : Aside0 (gb440 ≠ gb422) := ⟨h13_⟩
    have n14_ : Aside0 (gb423 ≠ gb440) := ⟨h14_⟩
    have n15_ : Aside0 (gb440 ≠ gb423) := ⟨h15_⟩
    have n16_ : Aside0 (Below w.heap.size w w20) := ⟨h16_⟩
    clear BK421 BK422 BK423 HB h0_ h1_ h2_ h3_ h4_ h5_ h6_ h7_ h8_ h9_ h10_ h11_ h12_ h13_ h14_ h15_ h16_
    have HO427 := n0_
    have HO430 := n1_
    have HO433 := n2_
    have HO436 := n3_
    have BK421 := n4_
    have BK422 := n5_
    have BK423 := n6_
    have BK440 := n7_
    have GW440 := n8_
    have GE440 := n9_
    have NB421_440 := n10_
    have NB440_421 := n11_
    have NB422_440 := n12_
    have NB440_422 := n13_
    have NB423_440 := n14_
    have NB440_423 := n15_
    have HB := n16_
    clear n0_ n1_ n2_ n3_ n4_ n5_ n6_ n7_ n8_ n9_ n10_ n11_ n12_ n13_ n14_ n15_ n16_
    have hHeld : w20.cell? ⟨gb421, 0, none⟩ = some (.int .i64 a0_0) ∧ w20.cell? ⟨gb421, 1, none⟩ = some (.slice A0_1 l0_1.length c0_1) ∧ w20.cell? ⟨gb421, 2, none⟩ = some (.slice A0_2 l0_2.length c0_2) ∧ w20.cell? ⟨gb421, 3, none⟩ = some (.int .i64 a0_3) ∧ w20.cell? ⟨gb421, 4, none⟩ = some (.slice A0_4 l0_4.length c0_4) ∧ w20.cell? ⟨gb422, 0, none⟩ = some (.int .i64 a1_0) ∧ w20.cell? ⟨gb422, 1, none⟩ = some (.int .i64 a1_1) ∧ w20.cell? ⟨gb422, 2, none⟩ = some (.int .i64 a1_2) ∧ w20.cell? ⟨gb422, 3, none⟩ = some (.int .i64 a1_3) ∧ w20.cell? ⟨gb422, 4, none⟩ = some (.int .i64 a1_4) := hS_
    obtain ⟨Ao22, co22, eo22⟩ := Kd.R_slice HO436.out
    (first | subst eo22 | (injection eo22 with f1_ f2_ f3_; have f4_ := f1_.symm; have f5_ := f3_.symm; clear f1_ f2_ f3_; subst f4_; subst f5_))
    refine norm_ (a' := ?_) ?_ ?_
    rotate_left
    ·
     simp only [putAll, Act.put, List.setIfInBounds_toArray, List.set_cons_zero, List.set_cons_succ]
     rfl
    refine one_ (i := 9) (N := some 18) #[true, true, true, true, true, true, true, true, true, true, false, true, false] rfl rfl (one_of HT_.out (by kernel_rfl)) (by decide) (fun K hK => ?_)
    refine Kd.R_append_rows_step k71 (w0 := w) w.heap.size (by rfl) (.tmp 15) (.tmp 17) 25 71 (.agg #[(.int .i64 0), (.int .i64 0), (.int .i64 0), (.int .i64 0), (.int .i64 0)]) 40 rfl Try.underlying25 info71 rfl (by decide) (by omega) v432 t431 y434 _ _ _ (fun k_ => some k_ ≠ (.slice Ao22 y434.length co22 : Value).ownBlock ∧ k_ ≠ gb422) (fun _ => False) rfl rfl ?aO ?aR (fun _ _ h => h) (fun _ h => h.elim) ?aF ?aB ?aS ?aL ?_
    (case aR => exact rc0 HO436)
    (case aB => exact (bs4 HB GE421 GE422 GE423 GE440))
    (case aF => exact (fun k_ hk => ⟨Kd.fresh' (Kd.R_lt (rr HO436.out)) k_ hk, Kd.freshB (bk BK422) k_ hk⟩))
    (case aO => exact (rr HO433.out))
    (case aS => exact (below_size (bs4 HB GE421 GE422 GE423 GE440)))
    (case aL => have := LMc6.out; omega)
    intro v438 w21 ho hb hg hat
    rw [← Ny437.out] at ho
    have n0_ := Ah (blk_grown (bk BK421) hg (Kd.R_ne HO433.out BK421.out (by decide)))
    have n1_ := Ah (blk_grown (bk BK422) hg (Kd.R_away HO433.out (fun _ hk => hk.2)))
    have n2_ := Ah (blk_grown (bk BK423) hg (Kd.R_ne HO433.out BK423.out (by decide)))
    have n3_ := Ah (Kd.R_over' (rr HO427.out) (Kd.R_typed (rr HO433.out)) (by decide) hg)
    have n4_ := Ah (Kd.R_over' (rr HO430.out) (Kd.R_typed (rr HO433.out)) (by decide) hg)
    have n5_ := Ah (Kd.R_after (ok := (fun k_ => k_ ≠ gb422)) (by (with_reducible repeat (first | apply Kd.R_alloc | apply Kd.R_drewN | apply Kd.R_drew)); exact Kd.R_mono HO436.out (fun _ hk => ⟨hk.2, hk.1⟩)) hg hat)
    have n6_ := Ah (blk_grown (bk BK440) hg (Kd.R_ne HO433.out BK440.out (by decide)))
    have n7_ := Ah (hb)
    have n8_ := Ah (ho)
    clear BK421 BK422 BK423 HO427 HO430 HO436 BK440 HB HO433
    have BK421 := n0_
    have BK422 := n1_
    have BK423 := n2_
    have HO427 := n3_
    have HO430 := n4_
    have HO436 := n5_
    have BK440 := n6_
    have HB := n7_
    have HO439 := n8_
    clear n0_ n1_ n2_ n3_ n4_ n5_ n6_ n7_ n8_ ho hb hg hat
    obtain ⟨Ao23, co23, eo23⟩ := Kd.R_slice HO439.out
    (first | subst eo23 | (injection eo23 with f1_ f2_ f3_; have f4_ := f1_.symm; have f5_ := f3_.symm; clear f1_ f2_ f3_; subst f4_; subst f5_))
    obtain ⟨Ao24, co24, eo24⟩ := Kd.R_slice HO430.out
    (first | subst eo24 | (injection eo24 with f1_ f2_ f3_; have f4_ := f1_.symm; have f5_ := f3_.symm; clear f1_ f2_ f3_; subst f4_; subst f5_))
    obtain ⟨Ao25, co25, eo25⟩ := Kd.R_slice HO427.out
    (first | subst eo25 | (injection eo25 with f1_ f2_ f3_; have f4_ := f1_.symm; have f5_ := f3_.symm; clear f1_ f2_ f3_; subst f4_; subst f5_))
    refine hK.out _ _ ⟨(blk_cell BK421.out 0).trans rfl, (blk_cell BK421.out 1).trans rfl, (blk_cell BK421.out 2).trans rfl, (blk_cell BK421.out 3).trans rfl, (blk_cell BK421.out 4).trans rfl, (blk_cell BK422.out 0).trans rfl, (blk_cell BK422.out 1).trans rfl, (blk_cell BK422.out 2).trans rfl, (blk_cell BK422.out 3).trans rfl, (blk_cell BK422.out 4).trans rfl⟩ (fun hHeld => ?_)
    clear hK K
    refine norm_ (a' := ?_) ?_ ?_
    rotate_left
    ·
     show Act.put _ (some 18) _ = _
     simp only [Act.put, List.setIfInBounds_toArray, List.set_cons_zero, List.set_cons_succ, i64_w, i32_w]
     rfl
    refine pureS 10 19 HT_.out ?_
    exact norm_ (by first | (simp only [putAll, Act.put, List.setIfInBounds_toArray, List.set_cons_zero, List.set_cons_succ]; done) | (simp only [putAll, Act.put, List.setIfInBounds_toArray, List.set_cons_zero, List.set_cons_succ]; rfl)) (hJ2_6_8_9_11 (.slice Ao25 t425.length co25, .slice Ao24 t428.length co24, v432, .slice Ao22 y434.length co22, .slice Ao23 y437.length co23, gb440) _ ⟨hHeld, (rr HO427.out), (rr HO430.out), (by (with_reducible repeat (first | apply Kd.R_alloc | apply Kd.R_drewN | apply Kd.R_drew)); exact Kd.R_mono HO436.out (fun _ hk => ⟨hk.2, hk.1⟩)), (rr HO439.out), (bk BK421), (bk BK422), (bk BK423), (bk BK440), GW440.out, GE440.out, NB421_440.out, NB440_421.out, NB422_440.out, NB440_422.out, NB423_440.out, NB440_423.out, (bs4 HB GE421 GE422 GE423 GE440)⟩)
  ·
   skip
   rintro ⟨v426, v429, v432, v435, v438⟩ w24 ⟨hS_, h0_, h1_, h2_, h3_, h4_, h5_, h6_, h7_⟩
   have n0_ : Aside0 (Kd.R k53 53 w24 w.heap.size (fun k_ => some k_ ≠ (v429 : Value).ownBlock) v426 t425) := ⟨h0_⟩
   have n1_ : Aside0 (Kd.R k53 53 w24 w.heap.size (fun k_ => some k_ ≠ (v426 : Value).ownBlock) v429 t428) := ⟨h1_⟩
   have n2_ : Aside0 (Kd.R k71 71 w24 w.heap.size (fun k_ => some k_ ≠ (v438 : Value).ownBlock ∧ k_ ≠ gb422) v435 y434) := ⟨h2_⟩
   have n3_ : Aside0 (Kd.R k71 71 w24 w.heap.size (fun k_ => some k_ ≠ (v435 : Value).ownBlock ∧ k_ ≠ gb422) v438 y437) := ⟨h3_⟩
   have n4_ : Aside0 (w24.heap[gb421]? = some (.cells #[.int .i64 a0_0, .slice A0_1 l0_1.length c0_1, .slice A0_2 l0_2.length c0_2, .int .i64 a0_3, .slice A0_4 l0_4.length c0_4] 27 (0, 0))) := ⟨h4_⟩
   have n5_ : Aside0 (w24.heap[gb422]? = some (.cells #[.int .i64 a1_0, .int .i64 a1_1, .int .i64 a1_2, .int .i64 a1_3, .int .i64 a1_4] 71 (0, 0))) := ⟨h5_⟩
   have n6_ : Aside0 (w24.heap[gb423]? = some (.cells #[.int .i64 0, .slice none 0 0, .slice none 0 0, .int .i64 0, .slice none 0 0] 27 (0, 0))) := ⟨h6_⟩
   have n7_ : Aside0 (Below w.heap.size w w24) := ⟨h7_⟩
   clear BK421 BK422 BK423 HB h0_ h1_ h2_ h3_ h4_ h5_ h6_ h7_
   have HO427 := n0_
   have HO430 := n1_
   have HO436 := n2_
   have HO439 := n3_
   have BK421 := n4_
   have BK422 := n5_
   have BK423 := n6_
   have HB := n7_
   clear n0_ n1_ n2_ n3_ n4_ n5_ n6_ n7_
   have hHeld : w24.cell? ⟨gb421, 0, none⟩ = some (.int .i64 a0_0) ∧ w24.cell? ⟨gb421, 1, none⟩ = some (.slice A0_1 l0_1.length c0_1) ∧ w24.cell? ⟨gb421, 2, none⟩ = some (.slice A0_2 l0_2.length c0_2) ∧ w24.cell? ⟨gb421, 3, none⟩ = some (.int .i64 a0_3) ∧ w24.cell? ⟨gb421, 4, none⟩ = some (.slice A0_4 l0_4.length c0_4) ∧ w24.cell? ⟨gb422, 0, none⟩ = some (.int .i64 a1_0) ∧ w24.cell? ⟨gb422, 1, none⟩ = some (.int .i64 a1_1) ∧ w24.cell? ⟨gb422, 2, none⟩ = some (.int .i64 a1_2) ∧ w24.cell? ⟨gb422, 3, none⟩ = some (.int .i64 a1_3) ∧ w24.cell? ⟨gb422, 4, none⟩ = some (.int .i64 a1_4) := hS_
   obtain ⟨Ao25, co25, eo25⟩ := Kd.R_slice HO439.out
   (first | subst eo25 | (injection eo25 with f1_ f2_ f3_; have f4_ := f1_.symm; have f5_ := f3_.symm; clear f1_ f2_ f3_; subst f4_; subst f5_))
   obtain ⟨Ao26, co26, eo26⟩ := Kd.R_slice HO430.out
   (first | subst eo26 | (injection eo26 with f1_ f2_ f3_; have f4_ := f1_.symm; have f5_ := f3_.symm; clear f1_ f2_ f3_; subst f4_; subst f5_))
   obtain ⟨Ao27, co27, eo27⟩ := Kd.R_slice HO427.out
   (first | subst eo27 | (injection eo27 with f1_ f2_ f3_; have f4_ := f1_.symm; have f5_ := f3_.symm; clear f1_ f2_ f3_; subst f4_; subst f5_))
   refine norm_ (a' := ?_) ?_ ?_
   rotate_left
   ·
    simp only [putAll, Act.put, List.setIfInBounds_toArray, List.set_cons_zero, List.set_cons_succ]
    rfl
   refine one_ (i := 11) (N := some 8) #[true, true, true, true, true, true, true, true, true, true, true, true, false] rfl rfl (one_of HT_.out (by kernel_rfl)) (by decide) (fun K hK => ?_)
   refine box_step ?hg (N := 8) ?hd (cs := #[.int .i64 0, .slice none 0 0, .slice none 0 0, .int .i64 0, .slice none 0 0]) (t := 27) ?hr ?_; (case hd => rfl); (case hg => rfl); (case hr => first | (go_simp; done) | (go_simp; rfl))
   intro gb440 hg w28 hbox hb
   have n0_ := Ah (Kd.R_below (rr HO427.out) hb)
   have n1_ := Ah (Kd.R_below (rr HO430.out) hb)
   have n2_ := Ah (Kd.R_below (rr HO436.out) hb)
   have n3_ := Ah (Kd.R_below (rr HO439.out) hb)
   have n4_ := Ah (bb BK421 hb)
   have n5_ := Ah (bb BK422 hb)
   have n6_ := Ah (bb BK423 hb)
   have n7_ := Ah (below_step (bs3 HB GE421 GE422 GE423) hb)
   have n8_ := Ah (hbox)
   have n9_ := gw hg (bs3 HB GE421 GE422 GE423)
   have n10_ := gw hg (bs3 HB GE421 GE422 GE423)
   have n11_ := nn BK421 hg
   have n12_ := nm BK421 hg
   have n13_ := nn BK422 hg
   have n14_ := nm BK422 hg
   have n15_ := nn BK423 hg
   have n16_ := nm BK423 hg
   clear HO427 HO430 HO436 HO439 BK421 BK422 BK423 HB
   have HO427 := n0_
   have HO430 := n1_
   have HO436 := n2_
   have HO439 := n3_
   have BK421 := n4_
   have BK422 := n5_
   have BK423 := n6_
   have HB := n7_
   have BK440 := n8_
   have GW440 := n9_
   have GE440 := n10_
   have NB421_440 := n11_
   have NB440_421 := n12_
   have NB422_440 := n13_
   have NB440_422 := n14_
   have NB423_440 := n15_
   have NB440_423 := n16_
   clear n0_ n1_ n2_ n3_ n4_ n5_ n6_ n7_ n8_ n9_ n10_ n11_ n12_ n13_ n14_ n15_ n16_ hb hbox hg
   refine hK.out _ _ ⟨(blk_cell BK421.out 0).trans rfl, (blk_cell BK421.out 1).trans rfl, (blk_cell BK421.out 2).trans rfl, (blk_cell BK421.out 3).trans rfl, (blk_cell BK421.out 4).trans rfl, (blk_cell BK422.out 0).trans rfl, (blk_cell BK422.out 1).trans rfl, (blk_cell BK422.out 2).trans rfl, (blk_cell BK422.out 3).trans rfl, (blk_cell BK422.out 4).trans rfl⟩ (fun hHeld => ?_)
   clear hK K
   refine norm_ (a' := ?_) ?_ ?_
   rotate_left
   ·
    show Act.put _ (some 8) _ = _
    simp only [Act.put, List.setIfInBounds_toArray, List.set_cons_zero, List.set_cons_succ, i64_w, i32_w]
    rfl
   exact norm_ (by first | (simp only [putAll, Act.put, List.setIfInBounds_toArray, List.set_cons_zero, List.set_cons_succ]; done) | (simp only [putAll, Act.put, List.setIfInBounds_toArray, List.set_cons_zero, List.set_cons_succ]; rfl)) (hJ2_6_8_9_11 (.slice Ao27 t425.length co27, .slice Ao26 t428.length co26, v432, v435, .slice Ao25 y437.length co25, gb440) _ ⟨hHeld, (rr HO427.out), (rr HO430.out), (rr HO436.out), (rr HO439.out), (bk BK421), (bk BK422), (bk BK423), (bk BK440), GW440.out, GE440.out, NB421_440.out, NB440_421.out, NB422_440.out, NB440_422.out, NB423_440.out, NB440_423.out, (bs4 HB GE421 GE422 GE423 GE440)⟩)
 rintro ⟨v426, v429, v432, v435, v438, gb440⟩ w25 ⟨hS_, h0_, h1_, h2_, h3_, h4_, h5_, h6_, h7_, h8_, h9_, h10_, h11_, h12_, h13_, h14_, h15_, h16_⟩
 have n0_ : Aside0 (Kd.R k53 53 w25 w.heap.size (fun k_ => some k_ ≠ (v429 : Value).ownBlock) v426 t425) := ⟨h0_⟩
 have n1_ : Aside0 (Kd.R k53 53 w25 w.heap.size (fun k_ => some k_ ≠ (v426 : Value).ownBlock) v429 t428) := ⟨h1_⟩
 have n2_ : Aside0 (Kd.R k71 71 w25 w.heap.size (fun k_ => some k_ ≠ (v438 : Value).ownBlock ∧ k_ ≠ gb422) v435 y434) := ⟨h2_⟩
 have n3_ : Aside0 (Kd.R k71 71 w25 w.heap.size (fun k_ => some k_ ≠ (v435 : Value).ownBlock ∧ k_ ≠ gb422) v438 y437) := ⟨h3_⟩
 have n4_ : Aside0 (w25.heap[gb421]? = some (.cells #[.int .i64 a0_0, .slice A0_1 l0_1.length c0_1, .slice A0_2 l0_2.length c0_2, .int .i64 a0_3, .slice A0_4 l0_4.length c0_4] 27 (0, 0))) := ⟨h4_⟩
 have n5_ : Aside0 (w25.heap[gb422]? = some (.cells #[.int .i64 a1_0, .int .i64 a1_1, .int .i64 a1_2, .int .i64 a1_3, .int .i64 a1_4] 71 (0, 0))) := ⟨h5_⟩
 have n6_ : Aside0 (w25.heap[gb423]? = some (.cells #[.int .i64 0, .slice none 0 0, .slice none 0 0, .int .i64 0, .slice none 0 0] 27 (0, 0))) := ⟨h6_⟩
 have n7_ : Aside0 (w25.heap[gb440]? = some (.cells #[.int .i64 0, .slice none 0 0, .slice none 0 0, .int .i64 0, .slice none 0 0] 27 (0, 0))) := ⟨h7_⟩
 have n8_ : Aside0 (w.heap.size ≤ gb440) := ⟨h8_⟩
 have n9_ : Aside0 (w.heap.size ≤ gb440) := ⟨h9_⟩
 have n10_ : Aside0 (gb421 ≠ gb440) := ⟨h10_⟩
 have n11_ : Aside0 (gb440 ≠ gb421) := ⟨h11_⟩
 have n12_ : Aside0 (gb422 ≠ gb440) := ⟨h12_⟩
 have n13_ : Aside0 (gb440 ≠ gb422) := ⟨h13_⟩
 have n14_ : Aside0 (gb423 ≠ gb440) := ⟨h14_⟩
 have n15_ : Aside0 (gb440 ≠ gb423) := ⟨h15_⟩
 have n16_ : Aside0 (Below w.heap.size w w25) := ⟨h16_⟩
 clear BK421 BK422 BK423 HB h0_ h1_ h2_ h3_ h4_ h5_ h6_ h7_ h8_ h9_ h10_ h11_ h12_ h13_ h14_ h15_ h16_
 have HO427 := n0_
 have HO430 := n1_
 have HO436 := n2_
 have HO439 := n3_
 have BK421 := n4_
 have BK422 := n5_
 have BK423 := n6_
 have BK440 := n7_
 have GW440 := n8_
 have GE440 := n9_
 have NB421_440 := n10_
 have NB440_421 := n11_
 have NB422_440 := n12_
 have NB440_422 := n13_
 have NB423_440 := n14_
 have NB440_423 := n15_
 have HB := n16_
 clear n0_ n1_ n2_ n3_ n4_ n5_ n6_ n7_ n8_ n9_ n10_ n11_ n12_ n13_ n14_ n15_ n16_
 have hHeld : w25.cell? ⟨gb421, 0, none⟩ = some (.int .i64 a0_0) ∧ w25.cell? ⟨gb421, 1, none⟩ = some (.slice A0_1 l0_1.length c0_1) ∧ w25.cell? ⟨gb421, 2, none⟩ = some (.slice A0_2 l0_2.length c0_2) ∧ w25.cell? ⟨gb421, 3, none⟩ = some (.int .i64 a0_3) ∧ w25.cell? ⟨gb421, 4, none⟩ = some (.slice A0_4 l0_4.length c0_4) ∧ w25.cell? ⟨gb422, 0, none⟩ = some (.int .i64 a1_0) ∧ w25.cell? ⟨gb422, 1, none⟩ = some (.int .i64 a1_1) ∧ w25.cell? ⟨gb422, 2, none⟩ = some (.int .i64 a1_2) ∧ w25.cell? ⟨gb422, 3, none⟩ = some (.int .i64 a1_3) ∧ w25.cell? ⟨gb422, 4, none⟩ = some (.int .i64 a1_4) := hS_
 obtain ⟨Ao26, co26, eo26⟩ := Kd.R_slice HO439.out
 (first | subst eo26 | (injection eo26 with f1_ f2_ f3_; have f4_ := f1_.symm; have f5_ := f3_.symm; clear f1_ f2_ f3_; subst f4_; subst f5_))
 obtain ⟨Ao27, co27, eo27⟩ := Kd.R_slice HO430.out
 (first | subst eo27 | (injection eo27 with f1_ f2_ f3_; have f4_ := f1_.symm; have f5_ := f3_.symm; clear f1_ f2_ f3_; subst f4_; subst f5_))
 obtain ⟨Ao28, co28, eo28⟩ := Kd.R_slice HO427.out
 (first | subst eo28 | (injection eo28 with f1_ f2_ f3_; have f4_ := f1_.symm; have f5_ := f3_.symm; clear f1_ f2_ f3_; subst f4_; subst f5_))
 refine norm_ (a' := ?_) ?_ ?_
 rotate_left
 ·
  simp only [putAll, Act.put, List.setIfInBounds_toArray, List.set_cons_zero, List.set_cons_succ]
  rfl
 refine one_ (i := 12) (N := none) #[true, true, true, true, true, true, true, true, true, true, true, true, true] rfl rfl (one_of HT_.out (by kernel_rfl)) (by decide) (fun K hK => ?_)
 have hs29 : w25.cell? ⟨gb440, 0, none⟩ = some (.int .i64 0) := (blk_cell BK440.out 0).trans rfl
 have hfs29 := blk_frozen BK440.out 0
 have hns29_0 := NB421_440.out
 have hns29_1 := NB422_440.out
 have hns29_2 := NB423_440.out
 have hms29_0 := NB440_421.out
 have hms29_1 := NB440_422.out
 have hms29_2 := NB440_423.out
 have hs30 : w25.cell? ⟨gb440, 1, none⟩ = some (.slice none 0 0) := (blk_cell BK440.out 1).trans rfl
 have hfs30 := blk_frozen BK440.out 1
 have hns30_0 := NB421_440.out
 have hns30_1 := NB422_440.out
 have hns30_2 := NB423_440.out
 have hms30_0 := NB440_421.out
 have hms30_1 := NB440_422.out
 have hms30_2 := NB440_423.out
 have hs31 : w25.cell? ⟨gb440, 2, none⟩ = some (.slice none 0 0) := (blk_cell BK440.out 2).trans rfl
 have hfs31 := blk_frozen BK440.out 2
 have hns31_0 := NB421_440.out
 have hns31_1 := NB422_440.out
 have hns31_2 := NB423_440.out
 have hms31_0 := NB440_421.out
 have hms31_1 := NB440_422.out
 have hms31_2 := NB440_423.out
 have hs32 : w25.cell? ⟨gb440, 3, none⟩ = some (.int .i64 0) := (blk_cell BK440.out 3).trans rfl
 have hfs32 := blk_frozen BK440.out 3
 have hns32_0 := NB421_440.out
 have hns32_1 := NB422_440.out
 have hns32_2 := NB423_440.out
 have hms32_0 := NB440_421.out
 have hms32_1 := NB440_422.out
 have hms32_2 := NB440_423.out
 have hs33 : w25.cell? ⟨gb440, 4, none⟩ = some (.slice none 0 0) := (blk_cell BK440.out 4).trans rfl
 have hfs33 := blk_frozen BK440.out 4
 have hns33_0 := NB421_440.out
 have hns33_1 := NB422_440.out
 have hns33_2 := NB423_440.out
 have hms33_0 := NB440_421.out
 have hms33_1 := NB440_422.out
 have hms33_2 := NB440_423.out
 have H := H_.out
 clear H_
 by_cases c8 : t441 = true
 rotate_left
 ·
  replace c8 := Bool.eq_false_iff.mpr c8
  subst c8
  rw [if_neg fne] at H
  simp only [Option.some.injEq, Prod.mk.injEq] at H
  obtain ⟨rfl, rfl, rfl, rfl, rfl, rfl⟩ := H
  refine skip_ (w1 := ?_) (by rfl) rfl ?_ ?_
  rotate_left
  ·
   go_simp
   rfl
  refine hK.out _ _ ⟨((cell_far (p := ⟨gb440, _, none⟩) NB421_440.out _).trans (((cell_far (p := ⟨gb440, _, none⟩) NB421_440.out _).trans (((cell_far (p := ⟨gb440, _, none⟩) NB421_440.out _).trans (((cell_far (p := ⟨gb440, _, none⟩) NB421_440.out _).trans (((cell_far (p := ⟨gb440, _, none⟩) NB421_440.out _).trans (hHeld.1)))))))))), ((cell_far (p := ⟨gb440, _, none⟩) NB421_440.out _).trans (((cell_far (p := ⟨gb440, _, none⟩) NB421_440.out _).trans (((cell_far (p := ⟨gb440, _, none⟩) NB421_440.out _).trans (((cell_far (p := ⟨gb440, _, none⟩) NB421_440.out _).trans (((cell_far (p := ⟨gb440, _, none⟩) NB421_440.out _).trans (hHeld.2.1)))))))))), ((cell_far (p := ⟨gb440, _, none⟩) NB421_440.out _).trans (((cell_far (p := ⟨gb440, _, none⟩) NB421_440.out _).trans (((cell_far (p := ⟨gb440, _, none⟩) NB421_440.out _).trans (((cell_far (p := ⟨gb440, _, none⟩) NB421_440.out _).trans (((cell_far (p := ⟨gb440, _, none⟩) NB421_440.out _).trans (hHeld.2.2.1)))))))))), ((cell_far (p := ⟨gb440, _, none⟩) NB421_440.out _).trans (((cell_far (p := ⟨gb440, _, none⟩) NB421_440.out _).trans (((cell_far (p := ⟨gb440, _, none⟩) NB421_440.out _).trans (((cell_far (p := ⟨gb440, _, none⟩) NB421_440.out _).trans (((cell_far (p := ⟨gb440, _, none⟩) NB421_440.out _).trans (hHeld.2.2.2.1)))))))))), ((cell_far (p := ⟨gb440, _, none⟩) NB421_440.out _).trans (((cell_far (p := ⟨gb440, _, none⟩) NB421_440.out _).trans (((cell_far (p := ⟨gb440, _, none⟩) NB421_440.out _).trans (((cell_far (p := ⟨gb440, _, none⟩) NB421_440.out _).trans (((cell_far (p := ⟨gb440, _, none⟩) NB421_440.out _).trans (hHeld.2.2.2.2.1)))))))))), ((cell_far (p := ⟨gb440, _, none⟩) NB422_440.out _).trans (((cell_far (p := ⟨gb440, _, none⟩) NB422_440.out _).trans (((cell_far (p := ⟨gb440, _, none⟩) NB422_440.out _).trans (((cell_far (p := ⟨gb440, _, none⟩) NB422_440.out _).trans (((cell_far (p := ⟨gb440, _, none⟩) NB422_440.out _).trans (hHeld.2.2.2.2.2.1)))))))))), ((cell_far (p := ⟨gb440, _, none⟩) NB422_440.out _).trans (((cell_far (p := ⟨gb440, _, none⟩) NB422_440.out _).trans (((cell_far (p := ⟨gb440, _, none⟩) NB422_440.out _).trans (((cell_far (p := ⟨gb440, _, none⟩) NB422_440.out _).trans (((cell_far (p := ⟨gb440, _, none⟩) NB422_440.out _).trans (hHeld.2.2.2.2.2.2.1)))))))))), ((cell_far (p := ⟨gb440, _, none⟩) NB422_440.out _).trans (((cell_far (p := ⟨gb440, _, none⟩) NB422_440.out _).trans (((cell_far (p := ⟨gb440, _, none⟩) NB422_440.out _).trans (((cell_far (p := ⟨gb440, _, none⟩) NB422_440.out _).trans (((cell_far (p := ⟨gb440, _, none⟩) NB422_440.out _).trans (hHeld.2.2.2.2.2.2.2.1)))))))))), ((cell_far (p := ⟨gb440, _, none⟩) NB422_440.out _).trans (((cell_far (p := ⟨gb440, _, none⟩) NB422_440.out _).trans (((cell_far (p := ⟨gb440, _, none⟩) NB422_440.out _).trans (((cell_far (p := ⟨gb440, _, none⟩) NB422_440.out _).trans (((cell_far (p := ⟨gb440, _, none⟩) NB422_440.out _).trans (hHeld.2.2.2.2.2.2.2.2.1)))))))))), ((cell_far (p := ⟨gb440, _, none⟩) NB422_440.out _).trans (((cell_far (p := ⟨gb440, _, none⟩) NB422_440.out _).trans (((cell_far (p := ⟨gb440, _, none⟩) NB422_440.out _).trans (((cell_far (p := ⟨gb440, _, none⟩) NB422_440.out _).trans (((cell_far (p := ⟨gb440, _, none⟩) NB422_440.out _).trans (hHeld.2.2.2.2.2.2.2.2.2))))))))))⟩ (fun hHeld => ?_)
  clear hK K
  refine done_ (done_of HT_.out (by kernel_rfl)) ?_
  have hnb103 := NB421_422.out
  have hnc103 := NB422_421.out
  have hnb104 := NB421_423.out
  have hnc104 := NB423_421.out
  have hnb105 := NB421_440.out
  have hnc105 := NB440_421.out
  obtain ⟨hcz106_0, hcz106_1, hcz106_2, hcz106_3, hcz106_4⟩ := cz5 BK421
  obtain ⟨hfz106_0, hfz106_1, hfz106_2, hfz106_3, hfz106_4⟩ := fz5 BK421
  try go_wp2_with (first | ((with_reducible refine gate_callee (f := 17) rfl ?_); refine gL (some 21) rfl rfl Try.func17 (by kernel_rfl) rfl #[.agg #[.int .i64 a0_0, .slice A0_1 l0_1.length c0_1, .slice A0_2 l0_2.length c0_2, .int .i64 a0_3, .slice A0_4 l0_4.length c0_4]] rfl ?_; (with_reducible refine (impl_GoodWork.calls k a0_0 _ _ l0_1 _ _ l0_2 a0_3 _ _ l0_4 false _ ?side1 ?side2 ?side3 ?side4 ?side5 ?side6 A7.out).mono ?_); (case side1 => exact Kd.C_below HR0_1.out (bs4 HB GE421 GE422 GE423 GE440)); (case side2 => exact HC0_1.out); (case side3 => exact Kd.C_below HR0_2.out (bs4 HB GE421 GE422 GE423 GE440)); (case side4 => exact HC0_2.out); (case side5 => exact Kd.C_below HR0_4.out (bs4 HB GE421 GE422 GE423 GE440)); (case side6 => exact HC0_4.out); rintro e w107 ⟨rfl, hb⟩; refine ⟨_, rfl, ?_⟩; replace HO427 := nf HO427 BK440 hb; replace HO430 := nf HO430 BK440 hb; replace HO436 := nf HO436 BK440 hb; replace HO439 := nf HO439 BK440 hb; replace BK421 := Ah (blk_below (bf BK421 NB421_440) hb); replace BK422 := Ah (blk_below (bf BK422 NB422_440) hb); replace BK423 := Ah (blk_below (bf BK423 NB423_440) hb); replace BK440 := Ah (blk_below (g := gb440) (o := .cells #[.int .i64 t424, .slice Ao28 t425.length co28, .slice Ao27 t428.length co27, .int .i64 a2, .slice Ao26 y437.length co26] 27 (0, 0)) (by (with_reducible repeat (first | refine blk_drewN ?_ _ | refine blk_drew ?_ | refine blk_alloc ?_ _)); refine blk_put (cs := #[.int .i64 t424, .slice Ao28 t425.length co28, .slice Ao27 t428.length co27, .int .i64 a2, .slice none 0 0]) ?_ 4 _ rfl; (with_reducible repeat (first | refine blk_drewN ?_ _ | refine blk_drew ?_ | refine blk_alloc ?_ _)); refine blk_put (cs := #[.int .i64 t424, .slice Ao28 t425.length co28, .slice Ao27 t428.length co27, .int .i64 0, .slice none 0 0]) ?_ 3 _ rfl; (with_reducible repeat (first | refine blk_drewN ?_ _ | refine blk_drew ?_ | refine blk_alloc ?_ _)); refine blk_put (cs := #[.int .i64 t424, .slice Ao28 t425.length co28, .slice none 0 0, .int .i64 0, .slice none 0 0]) ?_ 2 _ rfl; (with_reducible repeat (first | refine blk_drewN ?_ _ | refine blk_drew ?_ | refine blk_alloc ?_ _)); refine blk_put (cs := #[.int .i64 t424, .slice none 0 0, .slice none 0 0, .int .i64 0, .slice none 0 0]) ?_ 1 _ rfl; (with_reducible repeat (first | refine blk_drewN ?_ _ | refine blk_drew ?_ | refine blk_alloc ?_ _)); refine blk_put (cs := #[.int .i64 0, .slice none 0 0, .slice none 0 0, .int .i64 0, .slice none 0 0]) ?_ 0 _ rfl; (with_reducible repeat (first | refine blk_drewN ?_ _ | refine blk_drew ?_ | refine blk_alloc ?_ _)); exact BK440.out) hb); replace HB := Ah (below_step (bs4 HB GE421 GE422 GE423 GE440) hb); (try clear hb); have hnb108 := NB423_422.out; have hnc108 := NB422_423.out; have hnb109 := NB423_440.out; have hnc109 := NB440_423.out; obtain ⟨hcz110_0, hcz110_1, hcz110_2, hcz110_3, hcz110_4⟩ := cz5 BK423; obtain ⟨hfz110_0, hfz110_1, hfz110_2, hfz110_3, hfz110_4⟩ := fz5 BK423))
  refine bodyPost_ret (results_ct rfl _ _ gb423 27 #[.int .i64 0, .slice none 0 0, .slice none 0 0, .int .i64 0, .slice none 0 0] (0, 0) _ rfl (by (with_reducible repeat (first | refine blk_drewN ?_ _ | refine blk_drew ?_ | refine blk_alloc ?_ _)); refine blk_put (cs := #[.int .i64 0, .slice none 0 0, .slice none 0 0, .int .i64 0, .slice none 0 0]) ?_ 4 _ rfl; (with_reducible repeat (first | refine blk_drewN ?_ _ | refine blk_drew ?_ | refine blk_alloc ?_ _)); refine blk_put (cs := #[.int .i64 0, .slice none 0 0, .slice none 0 0, .int .i64 0, .slice none 0 0]) ?_ 3 _ rfl; (with_reducible repeat (first | refine blk_drewN ?_ _ | refine blk_drew ?_ | refine blk_alloc ?_ _)); refine blk_put (cs := #[.int .i64 0, .slice none 0 0, .slice none 0 0, .int .i64 0, .slice none 0 0]) ?_ 2 _ rfl; (with_reducible repeat (first | refine blk_drewN ?_ _ | refine blk_drew ?_ | refine blk_alloc ?_ _)); refine blk_put (cs := #[.int .i64 0, .slice none 0 0, .slice none 0 0, .int .i64 0, .slice none 0 0]) ?_ 1 _ rfl; (with_reducible repeat (first | refine blk_drewN ?_ _ | refine blk_drew ?_ | refine blk_alloc ?_ _)); refine blk_put (cs := #[.int .i64 0, .slice none 0 0, .slice none 0 0, .int .i64 0, .slice none 0 0]) ?_ 0 _ rfl; (with_reducible repeat (first | refine blk_drewN ?_ _ | refine blk_drew ?_ | refine blk_alloc ?_ _)); exact BK423.out) Try.underlying27 rfl (by kernel_rfl)) rfl ?_
  exact ⟨_, _, _, er, by first | exact Kd.R_nil _ _ _ _ _ | exact Kd.N_nil _ _ _ _ _ | exact Kd.V_nil _ _ _ _ _ | exact Kd.Q_nil _ _ _ _ _ | exact Kd.S_nil _ _ _ _ _, by first | exact Kd.R_nil _ _ _ _ _ | exact Kd.N_nil _ _ _ _ _ | exact Kd.V_nil _ _ _ _ _ | exact Kd.Q_nil _ _ _ _ _ | exact Kd.S_nil _ _ _ _ _, by first | exact Kd.R_nil _ _ _ _ _ | exact Kd.N_nil _ _ _ _ _ | exact Kd.V_nil _ _ _ _ _ | exact Kd.Q_nil _ _ _ _ _ | exact Kd.S_nil _ _ _ _ _, bs4 HB GE421 GE422 GE423 GE440⟩
 subst c8
 rw [if_pos rfl] at H
 replace H := Option.bind_eq_some_iff.mp H
 obtain ⟨t442, A90, H⟩ := H
 try dsimp only at H
 have A9 := Ah A90
 clear A90
 by_cases c10 : t442 = true
 rotate_left
 ·
  replace c10 := Bool.eq_false_iff.mpr c10
  subst c10
  rw [if_neg fne] at H
  simp only [Option.some.injEq, Prod.mk.injEq] at H
  obtain ⟨rfl, rfl, rfl, rfl, rfl, rfl⟩ := H
  refine skip_ (w1 := ?_) (by rfl) rfl ?_ ?_
  rotate_left
  ·
   go_simp
   rfl
  refine hK.out _ _ ⟨((cell_far (p := ⟨gb440, _, none⟩) NB421_440.out _).trans (((cell_far (p := ⟨gb440, _, none⟩) NB421_440.out _).trans (((cell_far (p := ⟨gb440, _, none⟩) NB421_440.out _).trans (((cell_far (p := ⟨gb440, _, none⟩) NB421_440.out _).trans (((cell_far (p := ⟨gb440, _, none⟩) NB421_440.out _).trans (hHeld.1)))))))))), ((cell_far (p := ⟨gb440, _, none⟩) NB421_440.out _).trans (((cell_far (p := ⟨gb440, _, none⟩) NB421_440.out _).trans (((cell_far (p := ⟨gb440, _, none⟩) NB421_440.out _).trans (((cell_far (p := ⟨gb440, _, none⟩) NB421_440.out _).trans (((cell_far (p := ⟨gb440, _, none⟩) NB421_440.out _).trans (hHeld.2.1)))))))))), ((cell_far (p := ⟨gb440, _, none⟩) NB421_440.out _).trans (((cell_far (p := ⟨gb440, _, none⟩) NB421_440.out _).trans (((cell_far (p := ⟨gb440, _, none⟩) NB421_440.out _).trans (((cell_far (p := ⟨gb440, _, none⟩) NB421_440.out _).trans (((cell_far (p := ⟨gb440, _, none⟩) NB421_440.out _).trans (hHeld.2.2.1)))))))))), ((cell_far (p := ⟨gb440, _, none⟩) NB421_440.out _).trans (((cell_far (p := ⟨gb440, _, none⟩) NB421_440.out _).trans (((cell_far (p := ⟨gb440, _, none⟩) NB421_440.out _).trans (((cell_far (p := ⟨gb440, _, none⟩) NB421_440.out _).trans (((cell_far (p := ⟨gb440, _, none⟩) NB421_440.out _).trans (hHeld.2.2.2.1)))))))))), ((cell_far (p := ⟨gb440, _, none⟩) NB421_440.out _).trans (((cell_far (p := ⟨gb440, _, none⟩) NB421_440.out _).trans (((cell_far (p := ⟨gb440, _, none⟩) NB421_440.out _).trans (((cell_far (p := ⟨gb440, _, none⟩) NB421_440.out _).trans (((cell_far (p := ⟨gb440, _, none⟩) NB421_440.out _).trans (hHeld.2.2.2.2.1)))))))))), ((cell_far (p := ⟨gb440, _, none⟩) NB422_440.out _).trans (((cell_far (p := ⟨gb440, _, none⟩) NB422_440.out _).trans (((cell_far (p := ⟨gb440, _, none⟩) NB422_440.out _).trans (((cell_far (p := ⟨gb440, _, none⟩) NB422_440.out _).trans (((cell_far (p := ⟨gb440, _, none⟩) NB422_440.out _).trans (hHeld.2.2.2.2.2.1)))))))))), ((cell_far (p := ⟨gb440, _, none⟩) NB422_440.out _).trans (((cell_far (p := ⟨gb440, _, none⟩) NB422_440.out _).trans (((cell_far (p := ⟨gb440, _, none⟩) NB422_440.out _).trans (((cell_far (p := ⟨gb440, _, none⟩) NB422_440.out _).trans (((cell_far (p := ⟨gb440, _, none⟩) NB422_440.out _).trans (hHeld.2.2.2.2.2.2.1)))))))))), ((cell_far (p := ⟨gb440, _, none⟩) NB422_440.out _).trans (((cell_far (p := ⟨gb440, _, none⟩) NB422_440.out _).trans (((cell_far (p := ⟨gb440, _, none⟩) NB422_440.out _).trans (((cell_far (p := ⟨gb440, _, none⟩) NB422_440.out _).trans (((cell_far (p := ⟨gb440, _, none⟩) NB422_440.out _).trans (hHeld.2.2.2.2.2.2.2.1)))))))))), ((cell_far (p := ⟨gb440, _, none⟩) NB422_440.out _).trans (((cell_far (p := ⟨gb440, _, none⟩) NB422_440.out _).trans (((cell_far (p := ⟨gb440, _, none⟩) NB422_440.out _).trans (((cell_far (p := ⟨gb440, _, none⟩) NB422_440.out _).trans (((cell_far (p := ⟨gb440, _, none⟩) NB422_440.out _).trans (hHeld.2.2.2.2.2.2.2.2.1)))))))))), ((cell_far (p := ⟨gb440, _, none⟩) NB422_440.out _).trans (((cell_far (p := ⟨gb440, _, none⟩) NB422_440.out _).trans (((cell_far (p := ⟨gb440, _, none⟩) NB422_440.out _).trans (((cell_far (p := ⟨gb440, _, none⟩) NB422_440.out _).trans (((cell_far (p := ⟨gb440, _, none⟩) NB422_440.out _).trans (hHeld.2.2.2.2.2.2.2.2.2))))))))))⟩ (fun hHeld => ?_)
  clear hK K
  refine done_ (done_of HT_.out (by kernel_rfl)) ?_
  have hnb69 := NB421_422.out
  have hnc69 := NB422_421.out
  have hnb70 := NB421_423.out
  have hnc70 := NB423_421.out
  have hnb71 := NB421_440.out
  have hnc71 := NB440_421.out
  obtain ⟨hcz72_0, hcz72_1, hcz72_2, hcz72_3, hcz72_4⟩ := cz5 BK421
  obtain ⟨hfz72_0, hfz72_1, hfz72_2, hfz72_3, hfz72_4⟩ := fz5 BK421
  try go_wp2_with (first | ((with_reducible refine gate_callee (f := 17) rfl ?_); refine gL (some 21) rfl rfl Try.func17 (by kernel_rfl) rfl #[.agg #[.int .i64 a0_0, .slice A0_1 l0_1.length c0_1, .slice A0_2 l0_2.length c0_2, .int .i64 a0_3, .slice A0_4 l0_4.length c0_4]] rfl ?_; (with_reducible refine (impl_GoodWork.calls k a0_0 _ _ l0_1 _ _ l0_2 a0_3 _ _ l0_4 true _ ?side1 ?side2 ?side3 ?side4 ?side5 ?side6 A7.out).mono ?_); (case side1 => exact Kd.C_below HR0_1.out (bs4 HB GE421 GE422 GE423 GE440)); (case side2 => exact HC0_1.out); (case side3 => exact Kd.C_below HR0_2.out (bs4 HB GE421 GE422 GE423 GE440)); (case side4 => exact HC0_2.out); (case side5 => exact Kd.C_below HR0_4.out (bs4 HB GE421 GE422 GE423 GE440)); (case side6 => exact HC0_4.out); rintro e w73 ⟨rfl, hb⟩; refine ⟨_, rfl, ?_⟩; replace HO427 := nf HO427 BK440 hb; replace HO430 := nf HO430 BK440 hb; replace HO436 := nf HO436 BK440 hb; replace HO439 := nf HO439 BK440 hb; replace BK421 := Ah (blk_below (bf BK421 NB421_440) hb); replace BK422 := Ah (blk_below (bf BK422 NB422_440) hb); replace BK423 := Ah (blk_below (bf BK423 NB423_440) hb); replace BK440 := Ah (blk_below (g := gb440) (o := .cells #[.int .i64 t424, .slice Ao28 t425.length co28, .slice Ao27 t428.length co27, .int .i64 a2, .slice Ao26 y437.length co26] 27 (0, 0)) (by (with_reducible repeat (first | refine blk_drewN ?_ _ | refine blk_drew ?_ | refine blk_alloc ?_ _)); refine blk_put (cs := #[.int .i64 t424, .slice Ao28 t425.length co28, .slice Ao27 t428.length co27, .int .i64 a2, .slice none 0 0]) ?_ 4 _ rfl; (with_reducible repeat (first | refine blk_drewN ?_ _ | refine blk_drew ?_ | refine blk_alloc ?_ _)); refine blk_put (cs := #[.int .i64 t424, .slice Ao28 t425.length co28, .slice Ao27 t428.length co27, .int .i64 0, .slice none 0 0]) ?_ 3 _ rfl; (with_reducible repeat (first | refine blk_drewN ?_ _ | refine blk_drew ?_ | refine blk_alloc ?_ _)); refine blk_put (cs := #[.int .i64 t424, .slice Ao28 t425.length co28, .slice none 0 0, .int .i64 0, .slice none 0 0]) ?_ 2 _ rfl; (with_reducible repeat (first | refine blk_drewN ?_ _ | refine blk_drew ?_ | refine blk_alloc ?_ _)); refine blk_put (cs := #[.int .i64 t424, .slice none 0 0, .slice none 0 0, .int .i64 0, .slice none 0 0]) ?_ 1 _ rfl; (with_reducible repeat (first | refine blk_drewN ?_ _ | refine blk_drew ?_ | refine blk_alloc ?_ _)); refine blk_put (cs := #[.int .i64 0, .slice none 0 0, .slice none 0 0, .int .i64 0, .slice none 0 0]) ?_ 0 _ rfl; (with_reducible repeat (first | refine blk_drewN ?_ _ | refine blk_drew ?_ | refine blk_alloc ?_ _)); exact BK440.out) hb); replace HB := Ah (below_step (bs4 HB GE421 GE422 GE423 GE440) hb); (try clear hb); have hnb74 := NB440_422.out; have hnc74 := NB422_440.out; have hnb75 := NB440_423.out; have hnc75 := NB423_440.out; obtain ⟨hcz76_0, hcz76_1, hcz76_2, hcz76_3, hcz76_4⟩ := cz5 BK440; obtain ⟨hfz76_0, hfz76_1, hfz76_2, hfz76_3, hfz76_4⟩ := fz5 BK440) | (go_at_call 17; (with_reducible refine (impl_GoodWork.calls k t424 _ _ t425 _ _ t428 a2 _ _ y437 false _ ?side1 ?side2 ?side3 ?side4 ?side5 ?side6 A9.out).mono ?_); (case side1 => exact rc0 HO427); (case side2 => exact (Kd.R_reads' HO427.out).2.1); (case side3 => exact rc0 HO430); (case side4 => exact (Kd.R_reads' HO430.out).2.1); (case side5 => exact rc0 HO439); (case side6 => exact (Kd.R_reads' HO439.out).2.1); rintro e w77 ⟨rfl, hb⟩; replace HO427 := nr HO427 hb; replace HO430 := nr HO430 hb; replace HO436 := nr HO436 hb; replace HO439 := nr HO439 hb; replace BK421 := nb BK421 hb; replace BK422 := nb BK422 hb; replace BK423 := nb BK423 hb; replace BK440 := nb BK440 hb; replace HB := Ah (below_step (bs4 HB GE421 GE422 GE423 GE440) hb); (try clear hb); have hnb78 := NB423_422.out; have hnc78 := NB422_423.out; obtain ⟨hcz79_0, hcz79_1, hcz79_2, hcz79_3, hcz79_4⟩ := cz5 BK423; obtain ⟨hfz79_0, hfz79_1, hfz79_2, hfz79_3, hfz79_4⟩ := fz5 BK423))
  refine bodyPost_ret (results_ct rfl _ _ gb423 27 #[.int .i64 0, .slice none 0 0, .slice none 0 0, .int .i64 0, .slice none 0 0] (0, 0) _ rfl (by (with_reducible repeat (first | refine blk_drewN ?_ _ | refine blk_drew ?_ | refine blk_alloc ?_ _)); refine blk_put (cs := #[.int .i64 0, .slice none 0 0, .slice none 0 0, .int .i64 0, .slice none 0 0]) ?_ 4 _ rfl; (with_reducible repeat (first | refine blk_drewN ?_ _ | refine blk_drew ?_ | refine blk_alloc ?_ _)); refine blk_put (cs := #[.int .i64 0, .slice none 0 0, .slice none 0 0, .int .i64 0, .slice none 0 0]) ?_ 3 _ rfl; (with_reducible repeat (first | refine blk_drewN ?_ _ | refine blk_drew ?_ | refine blk_alloc ?_ _)); refine blk_put (cs := #[.int .i64 0, .slice none 0 0, .slice none 0 0, .int .i64 0, .slice none 0 0]) ?_ 2 _ rfl; (with_reducible repeat (first | refine blk_drewN ?_ _ | refine blk_drew ?_ | refine blk_alloc ?_ _)); refine blk_put (cs := #[.int .i64 0, .slice none 0 0, .slice none 0 0, .int .i64 0, .slice none 0 0]) ?_ 1 _ rfl; (with_reducible repeat (first | refine blk_drewN ?_ _ | refine blk_drew ?_ | refine blk_alloc ?_ _)); refine blk_put (cs := #[.int .i64 0, .slice none 0 0, .slice none 0 0, .int .i64 0, .slice none 0 0]) ?_ 0 _ rfl; (with_reducible repeat (first | refine blk_drewN ?_ _ | refine blk_drew ?_ | refine blk_alloc ?_ _)); exact BK423.out) Try.underlying27 rfl (by kernel_rfl)) rfl ?_
  exact ⟨_, _, _, er, by first | exact Kd.R_nil _ _ _ _ _ | exact Kd.N_nil _ _ _ _ _ | exact Kd.V_nil _ _ _ _ _ | exact Kd.Q_nil _ _ _ _ _ | exact Kd.S_nil _ _ _ _ _, by first | exact Kd.R_nil _ _ _ _ _ | exact Kd.N_nil _ _ _ _ _ | exact Kd.V_nil _ _ _ _ _ | exact Kd.Q_nil _ _ _ _ _ | exact Kd.S_nil _ _ _ _ _, by first | exact Kd.R_nil _ _ _ _ _ | exact Kd.N_nil _ _ _ _ _ | exact Kd.V_nil _ _ _ _ _ | exact Kd.Q_nil _ _ _ _ _ | exact Kd.S_nil _ _ _ _ _, bs4 HB GE421 GE422 GE423 GE440⟩
 subst c10
 rw [if_pos rfl] at H
 simp only [Option.some.injEq, Prod.mk.injEq] at H
 obtain ⟨rfl, rfl, rfl, rfl, rfl, rfl⟩ := H
 refine skip_ (w1 := ?_) (by rfl) rfl ?_ ?_
 rotate_left
 ·
  go_simp
  rfl
 refine hK.out _ _ ⟨((cell_far (p := ⟨gb440, _, none⟩) NB421_440.out _).trans (((cell_far (p := ⟨gb440, _, none⟩) NB421_440.out _).trans (((cell_far (p := ⟨gb440, _, none⟩) NB421_440.out _).trans (((cell_far (p := ⟨gb440, _, none⟩) NB421_440.out _).trans (((cell_far (p := ⟨gb440, _, none⟩) NB421_440.out _).trans (hHeld.1)))))))))), ((cell_far (p := ⟨gb440, _, none⟩) NB421_440.out _).trans (((cell_far (p := ⟨gb440, _, none⟩) NB421_440.out _).trans (((cell_far (p := ⟨gb440, _, none⟩) NB421_440.out _).trans (((cell_far (p := ⟨gb440, _, none⟩) NB421_440.out _).trans (((cell_far (p := ⟨gb440, _, none⟩) NB421_440.out _).trans (hHeld.2.1)))))))))), ((cell_far (p := ⟨gb440, _, none⟩) NB421_440.out _).trans (((cell_far (p := ⟨gb440, _, none⟩) NB421_440.out _).trans (((cell_far (p := ⟨gb440, _, none⟩) NB421_440.out _).trans (((cell_far (p := ⟨gb440, _, none⟩) NB421_440.out _).trans (((cell_far (p := ⟨gb440, _, none⟩) NB421_440.out _).trans (hHeld.2.2.1)))))))))), ((cell_far (p := ⟨gb440, _, none⟩) NB421_440.out _).trans (((cell_far (p := ⟨gb440, _, none⟩) NB421_440.out _).trans (((cell_far (p := ⟨gb440, _, none⟩) NB421_440.out _).trans (((cell_far (p := ⟨gb440, _, none⟩) NB421_440.out _).trans (((cell_far (p := ⟨gb440, _, none⟩) NB421_440.out _).trans (hHeld.2.2.2.1)))))))))), ((cell_far (p := ⟨gb440, _, none⟩) NB421_440.out _).trans (((cell_far (p := ⟨gb440, _, none⟩) NB421_440.out _).trans (((cell_far (p := ⟨gb440, _, none⟩) NB421_440.out _).trans (((cell_far (p := ⟨gb440, _, none⟩) NB421_440.out _).trans (((cell_far (p := ⟨gb440, _, none⟩) NB421_440.out _).trans (hHeld.2.2.2.2.1)))))))))), ((cell_far (p := ⟨gb440, _, none⟩) NB422_440.out _).trans (((cell_far (p := ⟨gb440, _, none⟩) NB422_440.out _).trans (((cell_far (p := ⟨gb440, _, none⟩) NB422_440.out _).trans (((cell_far (p := ⟨gb440, _, none⟩) NB422_440.out _).trans (((cell_far (p := ⟨gb440, _, none⟩) NB422_440.out _).trans (hHeld.2.2.2.2.2.1)))))))))), ((cell_far (p := ⟨gb440, _, none⟩) NB422_440.out _).trans (((cell_far (p := ⟨gb440, _, none⟩) NB422_440.out _).trans (((cell_far (p := ⟨gb440, _, none⟩) NB422_440.out _).trans (((cell_far (p := ⟨gb440, _, none⟩) NB422_440.out _).trans (((cell_far (p := ⟨gb440, _, none⟩) NB422_440.out _).trans (hHeld.2.2.2.2.2.2.1)))))))))), ((cell_far (p := ⟨gb440, _, none⟩) NB422_440.out _).trans (((cell_far (p := ⟨gb440, _, none⟩) NB422_440.out _).trans (((cell_far (p := ⟨gb440, _, none⟩) NB422_440.out _).trans (((cell_far (p := ⟨gb440, _, none⟩) NB422_440.out _).trans (((cell_far (p := ⟨gb440, _, none⟩) NB422_440.out _).trans (hHeld.2.2.2.2.2.2.2.1)))))))))), ((cell_far (p := ⟨gb440, _, none⟩) NB422_440.out _).trans (((cell_far (p := ⟨gb440, _, none⟩) NB422_440.out _).trans (((cell_far (p := ⟨gb440, _, none⟩) NB422_440.out _).trans (((cell_far (p := ⟨gb440, _, none⟩) NB422_440.out _).trans (((cell_far (p := ⟨gb440, _, none⟩) NB422_440.out _).trans (hHeld.2.2.2.2.2.2.2.2.1)))))))))), ((cell_far (p := ⟨gb440, _, none⟩) NB422_440.out _).trans (((cell_far (p := ⟨gb440, _, none⟩) NB422_440.out _).trans (((cell_far (p := ⟨gb440, _, none⟩) NB422_440.out _).trans (((cell_far (p := ⟨gb440, _, none⟩) NB422_440.out _).trans (((cell_far (p := ⟨gb440, _, none⟩) NB422_440.out _).trans (hHeld.2.2.2.2.2.2.2.2.2))))))))))⟩ (fun hHeld => ?_)
 clear hK K
 refine done_ (done_of HT_.out (by kernel_rfl)) ?_
 have hnb34 := NB421_422.out
 have hnc34 := NB422_421.out
 have hnb35 := NB421_423.out
 have hnc35 := NB423_421.out
 have hnb36 := NB421_440.out
 have hnc36 := NB440_421.out
 obtain ⟨hcz37_0, hcz37_1, hcz37_2, hcz37_3, hcz37_4⟩ := cz5 BK421
 obtain ⟨hfz37_0, hfz37_1, hfz37_2, hfz37_3, hfz37_4⟩ := fz5 BK421
 try go_wp2_with (first | ((with_reducible refine gate_callee (f := 17) rfl ?_); refine gL (some 21) rfl rfl Try.func17 (by kernel_rfl) rfl #[.agg #[.int .i64 a0_0, .slice A0_1 l0_1.length c0_1, .slice A0_2 l0_2.length c0_2, .int .i64 a0_3, .slice A0_4 l0_4.length c0_4]] rfl ?_; (with_reducible refine (impl_GoodWork.calls k a0_0 _ _ l0_1 _ _ l0_2 a0_3 _ _ l0_4 true _ ?side1 ?side2 ?side3 ?side4 ?side5 ?side6 A7.out).mono ?_); (case side1 => exact Kd.C_below HR0_1.out (bs4 HB GE421 GE422 GE423 GE440)); (case side2 => exact HC0_1.out); (case side3 => exact Kd.C_below HR0_2.out (bs4 HB GE421 GE422 GE423 GE440)); (case side4 => exact HC0_2.out); (case side5 => exact Kd.C_below HR0_4.out (bs4 HB GE421 GE422 GE423 GE440)); (case side6 => exact HC0_4.out); rintro e w38 ⟨rfl, hb⟩; refine ⟨_, rfl, ?_⟩; replace HO427 := nf HO427 BK440 hb; replace HO430 := nf HO430 BK440 hb; replace HO436 := nf HO436 BK440 hb; replace HO439 := nf HO439 BK440 hb; replace BK421 := Ah (blk_below (bf BK421 NB421_440) hb); replace BK422 := Ah (blk_below (bf BK422 NB422_440) hb); replace BK423 := Ah (blk_below (bf BK423 NB423_440) hb); replace BK440 := Ah (blk_below (g := gb440) (o := .cells #[.int .i64 t424, .slice Ao28 t425.length co28, .slice Ao27 t428.length co27, .int .i64 a2, .slice Ao26 y437.length co26] 27 (0, 0)) (by (with_reducible repeat (first | refine blk_drewN ?_ _ | refine blk_drew ?_ | refine blk_alloc ?_ _)); refine blk_put (cs := #[.int .i64 t424, .slice Ao28 t425.length co28, .slice Ao27 t428.length co27, .int .i64 a2, .slice none 0 0]) ?_ 4 _ rfl; (with_reducible repeat (first | refine blk_drewN ?_ _ | refine blk_drew ?_ | refine blk_alloc ?_ _)); refine blk_put (cs := #[.int .i64 t424, .slice Ao28 t425.length co28, .slice Ao27 t428.length co27, .int .i64 0, .slice none 0 0]) ?_ 3 _ rfl; (with_reducible repeat (first | refine blk_drewN ?_ _ | refine blk_drew ?_ | refine blk_alloc ?_ _)); refine blk_put (cs := #[.int .i64 t424, .slice Ao28 t425.length co28, .slice none 0 0, .int .i64 0, .slice none 0 0]) ?_ 2 _ rfl; (with_reducible repeat (first | refine blk_drewN ?_ _ | refine blk_drew ?_ | refine blk_alloc ?_ _)); refine blk_put (cs := #[.int .i64 t424, .slice none 0 0, .slice none 0 0, .int .i64 0, .slice none 0 0]) ?_ 1 _ rfl; (with_reducible repeat (first | refine blk_drewN ?_ _ | refine blk_drew ?_ | refine blk_alloc ?_ _)); refine blk_put (cs := #[.int .i64 0, .slice none 0 0, .slice none 0 0, .int .i64 0, .slice none 0 0]) ?_ 0 _ rfl; (with_reducible repeat (first | refine blk_drewN ?_ _ | refine blk_drew ?_ | refine blk_alloc ?_ _)); exact BK440.out) hb); replace HB := Ah (below_step (bs4 HB GE421 GE422 GE423 GE440) hb); (try clear hb); have hnb39 := NB440_422.out; have hnc39 := NB422_440.out; have hnb40 := NB440_423.out; have hnc40 := NB423_440.out; obtain ⟨hcz41_0, hcz41_1, hcz41_2, hcz41_3, hcz41_4⟩ := cz5 BK440; obtain ⟨hfz41_0, hfz41_1, hfz41_2, hfz41_3, hfz41_4⟩ := fz5 BK440) | (go_at_call 17; (with_reducible refine (impl_GoodWork.calls k t424 _ _ t425 _ _ t428 a2 _ _ y437 true _ ?side1 ?side2 ?side3 ?side4 ?side5 ?side6 A9.out).mono ?_); (case side1 => exact rc0 HO427); (case side2 => exact (Kd.R_reads' HO427.out).2.1); (case side3 => exact rc0 HO430); (case side4 => exact (Kd.R_reads' HO430.out).2.1); (case side5 => exact rc0 HO439); (case side6 => exact (Kd.R_reads' HO439.out).2.1); rintro e w42 ⟨rfl, hb⟩; replace HO427 := nr HO427 hb; replace HO430 := nr HO430 hb; replace HO436 := nr HO436 hb; replace HO439 := nr HO439 hb; replace BK421 := nb BK421 hb; replace BK422 := nb BK422 hb; replace BK423 := nb BK423 hb; replace BK440 := nb BK440 hb; replace HB := Ah (below_step (bs4 HB GE421 GE422 GE423 GE440) hb); (try clear hb); obtain ⟨hcz43_0, hcz43_1, hcz43_2, hcz43_3, hcz43_4⟩ := cz5 BK440; obtain ⟨hfz43_0, hfz43_1, hfz43_2, hfz43_3, hfz43_4⟩ := fz5 BK440; have hnb44 := NB423_422.out; have hnc44 := NB422_423.out; obtain ⟨hcz45_0, hcz45_1, hcz45_2, hcz45_3, hcz45_4⟩ := cz5 BK423; obtain ⟨hfz45_0, hfz45_1, hfz45_2, hfz45_3, hfz45_4⟩ := fz5 BK423))
 refine bodyPost_ret (results_ct rfl _ _ gb423 27 #[.int .i64 t424, .slice Ao28 t425.length co28, .slice Ao27 t428.length co27, .int .i64 a2, .slice Ao26 y437.length co26] (0, 0) _ rfl (by (with_reducible repeat (first | refine blk_drewN ?_ _ | refine blk_drew ?_ | refine blk_alloc ?_ _)); refine blk_put (cs := #[.int .i64 t424, .slice Ao28 t425.length co28, .slice Ao27 t428.length co27, .int .i64 a2, .slice none 0 0]) ?_ 4 _ rfl; (with_reducible repeat (first | refine blk_drewN ?_ _ | refine blk_drew ?_ | refine blk_alloc ?_ _)); refine blk_put (cs := #[.int .i64 t424, .slice Ao28 t425.length co28, .slice Ao27 t428.length co27, .int .i64 0, .slice none 0 0]) ?_ 3 _ rfl; (with_reducible repeat (first | refine blk_drewN ?_ _ | refine blk_drew ?_ | refine blk_alloc ?_ _)); refine blk_put (cs := #[.int .i64 t424, .slice Ao28 t425.length co28, .slice none 0 0, .int .i64 0, .slice none 0 0]) ?_ 2 _ rfl; (with_reducible repeat (first | refine blk_drewN ?_ _ | refine blk_drew ?_ | refine blk_alloc ?_ _)); refine blk_put (cs := #[.int .i64 t424, .slice none 0 0, .slice none 0 0, .int .i64 0, .slice none 0 0]) ?_ 1 _ rfl; (with_reducible repeat (first | refine blk_drewN ?_ _ | refine blk_drew ?_ | refine blk_alloc ?_ _)); refine blk_put (cs := #[.int .i64 0, .slice none 0 0, .slice none 0 0, .int .i64 0, .slice none 0 0]) ?_ 0 _ rfl; (with_reducible repeat (first | refine blk_drewN ?_ _ | refine blk_drew ?_ | refine blk_alloc ?_ _)); exact BK423.out) Try.underlying27 rfl (by kernel_rfl)) rfl ?_
 exact ⟨_, _, _, er, by (with_reducible repeat (first | apply Kd.R_alloc | apply Kd.R_drewN | apply Kd.R_drew)); exact Kd.R_mono (Kd.R_far (p := ⟨gb423, 4, none⟩) (Kd.R_far (p := ⟨gb423, 3, none⟩) (Kd.R_far (p := ⟨gb423, 2, none⟩) (Kd.R_far (p := ⟨gb423, 1, none⟩) (Kd.R_far (p := ⟨gb423, 0, none⟩) (Kd.R_types HO427.out BK423.out (by decide)) (fun _ hk => hk.2) (.int .i64 t424)) (fun _ hk => hk.2) (.slice Ao28 t425.length co28)) (fun _ hk => hk.2) (.slice Ao27 t428.length co27)) (fun _ hk => hk.2) (.int .i64 a2)) (fun _ hk => hk.2) (.slice Ao26 y437.length co26)) (fun _ hk => hk.1), by (with_reducible repeat (first | apply Kd.R_alloc | apply Kd.R_drewN | apply Kd.R_drew)); exact Kd.R_mono (Kd.R_far (p := ⟨gb423, 4, none⟩) (Kd.R_far (p := ⟨gb423, 3, none⟩) (Kd.R_far (p := ⟨gb423, 2, none⟩) (Kd.R_far (p := ⟨gb423, 1, none⟩) (Kd.R_far (p := ⟨gb423, 0, none⟩) (Kd.R_types HO430.out BK423.out (by decide)) (fun _ hk => hk.2) (.int .i64 t424)) (fun _ hk => hk.2) (.slice Ao28 t425.length co28)) (fun _ hk => hk.2) (.slice Ao27 t428.length co27)) (fun _ hk => hk.2) (.int .i64 a2)) (fun _ hk => hk.2) (.slice Ao26 y437.length co26)) (fun _ hk => hk.1), by (with_reducible repeat (first | apply Kd.R_alloc | apply Kd.R_drewN | apply Kd.R_drew)); exact Kd.R_mono (Kd.R_far (p := ⟨gb423, 4, none⟩) (Kd.R_far (p := ⟨gb423, 3, none⟩) (Kd.R_far (p := ⟨gb423, 2, none⟩) (Kd.R_far (p := ⟨gb423, 1, none⟩) (Kd.R_far (p := ⟨gb423, 0, none⟩) (Kd.R_types HO439.out BK423.out (by decide)) (fun _ hk => hk.2) (.int .i64 t424)) (fun _ hk => hk.2) (.slice Ao28 t425.length co28)) (fun _ hk => hk.2) (.slice Ao27 t428.length co27)) (fun _ hk => hk.2) (.int .i64 a2)) (fun _ hk => hk.2) (.slice Ao26 y437.length co26)) (fun _ hk => trivial), bs4 HB GE421 GE422 GE423 GE440⟩
def impl_WorkOn.j0 : Nat → Int → Int → List (S71) → Bool → Int → List (S53) → List (S53) → Int → List (S71) → Option (Int × (List (S53)) × (List (S53)) × Int × (List (S71)) × Bool)
 | 0, _, _, _, _, _, _, _, _, _ => none
 | k + 1, x1, x2, x8, x25, x444000, x444001, x444002, x444003, x444004 => if x25 = true then (some (0, ([] : List (S53)), ([] : List (S53)), 0, ([] : List (S71)), false)) else (if 0 ≤ (wrap64 (x1 - 1)) then (if (wrap64 (x1 - 1)) < (x8.length : Int) then (if (wrap64 (((rd_T71 x8 (wrap64 (x1 - 1))).f2.f1) - ((rd_T71 x8 (wrap64 (x1 - 1))).f3))) = 0 then (some (0, ([] : List (S53)), ([] : List (S53)), 0, ([] : List (S71)), false)) else (if x2 < 1 then (some (0, ([] : List (S53)), ([] : List (S53)), 0, ([] : List (S71)), false)) else ((impl_withItem.f k x444000 x444001 x444002 x444003 x444004 2 x1 0 0 (wrap64 (((rd_T71 x8 (wrap64 (x1 - 1))).f3) + (mn x2 (wrap64 (((rd_T71 x8 (wrap64 (x1 - 1))).f2.f1) - ((rd_T71 x8 (wrap64 (x1 - 1))).f3)))))) x444003).bind fun bt452 => (some (bt452.1, bt452.2.1, bt452.2.2.1, bt452.2.2.2.1, bt452.2.2.2.2.1, bt452.2.2.2.2.2))))) else (none)) else (none))
def impl_WorkOn.f (k : Nat) (a0_0 : Int) (l0_1 : List (S53)) (l0_2 : List (S53)) (a0_3 : Int) (l0_4 : List (S71)) (a1 : Int) (a2 : Int) : Option (Int × (List (S53)) × (List (S53)) × Int × (List (S71)) × Bool) := (impl_goodIntents.f k a0_0 l0_1 l0_2 a0_3 l0_4).bind fun bt445 => (if bt445.2 = true then ((impl_within.f a1 1 (bt445.1.length : Int)).bind fun t449 => (impl_WorkOn.j0 k a1 a2 bt445.1 (!t449) a0_0 l0_1 l0_2 a0_3 l0_4)) else (impl_WorkOn.j0 k a1 a2 bt445.1 true a0_0 l0_1 l0_2 a0_3 l0_4))
theorem impl_WorkOn.mono_l : ∀ k, (∀ y0 y1 y2 y3 y4 y5 y6 y7 y8, LeO (impl_WorkOn.j0 k y0 y1 y2 y3 y4 y5 y6 y7 y8) (impl_WorkOn.j0 (k + 1) y0 y1 y2 y3 y4 y5 y6 y7 y8))
 | 0 => fun _ _ _ _ _ _ _ _ _ r h => by simp [impl_WorkOn.j0] at h
 | k + 1 => by
  have ih0 := impl_WorkOn.mono_l k
  ·
   intro y0 y1 y2 y3 y4 y5 y6 y7 y8
   unfold impl_WorkOn.j0
   repeat' first
   | (with_reducible exact ih0 _ _ _ _ _ _ _ _ _)
   | (with_reducible exact impl_goodIntents.mono _ _ _ _ _ _)
   | (with_reducible exact impl_withItem.mono _ _ _ _ _ _ _ _ _ _ _ _)
   | (with_reducible exact LeO.refl _)
   | (with_reducible exact LeO.none _)
   | (with_reducible refine LeO.ite ?_ ?_)
   | (with_reducible refine LeO.bind ?_ (fun _ => ?_))
   | exact ih0 _ _ _ _ _ _ _ _ _
   | exact impl_goodIntents.mono _ _ _ _ _ _
   | exact impl_withItem.mono _ _ _ _ _ _ _ _ _ _ _ _
   | exact LeO.none _
   | refine LeO.ite ?_ ?_
   | refine LeO.bind ?_ (fun _ => ?_)
theorem impl_WorkOn.mono : ∀ a0 a1 a2 a3 a4 a5 a6 k, LeO (impl_WorkOn.f k a0 a1 a2 a3 a4 a5 a6) (impl_WorkOn.f (k + 1) a0 a1 a2 a3 a4 a5 a6) := by
 intro a0 a1 a2 a3 a4 a5 a6 k
 have ih0 := impl_WorkOn.mono_l k
 unfold impl_WorkOn.f
 repeat' first
   | (with_reducible exact ih0 _ _ _ _ _ _ _ _ _)
   | (with_reducible exact impl_goodIntents.mono _ _ _ _ _ _)
   | (with_reducible exact impl_withItem.mono _ _ _ _ _ _ _ _ _ _ _ _)
   | (with_reducible exact LeO.refl _)
   | (with_reducible exact LeO.none _)
   | (with_reducible refine LeO.ite ?_ ?_)
   | (with_reducible refine LeO.bind ?_ (fun _ => ?_))
   | exact ih0 _ _ _ _ _ _ _ _ _
   | exact impl_goodIntents.mono _ _ _ _ _ _
   | exact impl_withItem.mono _ _ _ _ _ _ _ _ _ _ _ _
   | exact LeO.none _
   | refine LeO.ite ?_ ?_
   | refine LeO.bind ?_ (fun _ => ?_)
set_option maxHeartbeats 8000000 in
set_option maxRecDepth 100000 in
theorem impl_WorkOn.calls (k : Nat) (a0_0 : Int) (A0_1 : Option Addr) (c0_1 : Nat) (l0_1 : List (S53)) (A0_2 : Option Addr) (c0_2 : Nat) (l0_2 : List (S53)) (a0_3 : Int) (A0_4 : Option Addr) (c0_4 : Nat) (l0_4 : List (S71)) (a1 : Int) (a2 : Int) (r1 : Int) (r2 : List (S53)) (r3 : List (S53)) (r4 : Int) (r5 : List (S71)) (r6 : Bool) (w : World) (hr0_1 : Kd.C k53 w A0_1 l0_1.length l0_1) (hc0_1 : l0_1.length ≤ c0_1) (hr0_2 : Kd.C k53 w A0_2 l0_2.length l0_2) (hc0_2 : l0_2.length ≤ c0_2) (hr0_4 : Kd.C k71 w A0_4 l0_4.length l0_4) (hc0_4 : l0_4.length ≤ c0_4) (h : impl_WorkOn.f k a0_0 l0_1 l0_2 a0_3 l0_4 a1 a2 = some (r1, r2, r3, r4, r5, r6)) :
  Calls Try.prog 29 #[.agg #[.int .i64 a0_0, .slice A0_1 l0_1.length c0_1, .slice A0_2 l0_2.length c0_2, .int .i64 a0_3, .slice A0_4 l0_4.length c0_4], .int .i64 a1, .int .i64 a2] w fun e w' => ∃ v1_ v2_ v4_ : Value, e = .returned (.tuple #[.agg #[.int .i64 r1, v1_, v2_, .int .i64 r4, v4_], .bool r6]) ∧ Kd.R k53 53 w' w.heap.size (fun k_ => some k_ ≠ (v2_ : Value).ownBlock) v1_ r2 ∧ Kd.R k53 53 w' w.heap.size (fun k_ => some k_ ≠ (v1_ : Value).ownBlock) v2_ r3 ∧ Kd.R k71 71 w' w.heap.size (fun _ => True) v4_ r5 ∧ Below w.heap.size w w' := by
 have hu27 := Try.underlying27
 have hu71 := Try.underlying71
 have HR0_1 := Ah hr0_1
 have HC0_1 := Ah hc0_1
 clear hr0_1 hc0_1
 have HR0_2 := Ah hr0_2
 have HC0_2 := Ah hc0_2
 clear hr0_2 hc0_2
 have HR0_4 := Ah hr0_4
 have HC0_4 := Ah hc0_4
 clear hr0_4 hc0_4
 have HB := Ah (Below.refl w.heap.size w)
 have H : ((impl_goodIntents.f k a0_0 l0_1 l0_2 a0_3 l0_4).bind fun bt445 => (if bt445.2 = true then ((impl_within.f a1 1 (bt445.1.length : Int)).bind fun t449 => (impl_WorkOn.j0 k a1 a2 bt445.1 (!t449) a0_0 l0_1 l0_2 a0_3 l0_4)) else (impl_WorkOn.j0 k a1 a2 bt445.1 true a0_0 l0_1 l0_2 a0_3 l0_4))) = some (r1, r2, r3, r4, r5, r6) := h
 clear h
 replace H := Option.bind_eq_some_iff.mp H
 obtain ⟨⟨t445, t448⟩, A40, H⟩ := H
 try dsimp only at H
 have A4 := Ah A40
 clear A40
 have HC5 := Ah H
 clear H
 go_enter Try.func29, Try.ntmps29
 go_upto_region 2 with (first | ((with_reducible refine gate_dst (N := 3) rfl ?_); (try (refine gate_guard (by rfl) ?_; dsimp only)); refine boxL 3 27 #[.int .i64 a0_0, .slice A0_1 l0_1.length c0_1, .slice A0_2 l0_2.length c0_2, .int .i64 a0_3, .slice A0_4 l0_4.length c0_4] ?_; intro gb443 hg w6 BK443 hb; have GW443 := gw hg (bs HB); have GE443 := gw hg (bs HB); replace HB := Ah (below_step (bs HB) hb); clear hb hg) | ((with_reducible refine gate_dst (N := 6) rfl ?_); (try (refine gate_guard (by rfl) ?_; dsimp only)); refine boxL 6 27 #[.int .i64 0, .slice none 0 0, .slice none 0 0, .int .i64 0, .slice none 0 0] ?_; intro gb444 hg w7 BK444 hb; have GW444 := gw hg (bs1 HB GE443); have GE444 := gw hg (bs1 HB GE443); replace HB := Ah (below_step (bs1 HB GE443) hb); have NB443_444 := nn BK443 hg; have NB444_443 := nm BK443 hg; replace BK443 := nb BK443 hb; clear hb hg; have hnb8 := NB443_444.out; have hnc8 := NB444_443.out; obtain ⟨hcz9_0, hcz9_1, hcz9_2, hcz9_3, hcz9_4⟩ := cz5 BK443; obtain ⟨hfz9_0, hfz9_1, hfz9_2, hfz9_3, hfz9_4⟩ := fz5 BK443) | ((with_reducible refine gate_callee (f := 43) rfl ?_); refine gL (some 14) rfl rfl Try.func43 (by kernel_rfl) rfl #[.agg #[.int .i64 a0_0, .slice A0_1 l0_1.length c0_1, .slice A0_2 l0_2.length c0_2, .int .i64 a0_3, .slice A0_4 l0_4.length c0_4]] rfl ?_; (with_reducible refine (impl_goodIntents.calls k a0_0 _ _ l0_1 _ _ l0_2 a0_3 _ _ l0_4 t445 t448 _ ?side1 ?side2 ?side3 ?side4 ?side5 ?side6 A4.out).mono ?_); (case side1 => exact cb HR0_1 HB); (case side2 => exact HC0_1.out); (case side3 => exact cb HR0_2 HB); (case side4 => exact HC0_2.out); (case side5 => exact cb HR0_4 HB); (case side6 => exact HC0_4.out); rintro e w10 ⟨v446, rfl, ho0, hb⟩; refine ⟨_, rfl, ?_⟩; have HO447 := Ah (Kd.R_lower ho0 (below_size (bs2 HB GE443 GE444))); replace BK443 := nb BK443 hb; replace BK444 := nb BK444 hb; replace HB := Ah (below_step (bs2 HB GE443 GE444) hb); (try clear hb ho0)))
 (try simp only [Act.put, List.setIfInBounds_toArray, List.set_cons_zero, List.set_cons_succ])
 go_cut [25] (fun v25 wc => ∃ (kq : Nat) (x25_4 : Bool), v25 = .bool x25_4 ∧ Aside0 (impl_WorkOn.j0 kq a1 a2 t445 x25_4 a0_0 l0_1 l0_2 a0_3 l0_4 = some (r1, r2, r3, r4, r5, r6)) ∧ Aside0 (kq ≤ k) ∧ Aside0 (Kd.R k71 71 wc w.heap.size (fun _ => True) v446 t445) ∧ Aside0 (wc.heap[gb443]? = some (.cells #[.int .i64 a0_0, (.slice A0_1 l0_1.length c0_1), (.slice A0_2 l0_2.length c0_2), .int .i64 a0_3, (.slice A0_4 l0_4.length c0_4)] 27 (0, 0))) ∧ Aside0 (wc.heap[gb444]? = some (.cells #[.int .i64 0, (.slice none 0 0), (.slice none 0 0), .int .i64 0, (.slice none 0 0)] 27 (0, 0))) ∧ Aside0 (Below w.heap.size w wc))
 case first =>
  have H := HC5.out
  clear HC5
  by_cases c11 : t448 = true
  rotate_left
  ·
   replace c11 := Bool.eq_false_iff.mpr c11
   subst c11
   rw [if_neg fne] at H
   have H' := Ah H
   clear H
   go_wp2
   go_meet
   case rel => exact ⟨_, (true), e3, H', ⟨by first | omega | exact Nat.le_refl _⟩, ⟨rr HO447.out⟩, ⟨bk BK443⟩, ⟨bk BK444⟩, ⟨bs2 HB GE443 GE444⟩⟩
  subst c11
  rw [if_pos rfl] at H
  replace H := Option.bind_eq_some_iff.mp H
  obtain ⟨t449, A120, H⟩ := H
  try dsimp only at H
  have A12 := Ah A120
  clear A120
  have H' := Ah H
  clear H
  obtain ⟨Ao13, co13, eo13⟩ := Kd.R_slice HO447.out
  subst eo13
  go_wp2_with (first | (go_at_call 32; (with_reducible refine (impl_within.calls a1 1 (t445.length : Int) t449 _ A12.out).mono ?_); rintro e w' ⟨rfl, ⟨nd, rfl⟩⟩))
  go_meet
  case rel => exact ⟨_, (!t449), e3, H', ⟨by first | omega | exact Nat.le_refl _⟩, ⟨rr HO447.out⟩, ⟨bk BK443⟩, ⟨bk BK444⟩, ⟨bs2 HB GE443 GE444⟩⟩
 case rest =>
  clear HC5
  try clear c1
  try clear c2
  try clear p2
  try clear c4
  try clear c8
  try clear c11
  try clear hcz9_0 hcz9_1 hcz9_2 hcz9_3 hcz9_4
  try clear hfz9_0 hfz9_1 hfz9_2 hfz9_3 hfz9_4
  obtain ⟨kq, x25_4, rfl, HA, HJ4, HO_8, BK443, BK444, HB⟩ := hcut
  cases kq with
  | zero => exact absurd HA.out (by simp [impl_WorkOn.j0])
  | succ kj4 =>
   have H := HA.out
   clear HA
   simp only [impl_WorkOn.j0] at H
   by_cases c14 : x25_4 = true
   ·
    subst c14
    rw [if_pos rfl] at H
    simp only [Option.some.injEq, Prod.mk.injEq] at H
    obtain ⟨rfl, rfl, rfl, rfl, rfl, rfl⟩ := H
    have hnb15 := NB444_443.out
    have hnc15 := NB443_444.out
    obtain ⟨hcz16_0, hcz16_1, hcz16_2, hcz16_3, hcz16_4⟩ := cz5 BK444
    obtain ⟨hfz16_0, hfz16_1, hfz16_2, hfz16_3, hfz16_4⟩ := fz5 BK444
    go_wp2
    refine bodyPost_ret (results_ct rfl _ _ gb444 27 #[.int .i64 0, .slice none 0 0, .slice none 0 0, .int .i64 0, .slice none 0 0] (0, 0) _ rfl (by (with_reducible repeat (first | refine blk_drewN ?_ _ | refine blk_drew ?_ | refine blk_alloc ?_ _)); refine blk_put (cs := #[.int .i64 0, .slice none 0 0, .slice none 0 0, .int .i64 0, .slice none 0 0]) ?_ 4 _ rfl; (with_reducible repeat (first | refine blk_drewN ?_ _ | refine blk_drew ?_ | refine blk_alloc ?_ _)); refine blk_put (cs := #[.int .i64 0, .slice none 0 0, .slice none 0 0, .int .i64 0, .slice none 0 0]) ?_ 3 _ rfl; (with_reducible repeat (first | refine blk_drewN ?_ _ | refine blk_drew ?_ | refine blk_alloc ?_ _)); refine blk_put (cs := #[.int .i64 0, .slice none 0 0, .slice none 0 0, .int .i64 0, .slice none 0 0]) ?_ 2 _ rfl; (with_reducible repeat (first | refine blk_drewN ?_ _ | refine blk_drew ?_ | refine blk_alloc ?_ _)); refine blk_put (cs := #[.int .i64 0, .slice none 0 0, .slice none 0 0, .int .i64 0, .slice none 0 0]) ?_ 1 _ rfl; (with_reducible repeat (first | refine blk_drewN ?_ _ | refine blk_drew ?_ | refine blk_alloc ?_ _)); refine blk_put (cs := #[.int .i64 0, .slice none 0 0, .slice none 0 0, .int .i64 0, .slice none 0 0]) ?_ 0 _ rfl; (with_reducible repeat (first | refine blk_drewN ?_ _ | refine blk_drew ?_ | refine blk_alloc ?_ _)); exact BK444.out) Try.underlying27 rfl (by kernel_rfl)) rfl ?_
    exact ⟨_, _, _, er, by first | exact Kd.R_nil _ _ _ _ _ | exact Kd.N_nil _ _ _ _ _ | exact Kd.V_nil _ _ _ _ _ | exact Kd.Q_nil _ _ _ _ _ | exact Kd.S_nil _ _ _ _ _, by first | exact Kd.R_nil _ _ _ _ _ | exact Kd.N_nil _ _ _ _ _ | exact Kd.V_nil _ _ _ _ _ | exact Kd.Q_nil _ _ _ _ _ | exact Kd.S_nil _ _ _ _ _, by first | exact Kd.R_nil _ _ _ _ _ | exact Kd.N_nil _ _ _ _ _ | exact Kd.V_nil _ _ _ _ _ | exact Kd.Q_nil _ _ _ _ _ | exact Kd.S_nil _ _ _ _ _, bs2 HB GE443 GE444⟩
   replace c14 := Bool.eq_false_iff.mpr c14
   subst c14
   rw [if_neg fne] at H
   obtain ⟨ji17, hji17⟩ : ∃ j_ : Int, (wrap64 (a1 - 1)) = j_ := ⟨_, rfl⟩
   replace H : (if 0 ≤ (ji17) then (if (ji17) < (t445.length : Int) then (if (wrap64 (((rd_T71 t445 (ji17)).f2.f1) - ((rd_T71 t445 (ji17)).f3))) = 0 then (some (0, ([] : List (S53)), ([] : List (S53)), 0, ([] : List (S71)), false)) else (if a2 < 1 then (some (0, ([] : List (S53)), ([] : List (S53)), 0, ([] : List (S71)), false)) else ((impl_withItem.f kj4 a0_0 l0_1 l0_2 a0_3 l0_4 2 a1 0 0 (wrap64 (((rd_T71 t445 (ji17)).f3) + (mn a2 (wrap64 (((rd_T71 t445 (ji17)).f2.f1) - ((rd_T71 t445 (ji17)).f3)))))) a0_3).bind fun bt452 => (some (bt452.1, bt452.2.1, bt452.2.2.1, bt452.2.2.2.1, bt452.2.2.2.2.1, bt452.2.2.2.2.2))))) else (none)) else (none)) = some (r1, r2, r3, r4, r5, r6) := by first | (rw [hji17] at H; exact H) | (simp only [hji17] at H ⊢; exact H)
   have hji17w : (IntKind.i64.wrap (a1 - 1)) = ji17 := (i64_w _).trans hji17
   by_cases c18 : 0 ≤ (ji17)
   rotate_left
   ·
    rw [if_neg c18] at H
    exact absurd H (by simp)
   rw [if_pos c18] at H
   have c18b0 : decide (0 ≤ (ji17)) = true := decide_eq_true c18
   clear c18
   by_cases c19 : (ji17) < (t445.length : Int)
   rotate_left
   ·
    rw [if_neg c19] at H
    exact absurd H (by simp)
   rw [if_pos c19] at H
   have c19b0 : decide ((ji17) < (t445.length : Int)) = true := decide_eq_true c19
   clear c19
   by_cases c20 : (wrap64 (((rd_T71 t445 (ji17)).f2.f1) - ((rd_T71 t445 (ji17)).f3))) = 0
   ·
    rw [if_pos c20] at H
    have c20b0 : ((wrap64 (((rd_T71 t445 (ji17)).f2.f1) - ((rd_T71 t445 (ji17)).f3))) == 0) = true := beq_iff_eq.mpr c20
    have c20b1 : ((wrap64 (((rd_T71 t445 (ji17)).f2.f1) - ((rd_T71 t445 (ji17)).f3))) != 0) = false := bne_eq_false_iff_eq.mpr c20
    clear c20
    simp only [Option.some.injEq, Prod.mk.injEq] at H
    obtain ⟨rfl, rfl, rfl, rfl, rfl, rfl⟩ := H
    obtain ⟨Ao21, co21, eo21⟩ := Kd.R_slice HO_8.out
    subst eo21
    have p450 : 0 ≤ ((ji17) : Int) := od
    have q450 : (ji17) < (t445.length : Int) := od
    obtain ⟨ad450, e450, hx450_0, hx450_1, hx450_2, hx450_3, hx450_4⟩ := at_T71 (Kd.R_reads' HO_8.out).2.2 (ji17) p450 q450
    cases e450
    replace p450 := eq_true p450
    replace q450 := eq_true q450
    go_wp2_with (first | ((with_reducible refine gate_dst (N := 10) rfl ?_); (try (refine gate_guard (by rfl) ?_; dsimp only)); refine boxL 10 71 #[.int .i64 0, .int .i64 0, .int .i64 0, .int .i64 0, .int .i64 0] ?_; intro gb451 hg w22 BK451 hb; replace HO_8 := Ah (Kd.R_below (Kd.R_elderB (rr HO_8.out) gb451 (Nat.le_of_eq hg.symm)) hb); have GW451 := gw hg (bs2 HB GE443 GE444); have GE451 := gw hg (bs2 HB GE443 GE444); replace HB := Ah (below_step (bs2 HB GE443 GE444) hb); have NB443_451 := nn BK443 hg; have NB451_443 := nm BK443 hg; replace BK443 := nb BK443 hb; have NB444_451 := nn BK444 hg; have NB451_444 := nm BK444 hg; replace BK444 := nb BK444 hb; clear hb hg; have hnb23 := NB451_443.out; have hnc23 := NB443_451.out; have hnb24 := NB451_444.out; have hnc24 := NB444_451.out; obtain ⟨hcz25_0, hcz25_1, hcz25_2, hcz25_3, hcz25_4⟩ := cz5 BK451; obtain ⟨hfz25_0, hfz25_1, hfz25_2, hfz25_3, hfz25_4⟩ := fz5 BK451; have hnb26 := NB444_443.out; have hnc26 := NB443_444.out; obtain ⟨hcz27_0, hcz27_1, hcz27_2, hcz27_3, hcz27_4⟩ := cz5 BK444; obtain ⟨hfz27_0, hfz27_1, hfz27_2, hfz27_3, hfz27_4⟩ := fz5 BK444))
    refine bodyPost_ret (results_ct rfl _ _ gb444 27 #[.int .i64 0, .slice none 0 0, .slice none 0 0, .int .i64 0, .slice none 0 0] (0, 0) _ rfl (by (with_reducible repeat (first | refine blk_drewN ?_ _ | refine blk_drew ?_ | refine blk_alloc ?_ _)); refine blk_put (cs := #[.int .i64 0, .slice none 0 0, .slice none 0 0, .int .i64 0, .slice none 0 0]) ?_ 4 _ rfl; (with_reducible repeat (first | refine blk_drewN ?_ _ | refine blk_drew ?_ | refine blk_alloc ?_ _)); refine blk_put (cs := #[.int .i64 0, .slice none 0 0, .slice none 0 0, .int .i64 0, .slice none 0 0]) ?_ 3 _ rfl; (with_reducible repeat (first | refine blk_drewN ?_ _ | refine blk_drew ?_ | refine blk_alloc ?_ _)); refine blk_put (cs := #[.int .i64 0, .slice none 0 0, .slice none 0 0, .int .i64 0, .slice none 0 0]) ?_ 2 _ rfl; (with_reducible repeat (first | refine blk_drewN ?_ _ | refine blk_drew ?_ | refine blk_alloc ?_ _)); refine blk_put (cs := #[.int .i64 0, .slice none 0 0, .slice none 0 0, .int .i64 0, .slice none 0 0]) ?_ 1 _ rfl; (with_reducible repeat (first | refine blk_drewN ?_ _ | refine blk_drew ?_ | refine blk_alloc ?_ _)); refine blk_put (cs := #[.int .i64 0, .slice none 0 0, .slice none 0 0, .int .i64 0, .slice none 0 0]) ?_ 0 _ rfl; (with_reducible repeat (first | refine blk_drewN ?_ _ | refine blk_drew ?_ | refine blk_alloc ?_ _)); refine blk_far ?_ NB444_451.out _; (with_reducible repeat (first | refine blk_drewN ?_ _ | refine blk_drew ?_ | refine blk_alloc ?_ _)); refine blk_far ?_ NB444_451.out _; (with_reducible repeat (first | refine blk_drewN ?_ _ | refine blk_drew ?_ | refine blk_alloc ?_ _)); refine blk_far ?_ NB444_451.out _; (with_reducible repeat (first | refine blk_drewN ?_ _ | refine blk_drew ?_ | refine blk_alloc ?_ _)); refine blk_far ?_ NB444_451.out _; (with_reducible repeat (first | refine blk_drewN ?_ _ | refine blk_drew ?_ | refine blk_alloc ?_ _)); refine blk_far ?_ NB444_451.out _; (with_reducible repeat (first | refine blk_drewN ?_ _ | refine blk_drew ?_ | refine blk_alloc ?_ _)); exact BK444.out) Try.underlying27 rfl (by kernel_rfl)) rfl ?_
    exact ⟨_, _, _, by first | rfl | (simp [errW_none, errW_some] <;> rfl) | (simp only [← hji17]; first | rfl | (simp [errW_none, errW_some] <;> rfl)) | (simp [*, errW_none, errW_some] <;> rfl), by first | exact Kd.R_nil _ _ _ _ _ | exact Kd.N_nil _ _ _ _ _ | exact Kd.V_nil _ _ _ _ _ | exact Kd.Q_nil _ _ _ _ _ | exact Kd.S_nil _ _ _ _ _, by first | exact Kd.R_nil _ _ _ _ _ | exact Kd.N_nil _ _ _ _ _ | exact Kd.V_nil _ _ _ _ _ | exact Kd.Q_nil _ _ _ _ _ | exact Kd.S_nil _ _ _ _ _, by first | exact Kd.R_nil _ _ _ _ _ | exact Kd.N_nil _ _ _ _ _ | exact Kd.V_nil _ _ _ _ _ | exact Kd.Q_nil _ _ _ _ _ | exact Kd.S_nil _ _ _ _ _, bs3 HB GE443 GE444 GE451⟩
   rw [if_neg c20] at H
   have c20b0 : ((wrap64 (((rd_T71 t445 (ji17)).f2.f1) - ((rd_T71 t445 (ji17)).f3))) == 0) = false := beq_eq_false_iff_ne.mpr c20
   have c20b1 : ((wrap64 (((rd_T71 t445 (ji17)).f2.f1) - ((rd_T71 t445 (ji17)).f3))) != 0) = true := bne_iff_ne.mpr c20
   by_cases c28 : a2 < 1
   ·
    rw [if_pos c28] at H
    have c28b0 : decide (a2 < 1) = true := decide_eq_true c28
    clear c28
    simp only [Option.some.injEq, Prod.mk.injEq] at H
    obtain ⟨rfl, rfl, rfl, rfl, rfl, rfl⟩ := H
    obtain ⟨Ao29, co29, eo29⟩ := Kd.R_slice HO_8.out
    subst eo29
    have p450 : 0 ≤ ((ji17) : Int) := od
    have q450 : (ji17) < (t445.length : Int) := od
    obtain ⟨ad450, e450, hx450_0, hx450_1, hx450_2, hx450_3, hx450_4⟩ := at_T71 (Kd.R_reads' HO_8.out).2.2 (ji17) p450 q450
    cases e450
    replace p450 := eq_true p450
    replace q450 := eq_true q450
    go_wp2_with (first | ((with_reducible refine gate_dst (N := 10) rfl ?_); (try (refine gate_guard (by rfl) ?_; dsimp only)); refine boxL 10 71 #[.int .i64 0, .int .i64 0, .int .i64 0, .int .i64 0, .int .i64 0] ?_; intro gb451 hg w30 BK451 hb; replace HO_8 := Ah (Kd.R_below (Kd.R_elderB (rr HO_8.out) gb451 (Nat.le_of_eq hg.symm)) hb); have GW451 := gw hg (bs2 HB GE443 GE444); have GE451 := gw hg (bs2 HB GE443 GE444); replace HB := Ah (below_step (bs2 HB GE443 GE444) hb); have NB443_451 := nn BK443 hg; have NB451_443 := nm BK443 hg; replace BK443 := nb BK443 hb; have NB444_451 := nn BK444 hg; have NB451_444 := nm BK444 hg; replace BK444 := nb BK444 hb; clear hb hg; have hnb31 := NB451_443.out; have hnc31 := NB443_451.out; have hnb32 := NB451_444.out; have hnc32 := NB444_451.out; obtain ⟨hcz33_0, hcz33_1, hcz33_2, hcz33_3, hcz33_4⟩ := cz5 BK451; obtain ⟨hfz33_0, hfz33_1, hfz33_2, hfz33_3, hfz33_4⟩ := fz5 BK451; have hnb34 := NB444_443.out; have hnc34 := NB443_444.out; obtain ⟨hcz35_0, hcz35_1, hcz35_2, hcz35_3, hcz35_4⟩ := cz5 BK444; obtain ⟨hfz35_0, hfz35_1, hfz35_2, hfz35_3, hfz35_4⟩ := fz5 BK444))
    refine bodyPost_ret (results_ct rfl _ _ gb444 27 #[.int .i64 0, .slice none 0 0, .slice none 0 0, .int .i64 0, .slice none 0 0] (0, 0) _ rfl (by (with_reducible repeat (first | refine blk_drewN ?_ _ | refine blk_drew ?_ | refine blk_alloc ?_ _)); refine blk_put (cs := #[.int .i64 0, .slice none 0 0, .slice none 0 0, .int .i64 0, .slice none 0 0]) ?_ 4 _ rfl; (with_reducible repeat (first | refine blk_drewN ?_ _ | refine blk_drew ?_ | refine blk_alloc ?_ _)); refine blk_put (cs := #[.int .i64 0, .slice none 0 0, .slice none 0 0, .int .i64 0, .slice none 0 0]) ?_ 3 _ rfl; (with_reducible repeat (first | refine blk_drewN ?_ _ | refine blk_drew ?_ | refine blk_alloc ?_ _)); refine blk_put (cs := #[.int .i64 0, .slice none 0 0, .slice none 0 0, .int .i64 0, .slice none 0 0]) ?_ 2 _ rfl; (with_reducible repeat (first | refine blk_drewN ?_ _ | refine blk_drew ?_ | refine blk_alloc ?_ _)); refine blk_put (cs := #[.int .i64 0, .slice none 0 0, .slice none 0 0, .int .i64 0, .slice none 0 0]) ?_ 1 _ rfl; (with_reducible repeat (first | refine blk_drewN ?_ _ | refine blk_drew ?_ | refine blk_alloc ?_ _)); refine blk_put (cs := #[.int .i64 0, .slice none 0 0, .slice none 0 0, .int .i64 0, .slice none 0 0]) ?_ 0 _ rfl; (with_reducible repeat (first | refine blk_drewN ?_ _ | refine blk_drew ?_ | refine blk_alloc ?_ _)); refine blk_far ?_ NB444_451.out _; (with_reducible repeat (first | refine blk_drewN ?_ _ | refine blk_drew ?_ | refine blk_alloc ?_ _)); refine blk_far ?_ NB444_451.out _; (with_reducible repeat (first | refine blk_drewN ?_ _ | refine blk_drew ?_ | refine blk_alloc ?_ _)); refine blk_far ?_ NB444_451.out _; (with_reducible repeat (first | refine blk_drewN ?_ _ | refine blk_drew ?_ | refine blk_alloc ?_ _)); refine blk_far ?_ NB444_451.out _; (with_reducible repeat (first | refine blk_drewN ?_ _ | refine blk_drew ?_ | refine blk_alloc ?_ _)); refine blk_far ?_ NB444_451.out _; (with_reducible repeat (first | refine blk_drewN ?_ _ | refine blk_drew ?_ | refine blk_alloc ?_ _)); exact BK444.out) Try.underlying27 rfl (by kernel_rfl)) rfl ?_
    exact ⟨_, _, _, by first | rfl | (simp [errW_none, errW_some] <;> rfl) | (simp only [← hji17]; first | rfl | (simp [errW_none, errW_some] <;> rfl)) | (simp [*, errW_none, errW_some] <;> rfl), by first | exact Kd.R_nil _ _ _ _ _ | exact Kd.N_nil _ _ _ _ _ | exact Kd.V_nil _ _ _ _ _ | exact Kd.Q_nil _ _ _ _ _ | exact Kd.S_nil _ _ _ _ _, by first | exact Kd.R_nil _ _ _ _ _ | exact Kd.N_nil _ _ _ _ _ | exact Kd.V_nil _ _ _ _ _ | exact Kd.Q_nil _ _ _ _ _ | exact Kd.S_nil _ _ _ _ _, by first | exact Kd.R_nil _ _ _ _ _ | exact Kd.N_nil _ _ _ _ _ | exact Kd.V_nil _ _ _ _ _ | exact Kd.Q_nil _ _ _ _ _ | exact Kd.S_nil _ _ _ _ _, bs3 HB GE443 GE444 GE451⟩
   rw [if_neg c28] at H
   have c28b0 : decide (a2 < 1) = false := decide_eq_false c28
   clear c28
   obtain ⟨ji36, hji36⟩ : ∃ j_ : Int, (mn a2 (wrap64 (((rd_T71 t445 (ji17)).f2.f1) - ((rd_T71 t445 (ji17)).f3)))) = j_ := ⟨_, rfl⟩
   replace H : ((impl_withItem.f kj4 a0_0 l0_1 l0_2 a0_3 l0_4 2 a1 0 0 (wrap64 (((rd_T71 t445 (ji17)).f3) + (ji36))) a0_3).bind fun bt452 => (some (bt452.1, bt452.2.1, bt452.2.2.1, bt452.2.2.2.1, bt452.2.2.2.2.1, bt452.2.2.2.2.2))) = some (r1, r2, r3, r4, r5, r6) := by first | (rw [hji36] at H; exact H) | (simp only [hji36] at H ⊢; exact H)
   have hji36_ : (if (wrap64 (((rd_T71 t445 (ji17)).f2.f1) - ((rd_T71 t445 (ji17)).f3))) < a2 then (wrap64 (((rd_T71 t445 (ji17)).f2.f1) - ((rd_T71 t445 (ji17)).f3))) else a2) = ji36 := hji36
   replace H := Option.bind_eq_some_iff.mp H
   obtain ⟨⟨t452, t453, t456, t459, t460, t463⟩, A370, H⟩ := H
   try dsimp only at H
   have A37 := Ah A370
   clear A370
   simp only [Option.some.injEq, Prod.mk.injEq] at H
   obtain ⟨rfl, rfl, rfl, rfl, rfl, rfl⟩ := H
   obtain ⟨Ao38, co38, eo38⟩ := Kd.R_slice HO_8.out
   subst eo38
   have p450 : 0 ≤ ((ji17) : Int) := od
   have q450 : (ji17) < (t445.length : Int) := od
   obtain ⟨ad450, e450, hx450_0, hx450_1, hx450_2, hx450_3, hx450_4⟩ := at_T71 (Kd.R_reads' HO_8.out).2.2 (ji17) p450 q450
   cases e450
   replace p450 := eq_true p450
   replace q450 := eq_true q450
   go_wp2_with (first | ((with_reducible refine gate_dst (N := 10) rfl ?_); (try (refine gate_guard (by rfl) ?_; dsimp only)); refine boxL 10 71 #[.int .i64 0, .int .i64 0, .int .i64 0, .int .i64 0, .int .i64 0] ?_; intro gb451 hg w39 BK451 hb; replace HO_8 := Ah (Kd.R_below (Kd.R_elderB (rr HO_8.out) gb451 (Nat.le_of_eq hg.symm)) hb); have GW451 := gw hg (bs2 HB GE443 GE444); have GE451 := gw hg (bs2 HB GE443 GE444); replace HB := Ah (below_step (bs2 HB GE443 GE444) hb); have NB443_451 := nn BK443 hg; have NB451_443 := nm BK443 hg; replace BK443 := nb BK443 hb; have NB444_451 := nn BK444 hg; have NB451_444 := nm BK444 hg; replace BK444 := nb BK444 hb; clear hb hg; have hnb40 := NB451_443.out; have hnc40 := NB443_451.out; have hnb41 := NB451_444.out; have hnc41 := NB444_451.out; obtain ⟨hcz42_0, hcz42_1, hcz42_2, hcz42_3, hcz42_4⟩ := cz5 BK451; obtain ⟨hfz42_0, hfz42_1, hfz42_2, hfz42_3, hfz42_4⟩ := fz5 BK451; have hnb43 := NB443_444.out; have hnc43 := NB444_443.out; obtain ⟨hcz44_0, hcz44_1, hcz44_2, hcz44_3, hcz44_4⟩ := cz5 BK443; obtain ⟨hfz44_0, hfz44_1, hfz44_2, hfz44_3, hfz44_4⟩ := fz5 BK443) | ((with_reducible refine gate_callee (f := 49) rfl ?_); refine goesL_ (some 56) rfl rfl Try.func49 (by kernel_rfl) rfl #[.agg #[.int .i64 a0_0, .slice A0_1 l0_1.length c0_1, .slice A0_2 l0_2.length c0_2, .int .i64 a0_3, .slice A0_4 l0_4.length c0_4], .agg #[.int .i64 2, .int .i64 a1, .int .i64 0, .int .i64 0, .int .i64 (wrap64 (((rd_T71 t445 (ji17)).f3) + (ji36)))], .int .i64 a0_3] rfl (by (try simp only [List.map_toArray, List.map_cons, List.map_nil]); first | done | (simp only [hji17, hji36]; rfl) | rfl | (simp only [List.length_drop, List.length_take]; rfl)) ?_; (with_reducible refine (impl_withItem.calls kj4 a0_0 _ _ l0_1 _ _ l0_2 a0_3 _ _ l0_4 2 a1 0 0 (wrap64 (((rd_T71 t445 (ji17)).f3) + (ji36))) a0_3 t452 t453 t456 t459 t460 t463 _ ?side1 ?side2 ?side3 ?side4 ?side5 ?side6 A37.out).mono ?_); (case side1 => exact Kd.C_below HR0_1.out (bs3 HB GE443 GE444 GE451)); (case side2 => exact HC0_1.out); (case side3 => exact Kd.C_below HR0_2.out (bs3 HB GE443 GE444 GE451)); (case side4 => exact HC0_2.out); (case side5 => exact Kd.C_below HR0_4.out (bs3 HB GE443 GE444 GE451)); (case side6 => exact HC0_4.out); rintro e w45 ⟨v454, v457, v461, rfl, ho0, ho1, ho2, hb⟩; refine ⟨_, rfl, ?_⟩; have HO455 := Ah (Kd.R_lower ho0 (below_size (bs3 HB GE443 GE444 GE451))); have HO458 := Ah (Kd.R_lower ho1 (below_size (bs3 HB GE443 GE444 GE451))); have HO462 := Ah (Kd.R_lower (Kd.R_newB (Kd.R_new' ho2 (Kd.R_lt (by (with_reducible repeat (first | apply Kd.R_alloc | apply Kd.R_drewN | apply Kd.R_drew)); exact (Kd.R_mono (Kd.R_far (p := ⟨gb451, 4, none⟩) (Kd.R_far (p := ⟨gb451, 3, none⟩) (Kd.R_far (p := ⟨gb451, 2, none⟩) (Kd.R_far (p := ⟨gb451, 1, none⟩) (Kd.R_far (p := ⟨gb451, 0, none⟩) (Kd.R_mono HO_8.out (fun k_ hk => (⟨hk, hk.2⟩ : _ ∧ k_ ≠ gb451))) (fun _ hk => hk.2) (.int .i64 ((rd_T71 t445 (ji17)).f0))) (fun _ hk => hk.2) (.int .i64 ((rd_T71 t445 (ji17)).f1))) (fun _ hk => hk.2) (.int .i64 ((rd_T71 t445 (ji17)).f2.f0))) (fun _ hk => hk.2) (.int .i64 ((rd_T71 t445 (ji17)).f2.f1))) (fun _ hk => hk.2) (.int .i64 ((rd_T71 t445 (ji17)).f3))) (fun _ h_ => h_.1))))) (g := gb451) (o := .cells #[.int .i64 ((rd_T71 t445 (ji17)).f0), .int .i64 ((rd_T71 t445 (ji17)).f1), .int .i64 ((rd_T71 t445 (ji17)).f2.f0), .int .i64 ((rd_T71 t445 (ji17)).f2.f1), .int .i64 ((rd_T71 t445 (ji17)).f3)] 71 (0, 0)) (by (with_reducible repeat (first | refine blk_drewN ?_ _ | refine blk_drew ?_ | refine blk_alloc ?_ _)); refine blk_put (cs := #[.int .i64 ((rd_T71 t445 (ji17)).f0), .int .i64 ((rd_T71 t445 (ji17)).f1), .int .i64 ((rd_T71 t445 (ji17)).f2.f0), .int .i64 ((rd_T71 t445 (ji17)).f2.f1), .int .i64 0]) ?_ 4 _ rfl; (with_reducible repeat (first | refine blk_drewN ?_ _ | refine blk_drew ?_ | refine blk_alloc ?_ _)); refine blk_put (cs := #[.int .i64 ((rd_T71 t445 (ji17)).f0), .int .i64 ((rd_T71 t445 (ji17)).f1), .int .i64 ((rd_T71 t445 (ji17)).f2.f0), .int .i64 0, .int .i64 0]) ?_ 3 _ rfl; (with_reducible repeat (first | refine blk_drewN ?_ _ | refine blk_drew ?_ | refine blk_alloc ?_ _)); refine blk_put (cs := #[.int .i64 ((rd_T71 t445 (ji17)).f0), .int .i64 ((rd_T71 t445 (ji17)).f1), .int .i64 0, .int .i64 0, .int .i64 0]) ?_ 2 _ rfl; (with_reducible repeat (first | refine blk_drewN ?_ _ | refine blk_drew ?_ | refine blk_alloc ?_ _)); refine blk_put (cs := #[.int .i64 ((rd_T71 t445 (ji17)).f0), .int .i64 0, .int .i64 0, .int .i64 0, .int .i64 0]) ?_ 1 _ rfl; (with_reducible repeat (first | refine blk_drewN ?_ _ | refine blk_drew ?_ | refine blk_alloc ?_ _)); refine blk_put (cs := #[.int .i64 0, .int .i64 0, .int .i64 0, .int .i64 0, .int .i64 0]) ?_ 0 _ rfl; (with_reducible repeat (first | refine blk_drewN ?_ _ | refine blk_drew ?_ | refine blk_alloc ?_ _)); exact BK451.out)) (below_size (bs3 HB GE443 GE444 GE451))); replace HO_8 := Ah (Kd.R_elder' (by (with_reducible repeat (first | apply Kd.R_alloc | apply Kd.R_drewN | apply Kd.R_drew)); exact (Kd.R_mono (Kd.R_far (p := ⟨gb451, 4, none⟩) (Kd.R_far (p := ⟨gb451, 3, none⟩) (Kd.R_far (p := ⟨gb451, 2, none⟩) (Kd.R_far (p := ⟨gb451, 1, none⟩) (Kd.R_far (p := ⟨gb451, 0, none⟩) (Kd.R_mono HO_8.out (fun k_ hk => (⟨hk, hk.2⟩ : _ ∧ k_ ≠ gb451))) (fun _ hk => hk.2) (.int .i64 ((rd_T71 t445 (ji17)).f0))) (fun _ hk => hk.2) (.int .i64 ((rd_T71 t445 (ji17)).f1))) (fun _ hk => hk.2) (.int .i64 ((rd_T71 t445 (ji17)).f2.f0))) (fun _ hk => hk.2) (.int .i64 ((rd_T71 t445 (ji17)).f2.f1))) (fun _ hk => hk.2) (.int .i64 ((rd_T71 t445 (ji17)).f3))) (fun _ h_ => h_.1))) (Kd.R_base ho2) hb); replace BK443 := Ah (blk_below (bf BK443 NB443_451) hb); replace BK444 := Ah (blk_below (bf BK444 NB444_451) hb); replace BK451 := Ah (blk_below (g := gb451) (o := .cells #[.int .i64 ((rd_T71 t445 (ji17)).f0), .int .i64 ((rd_T71 t445 (ji17)).f1), .int .i64 ((rd_T71 t445 (ji17)).f2.f0), .int .i64 ((rd_T71 t445 (ji17)).f2.f1), .int .i64 ((rd_T71 t445 (ji17)).f3)] 71 (0, 0)) (by (with_reducible repeat (first | refine blk_drewN ?_ _ | refine blk_drew ?_ | refine blk_alloc ?_ _)); refine blk_put (cs := #[.int .i64 ((rd_T71 t445 (ji17)).f0), .int .i64 ((rd_T71 t445 (ji17)).f1), .int .i64 ((rd_T71 t445 (ji17)).f2.f0), .int .i64 ((rd_T71 t445 (ji17)).f2.f1), .int .i64 0]) ?_ 4 _ rfl; (with_reducible repeat (first | refine blk_drewN ?_ _ | refine blk_drew ?_ | refine blk_alloc ?_ _)); refine blk_put (cs := #[.int .i64 ((rd_T71 t445 (ji17)).f0), .int .i64 ((rd_T71 t445 (ji17)).f1), .int .i64 ((rd_T71 t445 (ji17)).f2.f0), .int .i64 0, .int .i64 0]) ?_ 3 _ rfl; (with_reducible repeat (first | refine blk_drewN ?_ _ | refine blk_drew ?_ | refine blk_alloc ?_ _)); refine blk_put (cs := #[.int .i64 ((rd_T71 t445 (ji17)).f0), .int .i64 ((rd_T71 t445 (ji17)).f1), .int .i64 0, .int .i64 0, .int .i64 0]) ?_ 2 _ rfl; (with_reducible repeat (first | refine blk_drewN ?_ _ | refine blk_drew ?_ | refine blk_alloc ?_ _)); refine blk_put (cs := #[.int .i64 ((rd_T71 t445 (ji17)).f0), .int .i64 0, .int .i64 0, .int .i64 0, .int .i64 0]) ?_ 1 _ rfl; (with_reducible repeat (first | refine blk_drewN ?_ _ | refine blk_drew ?_ | refine blk_alloc ?_ _)); refine blk_put (cs := #[.int .i64 0, .int .i64 0, .int .i64 0, .int .i64 0, .int .i64 0]) ?_ 0 _ rfl; (with_reducible repeat (first | refine blk_drewN ?_ _ | refine blk_drew ?_ | refine blk_alloc ?_ _)); exact BK451.out) hb); replace HB := Ah (below_step (bs3 HB GE443 GE444 GE451) hb); (try clear hb hk ho0 ho1 ho2); obtain ⟨hcz46_0, hcz46_1, hcz46_2, hcz46_3, hcz46_4⟩ := cz5 BK444; obtain ⟨hfz46_0, hfz46_1, hfz46_2, hfz46_3, hfz46_4⟩ := fz5 BK444; obtain ⟨Ao47, co47, eo47⟩ := Kd.R_slice HO455.out; subst eo47; obtain ⟨Ao48, co48, eo48⟩ := Kd.R_slice HO458.out; subst eo48; obtain ⟨Ao49, co49, eo49⟩ := Kd.R_slice HO462.out; subst eo49))
   refine bodyPost_ret (results_ct rfl _ _ gb444 27 #[.int .i64 t452, .slice Ao47 t453.length co47, .slice Ao48 t456.length co48, .int .i64 t459, .slice Ao49 t460.length co49] (0, 0) _ rfl (by (with_reducible repeat (first | refine blk_drewN ?_ _ | refine blk_drew ?_ | refine blk_alloc ?_ _)); refine blk_put (cs := #[.int .i64 t452, .slice Ao47 t453.length co47, .slice Ao48 t456.length co48, .int .i64 t459, .slice none 0 0]) ?_ 4 _ rfl; (with_reducible repeat (first | refine blk_drewN ?_ _ | refine blk_drew ?_ | refine blk_alloc ?_ _)); refine blk_put (cs := #[.int .i64 t452, .slice Ao47 t453.length co47, .slice Ao48 t456.length co48, .int .i64 0, .slice none 0 0]) ?_ 3 _ rfl; (with_reducible repeat (first | refine blk_drewN ?_ _ | refine blk_drew ?_ | refine blk_alloc ?_ _)); refine blk_put (cs := #[.int .i64 t452, .slice Ao47 t453.length co47, .slice none 0 0, .int .i64 0, .slice none 0 0]) ?_ 2 _ rfl; (with_reducible repeat (first | refine blk_drewN ?_ _ | refine blk_drew ?_ | refine blk_alloc ?_ _)); refine blk_put (cs := #[.int .i64 t452, .slice none 0 0, .slice none 0 0, .int .i64 0, .slice none 0 0]) ?_ 1 _ rfl; (with_reducible repeat (first | refine blk_drewN ?_ _ | refine blk_drew ?_ | refine blk_alloc ?_ _)); refine blk_put (cs := #[.int .i64 0, .slice none 0 0, .slice none 0 0, .int .i64 0, .slice none 0 0]) ?_ 0 _ rfl; (with_reducible repeat (first | refine blk_drewN ?_ _ | refine blk_drew ?_ | refine blk_alloc ?_ _)); exact BK444.out) Try.underlying27 rfl (by kernel_rfl)) rfl ?_
   exact ⟨_, _, _, by first | rfl | (simp [errW_none, errW_some] <;> rfl) | (simp only [← hji17, ← hji36]; first | rfl | (simp [errW_none, errW_some] <;> rfl)) | (simp [*, errW_none, errW_some] <;> rfl), by (with_reducible repeat (first | apply Kd.R_alloc | apply Kd.R_drewN | apply Kd.R_drew)); exact Kd.R_mono (Kd.R_far (p := ⟨gb444, 4, none⟩) (Kd.R_far (p := ⟨gb444, 3, none⟩) (Kd.R_far (p := ⟨gb444, 2, none⟩) (Kd.R_far (p := ⟨gb444, 1, none⟩) (Kd.R_far (p := ⟨gb444, 0, none⟩) (Kd.R_types HO455.out BK444.out (by decide)) (fun _ hk => hk.2) (.int .i64 t452)) (fun _ hk => hk.2) (.slice Ao47 t453.length co47)) (fun _ hk => hk.2) (.slice Ao48 t456.length co48)) (fun _ hk => hk.2) (.int .i64 t459)) (fun _ hk => hk.2) (.slice Ao49 t460.length co49)) (fun _ hk => hk.1), by (with_reducible repeat (first | apply Kd.R_alloc | apply Kd.R_drewN | apply Kd.R_drew)); exact Kd.R_mono (Kd.R_far (p := ⟨gb444, 4, none⟩) (Kd.R_far (p := ⟨gb444, 3, none⟩) (Kd.R_far (p := ⟨gb444, 2, none⟩) (Kd.R_far (p := ⟨gb444, 1, none⟩) (Kd.R_far (p := ⟨gb444, 0, none⟩) (Kd.R_types HO458.out BK444.out (by decide)) (fun _ hk => hk.2) (.int .i64 t452)) (fun _ hk => hk.2) (.slice Ao47 t453.length co47)) (fun _ hk => hk.2) (.slice Ao48 t456.length co48)) (fun _ hk => hk.2) (.int .i64 t459)) (fun _ hk => hk.2) (.slice Ao49 t460.length co49)) (fun _ hk => hk.1), by (with_reducible repeat (first | apply Kd.R_alloc | apply Kd.R_drewN | apply Kd.R_drew)); exact Kd.R_mono (Kd.R_far (p := ⟨gb444, 4, none⟩) (Kd.R_far (p := ⟨gb444, 3, none⟩) (Kd.R_far (p := ⟨gb444, 2, none⟩) (Kd.R_far (p := ⟨gb444, 1, none⟩) (Kd.R_far (p := ⟨gb444, 0, none⟩) (Kd.R_types HO462.out BK444.out (by decide)) (fun _ hk => hk.2) (.int .i64 t452)) (fun _ hk => hk.2) (.slice Ao47 t453.length co47)) (fun _ hk => hk.2) (.slice Ao48 t456.length co48)) (fun _ hk => hk.2) (.int .i64 t459)) (fun _ hk => hk.2) (.slice Ao49 t460.length co49)) (fun _ hk => trivial), bs3 HB GE443 GE444 GE451⟩
end Go.Proofs.Ytakgjdckolllaaa.G
