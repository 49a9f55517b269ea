-- Printed by a program of this session (drive.py, by way of the kit's print). Not trusted: Lean checks it.
import Derived.Test.YtpfimjgfojdhhaaG0
import Derived.Test.YtpfimjgfojdhhaaG4
namespace Go.Proofs.Ytpfimjgfojdhhaa.G
open Go.RowKit Go.Proofs.YtpfimjgfojdhhaaW.PrintWords Go.Proofs.YtpfimjgfojdhhaaW.PrintLast Go.Proofs.YtpfimjgfojdhhaaW.PrintMore
attribute [local go_sem] max2_int min2_int max_two min_two max_three min_three max_four min_four
set_option linter.unusedVariables false
set_option linter.unusedSimpArgs false
def impl_withItem.f (k : Nat) (a0_0 : Int) (l0_1 : List (S40)) (l0_2 : List (S40)) (a0_3 : Int) (l0_4 : List (S56)) (a1_0 : Int) (a1_1 : Int) (a1_2 : Int) (a1_3 : Int) (a1_4 : Int) (a2 : Int) : Option (Int × (List (S40)) × (List (S40)) × Int × (List (S56)) × Bool) := (impl_ownFree.f a0_0 l0_1 l0_2).bind fun bt359 => ((impl_Item_40.f l0_4).bind fun t366 => ((some (([(⟨a1_0, a1_1, (⟨a1_2, a1_3⟩ : S40), a1_4⟩ : S56)] : List (S56)) : List (S56))).bind fun y369 => (if t366.length + y369.length < 3518437208883 then ((some (t366 ++ y369 : List (S56))).bind fun y372 => ((impl_GoodWork.f k a0_0 l0_1 l0_2 a0_3 l0_4).bind fun t376 => (if t376 = true then ((impl_GoodWork.f k bt359.1 bt359.2.1 bt359.2.2 a2 y372).bind fun t377 => (if t377 = true then (some (bt359.1, bt359.2.1, bt359.2.2, a2, y372, true)) else (some (0, ([] : List (S40)), ([] : List (S40)), 0, ([] : List (S56)), false)))) else (some (0, ([] : List (S40)), ([] : List (S40)), 0, ([] : List (S56)), false))))) else (none))))
theorem impl_withItem.mono : ∀ a0 a1 a2 a3 a4 a5 a6 a7 a8 a9 a10 k, LeO (impl_withItem.f k a0 a1 a2 a3 a4 a5 a6 a7 a8 a9 a10) (impl_withItem.f (k + 1) a0 a1 a2 a3 a4 a5 a6 a7 a8 a9 a10) := by
 intro a0 a1 a2 a3 a4 a5 a6 a7 a8 a9 a10 k
 unfold impl_withItem.f
 repeat' first
   | (with_reducible exact impl_GoodWork.mono _ _ _ _ _ _)
   | (with_reducible exact LeO.refl _)
   | (with_reducible exact LeO.none _)
   | (with_reducible refine LeO.ite ?_ ?_)
   | (with_reducible refine LeO.bind ?_ (fun _ => ?_))
   | exact impl_GoodWork.mono _ _ _ _ _ _
   | exact LeO.none _
   | refine LeO.ite ?_ ?_
   | refine LeO.bind ?_ (fun _ => ?_)
def impl_withItem.T1 : Bool × List (List Nat × List Nat) := (true, [([], []), ([0], [0]), ([1], [1]), ([], []), ([], []), ([4], [4]), ([5, 2], [5]), ([], []), ([7], [7]), ([6, 8, 6], [6, 8]), ([2, 3, 9], [2, 3, 9]), ([], []), ([11, 10, 9, 0, 1, 2, 3, 4, 5, 6, 7, 8, 9, 10, 11], [10, 11])])
def impl_withItem.B1 : List Nat := [0, 1, 3, 0, 0, 16, 55, 0, 128, 503, 1023, 0, 4095]
theorem impl_withItem.tab1 : rtab .any (opsOf Try.f23 1) = impl_withItem.T1 := by kernel_rfl
theorem impl_withItem.bits1 : waitsOk impl_withItem.T1.2 impl_withItem.B1 = true := by kernel_rfl
set_option maxHeartbeats 8000000 in
set_option maxRecDepth 100000 in
theorem impl_withItem.calls (k : Nat) (a0_0 : Int) (A0_1 : Option Addr) (c0_1 : Nat) (l0_1 : List (S40)) (A0_2 : Option Addr) (c0_2 : Nat) (l0_2 : List (S40)) (a0_3 : Int) (A0_4 : Option Addr) (c0_4 : Nat) (l0_4 : List (S56)) (a1_0 : Int) (a1_1 : Int) (a1_2 : Int) (a1_3 : Int) (a1_4 : Int) (a2 : Int) (r1 : Int) (r2 : List (S40)) (r3 : List (S40)) (r4 : Int) (r5 : List (S56)) (r6 : Bool) (w : World) (hr0_1 : Kd.C k40 w A0_1 l0_1.length l0_1) (hc0_1 : l0_1.length ≤ c0_1) (hr0_2 : Kd.C k40 w A0_2 l0_2.length l0_2) (hc0_2 : l0_2.length ≤ c0_2) (hr0_4 : Kd.C k56 w A0_4 l0_4.length l0_4) (hc0_4 : l0_4.length ≤ c0_4) (h : impl_withItem.f k a0_0 l0_1 l0_2 a0_3 l0_4 a1_0 a1_1 a1_2 a1_3 a1_4 a2 = some (r1, r2, r3, r4, r5, r6)) :
  Calls Try.prog 23 #[.agg #[.int .i64 a0_0, .slice A0_1 l0_1.length c0_1, .slice A0_2 l0_2.length c0_2, .int .i64 a0_3, .slice A0_4 l0_4.length c0_4], .agg #[.int .i64 a1_0, .int .i64 a1_1, .int .i64 a1_2, .int .i64 a1_3, .int .i64 a1_4], .int .i64 a2] w fun e w' => ∃ v1_ v2_ v4_ : Value, e = .returned (.tuple #[.agg #[.int .i64 r1, v1_, v2_, .int .i64 r4, v4_], .bool r6]) ∧ Kd.R k40 40 w' w.heap.size (fun k_ => some k_ ≠ (v2_ : Value).ownBlock) v1_ r2 ∧ Kd.R k40 40 w' w.heap.size (fun k_ => some k_ ≠ (v1_ : Value).ownBlock) v2_ r3 ∧ Kd.R k56 56 w' w.heap.size (fun _ => True) v4_ r5 ∧ Below w.heap.size w w' := by
 have hu36 := Try.underlying36
 have hu56 := Try.underlying56
 have hu33 := Try.underlying33
 have HR0_1 := Ah hr0_1
 have HC0_1 := Ah hc0_1
 clear hr0_1 hc0_1
 have HR0_2 := Ah hr0_2
 have HC0_2 := Ah hc0_2
 clear hr0_2 hc0_2
 have HR0_4 := Ah hr0_4
 have HC0_4 := Ah hc0_4
 clear hr0_4 hc0_4
 have HB := Ah (Below.refl w.heap.size w)
 have H : ((impl_ownFree.f a0_0 l0_1 l0_2).bind fun bt359 => ((impl_Item_40.f l0_4).bind fun t366 => ((some (([(⟨a1_0, a1_1, (⟨a1_2, a1_3⟩ : S40), a1_4⟩ : S56)] : List (S56)) : List (S56))).bind fun y369 => (if t366.length + y369.length < 3518437208883 then ((some (t366 ++ y369 : List (S56))).bind fun y372 => ((impl_GoodWork.f k a0_0 l0_1 l0_2 a0_3 l0_4).bind fun t376 => (if t376 = true then ((impl_GoodWork.f k bt359.1 bt359.2.1 bt359.2.2 a2 y372).bind fun t377 => (if t377 = true then (some (bt359.1, bt359.2.1, bt359.2.2, a2, y372, true)) else (some (0, ([] : List (S40)), ([] : List (S40)), 0, ([] : List (S56)), false)))) else (some (0, ([] : List (S40)), ([] : List (S40)), 0, ([] : List (S56)), false))))) else (none))))) = some (r1, r2, r3, r4, r5, r6) := h
 clear h
 replace H := Option.bind_eq_some_iff.mp H
 obtain ⟨⟨t359, t360, t363⟩, A40, H⟩ := H
 try dsimp only at H
 have A4 := Ah A40
 clear A40
 replace H := Option.bind_eq_some_iff.mp H
 obtain ⟨t366, A50, H⟩ := H
 try dsimp only at H
 have A5 := Ah A50
 clear A50
 obtain ⟨y369, hy369⟩ : ∃ y_ : List (S56), y_ = (([(⟨a1_0, a1_1, (⟨a1_2, a1_3⟩ : S40), a1_4⟩ : S56)] : List (S56))) := ⟨_, rfl⟩
 replace H : (if t366.length + y369.length < 3518437208883 then ((some (t366 ++ y369 : List (S56))).bind fun y372 => ((impl_GoodWork.f k a0_0 l0_1 l0_2 a0_3 l0_4).bind fun t376 => (if t376 = true then ((impl_GoodWork.f k t359 t360 t363 a2 y372).bind fun t377 => (if t377 = true then (some (t359, t360, t363, a2, y372, true)) else (some (0, ([] : List (S40)), ([] : List (S40)), 0, ([] : List (S56)), false)))) else (some (0, ([] : List (S40)), ([] : List (S40)), 0, ([] : List (S56)), false))))) else (none)) = some (r1, r2, r3, r4, r5, r6) := by first | (rw [hy369]; with_reducible exact H) | (have H2_ := (Option.bind_some _ _).symm.trans H; rw [hy369]; with_reducible exact H2_) | (have H2_ := (Option.bind_some _ _).symm.trans H; with_reducible exact H2_) | with_reducible exact H | (rw [hy369]; exact H) | exact H
 have Ny369 := Ah hy369
 clear hy369
 have H_ := Ah H
 clear H
 go_enter Try.func23, Try.ntmps23
 try go_wp2_with (first | ((with_reducible refine gate_dst (N := 3) rfl ?_); refine boxL 3 36 #[.int .i64 a0_0, .slice A0_1 l0_1.length c0_1, .slice A0_2 l0_2.length c0_2, .int .i64 a0_3, .slice A0_4 l0_4.length c0_4] ?_; intro gb356 hg w11 BK356 hb; have GW356 := gw hg (bs HB); have GE356 := gw hg (bs HB); replace HB := Ah (below_step (bs HB) hb); clear hb hg) | ((with_reducible refine gate_dst (N := 4) rfl ?_); refine boxL 4 56 #[.int .i64 a1_0, .int .i64 a1_1, .int .i64 a1_2, .int .i64 a1_3, .int .i64 a1_4] ?_; intro gb357 hg w12 BK357 hb; have GW357 := gw hg (bs1 HB GE356); have GE357 := gw hg (bs1 HB GE356); replace HB := Ah (below_step (bs1 HB GE356) hb); have NB356_357 := nn BK356 hg; have NB357_356 := nm BK356 hg; replace BK356 := nb BK356 hb; clear hb hg) | ((with_reducible refine gate_dst (N := 6) rfl ?_); refine boxL 6 36 #[.int .i64 0, .slice none 0 0, .slice none 0 0, .int .i64 0, .slice none 0 0] ?_; intro gb358 hg w13 BK358 hb; have GW358 := gw hg (bs2 HB GE356 GE357); have GE358 := gw hg (bs2 HB GE356 GE357); replace HB := Ah (below_step (bs2 HB GE356 GE357) hb); have NB356_358 := nn BK356 hg; have NB358_356 := nm BK356 hg; replace BK356 := nb BK356 hb; have NB357_358 := nn BK357 hg; have NB358_357 := nm BK357 hg; replace BK357 := nb BK357 hb; clear hb hg))
 have n0_ := Ah (blk_drew BK356.out)
 have n1_ := Ah (blk_drew BK357.out)
 have n2_ := Ah (blk_drew BK358.out)
 have n3_ := Ah (below_drew1 HB.out)
 clear BK356 BK357 BK358 HB
 have BK356 := n0_
 have BK357 := n1_
 have BK358 := n2_
 have HB := n3_
 clear n0_ n1_ n2_ n3_
 refine start_ (n := 13) (S := fun w' => w'.cell? ⟨gb356, 0, none⟩ = some (.int .i64 a0_0) ∧ w'.cell? ⟨gb356, 1, none⟩ = some (.slice A0_1 l0_1.length c0_1) ∧ w'.cell? ⟨gb356, 2, none⟩ = some (.slice A0_2 l0_2.length c0_2) ∧ w'.cell? ⟨gb356, 3, none⟩ = some (.int .i64 a0_3) ∧ w'.cell? ⟨gb356, 4, none⟩ = some (.slice A0_4 l0_4.length c0_4) ∧ w'.cell? ⟨gb357, 0, none⟩ = some (.int .i64 a1_0) ∧ w'.cell? ⟨gb357, 1, none⟩ = some (.int .i64 a1_1) ∧ w'.cell? ⟨gb357, 2, none⟩ = some (.int .i64 a1_2) ∧ w'.cell? ⟨gb357, 3, none⟩ = some (.int .i64 a1_3) ∧ w'.cell? ⟨gb357, 4, none⟩ = some (.int .i64 a1_4)) (ds := []) #[false, false, false, false, false, false, false, false, false, false, false, false, false] (by kernel_rfl) rfl rfl ⟨(blk_cell BK356.out 0).trans rfl, (blk_cell BK356.out 1).trans rfl, (blk_cell BK356.out 2).trans rfl, (blk_cell BK356.out 3).trans rfl, (blk_cell BK356.out 4).trans rfl, (blk_cell BK357.out 0).trans rfl, (blk_cell BK357.out 1).trans rfl, (blk_cell BK357.out 2).trans rfl, (blk_cell BK357.out 3).trans rfl, (blk_cell BK357.out 4).trans rfl⟩ (fun hHeld => ?_); refine with_tabW impl_withItem.tab1 impl_withItem.bits1 (fun HT_ HW_ => ?_)
 generalize w13.drew = w14 at BK356 BK357 BK358 HB hHeld ⊢
 refine pureS 0 9 HT_.out ?_
 refine pureS 3 12 HT_.out ?_
 refine pureS 4 13 HT_.out ?_
 refine takeS 1 10 HT_.out HW_.out hHeld (hr := by rintro w' ⟨s0, s1, s2, s3, s4, s5, s6, s7, s8, s9⟩; go_simp; with_reducible rfl) (h := ?_)
 refine takeS 5 14 HT_.out HW_.out hHeld (hr := by rintro w' ⟨s0, s1, s2, s3, s4, s5, s6, s7, s8, s9⟩; go_simp; with_reducible rfl) (h := ?_)
 refine takeS 7 16 HT_.out HW_.out hHeld (hr := by rintro w' ⟨s0, s1, s2, s3, s4, s5, s6, s7, s8, s9⟩; go_simp; with_reducible rfl) (h := ?_)
 have H := H_.out
 clear H_
 by_cases c6 : t366.length + y369.length < 3518437208883
 rotate_left
 ·
  rw [if_neg c6] at H
  exact absurd H (by simp)
 rw [if_pos c6] at H
 have LMc6 := Ah c6
 clear c6
 obtain ⟨y372, hy372⟩ : ∃ y_ : List (S56), y_ = (t366 ++ y369) := ⟨_, rfl⟩
 replace H : ((impl_GoodWork.f k a0_0 l0_1 l0_2 a0_3 l0_4).bind fun t376 => (if t376 = true then ((impl_GoodWork.f k t359 t360 t363 a2 y372).bind fun t377 => (if t377 = true then (some (t359, t360, t363, a2, y372, true)) else (some (0, ([] : List (S40)), ([] : List (S40)), 0, ([] : List (S56)), false)))) else (some (0, ([] : List (S40)), ([] : List (S40)), 0, ([] : List (S56)), false)))) = some (r1, r2, r3, r4, r5, r6) := by first | (rw [hy372]; with_reducible exact H) | (have H2_ := (Option.bind_some _ _).symm.trans H; rw [hy372]; with_reducible exact H2_) | (have H2_ := (Option.bind_some _ _).symm.trans H; with_reducible exact H2_) | with_reducible exact H | (rw [hy372]; exact H) | exact H
 have Ny372 := Ah hy372
 clear hy372
 replace H := Option.bind_eq_some_iff.mp H
 obtain ⟨t376, A70, H⟩ := H
 try dsimp only at H
 have A7 := Ah A70
 clear A70
 have H_ := Ah H
 clear H
 refine join_ (σ := Value × Value × Value × Value × Value × Nat) 1 #[true, true, true, true, true, true, true, true, true, true, true, true, false] (fun s_ => [(11, .agg #[.int .i64 t359, s_.1, s_.2.1]), (15, s_.2.2.1), (17, s_.2.2.2.1), (18, s_.2.2.2.2.1), (8, .pointer (some ⟨s_.2.2.2.2.2, 0, none⟩)), (19, .agg #[.int .i64 t359, s_.1, s_.2.1, .int .i64 a2, s_.2.2.2.2.1])]) (fun s_ w' => (w'.cell? ⟨gb356, 0, none⟩ = some (.int .i64 a0_0) ∧ w'.cell? ⟨gb356, 1, none⟩ = some (.slice A0_1 l0_1.length c0_1) ∧ w'.cell? ⟨gb356, 2, none⟩ = some (.slice A0_2 l0_2.length c0_2) ∧ w'.cell? ⟨gb356, 3, none⟩ = some (.int .i64 a0_3) ∧ w'.cell? ⟨gb356, 4, none⟩ = some (.slice A0_4 l0_4.length c0_4) ∧ w'.cell? ⟨gb357, 0, none⟩ = some (.int .i64 a1_0) ∧ w'.cell? ⟨gb357, 1, none⟩ = some (.int .i64 a1_1) ∧ w'.cell? ⟨gb357, 2, none⟩ = some (.int .i64 a1_2) ∧ w'.cell? ⟨gb357, 3, none⟩ = some (.int .i64 a1_3) ∧ w'.cell? ⟨gb357, 4, none⟩ = some (.int .i64 a1_4)) ∧ (Kd.R k40 40 w' w.heap.size (fun k_ => some k_ ≠ (s_.2.1 : Value).ownBlock) s_.1 t360) ∧ (Kd.R k40 40 w' w.heap.size (fun k_ => some k_ ≠ (s_.1 : Value).ownBlock) s_.2.1 t363) ∧ (Kd.R k56 56 w' w.heap.size (fun k_ => some k_ ≠ (s_.2.2.2.2.1 : Value).ownBlock ∧ k_ ≠ gb357) s_.2.2.2.1 y369) ∧ (Kd.R k56 56 w' w.heap.size (fun k_ => some k_ ≠ (s_.2.2.2.1 : Value).ownBlock ∧ k_ ≠ gb357) s_.2.2.2.2.1 y372) ∧ (w'.heap[gb356]? = some (.cells #[.int .i64 a0_0, .slice A0_1 l0_1.length c0_1, .slice A0_2 l0_2.length c0_2, .int .i64 a0_3, .slice A0_4 l0_4.length c0_4] 36 (0, 0))) ∧ (w'.heap[gb357]? = some (.cells #[.int .i64 a1_0, .int .i64 a1_1, .int .i64 a1_2, .int .i64 a1_3, .int .i64 a1_4] 56 (0, 0))) ∧ (w'.heap[gb358]? = some (.cells #[.int .i64 0, .slice none 0 0, .slice none 0 0, .int .i64 0, .slice none 0 0] 36 (0, 0))) ∧ (w'.heap[s_.2.2.2.2.2]? = some (.cells #[.int .i64 0, .slice none 0 0, .slice none 0 0, .int .i64 0, .slice none 0 0] 36 (0, 0))) ∧ (w.heap.size ≤ s_.2.2.2.2.2) ∧ (w.heap.size ≤ s_.2.2.2.2.2) ∧ (gb356 ≠ s_.2.2.2.2.2) ∧ (s_.2.2.2.2.2 ≠ gb356) ∧ (gb357 ≠ s_.2.2.2.2.2) ∧ (s_.2.2.2.2.2 ≠ gb357) ∧ (gb358 ≠ s_.2.2.2.2.2) ∧ (s_.2.2.2.2.2 ≠ gb358) ∧ (Below w.heap.size w w')) ?_ ?_
 rotate_left
 ·
  intro hJ2_6_8_9_11
  refine join_ (σ := Value × Value × Value × Value × Value) 2 #[true, true, true, true, true, true, true, true, true, true, true, false, false] (fun s_ => [(11, .agg #[.int .i64 t359, s_.1, s_.2.1]), (15, s_.2.2.1), (17, s_.2.2.2.1), (18, s_.2.2.2.2), (19, .agg #[.int .i64 t359, s_.1, s_.2.1, .int .i64 a2, s_.2.2.2.2])]) (fun s_ w' => (w'.cell? ⟨gb356, 0, none⟩ = some (.int .i64 a0_0) ∧ w'.cell? ⟨gb356, 1, none⟩ = some (.slice A0_1 l0_1.length c0_1) ∧ w'.cell? ⟨gb356, 2, none⟩ = some (.slice A0_2 l0_2.length c0_2) ∧ w'.cell? ⟨gb356, 3, none⟩ = some (.int .i64 a0_3) ∧ w'.cell? ⟨gb356, 4, none⟩ = some (.slice A0_4 l0_4.length c0_4) ∧ w'.cell? ⟨gb357, 0, none⟩ = some (.int .i64 a1_0) ∧ w'.cell? ⟨gb357, 1, none⟩ = some (.int .i64 a1_1) ∧ w'.cell? ⟨gb357, 2, none⟩ = some (.int .i64 a1_2) ∧ w'.cell? ⟨gb357, 3, none⟩ = some (.int .i64 a1_3) ∧ w'.cell? ⟨gb357, 4, none⟩ = some (.int .i64 a1_4)) ∧ (Kd.R k40 40 w' w.heap.size (fun k_ => some k_ ≠ (s_.2.1 : Value).ownBlock) s_.1 t360) ∧ (Kd.R k40 40 w' w.heap.size (fun k_ => some k_ ≠ (s_.1 : Value).ownBlock) s_.2.1 t363) ∧ (Kd.R k56 56 w' w.heap.size (fun k_ => some k_ ≠ (s_.2.2.2.2 : Value).ownBlock ∧ k_ ≠ gb357) s_.2.2.2.1 y369) ∧ (Kd.R k56 56 w' w.heap.size (fun k_ => some k_ ≠ (s_.2.2.2.1 : Value).ownBlock ∧ k_ ≠ gb357) s_.2.2.2.2 y372) ∧ (w'.heap[gb356]? = some (.cells #[.int .i64 a0_0, .slice A0_1 l0_1.length c0_1, .slice A0_2 l0_2.length c0_2, .int .i64 a0_3, .slice A0_4 l0_4.length c0_4] 36 (0, 0))) ∧ (w'.heap[gb357]? = some (.cells #[.int .i64 a1_0, .int .i64 a1_1, .int .i64 a1_2, .int .i64 a1_3, .int .i64 a1_4] 56 (0, 0))) ∧ (w'.heap[gb358]? = some (.cells #[.int .i64 0, .slice none 0 0, .slice none 0 0, .int .i64 0, .slice none 0 0] 36 (0, 0))) ∧ (Below w.heap.size w w')) ?_ ?_
  rotate_left
  ·
   intro hJ2_6_8_9
   refine join_ (σ := Value × Value × Value × Value × Nat) 3 #[true, true, true, true, true, true, true, true, true, false, false, true, false] (fun s_ => [(11, .agg #[.int .i64 t359, s_.1, s_.2.1]), (15, s_.2.2.1), (17, s_.2.2.2.1), (8, .pointer (some ⟨s_.2.2.2.2, 0, none⟩))]) (fun s_ w' => (w'.cell? ⟨gb356, 0, none⟩ = some (.int .i64 a0_0) ∧ w'.cell? ⟨gb356, 1, none⟩ = some (.slice A0_1 l0_1.length c0_1) ∧ w'.cell? ⟨gb356, 2, none⟩ = some (.slice A0_2 l0_2.length c0_2) ∧ w'.cell? ⟨gb356, 3, none⟩ = some (.int .i64 a0_3) ∧ w'.cell? ⟨gb356, 4, none⟩ = some (.slice A0_4 l0_4.length c0_4) ∧ w'.cell? ⟨gb357, 0, none⟩ = some (.int .i64 a1_0) ∧ w'.cell? ⟨gb357, 1, none⟩ = some (.int .i64 a1_1) ∧ w'.cell? ⟨gb357, 2, none⟩ = some (.int .i64 a1_2) ∧ w'.cell? ⟨gb357, 3, none⟩ = some (.int .i64 a1_3) ∧ w'.cell? ⟨gb357, 4, none⟩ = some (.int .i64 a1_4)) ∧ (Kd.R k40 40 w' w.heap.size (fun k_ => some k_ ≠ (s_.2.1 : Value).ownBlock) s_.1 t360) ∧ (Kd.R k40 40 w' w.heap.size (fun k_ => some k_ ≠ (s_.1 : Value).ownBlock) s_.2.1 t363) ∧ (Kd.R k56 56 w' w.heap.size (fun k_ => some k_ ≠ (s_.2.2.2.1 : Value).ownBlock ∧ k_ ≠ gb357) s_.2.2.1 t366) ∧ (Kd.R k56 56 w' w.heap.size (fun k_ => some k_ ≠ (s_.2.2.1 : Value).ownBlock ∧ k_ ≠ gb357) s_.2.2.2.1 y369) ∧ (w'.heap[gb356]? = some (.cells #[.int .i64 a0_0, .slice A0_1 l0_1.length c0_1, .slice A0_2 l0_2.length c0_2, .int .i64 a0_3, .slice A0_4 l0_4.length c0_4] 36 (0, 0))) ∧ (w'.heap[gb357]? = some (.cells #[.int .i64 a1_0, .int .i64 a1_1, .int .i64 a1_2, .int .i64 a1_3, .int .i64 a1_4] 56 (0, 0))) ∧ (w'.heap[gb358]? = some (.cells #[.int .i64 0, .slice none 0 0, .slice none 0 0, .int .i64 0, .slice none 0 0] 36 (0, 0))) ∧ (w'.heap[s_.2.2.2.2]? = some (.cells #[.int .i64 0, .slice none 0 0, .slice none 0 0, .int .i64 0, .slice none 0 0] 36 (0, 0))) ∧ (w.heap.size ≤ s_.2.2.2.2) ∧ (w.heap.size ≤ s_.2.2.2.2) ∧ (gb356 ≠ s_.2.2.2.2) ∧ (s_.2.2.2.2 ≠ gb356) ∧ (gb357 ≠ s_.2.2.2.2) ∧ (s_.2.2.2.2 ≠ gb357) ∧ (gb358 ≠ s_.2.2.2.2) ∧ (s_.2.2.2.2 ≠ gb358) ∧ (Below w.heap.size w w')) ?_ ?_
   rotate_left
   ·
    intro hJ2_6_8_11
    refine join_ (σ := Value × Value × Value × Value) 4 #[true, true, true, true, true, true, true, true, true, false, false, false, false] (fun s_ => [(11, .agg #[.int .i64 t359, s_.1, s_.2.1]), (15, s_.2.2.1), (17, s_.2.2.2)]) (fun s_ w' => (w'.cell? ⟨gb356, 0, none⟩ = some (.int .i64 a0_0) ∧ w'.cell? ⟨gb356, 1, none⟩ = some (.slice A0_1 l0_1.length c0_1) ∧ w'.cell? ⟨gb356, 2, none⟩ = some (.slice A0_2 l0_2.length c0_2) ∧ w'.cell? ⟨gb356, 3, none⟩ = some (.int .i64 a0_3) ∧ w'.cell? ⟨gb356, 4, none⟩ = some (.slice A0_4 l0_4.length c0_4) ∧ w'.cell? ⟨gb357, 0, none⟩ = some (.int .i64 a1_0) ∧ w'.cell? ⟨gb357, 1, none⟩ = some (.int .i64 a1_1) ∧ w'.cell? ⟨gb357, 2, none⟩ = some (.int .i64 a1_2) ∧ w'.cell? ⟨gb357, 3, none⟩ = some (.int .i64 a1_3) ∧ w'.cell? ⟨gb357, 4, none⟩ = some (.int .i64 a1_4)) ∧ (Kd.R k40 40 w' w.heap.size (fun k_ => some k_ ≠ (s_.2.1 : Value).ownBlock) s_.1 t360) ∧ (Kd.R k40 40 w' w.heap.size (fun k_ => some k_ ≠ (s_.1 : Value).ownBlock) s_.2.1 t363) ∧ (Kd.R k56 56 w' w.heap.size (fun k_ => some k_ ≠ (s_.2.2.2 : Value).ownBlock ∧ k_ ≠ gb357) s_.2.2.1 t366) ∧ (Kd.R k56 56 w' w.heap.size (fun k_ => some k_ ≠ (s_.2.2.1 : Value).ownBlock ∧ k_ ≠ gb357) s_.2.2.2 y369) ∧ (w'.heap[gb356]? = some (.cells #[.int .i64 a0_0, .slice A0_1 l0_1.length c0_1, .slice A0_2 l0_2.length c0_2, .int .i64 a0_3, .slice A0_4 l0_4.length c0_4] 36 (0, 0))) ∧ (w'.heap[gb357]? = some (.cells #[.int .i64 a1_0, .int .i64 a1_1, .int .i64 a1_2, .int .i64 a1_3, .int .i64 a1_4] 56 (0, 0))) ∧ (w'.heap[gb358]? = some (.cells #[.int .i64 0, .slice none 0 0, .slice none 0 0, .int .i64 0, .slice none 0 0] 36 (0, 0))) ∧ (Below w.heap.size w w')) ?_ ?_
    rotate_left
    ·
     intro hJ2_6_8
     refine join_ (σ := Value × Value × Value × Nat) 4 #[true, true, true, true, true, true, true, true, false, false, false, true, false] (fun s_ => [(11, .agg #[.int .i64 t359, s_.1, s_.2.1]), (15, s_.2.2.1), (8, .pointer (some ⟨s_.2.2.2, 0, none⟩))]) (fun s_ w' => (w'.cell? ⟨gb356, 0, none⟩ = some (.int .i64 a0_0) ∧ w'.cell? ⟨gb356, 1, none⟩ = some (.slice A0_1 l0_1.length c0_1) ∧ w'.cell? ⟨gb356, 2, none⟩ = some (.slice A0_2 l0_2.length c0_2) ∧ w'.cell? ⟨gb356, 3, none⟩ = some (.int .i64 a0_3) ∧ w'.cell? ⟨gb356, 4, none⟩ = some (.slice A0_4 l0_4.length c0_4) ∧ w'.cell? ⟨gb357, 0, none⟩ = some (.int .i64 a1_0) ∧ w'.cell? ⟨gb357, 1, none⟩ = some (.int .i64 a1_1) ∧ w'.cell? ⟨gb357, 2, none⟩ = some (.int .i64 a1_2) ∧ w'.cell? ⟨gb357, 3, none⟩ = some (.int .i64 a1_3) ∧ w'.cell? ⟨gb357, 4, none⟩ = some (.int .i64 a1_4)) ∧ (Kd.R k40 40 w' w.heap.size (fun k_ => some k_ ≠ (s_.2.1 : Value).ownBlock) s_.1 t360) ∧ (Kd.R k40 40 w' w.heap.size (fun k_ => some k_ ≠ (s_.1 : Value).ownBlock) s_.2.1 t363) ∧ (Kd.R k56 56 w' w.heap.size (fun k_ => k_ ≠ gb357) s_.2.2.1 t366) ∧ (w'.heap[gb356]? = some (.cells #[.int .i64 a0_0, .slice A0_1 l0_1.length c0_1, .slice A0_2 l0_2.length c0_2, .int .i64 a0_3, .slice A0_4 l0_4.length c0_4] 36 (0, 0))) ∧ (w'.heap[gb357]? = some (.cells #[.int .i64 a1_0, .int .i64 a1_1, .int .i64 a1_2, .int .i64 a1_3, .int .i64 a1_4] 56 (0, 0))) ∧ (w'.heap[gb358]? = some (.cells #[.int .i64 0, .slice none 0 0, .slice none 0 0, .int .i64 0, .slice none 0 0] 36 (0, 0))) ∧ (w'.heap[s_.2.2.2]? = some (.cells #[.int .i64 0, .slice none 0 0, .slice none 0 0, .int .i64 0, .slice none 0 0] 36 (0, 0))) ∧ (w.heap.size ≤ s_.2.2.2) ∧ (w.heap.size ≤ s_.2.2.2) ∧ (gb356 ≠ s_.2.2.2) ∧ (s_.2.2.2 ≠ gb356) ∧ (gb357 ≠ s_.2.2.2) ∧ (s_.2.2.2 ≠ gb357) ∧ (gb358 ≠ s_.2.2.2) ∧ (s_.2.2.2 ≠ gb358) ∧ (Below w.heap.size w w')) ?_ ?_
     rotate_left
     ·
      intro hJ2_6_11
      refine join_ (σ := Value × Value × Value × Nat) 4 #[true, true, true, true, true, true, false, true, true, false, false, true, false] (fun s_ => [(11, .agg #[.int .i64 t359, s_.1, s_.2.1]), (17, s_.2.2.1), (8, .pointer (some ⟨s_.2.2.2, 0, none⟩))]) (fun s_ w' => (w'.cell? ⟨gb356, 0, none⟩ = some (.int .i64 a0_0) ∧ w'.cell? ⟨gb356, 1, none⟩ = some (.slice A0_1 l0_1.length c0_1) ∧ w'.cell? ⟨gb356, 2, none⟩ = some (.slice A0_2 l0_2.length c0_2) ∧ w'.cell? ⟨gb356, 3, none⟩ = some (.int .i64 a0_3) ∧ w'.cell? ⟨gb356, 4, none⟩ = some (.slice A0_4 l0_4.length c0_4) ∧ w'.cell? ⟨gb357, 0, none⟩ = some (.int .i64 a1_0) ∧ w'.cell? ⟨gb357, 1, none⟩ = some (.int .i64 a1_1) ∧ w'.cell? ⟨gb357, 2, none⟩ = some (.int .i64 a1_2) ∧ w'.cell? ⟨gb357, 3, none⟩ = some (.int .i64 a1_3) ∧ w'.cell? ⟨gb357, 4, none⟩ = some (.int .i64 a1_4)) ∧ (Kd.R k40 40 w' w.heap.size (fun k_ => some k_ ≠ (s_.2.1 : Value).ownBlock) s_.1 t360) ∧ (Kd.R k40 40 w' w.heap.size (fun k_ => some k_ ≠ (s_.1 : Value).ownBlock) s_.2.1 t363) ∧ (Kd.R k56 56 w' w.heap.size (fun k_ => k_ ≠ gb357) s_.2.2.1 y369) ∧ (w'.heap[gb356]? = some (.cells #[.int .i64 a0_0, .slice A0_1 l0_1.length c0_1, .slice A0_2 l0_2.length c0_2, .int .i64 a0_3, .slice A0_4 l0_4.length c0_4] 36 (0, 0))) ∧ (w'.heap[gb357]? = some (.cells #[.int .i64 a1_0, .int .i64 a1_1, .int .i64 a1_2, .int .i64 a1_3, .int .i64 a1_4] 56 (0, 0))) ∧ (w'.heap[gb358]? = some (.cells #[.int .i64 0, .slice none 0 0, .slice none 0 0, .int .i64 0, .slice none 0 0] 36 (0, 0))) ∧ (w'.heap[s_.2.2.2]? = some (.cells #[.int .i64 0, .slice none 0 0, .slice none 0 0, .int .i64 0, .slice none 0 0] 36 (0, 0))) ∧ (w.heap.size ≤ s_.2.2.2) ∧ (w.heap.size ≤ s_.2.2.2) ∧ (gb356 ≠ s_.2.2.2) ∧ (s_.2.2.2 ≠ gb356) ∧ (gb357 ≠ s_.2.2.2) ∧ (s_.2.2.2 ≠ gb357) ∧ (gb358 ≠ s_.2.2.2) ∧ (s_.2.2.2 ≠ gb358) ∧ (Below w.heap.size w w')) ?_ ?_
      rotate_left
      ·
       intro hJ2_8_11
       refine join_ (σ := Value × Value × Value) 5 #[true, true, true, true, true, true, true, true, false, false, false, false, false] (fun s_ => [(11, .agg #[.int .i64 t359, s_.1, s_.2.1]), (15, s_.2.2)]) (fun s_ w' => (w'.cell? ⟨gb356, 0, none⟩ = some (.int .i64 a0_0) ∧ w'.cell? ⟨gb356, 1, none⟩ = some (.slice A0_1 l0_1.length c0_1) ∧ w'.cell? ⟨gb356, 2, none⟩ = some (.slice A0_2 l0_2.length c0_2) ∧ w'.cell? ⟨gb356, 3, none⟩ = some (.int .i64 a0_3) ∧ w'.cell? ⟨gb356, 4, none⟩ = some (.slice A0_4 l0_4.length c0_4) ∧ w'.cell? ⟨gb357, 0, none⟩ = some (.int .i64 a1_0) ∧ w'.cell? ⟨gb357, 1, none⟩ = some (.int .i64 a1_1) ∧ w'.cell? ⟨gb357, 2, none⟩ = some (.int .i64 a1_2) ∧ w'.cell? ⟨gb357, 3, none⟩ = some (.int .i64 a1_3) ∧ w'.cell? ⟨gb357, 4, none⟩ = some (.int .i64 a1_4)) ∧ (Kd.R k40 40 w' w.heap.size (fun k_ => some k_ ≠ (s_.2.1 : Value).ownBlock) s_.1 t360) ∧ (Kd.R k40 40 w' w.heap.size (fun k_ => some k_ ≠ (s_.1 : Value).ownBlock) s_.2.1 t363) ∧ (Kd.R k56 56 w' w.heap.size (fun k_ => k_ ≠ gb357) s_.2.2 t366) ∧ (w'.heap[gb356]? = some (.cells #[.int .i64 a0_0, .slice A0_1 l0_1.length c0_1, .slice A0_2 l0_2.length c0_2, .int .i64 a0_3, .slice A0_4 l0_4.length c0_4] 36 (0, 0))) ∧ (w'.heap[gb357]? = some (.cells #[.int .i64 a1_0, .int .i64 a1_1, .int .i64 a1_2, .int .i64 a1_3, .int .i64 a1_4] 56 (0, 0))) ∧ (w'.heap[gb358]? = some (.cells #[.int .i64 0, .slice none 0 0, .slice none 0 0, .int .i64 0, .slice none 0 0] 36 (0, 0))) ∧ (Below w.heap.size w w')) ?_ ?_
       rotate_left
       ·
        intro hJ2_6
        refine join_ (σ := Value × Value × Value) 5 #[true, true, true, true, true, true, false, true, true, false, false, false, false] (fun s_ => [(11, .agg #[.int .i64 t359, s_.1, s_.2.1]), (17, s_.2.2)]) (fun s_ w' => (w'.cell? ⟨gb356, 0, none⟩ = some (.int .i64 a0_0) ∧ w'.cell? ⟨gb356, 1, none⟩ = some (.slice A0_1 l0_1.length c0_1) ∧ w'.cell? ⟨gb356, 2, none⟩ = some (.slice A0_2 l0_2.length c0_2) ∧ w'.cell? ⟨gb356, 3, none⟩ = some (.int .i64 a0_3) ∧ w'.cell? ⟨gb356, 4, none⟩ = some (.slice A0_4 l0_4.length c0_4) ∧ w'.cell? ⟨gb357, 0, none⟩ = some (.int .i64 a1_0) ∧ w'.cell? ⟨gb357, 1, none⟩ = some (.int .i64 a1_1) ∧ w'.cell? ⟨gb357, 2, none⟩ = some (.int .i64 a1_2) ∧ w'.cell? ⟨gb357, 3, none⟩ = some (.int .i64 a1_3) ∧ w'.cell? ⟨gb357, 4, none⟩ = some (.int .i64 a1_4)) ∧ (Kd.R k40 40 w' w.heap.size (fun k_ => some k_ ≠ (s_.2.1 : Value).ownBlock) s_.1 t360) ∧ (Kd.R k40 40 w' w.heap.size (fun k_ => some k_ ≠ (s_.1 : Value).ownBlock) s_.2.1 t363) ∧ (Kd.R k56 56 w' w.heap.size (fun k_ => k_ ≠ gb357) s_.2.2 y369) ∧ (w'.heap[gb356]? = some (.cells #[.int .i64 a0_0, .slice A0_1 l0_1.length c0_1, .slice A0_2 l0_2.length c0_2, .int .i64 a0_3, .slice A0_4 l0_4.length c0_4] 36 (0, 0))) ∧ (w'.heap[gb357]? = some (.cells #[.int .i64 a1_0, .int .i64 a1_1, .int .i64 a1_2, .int .i64 a1_3, .int .i64 a1_4] 56 (0, 0))) ∧ (w'.heap[gb358]? = some (.cells #[.int .i64 0, .slice none 0 0, .slice none 0 0, .int .i64 0, .slice none 0 0] 36 (0, 0))) ∧ (Below w.heap.size w w')) ?_ ?_
        rotate_left
        ·
         intro hJ2_8
         refine join_ (σ := Value × Value × Nat) 5 #[true, true, true, true, true, true, false, true, false, false, false, true, false] (fun s_ => [(11, .agg #[.int .i64 t359, s_.1, s_.2.1]), (8, .pointer (some ⟨s_.2.2, 0, none⟩))]) (fun s_ w' => (w'.cell? ⟨gb356, 0, none⟩ = some (.int .i64 a0_0) ∧ w'.cell? ⟨gb356, 1, none⟩ = some (.slice A0_1 l0_1.length c0_1) ∧ w'.cell? ⟨gb356, 2, none⟩ = some (.slice A0_2 l0_2.length c0_2) ∧ w'.cell? ⟨gb356, 3, none⟩ = some (.int .i64 a0_3) ∧ w'.cell? ⟨gb356, 4, none⟩ = some (.slice A0_4 l0_4.length c0_4) ∧ w'.cell? ⟨gb357, 0, none⟩ = some (.int .i64 a1_0) ∧ w'.cell? ⟨gb357, 1, none⟩ = some (.int .i64 a1_1) ∧ w'.cell? ⟨gb357, 2, none⟩ = some (.int .i64 a1_2) ∧ w'.cell? ⟨gb357, 3, none⟩ = some (.int .i64 a1_3) ∧ w'.cell? ⟨gb357, 4, none⟩ = some (.int .i64 a1_4)) ∧ (Kd.R k40 40 w' w.heap.size (fun k_ => some k_ ≠ (s_.2.1 : Value).ownBlock) s_.1 t360) ∧ (Kd.R k40 40 w' w.heap.size (fun k_ => some k_ ≠ (s_.1 : Value).ownBlock) s_.2.1 t363) ∧ (w'.heap[gb356]? = some (.cells #[.int .i64 a0_0, .slice A0_1 l0_1.length c0_1, .slice A0_2 l0_2.length c0_2, .int .i64 a0_3, .slice A0_4 l0_4.length c0_4] 36 (0, 0))) ∧ (w'.heap[gb357]? = some (.cells #[.int .i64 a1_0, .int .i64 a1_1, .int .i64 a1_2, .int .i64 a1_3, .int .i64 a1_4] 56 (0, 0))) ∧ (w'.heap[gb358]? = some (.cells #[.int .i64 0, .slice none 0 0, .slice none 0 0, .int .i64 0, .slice none 0 0] 36 (0, 0))) ∧ (w'.heap[s_.2.2]? = some (.cells #[.int .i64 0, .slice none 0 0, .slice none 0 0, .int .i64 0, .slice none 0 0] 36 (0, 0))) ∧ (w.heap.size ≤ s_.2.2) ∧ (w.heap.size ≤ s_.2.2) ∧ (gb356 ≠ s_.2.2) ∧ (s_.2.2 ≠ gb356) ∧ (gb357 ≠ s_.2.2) ∧ (s_.2.2 ≠ gb357) ∧ (gb358 ≠ s_.2.2) ∧ (s_.2.2 ≠ gb358) ∧ (Below w.heap.size w w')) ?_ ?_
         rotate_left
         ·
          intro hJ2_11
          refine join_ (σ := Value × Nat) 5 #[true, true, false, true, true, true, false, true, true, false, false, true, false] (fun s_ => [(17, s_.1), (8, .pointer (some ⟨s_.2, 0, none⟩))]) (fun s_ w' => (w'.cell? ⟨gb356, 0, none⟩ = some (.int .i64 a0_0) ∧ w'.cell? ⟨gb356, 1, none⟩ = some (.slice A0_1 l0_1.length c0_1) ∧ w'.cell? ⟨gb356, 2, none⟩ = some (.slice A0_2 l0_2.length c0_2) ∧ w'.cell? ⟨gb356, 3, none⟩ = some (.int .i64 a0_3) ∧ w'.cell? ⟨gb356, 4, none⟩ = some (.slice A0_4 l0_4.length c0_4) ∧ w'.cell? ⟨gb357, 0, none⟩ = some (.int .i64 a1_0) ∧ w'.cell? ⟨gb357, 1, none⟩ = some (.int .i64 a1_1) ∧ w'.cell? ⟨gb357, 2, none⟩ = some (.int .i64 a1_2) ∧ w'.cell? ⟨gb357, 3, none⟩ = some (.int .i64 a1_3) ∧ w'.cell? ⟨gb357, 4, none⟩ = some (.int .i64 a1_4)) ∧ (Kd.R k56 56 w' w.heap.size (fun k_ => k_ ≠ gb357) s_.1 y369) ∧ (w'.heap[gb356]? = some (.cells #[.int .i64 a0_0, .slice A0_1 l0_1.length c0_1, .slice A0_2 l0_2.length c0_2, .int .i64 a0_3, .slice A0_4 l0_4.length c0_4] 36 (0, 0))) ∧ (w'.heap[gb357]? = some (.cells #[.int .i64 a1_0, .int .i64 a1_1, .int .i64 a1_2, .int .i64 a1_3, .int .i64 a1_4] 56 (0, 0))) ∧ (w'.heap[gb358]? = some (.cells #[.int .i64 0, .slice none 0 0, .slice none 0 0, .int .i64 0, .slice none 0 0] 36 (0, 0))) ∧ (w'.heap[s_.2]? = some (.cells #[.int .i64 0, .slice none 0 0, .slice none 0 0, .int .i64 0, .slice none 0 0] 36 (0, 0))) ∧ (w.heap.size ≤ s_.2) ∧ (w.heap.size ≤ s_.2) ∧ (gb356 ≠ s_.2) ∧ (s_.2 ≠ gb356) ∧ (gb357 ≠ s_.2) ∧ (s_.2 ≠ gb357) ∧ (gb358 ≠ s_.2) ∧ (s_.2 ≠ gb358) ∧ (Below w.heap.size w w')) ?_ ?_
          rotate_left
          ·
           intro hJ8_11
           refine join_ (σ := Value × Value) 6 #[true, true, true, true, true, true, false, true, false, false, false, false, false] (fun s_ => [(11, .agg #[.int .i64 t359, s_.1, s_.2])]) (fun s_ w' => (w'.cell? ⟨gb356, 0, none⟩ = some (.int .i64 a0_0) ∧ w'.cell? ⟨gb356, 1, none⟩ = some (.slice A0_1 l0_1.length c0_1) ∧ w'.cell? ⟨gb356, 2, none⟩ = some (.slice A0_2 l0_2.length c0_2) ∧ w'.cell? ⟨gb356, 3, none⟩ = some (.int .i64 a0_3) ∧ w'.cell? ⟨gb356, 4, none⟩ = some (.slice A0_4 l0_4.length c0_4) ∧ w'.cell? ⟨gb357, 0, none⟩ = some (.int .i64 a1_0) ∧ w'.cell? ⟨gb357, 1, none⟩ = some (.int .i64 a1_1) ∧ w'.cell? ⟨gb357, 2, none⟩ = some (.int .i64 a1_2) ∧ w'.cell? ⟨gb357, 3, none⟩ = some (.int .i64 a1_3) ∧ w'.cell? ⟨gb357, 4, none⟩ = some (.int .i64 a1_4)) ∧ (Kd.R k40 40 w' w.heap.size (fun k_ => some k_ ≠ (s_.2 : Value).ownBlock) s_.1 t360) ∧ (Kd.R k40 40 w' w.heap.size (fun k_ => some k_ ≠ (s_.1 : Value).ownBlock) s_.2 t363) ∧ (w'.heap[gb356]? = some (.cells #[.int .i64 a0_0, .slice A0_1 l0_1.length c0_1, .slice A0_2 l0_2.length c0_2, .int .i64 a0_3, .slice A0_4 l0_4.length c0_4] 36 (0, 0))) ∧ (w'.heap[gb357]? = some (.cells #[.int .i64 a1_0, .int .i64 a1_1, .int .i64 a1_2, .int .i64 a1_3, .int .i64 a1_4] 56 (0, 0))) ∧ (w'.heap[gb358]? = some (.cells #[.int .i64 0, .slice none 0 0, .slice none 0 0, .int .i64 0, .slice none 0 0] 36 (0, 0))) ∧ (Below w.heap.size w w')) ?_ ?_
           rotate_left
           ·
            intro hJ2
            refine join_ (σ := Value) 6 #[true, true, false, true, true, true, false, true, true, false, false, false, false] (fun s_ => [(17, s_)]) (fun s_ w' => (w'.cell? ⟨gb356, 0, none⟩ = some (.int .i64 a0_0) ∧ w'.cell? ⟨gb356, 1, none⟩ = some (.slice A0_1 l0_1.length c0_1) ∧ w'.cell? ⟨gb356, 2, none⟩ = some (.slice A0_2 l0_2.length c0_2) ∧ w'.cell? ⟨gb356, 3, none⟩ = some (.int .i64 a0_3) ∧ w'.cell? ⟨gb356, 4, none⟩ = some (.slice A0_4 l0_4.length c0_4) ∧ w'.cell? ⟨gb357, 0, none⟩ = some (.int .i64 a1_0) ∧ w'.cell? ⟨gb357, 1, none⟩ = some (.int .i64 a1_1) ∧ w'.cell? ⟨gb357, 2, none⟩ = some (.int .i64 a1_2) ∧ w'.cell? ⟨gb357, 3, none⟩ = some (.int .i64 a1_3) ∧ w'.cell? ⟨gb357, 4, none⟩ = some (.int .i64 a1_4)) ∧ (Kd.R k56 56 w' w.heap.size (fun k_ => k_ ≠ gb357) s_ y369) ∧ (w'.heap[gb356]? = some (.cells #[.int .i64 a0_0, .slice A0_1 l0_1.length c0_1, .slice A0_2 l0_2.length c0_2, .int .i64 a0_3, .slice A0_4 l0_4.length c0_4] 36 (0, 0))) ∧ (w'.heap[gb357]? = some (.cells #[.int .i64 a1_0, .int .i64 a1_1, .int .i64 a1_2, .int .i64 a1_3, .int .i64 a1_4] 56 (0, 0))) ∧ (w'.heap[gb358]? = some (.cells #[.int .i64 0, .slice none 0 0, .slice none 0 0, .int .i64 0, .slice none 0 0] 36 (0, 0))) ∧ (Below w.heap.size w w')) ?_ ?_
            rotate_left
            ·
             intro hJ8
             refine join_ (σ := Nat) 6 #[true, true, false, true, true, true, false, true, false, false, false, true, false] (fun s_ => [(8, .pointer (some ⟨s_, 0, none⟩))]) (fun s_ w' => (w'.cell? ⟨gb356, 0, none⟩ = some (.int .i64 a0_0) ∧ w'.cell? ⟨gb356, 1, none⟩ = some (.slice A0_1 l0_1.length c0_1) ∧ w'.cell? ⟨gb356, 2, none⟩ = some (.slice A0_2 l0_2.length c0_2) ∧ w'.cell? ⟨gb356, 3, none⟩ = some (.int .i64 a0_3) ∧ w'.cell? ⟨gb356, 4, none⟩ = some (.slice A0_4 l0_4.length c0_4) ∧ w'.cell? ⟨gb357, 0, none⟩ = some (.int .i64 a1_0) ∧ w'.cell? ⟨gb357, 1, none⟩ = some (.int .i64 a1_1) ∧ w'.cell? ⟨gb357, 2, none⟩ = some (.int .i64 a1_2) ∧ w'.cell? ⟨gb357, 3, none⟩ = some (.int .i64 a1_3) ∧ w'.cell? ⟨gb357, 4, none⟩ = some (.int .i64 a1_4)) ∧ (w'.heap[gb356]? = some (.cells #[.int .i64 a0_0, .slice A0_1 l0_1.length c0_1, .slice A0_2 l0_2.length c0_2, .int .i64 a0_3, .slice A0_4 l0_4.length c0_4] 36 (0, 0))) ∧ (w'.heap[gb357]? = some (.cells #[.int .i64 a1_0, .int .i64 a1_1, .int .i64 a1_2, .int .i64 a1_3, .int .i64 a1_4] 56 (0, 0))) ∧ (w'.heap[gb358]? = some (.cells #[.int .i64 0, .slice none 0 0, .slice none 0 0, .int .i64 0, .slice none 0 0] 36 (0, 0))) ∧ (w'.heap[s_]? = some (.cells #[.int .i64 0, .slice none 0 0, .slice none 0 0, .int .i64 0, .slice none 0 0] 36 (0, 0))) ∧ (w.heap.size ≤ s_) ∧ (w.heap.size ≤ s_) ∧ (gb356 ≠ s_) ∧ (s_ ≠ gb356) ∧ (gb357 ≠ s_) ∧ (s_ ≠ gb357) ∧ (gb358 ≠ s_) ∧ (s_ ≠ gb358) ∧ (Below w.heap.size w w')) ?_ ?_
             rotate_left
             ·
              intro hJ11
              refine three_ (i := 2) (j := 8) (k := 11) (Ni := some 11) (Nj := some 17) (Nk := some 8) #[true, true, true, true, true, true, false, true, false, false, false, false, false] #[true, true, false, true, true, true, false, true, true, false, false, false, false] #[true, true, false, true, true, true, false, true, false, false, false, true, false] rfl rfl rfl rfl rfl rfl (three_of HT_.out (by kernel_rfl)) (by decide) (by decide) (by decide) (fun K hK => ?_) (fun K hK => ?_) (fun K hK => ?_)
              ·
               skip
               refine goes_ Try.func34 (by kernel_rfl) rfl #[.agg #[.int .i64 a0_0, .slice A0_1 l0_1.length c0_1, .slice A0_2 l0_2.length c0_2]] (by rfl) rfl rfl (by (try simp only [List.map_toArray, List.map_cons, List.map_nil]); first | done | rfl | (simp only [List.length_drop, List.length_take]; rfl)) ?_
               with_reducible refine (impl_ownFree.calls a0_0 _ _ l0_1 _ _ l0_2 t359 t360 t363 _ ?side1 ?side2 ?side3 ?side4 A4.out).mono ?_
               (case side1 => exact cb HR0_1 HB)
               (case side2 => exact HC0_1.out)
               (case side3 => exact cb HR0_2 HB)
               (case side4 => exact HC0_2.out)
               rintro e w15 ⟨v361, v364, rfl, ho0, ho1, hb⟩
               refine ⟨_, rfl, ?_⟩
               have n0_ := Ah (Kd.R_lower ho0 (below_size (bs3 HB GE356 GE357 GE358)))
               have n1_ := Ah (Kd.R_lower ho1 (below_size (bs3 HB GE356 GE357 GE358)))
               have n2_ := Ah (bb BK356 hb)
               have n3_ := Ah (bb BK357 hb)
               have n4_ := Ah (bb BK358 hb)
               have n5_ := Ah (below_step (bs3 HB GE356 GE357 GE358) hb)
               clear BK356 BK357 BK358 HB
               have HO362 := n0_
               have HO365 := n1_
               have BK356 := n2_
               have BK357 := n3_
               have BK358 := n4_
               have HB := n5_
               clear n0_ n1_ n2_ n3_ n4_ n5_
               (try clear hb)
               (try clear hb2)
               (try clear hk)
               (try clear hi)
               (try clear ho0)
               (try clear ho1)
               refine hK.out _ _ ⟨(blk_cell BK356.out 0).trans rfl, (blk_cell BK356.out 1).trans rfl, (blk_cell BK356.out 2).trans rfl, (blk_cell BK356.out 3).trans rfl, (blk_cell BK356.out 4).trans rfl, (blk_cell BK357.out 0).trans rfl, (blk_cell BK357.out 1).trans rfl, (blk_cell BK357.out 2).trans rfl, (blk_cell BK357.out 3).trans rfl, (blk_cell BK357.out 4).trans rfl⟩ (fun hHeld => ?_)
               clear hK K
               refine norm_ (a' := ?_) ?_ ?_
               rotate_left
               ·
                show Act.put _ (some 11) _ = _
                simp only [Act.put, List.setIfInBounds_toArray, List.set_cons_zero, List.set_cons_succ, i64_w, i32_w]
                rfl
               exact norm_ (by first | (simp only [putAll, Act.put, List.setIfInBounds_toArray, List.set_cons_zero, List.set_cons_succ]; done) | (simp only [putAll, Act.put, List.setIfInBounds_toArray, List.set_cons_zero, List.set_cons_succ]; rfl)) (hJ2 (v361, v364) _ ⟨hHeld, (rr HO362.out), (rr HO365.out), (bk BK356), (bk BK357), (bk BK358), (bs3 HB GE356 GE357 GE358)⟩)
              ·
               skip
               refine Kd.R_lit_step k56 _ 56 ?hg (N := 17) ?hd (xs := ([(⟨a1_0, a1_1, (⟨a1_2, a1_3⟩ : S40), a1_4⟩ : S56)] : List (S56))) (inner := [.int .i64 a1_0, .int .i64 a1_1, .int .i64 a1_2, .int .i64 a1_3, .int .i64 a1_4]) (ok := fun _ => True) (okp := fun _ => True) ?hr ?hp (fun _ hk => hk) trivial (Below.refl _ _) (Nat.le_refl _) (by simp) ?_; (case hd => rfl); (case hg => rfl); (case hr => first | (go_simp; done) | (go_simp; rfl)); (case hp => exact (Reps.c5 (show Kd.M k56 _ _ _ (⟨a1_0, a1_1, (⟨a1_2, a1_3⟩ : S40), a1_4⟩ : S56) [.int .i64 a1_0, .int .i64 a1_1, .int .i64 a1_2, .int .i64 a1_3, .int .i64 a1_4] from (k56_mkM _ _ _ (⟨a1_0, a1_1, (⟨a1_2, a1_3⟩ : S40), a1_4⟩ : S56) )) (Reps.none _ _)))
               intro v370 w15 ho16 hb hg_ hnew_
               clear hg_ hnew_
               (first | rw [← Ny369.out] at ho16 | (simp only [Int.reduceToNat] at ho16; rw [← Ny369.out] at ho16))
               have n0_ := Ah (Kd.R_lower (Kd.R_newB ho16 (g := gb357) (o := .cells #[.int .i64 a1_0, .int .i64 a1_1, .int .i64 a1_2, .int .i64 a1_3, .int .i64 a1_4] 56 (0, 0)) (bk BK357)) (below_size (bs3 HB GE356 GE357 GE358)))
               have n1_ := Ah (bb BK356 hb)
               have n2_ := Ah (bb BK357 hb)
               have n3_ := Ah (bb BK358 hb)
               have n4_ := Ah (below_step (bs3 HB GE356 GE357 GE358) hb)
               clear BK356 BK357 BK358 HB
               have HO371 := n0_
               have BK356 := n1_
               have BK357 := n2_
               have BK358 := n3_
               have HB := n4_
               clear n0_ n1_ n2_ n3_ n4_ hb ho16
               refine hK.out _ _ ⟨(blk_cell BK356.out 0).trans rfl, (blk_cell BK356.out 1).trans rfl, (blk_cell BK356.out 2).trans rfl, (blk_cell BK356.out 3).trans rfl, (blk_cell BK356.out 4).trans rfl, (blk_cell BK357.out 0).trans rfl, (blk_cell BK357.out 1).trans rfl, (blk_cell BK357.out 2).trans rfl, (blk_cell BK357.out 3).trans rfl, (blk_cell BK357.out 4).trans rfl⟩ (fun hHeld => ?_)
               clear hK K
               refine norm_ (a' := ?_) ?_ ?_
               rotate_left
               ·
                show Act.put _ (some 17) _ = _
                simp only [Act.put, List.setIfInBounds_toArray, List.set_cons_zero, List.set_cons_succ, i64_w, i32_w]
                rfl
               exact norm_ (by first | (simp only [putAll, Act.put, List.setIfInBounds_toArray, List.set_cons_zero, List.set_cons_succ]; done) | (simp only [putAll, Act.put, List.setIfInBounds_toArray, List.set_cons_zero, List.set_cons_succ]; rfl)) (hJ8 (v370) _ ⟨hHeld, (by (with_reducible repeat (first | apply Kd.R_alloc | apply Kd.R_drewN | apply Kd.R_drew)); exact Kd.R_mono HO371.out (fun _ hk => hk.2)), (bk BK356), (bk BK357), (bk BK358), (bs3 HB GE356 GE357 GE358)⟩)
              ·
               skip
               refine box_step ?hg (N := 8) ?hd (cs := #[.int .i64 0, .slice none 0 0, .slice none 0 0, .int .i64 0, .slice none 0 0]) (t := 36) ?hr ?_; (case hd => rfl); (case hg => rfl); (case hr => first | (go_simp; done) | (go_simp; rfl))
               intro gb375 hg w15 hbox hb
               have n0_ := Ah (bb BK356 hb)
               have n1_ := Ah (bb BK357 hb)
               have n2_ := Ah (bb BK358 hb)
               have n3_ := Ah (below_step (bs3 HB GE356 GE357 GE358) hb)
               have n4_ := Ah (hbox)
               have n5_ := gw hg (bs3 HB GE356 GE357 GE358)
               have n6_ := gw hg (bs3 HB GE356 GE357 GE358)
               have n7_ := nn BK356 hg
               have n8_ := nm BK356 hg
               have n9_ := nn BK357 hg
               have n10_ := nm BK357 hg
               have n11_ := nn BK358 hg
               have n12_ := nm BK358 hg
               clear BK356 BK357 BK358 HB
               have BK356 := n0_
               have BK357 := n1_
               have BK358 := n2_
               have HB := n3_
               have BK375 := n4_
               have GW375 := n5_
               have GE375 := n6_
               have NB356_375 := n7_
               have NB375_356 := n8_
               have NB357_375 := n9_
               have NB375_357 := n10_
               have NB358_375 := n11_
               have NB375_358 := n12_
               clear n0_ n1_ n2_ n3_ n4_ n5_ n6_ n7_ n8_ n9_ n10_ n11_ n12_ hb hbox hg
               refine hK.out _ _ ⟨(blk_cell BK356.out 0).trans rfl, (blk_cell BK356.out 1).trans rfl, (blk_cell BK356.out 2).trans rfl, (blk_cell BK356.out 3).trans rfl, (blk_cell BK356.out 4).trans rfl, (blk_cell BK357.out 0).trans rfl, (blk_cell BK357.out 1).trans rfl, (blk_cell BK357.out 2).trans rfl, (blk_cell BK357.out 3).trans rfl, (blk_cell BK357.out 4).trans rfl⟩ (fun hHeld => ?_)
               clear hK K
               refine norm_ (a' := ?_) ?_ ?_
               rotate_left
               ·
                show Act.put _ (some 8) _ = _
                simp only [Act.put, List.setIfInBounds_toArray, List.set_cons_zero, List.set_cons_succ, i64_w, i32_w]
                rfl
               exact norm_ (by first | (simp only [putAll, Act.put, List.setIfInBounds_toArray, List.set_cons_zero, List.set_cons_succ]; done) | (simp only [putAll, Act.put, List.setIfInBounds_toArray, List.set_cons_zero, List.set_cons_succ]; rfl)) (hJ11 (gb375) _ ⟨hHeld, (bk BK356), (bk BK357), (bk BK358), (bk BK375), GW375.out, GE375.out, NB356_375.out, NB375_356.out, NB357_375.out, NB375_357.out, NB358_375.out, NB375_358.out, (bs4 HB GE356 GE357 GE358 GE375)⟩)
             ·
              skip
              rintro gb375 w16 ⟨hS_, h0_, h1_, h2_, h3_, h4_, h5_, h6_, h7_, h8_, h9_, h10_, h11_, h12_⟩
              have n0_ : Aside0 (w16.heap[gb356]? = some (.cells #[.int .i64 a0_0, .slice A0_1 l0_1.length c0_1, .slice A0_2 l0_2.length c0_2, .int .i64 a0_3, .slice A0_4 l0_4.length c0_4] 36 (0, 0))) := ⟨h0_⟩
              have n1_ : Aside0 (w16.heap[gb357]? = some (.cells #[.int .i64 a1_0, .int .i64 a1_1, .int .i64 a1_2, .int .i64 a1_3, .int .i64 a1_4] 56 (0, 0))) := ⟨h1_⟩
              have n2_ : Aside0 (w16.heap[gb358]? = some (.cells #[.int .i64 0, .slice none 0 0, .slice none 0 0, .int .i64 0, .slice none 0 0] 36 (0, 0))) := ⟨h2_⟩
              have n3_ : Aside0 (w16.heap[gb375]? = some (.cells #[.int .i64 0, .slice none 0 0, .slice none 0 0, .int .i64 0, .slice none 0 0] 36 (0, 0))) := ⟨h3_⟩
              have n4_ : Aside0 (w.heap.size ≤ gb375) := ⟨h4_⟩
              have n5_ : Aside0 (w.heap.size ≤ gb375) := ⟨h5_⟩
              have n6_ : Aside0 (gb356 ≠ gb375) := ⟨h6_⟩
              have n7_ : Aside0 (gb375 ≠ gb356) := ⟨h7_⟩
              have n8_ : Aside0 (gb357 ≠ gb375) := ⟨h8_⟩
              have n9_ : Aside0 (gb375 ≠ gb357) := ⟨h9_⟩
              have n10_ : Aside0 (gb358 ≠ gb375) := ⟨h10_⟩
              have n11_ : Aside0 (gb375 ≠ gb358) := ⟨h11_⟩
              have n12_ : Aside0 (Below w.heap.size w w16) := ⟨h12_⟩
              clear BK356 BK357 BK358 HB h0_ h1_ h2_ h3_ h4_ h5_ h6_ h7_ h8_ h9_ h10_ h11_ h12_
              have BK356 := n0_
              have BK357 := n1_
              have BK358 := n2_
              have BK375 := n3_
              have GW375 := n4_
              have GE375 := n5_
              have NB356_375 := n6_
              have NB375_356 := n7_
              have NB357_375 := n8_
              have NB375_357 := n9_
              have NB358_375 := n10_
              have NB375_358 := n11_
              have HB := n12_
              clear n0_ n1_ n2_ n3_ n4_ n5_ n6_ n7_ n8_ n9_ n10_ n11_ n12_
              have hHeld : w16.cell? ⟨gb356, 0, none⟩ = some (.int .i64 a0_0) ∧ w16.cell? ⟨gb356, 1, none⟩ = some (.slice A0_1 l0_1.length c0_1) ∧ w16.cell? ⟨gb356, 2, none⟩ = some (.slice A0_2 l0_2.length c0_2) ∧ w16.cell? ⟨gb356, 3, none⟩ = some (.int .i64 a0_3) ∧ w16.cell? ⟨gb356, 4, none⟩ = some (.slice A0_4 l0_4.length c0_4) ∧ w16.cell? ⟨gb357, 0, none⟩ = some (.int .i64 a1_0) ∧ w16.cell? ⟨gb357, 1, none⟩ = some (.int .i64 a1_1) ∧ w16.cell? ⟨gb357, 2, none⟩ = some (.int .i64 a1_2) ∧ w16.cell? ⟨gb357, 3, none⟩ = some (.int .i64 a1_3) ∧ w16.cell? ⟨gb357, 4, none⟩ = some (.int .i64 a1_4) := hS_
              refine norm_ (a' := ?_) ?_ ?_
              rotate_left
              ·
               simp only [putAll, Act.put, List.setIfInBounds_toArray, List.set_cons_zero, List.set_cons_succ]
               rfl
              refine two_ (i := 2) (j := 8) (Ni := some 11) (Nj := some 17) #[true, true, true, true, true, true, false, true, false, false, false, true, false] #[true, true, false, true, true, true, false, true, true, false, false, true, false] rfl rfl rfl rfl (two_of HT_.out (by kernel_rfl)) (by decide) (by decide) (fun K hK => ?_) (fun K hK => ?_)
              ·
               skip
               refine goes_ Try.func34 (by kernel_rfl) rfl #[.agg #[.int .i64 a0_0, .slice A0_1 l0_1.length c0_1, .slice A0_2 l0_2.length c0_2]] (by rfl) rfl rfl (by (try simp only [List.map_toArray, List.map_cons, List.map_nil]); first | done | rfl | (simp only [List.length_drop, List.length_take]; rfl)) ?_
               with_reducible refine (impl_ownFree.calls a0_0 _ _ l0_1 _ _ l0_2 t359 t360 t363 _ ?side1 ?side2 ?side3 ?side4 A4.out).mono ?_
               (case side1 => exact cb HR0_1 HB)
               (case side2 => exact HC0_1.out)
               (case side3 => exact cb HR0_2 HB)
               (case side4 => exact HC0_2.out)
               rintro e w17 ⟨v361, v364, rfl, ho0, ho1, hb⟩
               refine ⟨_, rfl, ?_⟩
               have n0_ := Ah (Kd.R_lower ho0 (below_size (bs4 HB GE356 GE357 GE358 GE375)))
               have n1_ := Ah (Kd.R_lower ho1 (below_size (bs4 HB GE356 GE357 GE358 GE375)))
               have n2_ := Ah (bb BK356 hb)
               have n3_ := Ah (bb BK357 hb)
               have n4_ := Ah (bb BK358 hb)
               have n5_ := Ah (bb BK375 hb)
               have n6_ := Ah (below_step (bs4 HB GE356 GE357 GE358 GE375) hb)
               clear BK356 BK357 BK358 BK375 HB
               have HO362 := n0_
               have HO365 := n1_
               have BK356 := n2_
               have BK357 := n3_
               have BK358 := n4_
               have BK375 := n5_
               have HB := n6_
               clear n0_ n1_ n2_ n3_ n4_ n5_ n6_
               (try clear hb)
               (try clear hb2)
               (try clear hk)
               (try clear hi)
               (try clear ho0)
               (try clear ho1)
               refine hK.out _ _ ⟨(blk_cell BK356.out 0).trans rfl, (blk_cell BK356.out 1).trans rfl, (blk_cell BK356.out 2).trans rfl, (blk_cell BK356.out 3).trans rfl, (blk_cell BK356.out 4).trans rfl, (blk_cell BK357.out 0).trans rfl, (blk_cell BK357.out 1).trans rfl, (blk_cell BK357.out 2).trans rfl, (blk_cell BK357.out 3).trans rfl, (blk_cell BK357.out 4).trans rfl⟩ (fun hHeld => ?_)
               clear hK K
               refine norm_ (a' := ?_) ?_ ?_
               rotate_left
               ·
                show Act.put _ (some 11) _ = _
                simp only [Act.put, List.setIfInBounds_toArray, List.set_cons_zero, List.set_cons_succ, i64_w, i32_w]
                rfl
               exact norm_ (by first | (simp only [putAll, Act.put, List.setIfInBounds_toArray, List.set_cons_zero, List.set_cons_succ]; done) | (simp only [putAll, Act.put, List.setIfInBounds_toArray, List.set_cons_zero, List.set_cons_succ]; rfl)) (hJ2_11 (v361, v364, gb375) _ ⟨hHeld, (rr HO362.out), (rr HO365.out), (bk BK356), (bk BK357), (bk BK358), (bk BK375), GW375.out, GE375.out, NB356_375.out, NB375_356.out, NB357_375.out, NB375_357.out, NB358_375.out, NB375_358.out, (bs4 HB GE356 GE357 GE358 GE375)⟩)
              ·
               skip
               refine Kd.R_lit_step k56 _ 56 ?hg (N := 17) ?hd (xs := ([(⟨a1_0, a1_1, (⟨a1_2, a1_3⟩ : S40), a1_4⟩ : S56)] : List (S56))) (inner := [.int .i64 a1_0, .int .i64 a1_1, .int .i64 a1_2, .int .i64 a1_3, .int .i64 a1_4]) (ok := fun _ => True) (okp := fun _ => True) ?hr ?hp (fun _ hk => hk) trivial (Below.refl _ _) (Nat.le_refl _) (by simp) ?_; (case hd => rfl); (case hg => rfl); (case hr => first | (go_simp; done) | (go_simp; rfl)); (case hp => exact (Reps.c5 (show Kd.M k56 _ _ _ (⟨a1_0, a1_1, (⟨a1_2, a1_3⟩ : S40), a1_4⟩ : S56) [.int .i64 a1_0, .int .i64 a1_1, .int .i64 a1_2, .int .i64 a1_3, .int .i64 a1_4] from (k56_mkM _ _ _ (⟨a1_0, a1_1, (⟨a1_2, a1_3⟩ : S40), a1_4⟩ : S56) )) (Reps.none _ _)))
               intro v370 w17 ho18 hb hg_ hnew_
               clear hg_ hnew_
               (first | rw [← Ny369.out] at ho18 | (simp only [Int.reduceToNat] at ho18; rw [← Ny369.out] at ho18))
               have n0_ := Ah (Kd.R_lower (Kd.R_newB ho18 (g := gb357) (o := .cells #[.int .i64 a1_0, .int .i64 a1_1, .int .i64 a1_2, .int .i64 a1_3, .int .i64 a1_4] 56 (0, 0)) (bk BK357)) (below_size (bs4 HB GE356 GE357 GE358 GE375)))
               have n1_ := Ah (bb BK356 hb)
               have n2_ := Ah (bb BK357 hb)
               have n3_ := Ah (bb BK358 hb)
               have n4_ := Ah (bb BK375 hb)
               have n5_ := Ah (below_step (bs4 HB GE356 GE357 GE358 GE375) hb)
               clear BK356 BK357 BK358 BK375 HB
               have HO371 := n0_
               have BK356 := n1_
               have BK357 := n2_
               have BK358 := n3_
               have BK375 := n4_
               have HB := n5_
               clear n0_ n1_ n2_ n3_ n4_ n5_ hb ho18
               refine hK.out _ _ ⟨(blk_cell BK356.out 0).trans rfl, (blk_cell BK356.out 1).trans rfl, (blk_cell BK356.out 2).trans rfl, (blk_cell BK356.out 3).trans rfl, (blk_cell BK356.out 4).trans rfl, (blk_cell BK357.out 0).trans rfl, (blk_cell BK357.out 1).trans rfl, (blk_cell BK357.out 2).trans rfl, (blk_cell BK357.out 3).trans rfl, (blk_cell BK357.out 4).trans rfl⟩ (fun hHeld => ?_)
               clear hK K
               refine norm_ (a' := ?_) ?_ ?_
               rotate_left
               ·
                show Act.put _ (some 17) _ = _
                simp only [Act.put, List.setIfInBounds_toArray, List.set_cons_zero, List.set_cons_succ, i64_w, i32_w]
                rfl
               exact norm_ (by first | (simp only [putAll, Act.put, List.setIfInBounds_toArray, List.set_cons_zero, List.set_cons_succ]; done) | (simp only [putAll, Act.put, List.setIfInBounds_toArray, List.set_cons_zero, List.set_cons_succ]; rfl)) (hJ8_11 (v370, gb375) _ ⟨hHeld, (by (with_reducible repeat (first | apply Kd.R_alloc | apply Kd.R_drewN | apply Kd.R_drew)); exact Kd.R_mono HO371.out (fun _ hk => hk.2)), (bk BK356), (bk BK357), (bk BK358), (bk BK375), GW375.out, GE375.out, NB356_375.out, NB375_356.out, NB357_375.out, NB375_357.out, NB358_375.out, NB375_358.out, (bs4 HB GE356 GE357 GE358 GE375)⟩)
            ·
             skip
             rintro v370 w17 ⟨hS_, h0_, h1_, h2_, h3_, h4_⟩
             have n0_ : Aside0 (Kd.R k56 56 w17 w.heap.size (fun k_ => k_ ≠ gb357) v370 y369) := ⟨h0_⟩
             have n1_ : Aside0 (w17.heap[gb356]? = some (.cells #[.int .i64 a0_0, .slice A0_1 l0_1.length c0_1, .slice A0_2 l0_2.length c0_2, .int .i64 a0_3, .slice A0_4 l0_4.length c0_4] 36 (0, 0))) := ⟨h1_⟩
             have n2_ : Aside0 (w17.heap[gb357]? = some (.cells #[.int .i64 a1_0, .int .i64 a1_1, .int .i64 a1_2, .int .i64 a1_3, .int .i64 a1_4] 56 (0, 0))) := ⟨h2_⟩
             have n3_ : Aside0 (w17.heap[gb358]? = some (.cells #[.int .i64 0, .slice none 0 0, .slice none 0 0, .int .i64 0, .slice none 0 0] 36 (0, 0))) := ⟨h3_⟩
             have n4_ : Aside0 (Below w.heap.size w w17) := ⟨h4_⟩
             clear BK356 BK357 BK358 HB h0_ h1_ h2_ h3_ h4_
             have HO371 := n0_
             have BK356 := n1_
             have BK357 := n2_
             have BK358 := n3_
             have HB := n4_
             clear n0_ n1_ n2_ n3_ n4_
             have hHeld : w17.cell? ⟨gb356, 0, none⟩ = some (.int .i64 a0_0) ∧ w17.cell? ⟨gb356, 1, none⟩ = some (.slice A0_1 l0_1.length c0_1) ∧ w17.cell? ⟨gb356, 2, none⟩ = some (.slice A0_2 l0_2.length c0_2) ∧ w17.cell? ⟨gb356, 3, none⟩ = some (.int .i64 a0_3) ∧ w17.cell? ⟨gb356, 4, none⟩ = some (.slice A0_4 l0_4.length c0_4) ∧ w17.cell? ⟨gb357, 0, none⟩ = some (.int .i64 a1_0) ∧ w17.cell? ⟨gb357, 1, none⟩ = some (.int .i64 a1_1) ∧ w17.cell? ⟨gb357, 2, none⟩ = some (.int .i64 a1_2) ∧ w17.cell? ⟨gb357, 3, none⟩ = some (.int .i64 a1_3) ∧ w17.cell? ⟨gb357, 4, none⟩ = some (.int .i64 a1_4) := hS_
             refine norm_ (a' := ?_) ?_ ?_
             rotate_left
             ·
              simp only [putAll, Act.put, List.setIfInBounds_toArray, List.set_cons_zero, List.set_cons_succ]
              rfl
             refine two_ (i := 2) (j := 11) (Ni := some 11) (Nj := some 8) #[true, true, true, true, true, true, false, true, true, false, false, false, false] #[true, true, false, true, true, true, false, true, true, false, false, true, false] rfl rfl rfl rfl (two_of HT_.out (by kernel_rfl)) (by decide) (by decide) (fun K hK => ?_) (fun K hK => ?_)
             ·
              skip
              refine goes_ Try.func34 (by kernel_rfl) rfl #[.agg #[.int .i64 a0_0, .slice A0_1 l0_1.length c0_1, .slice A0_2 l0_2.length c0_2]] (by rfl) rfl rfl (by (try simp only [List.map_toArray, List.map_cons, List.map_nil]); first | done | rfl | (simp only [List.length_drop, List.length_take]; rfl)) ?_
              with_reducible refine (impl_ownFree.calls a0_0 _ _ l0_1 _ _ l0_2 t359 t360 t363 _ ?side1 ?side2 ?side3 ?side4 A4.out).mono ?_
              (case side1 => exact cb HR0_1 HB)
              (case side2 => exact HC0_1.out)
              (case side3 => exact cb HR0_2 HB)
              (case side4 => exact HC0_2.out)
              rintro e w18 ⟨v361, v364, rfl, ho0, ho1, hb⟩
              refine ⟨_, rfl, ?_⟩
              have n0_ := Ah (Kd.R_below (rr HO371.out) hb)
              have n1_ := Ah (Kd.R_lower ho0 (below_size (bs3 HB GE356 GE357 GE358)))
              have n2_ := Ah (Kd.R_lower ho1 (below_size (bs3 HB GE356 GE357 GE358)))
              have n3_ := Ah (bb BK356 hb)
              have n4_ := Ah (bb BK357 hb)
              have n5_ := Ah (bb BK358 hb)
              have n6_ := Ah (below_step (bs3 HB GE356 GE357 GE358) hb)
              clear HO371 BK356 BK357 BK358 HB
              have HO371 := n0_
              have HO362 := n1_
              have HO365 := n2_
              have BK356 := n3_
              have BK357 := n4_
              have BK358 := n5_
              have HB := n6_
              clear n0_ n1_ n2_ n3_ n4_ n5_ n6_
              (try clear hb)
              (try clear hb2)
              (try clear hk)
              (try clear hi)
              (try clear ho0)
              (try clear ho1)
              refine hK.out _ _ ⟨(blk_cell BK356.out 0).trans rfl, (blk_cell BK356.out 1).trans rfl, (blk_cell BK356.out 2).trans rfl, (blk_cell BK356.out 3).trans rfl, (blk_cell BK356.out 4).trans rfl, (blk_cell BK357.out 0).trans rfl, (blk_cell BK357.out 1).trans rfl, (blk_cell BK357.out 2).trans rfl, (blk_cell BK357.out 3).trans rfl, (blk_cell BK357.out 4).trans rfl⟩ (fun hHeld => ?_)
              clear hK K
              refine norm_ (a' := ?_) ?_ ?_
              rotate_left
              ·
               show Act.put _ (some 11) _ = _
               simp only [Act.put, List.setIfInBounds_toArray, List.set_cons_zero, List.set_cons_succ, i64_w, i32_w]
               rfl
              exact norm_ (by first | (simp only [putAll, Act.put, List.setIfInBounds_toArray, List.set_cons_zero, List.set_cons_succ]; done) | (simp only [putAll, Act.put, List.setIfInBounds_toArray, List.set_cons_zero, List.set_cons_succ]; rfl)) (hJ2_8 (v361, v364, v370) _ ⟨hHeld, (rr HO362.out), (rr HO365.out), (rr HO371.out), (bk BK356), (bk BK357), (bk BK358), (bs3 HB GE356 GE357 GE358)⟩)
             ·
              skip
              refine box_step ?hg (N := 8) ?hd (cs := #[.int .i64 0, .slice none 0 0, .slice none 0 0, .int .i64 0, .slice none 0 0]) (t := 36) ?hr ?_; (case hd => rfl); (case hg => rfl); (case hr => first | (go_simp; done) | (go_simp; rfl))
              intro gb375 hg w18 hbox hb
              have n0_ := Ah (Kd.R_below (rr HO371.out) hb)
              have n1_ := Ah (bb BK356 hb)
              have n2_ := Ah (bb BK357 hb)
              have n3_ := Ah (bb BK358 hb)
              have n4_ := Ah (below_step (bs3 HB GE356 GE357 GE358) hb)
              have n5_ := Ah (hbox)
              have n6_ := gw hg (bs3 HB GE356 GE357 GE358)
              have n7_ := gw hg (bs3 HB GE356 GE357 GE358)
              have n8_ := nn BK356 hg
              have n9_ := nm BK356 hg
              have n10_ := nn BK357 hg
              have n11_ := nm BK357 hg
              have n12_ := nn BK358 hg
              have n13_ := nm BK358 hg
              clear HO371 BK356 BK357 BK358 HB
              have HO371 := n0_
              have BK356 := n1_
              have BK357 := n2_
              have BK358 := n3_
              have HB := n4_
              have BK375 := n5_
              have GW375 := n6_
              have GE375 := n7_
              have NB356_375 := n8_
              have NB375_356 := n9_
              have NB357_375 := n10_
              have NB375_357 := n11_
              have NB358_375 := n12_
              have NB375_358 := n13_
              clear n0_ n1_ n2_ n3_ n4_ n5_ n6_ n7_ n8_ n9_ n10_ n11_ n12_ n13_ hb hbox hg
              refine hK.out _ _ ⟨(blk_cell BK356.out 0).trans rfl, (blk_cell BK356.out 1).trans rfl, (blk_cell BK356.out 2).trans rfl, (blk_cell BK356.out 3).trans rfl, (blk_cell BK356.out 4).trans rfl, (blk_cell BK357.out 0).trans rfl, (blk_cell BK357.out 1).trans rfl, (blk_cell BK357.out 2).trans rfl, (blk_cell BK357.out 3).trans rfl, (blk_cell BK357.out 4).trans rfl⟩ (fun hHeld => ?_)
              clear hK K
              refine norm_ (a' := ?_) ?_ ?_
              rotate_left
              ·
               show Act.put _ (some 8) _ = _
               simp only [Act.put, List.setIfInBounds_toArray, List.set_cons_zero, List.set_cons_succ, i64_w, i32_w]
               rfl
              exact norm_ (by first | (simp only [putAll, Act.put, List.setIfInBounds_toArray, List.set_cons_zero, List.set_cons_succ]; done) | (simp only [putAll, Act.put, List.setIfInBounds_toArray, List.set_cons_zero, List.set_cons_succ]; rfl)) (hJ8_11 (v370, gb375) _ ⟨hHeld, (rr HO371.out), (bk BK356), (bk BK357), (bk BK358), (bk BK375), GW375.out, GE375.out, NB356_375.out, NB375_356.out, NB357_375.out, NB375_357.out, NB358_375.out, NB375_358.out, (bs4 HB GE356 GE357 GE358 GE375)⟩)
           ·
            skip
            rintro ⟨v361, v364⟩ w16 ⟨hS_, h0_, h1_, h2_, h3_, h4_, h5_⟩
            have n0_ : Aside0 (Kd.R k40 40 w16 w.heap.size (fun k_ => some k_ ≠ (v364 : Value).ownBlock) v361 t360) := ⟨h0_⟩
            have n1_ : Aside0 (Kd.R k40 40 w16 w.heap.size (fun k_ => some k_ ≠ (v361 : Value).ownBlock) v364 t363) := ⟨h1_⟩
            have n2_ : Aside0 (w16.heap[gb356]? = some (.cells #[.int .i64 a0_0, .slice A0_1 l0_1.length c0_1, .slice A0_2 l0_2.length c0_2, .int .i64 a0_3, .slice A0_4 l0_4.length c0_4] 36 (0, 0))) := ⟨h2_⟩
            have n3_ : Aside0 (w16.heap[gb357]? = some (.cells #[.int .i64 a1_0, .int .i64 a1_1, .int .i64 a1_2, .int .i64 a1_3, .int .i64 a1_4] 56 (0, 0))) := ⟨h3_⟩
            have n4_ : Aside0 (w16.heap[gb358]? = some (.cells #[.int .i64 0, .slice none 0 0, .slice none 0 0, .int .i64 0, .slice none 0 0] 36 (0, 0))) := ⟨h4_⟩
            have n5_ : Aside0 (Below w.heap.size w w16) := ⟨h5_⟩
            clear BK356 BK357 BK358 HB h0_ h1_ h2_ h3_ h4_ h5_
            have HO362 := n0_
            have HO365 := n1_
            have BK356 := n2_
            have BK357 := n3_
            have BK358 := n4_
            have HB := n5_
            clear n0_ n1_ n2_ n3_ n4_ n5_
            have hHeld : w16.cell? ⟨gb356, 0, none⟩ = some (.int .i64 a0_0) ∧ w16.cell? ⟨gb356, 1, none⟩ = some (.slice A0_1 l0_1.length c0_1) ∧ w16.cell? ⟨gb356, 2, none⟩ = some (.slice A0_2 l0_2.length c0_2) ∧ w16.cell? ⟨gb356, 3, none⟩ = some (.int .i64 a0_3) ∧ w16.cell? ⟨gb356, 4, none⟩ = some (.slice A0_4 l0_4.length c0_4) ∧ w16.cell? ⟨gb357, 0, none⟩ = some (.int .i64 a1_0) ∧ w16.cell? ⟨gb357, 1, none⟩ = some (.int .i64 a1_1) ∧ w16.cell? ⟨gb357, 2, none⟩ = some (.int .i64 a1_2) ∧ w16.cell? ⟨gb357, 3, none⟩ = some (.int .i64 a1_3) ∧ w16.cell? ⟨gb357, 4, none⟩ = some (.int .i64 a1_4) := hS_
            refine norm_ (a' := ?_) ?_ ?_
            rotate_left
            ·
             simp only [putAll, Act.put, List.setIfInBounds_toArray, List.set_cons_zero, List.set_cons_succ]
             rfl
            refine three_ (i := 6) (j := 8) (k := 11) (Ni := some 15) (Nj := some 17) (Nk := some 8) #[true, true, true, true, true, true, true, true, false, false, false, false, false] #[true, true, true, true, true, true, false, true, true, false, false, false, false] #[true, true, true, true, true, true, false, true, false, false, false, true, false] rfl rfl rfl rfl rfl rfl (three_of HT_.out (by kernel_rfl)) (by decide) (by decide) (by decide) (fun K hK => ?_) (fun K hK => ?_) (fun K hK => ?_)
            ·
             skip
             refine goes_ Try.func40 (by kernel_rfl) rfl #[.slice A0_4 l0_4.length c0_4] (by rfl) rfl rfl (by (try simp only [List.map_toArray, List.map_cons, List.map_nil]); first | done | rfl | (simp only [List.length_drop, List.length_take]; rfl)) ?_
             with_reducible refine (impl_Item_40.calls _ _ l0_4 t366 _ ?side1 ?side2 A5.out).mono ?_
             (case side1 => exact cb HR0_4 HB)
             (case side2 => exact HC0_4.out)
             rintro e w17 ⟨v367, rfl, ho0, hb⟩
             refine ⟨_, rfl, ?_⟩
             have n0_ := Ah (Kd.R_below (rr HO362.out) hb)
             have n1_ := Ah (Kd.R_below (rr HO365.out) hb)
             have n2_ := Ah (Kd.R_lower (Kd.R_newB ho0 (g := gb357) (o := .cells #[.int .i64 a1_0, .int .i64 a1_1, .int .i64 a1_2, .int .i64 a1_3, .int .i64 a1_4] 56 (0, 0)) (bk BK357)) (below_size (bs3 HB GE356 GE357 GE358)))
             have n3_ := Ah (bb BK356 hb)
             have n4_ := Ah (bb BK357 hb)
             have n5_ := Ah (bb BK358 hb)
             have n6_ := Ah (below_step (bs3 HB GE356 GE357 GE358) hb)
             clear HO362 HO365 BK356 BK357 BK358 HB
             have HO362 := n0_
             have HO365 := n1_
             have HO368 := n2_
             have BK356 := n3_
             have BK357 := n4_
             have BK358 := n5_
             have HB := n6_
             clear n0_ n1_ n2_ n3_ n4_ n5_ n6_
             (try clear hb)
             (try clear hb2)
             (try clear hk)
             (try clear hi)
             (try clear ho0)
             refine hK.out _ _ ⟨(blk_cell BK356.out 0).trans rfl, (blk_cell BK356.out 1).trans rfl, (blk_cell BK356.out 2).trans rfl, (blk_cell BK356.out 3).trans rfl, (blk_cell BK356.out 4).trans rfl, (blk_cell BK357.out 0).trans rfl, (blk_cell BK357.out 1).trans rfl, (blk_cell BK357.out 2).trans rfl, (blk_cell BK357.out 3).trans rfl, (blk_cell BK357.out 4).trans rfl⟩ (fun hHeld => ?_)
             clear hK K
             refine norm_ (a' := ?_) ?_ ?_
             rotate_left
             ·
              show Act.put _ (some 15) _ = _
              simp only [Act.put, List.setIfInBounds_toArray, List.set_cons_zero, List.set_cons_succ, i64_w, i32_w]
              rfl
             exact norm_ (by first | (simp only [putAll, Act.put, List.setIfInBounds_toArray, List.set_cons_zero, List.set_cons_succ]; done) | (simp only [putAll, Act.put, List.setIfInBounds_toArray, List.set_cons_zero, List.set_cons_succ]; rfl)) (hJ2_6 (v361, v364, v367) _ ⟨hHeld, (rr HO362.out), (rr HO365.out), (by (with_reducible repeat (first | apply Kd.R_alloc | apply Kd.R_drewN | apply Kd.R_drew)); exact Kd.R_mono HO368.out (fun _ hk => hk.2)), (bk BK356), (bk BK357), (bk BK358), (bs3 HB GE356 GE357 GE358)⟩)
            ·
             skip
             refine Kd.R_lit_step k56 _ 56 ?hg (N := 17) ?hd (xs := ([(⟨a1_0, a1_1, (⟨a1_2, a1_3⟩ : S40), a1_4⟩ : S56)] : List (S56))) (inner := [.int .i64 a1_0, .int .i64 a1_1, .int .i64 a1_2, .int .i64 a1_3, .int .i64 a1_4]) (ok := fun _ => True) (okp := fun _ => True) ?hr ?hp (fun _ hk => hk) trivial (Below.refl _ _) (Nat.le_refl _) (by simp) ?_; (case hd => rfl); (case hg => rfl); (case hr => first | (go_simp; done) | (go_simp; rfl)); (case hp => exact (Reps.c5 (show Kd.M k56 _ _ _ (⟨a1_0, a1_1, (⟨a1_2, a1_3⟩ : S40), a1_4⟩ : S56) [.int .i64 a1_0, .int .i64 a1_1, .int .i64 a1_2, .int .i64 a1_3, .int .i64 a1_4] from (k56_mkM _ _ _ (⟨a1_0, a1_1, (⟨a1_2, a1_3⟩ : S40), a1_4⟩ : S56) )) (Reps.none _ _)))
             intro v370 w17 ho18 hb hg_ hnew_
             clear hg_ hnew_
             (first | rw [← Ny369.out] at ho18 | (simp only [Int.reduceToNat] at ho18; rw [← Ny369.out] at ho18))
             have n0_ := Ah (Kd.R_below (rr HO362.out) hb)
             have n1_ := Ah (Kd.R_below (rr HO365.out) hb)
             have n2_ := Ah (Kd.R_lower (Kd.R_newB ho18 (g := gb357) (o := .cells #[.int .i64 a1_0, .int .i64 a1_1, .int .i64 a1_2, .int .i64 a1_3, .int .i64 a1_4] 56 (0, 0)) (bk BK357)) (below_size (bs3 HB GE356 GE357 GE358)))
             have n3_ := Ah (bb BK356 hb)
             have n4_ := Ah (bb BK357 hb)
             have n5_ := Ah (bb BK358 hb)
             have n6_ := Ah (below_step (bs3 HB GE356 GE357 GE358) hb)
             clear HO362 HO365 BK356 BK357 BK358 HB
             have HO362 := n0_
             have HO365 := n1_
             have HO371 := n2_
             have BK356 := n3_
             have BK357 := n4_
             have BK358 := n5_
             have HB := n6_
             clear n0_ n1_ n2_ n3_ n4_ n5_ n6_ hb ho18
             refine hK.out _ _ ⟨(blk_cell BK356.out 0).trans rfl, (blk_cell BK356.out 1).trans rfl, (blk_cell BK356.out 2).trans rfl, (blk_cell BK356.out 3).trans rfl, (blk_cell BK356.out 4).trans rfl, (blk_cell BK357.out 0).trans rfl, (blk_cell BK357.out 1).trans rfl, (blk_cell BK357.out 2).trans rfl, (blk_cell BK357.out 3).trans rfl, (blk_cell BK357.out 4).trans rfl⟩ (fun hHeld => ?_)
             clear hK K
             refine norm_ (a' := ?_) ?_ ?_
             rotate_left
             ·
              show Act.put _ (some 17) _ = _
              simp only [Act.put, List.setIfInBounds_toArray, List.set_cons_zero, List.set_cons_succ, i64_w, i32_w]
              rfl
             exact norm_ (by first | (simp only [putAll, Act.put, List.setIfInBounds_toArray, List.set_cons_zero, List.set_cons_succ]; done) | (simp only [putAll, Act.put, List.setIfInBounds_toArray, List.set_cons_zero, List.set_cons_succ]; rfl)) (hJ2_8 (v361, v364, v370) _ ⟨hHeld, (rr HO362.out), (rr HO365.out), (by (with_reducible repeat (first | apply Kd.R_alloc | apply Kd.R_drewN | apply Kd.R_drew)); exact Kd.R_mono HO371.out (fun _ hk => hk.2)), (bk BK356), (bk BK357), (bk BK358), (bs3 HB GE356 GE357 GE358)⟩)
            ·
             skip
             refine box_step ?hg (N := 8) ?hd (cs := #[.int .i64 0, .slice none 0 0, .slice none 0 0, .int .i64 0, .slice none 0 0]) (t := 36) ?hr ?_; (case hd => rfl); (case hg => rfl); (case hr => first | (go_simp; done) | (go_simp; rfl))
             intro gb375 hg w17 hbox hb
             have n0_ := Ah (Kd.R_below (rr HO362.out) hb)
             have n1_ := Ah (Kd.R_below (rr HO365.out) hb)
             have n2_ := Ah (bb BK356 hb)
             have n3_ := Ah (bb BK357 hb)
             have n4_ := Ah (bb BK358 hb)
             have n5_ := Ah (below_step (bs3 HB GE356 GE357 GE358) hb)
             have n6_ := Ah (hbox)
             have n7_ := gw hg (bs3 HB GE356 GE357 GE358)
             have n8_ := gw hg (bs3 HB GE356 GE357 GE358)
             have n9_ := nn BK356 hg
             have n10_ := nm BK356 hg
             have n11_ := nn BK357 hg
             have n12_ := nm BK357 hg
             have n13_ := nn BK358 hg
             have n14_ := nm BK358 hg
             clear HO362 HO365 BK356 BK357 BK358 HB
             have HO362 := n0_
             have HO365 := n1_
             have BK356 := n2_
             have BK357 := n3_
             have BK358 := n4_
             have HB := n5_
             have BK375 := n6_
             have GW375 := n7_
             have GE375 := n8_
             have NB356_375 := n9_
             have NB375_356 := n10_
             have NB357_375 := n11_
             have NB375_357 := n12_
             have NB358_375 := n13_
             have NB375_358 := n14_
             clear n0_ n1_ n2_ n3_ n4_ n5_ n6_ n7_ n8_ n9_ n10_ n11_ n12_ n13_ n14_ hb hbox hg
             refine hK.out _ _ ⟨(blk_cell BK356.out 0).trans rfl, (blk_cell BK356.out 1).trans rfl, (blk_cell BK356.out 2).trans rfl, (blk_cell BK356.out 3).trans rfl, (blk_cell BK356.out 4).trans rfl, (blk_cell BK357.out 0).trans rfl, (blk_cell BK357.out 1).trans rfl, (blk_cell BK357.out 2).trans rfl, (blk_cell BK357.out 3).trans rfl, (blk_cell BK357.out 4).trans rfl⟩ (fun hHeld => ?_)
             clear hK K
             refine norm_ (a' := ?_) ?_ ?_
             rotate_left
             ·
              show Act.put _ (some 8) _ = _
              simp only [Act.put, List.setIfInBounds_toArray, List.set_cons_zero, List.set_cons_succ, i64_w, i32_w]
              rfl
             exact norm_ (by first | (simp only [putAll, Act.put, List.setIfInBounds_toArray, List.set_cons_zero, List.set_cons_succ]; done) | (simp only [putAll, Act.put, List.setIfInBounds_toArray, List.set_cons_zero, List.set_cons_succ]; rfl)) (hJ2_11 (v361, v364, gb375) _ ⟨hHeld, (rr HO362.out), (rr HO365.out), (bk BK356), (bk BK357), (bk BK358), (bk BK375), GW375.out, GE375.out, NB356_375.out, NB375_356.out, NB357_375.out, NB375_357.out, NB358_375.out, NB375_358.out, (bs4 HB GE356 GE357 GE358 GE375)⟩)
          ·
           skip
           rintro ⟨v370, gb375⟩ w18 ⟨hS_, h0_, h1_, h2_, h3_, h4_, h5_, h6_, h7_, h8_, h9_, h10_, h11_, h12_, h13_⟩
           have n0_ : Aside0 (Kd.R k56 56 w18 w.heap.size (fun k_ => k_ ≠ gb357) v370 y369) := ⟨h0_⟩
           have n1_ : Aside0 (w18.heap[gb356]? = some (.cells #[.int .i64 a0_0, .slice A0_1 l0_1.length c0_1, .slice A0_2 l0_2.length c0_2, .int .i64 a0_3, .slice A0_4 l0_4.length c0_4] 36 (0, 0))) := ⟨h1_⟩
           have n2_ : Aside0 (w18.heap[gb357]? = some (.cells #[.int .i64 a1_0, .int .i64 a1_1, .int .i64 a1_2, .int .i64 a1_3, .int .i64 a1_4] 56 (0, 0))) := ⟨h2_⟩
           have n3_ : Aside0 (w18.heap[gb358]? = some (.cells #[.int .i64 0, .slice none 0 0, .slice none 0 0, .int .i64 0, .slice none 0 0] 36 (0, 0))) := ⟨h3_⟩
           have n4_ : Aside0 (w18.heap[gb375]? = some (.cells #[.int .i64 0, .slice none 0 0, .slice none 0 0, .int .i64 0, .slice none 0 0] 36 (0, 0))) := ⟨h4_⟩
           have n5_ : Aside0 (w.heap.size ≤ gb375) := ⟨h5_⟩
           have n6_ : Aside0 (w.heap.size ≤ gb375) := ⟨h6_⟩
           have n7_ : Aside0 (gb356 ≠ gb375) := ⟨h7_⟩
           have n8_ : Aside0 (gb375 ≠ gb356) := ⟨h8_⟩
           have n9_ : Aside0 (gb357 ≠ gb375) := ⟨h9_⟩
           have n10_ : Aside0 (gb375 ≠ gb357) := ⟨h10_⟩
           have n11_ : Aside0 (gb358 ≠ gb375) := ⟨h11_⟩
           have n12_ : Aside0 (gb375 ≠ gb358) := ⟨h12_⟩
           have n13_ : Aside0 (Below w.heap.size w w18) := ⟨h13_⟩
           clear BK356 BK357 BK358 HB h0_ h1_ h2_ h3_ h4_ h5_ h6_ h7_ h8_ h9_ h10_ h11_ h12_ h13_
           have HO371 := n0_
           have BK356 := n1_
           have BK357 := n2_
           have BK358 := n3_
           have BK375 := n4_
           have GW375 := n5_
           have GE375 := n6_
           have NB356_375 := n7_
           have NB375_356 := n8_
           have NB357_375 := n9_
           have NB375_357 := n10_
           have NB358_375 := n11_
           have NB375_358 := n12_
           have HB := n13_
           clear n0_ n1_ n2_ n3_ n4_ n5_ n6_ n7_ n8_ n9_ n10_ n11_ n12_ n13_
           have hHeld : w18.cell? ⟨gb356, 0, none⟩ = some (.int .i64 a0_0) ∧ w18.cell? ⟨gb356, 1, none⟩ = some (.slice A0_1 l0_1.length c0_1) ∧ w18.cell? ⟨gb356, 2, none⟩ = some (.slice A0_2 l0_2.length c0_2) ∧ w18.cell? ⟨gb356, 3, none⟩ = some (.int .i64 a0_3) ∧ w18.cell? ⟨gb356, 4, none⟩ = some (.slice A0_4 l0_4.length c0_4) ∧ w18.cell? ⟨gb357, 0, none⟩ = some (.int .i64 a1_0) ∧ w18.cell? ⟨gb357, 1, none⟩ = some (.int .i64 a1_1) ∧ w18.cell? ⟨gb357, 2, none⟩ = some (.int .i64 a1_2) ∧ w18.cell? ⟨gb357, 3, none⟩ = some (.int .i64 a1_3) ∧ w18.cell? ⟨gb357, 4, none⟩ = some (.int .i64 a1_4) := hS_
           refine norm_ (a' := ?_) ?_ ?_
           rotate_left
           ·
            simp only [putAll, Act.put, List.setIfInBounds_toArray, List.set_cons_zero, List.set_cons_succ]
            rfl
           refine one_ (i := 2) (N := some 11) #[true, true, true, true, true, true, false, true, true, false, false, true, false] rfl rfl (one_of HT_.out (by kernel_rfl)) (by decide) (fun K hK => ?_)
           refine goes_ Try.func34 (by kernel_rfl) rfl #[.agg #[.int .i64 a0_0, .slice A0_1 l0_1.length c0_1, .slice A0_2 l0_2.length c0_2]] (by rfl) rfl rfl (by (try simp only [List.map_toArray, List.map_cons, List.map_nil]); first | done | rfl | (simp only [List.length_drop, List.length_take]; rfl)) ?_
           with_reducible refine (impl_ownFree.calls a0_0 _ _ l0_1 _ _ l0_2 t359 t360 t363 _ ?side1 ?side2 ?side3 ?side4 A4.out).mono ?_
           (case side1 => exact cb HR0_1 HB)
           (case side2 => exact HC0_1.out)
           (case side3 => exact cb HR0_2 HB)
           (case side4 => exact HC0_2.out)
           rintro e w19 ⟨v361, v364, rfl, ho0, ho1, hb⟩
           refine ⟨_, rfl, ?_⟩
           have n0_ := Ah (Kd.R_below (rr HO371.out) hb)
           have n1_ := Ah (Kd.R_lower ho0 (below_size (bs4 HB GE356 GE357 GE358 GE375)))
           have n2_ := Ah (Kd.R_lower ho1 (below_size (bs4 HB GE356 GE357 GE358 GE375)))
           have n3_ := Ah (bb BK356 hb)
           have n4_ := Ah (bb BK357 hb)
           have n5_ := Ah (bb BK358 hb)
           have n6_ := Ah (bb BK375 hb)
           have n7_ := Ah (below_step (bs4 HB GE356 GE357 GE358 GE375) hb)
           clear HO371 BK356 BK357 BK358 BK375 HB
           have HO371 := n0_
           have HO362 := n1_
           have HO365 := n2_
           have BK356 := n3_
           have BK357 := n4_
           have BK358 := n5_
           have BK375 := n6_
           have HB := n7_
           clear n0_ n1_ n2_ n3_ n4_ n5_ n6_ n7_
           (try clear hb)
           (try clear hb2)
           (try clear hk)
           (try clear hi)
           (try clear ho0)
           (try clear ho1)
           refine hK.out _ _ ⟨(blk_cell BK356.out 0).trans rfl, (blk_cell BK356.out 1).trans rfl, (blk_cell BK356.out 2).trans rfl, (blk_cell BK356.out 3).trans rfl, (blk_cell BK356.out 4).trans rfl, (blk_cell BK357.out 0).trans rfl, (blk_cell BK357.out 1).trans rfl, (blk_cell BK357.out 2).trans rfl, (blk_cell BK357.out 3).trans rfl, (blk_cell BK357.out 4).trans rfl⟩ (fun hHeld => ?_)
           clear hK K
           refine norm_ (a' := ?_) ?_ ?_
           rotate_left
           ·
            show Act.put _ (some 11) _ = _
            simp only [Act.put, List.setIfInBounds_toArray, List.set_cons_zero, List.set_cons_succ, i64_w, i32_w]
            rfl
           exact norm_ (by first | (simp only [putAll, Act.put, List.setIfInBounds_toArray, List.set_cons_zero, List.set_cons_succ]; done) | (simp only [putAll, Act.put, List.setIfInBounds_toArray, List.set_cons_zero, List.set_cons_succ]; rfl)) (hJ2_8_11 (v361, v364, v370, gb375) _ ⟨hHeld, (rr HO362.out), (rr HO365.out), (rr HO371.out), (bk BK356), (bk BK357), (bk BK358), (bk BK375), GW375.out, GE375.out, NB356_375.out, NB375_356.out, NB357_375.out, NB375_357.out, NB358_375.out, NB375_358.out, (bs4 HB GE356 GE357 GE358 GE375)⟩)
         ·
          skip
          rintro ⟨v361, v364, gb375⟩ w17 ⟨hS_, h0_, h1_, h2_, h3_, h4_, h5_, h6_, h7_, h8_, h9_, h10_, h11_, h12_, h13_, h14_⟩
          have n0_ : Aside0 (Kd.R k40 40 w17 w.heap.size (fun k_ => some k_ ≠ (v364 : Value).ownBlock) v361 t360) := ⟨h0_⟩
          have n1_ : Aside0 (Kd.R k40 40 w17 w.heap.size (fun k_ => some k_ ≠ (v361 : Value).ownBlock) v364 t363) := ⟨h1_⟩
          have n2_ : Aside0 (w17.heap[gb356]? = some (.cells #[.int .i64 a0_0, .slice A0_1 l0_1.length c0_1, .slice A0_2 l0_2.length c0_2, .int .i64 a0_3, .slice A0_4 l0_4.length c0_4] 36 (0, 0))) := ⟨h2_⟩
          have n3_ : Aside0 (w17.heap[gb357]? = some (.cells #[.int .i64 a1_0, .int .i64 a1_1, .int .i64 a1_2, .int .i64 a1_3, .int .i64 a1_4] 56 (0, 0))) := ⟨h3_⟩
          have n4_ : Aside0 (w17.heap[gb358]? = some (.cells #[.int .i64 0, .slice none 0 0, .slice none 0 0, .int .i64 0, .slice none 0 0] 36 (0, 0))) := ⟨h4_⟩
          have n5_ : Aside0 (w17.heap[gb375]? = some (.cells #[.int .i64 0, .slice none 0 0, .slice none 0 0, .int .i64 0, .slice none 0 0] 36 (0, 0))) := ⟨h5_⟩
          have n6_ : Aside0 (w.heap.size ≤ gb375) := ⟨h6_⟩
          have n7_ : Aside0 (w.heap.size ≤ gb375) := ⟨h7_⟩
          have n8_ : Aside0 (gb356 ≠ gb375) := ⟨h8_⟩
          have n9_ : Aside0 (gb375 ≠ gb356) := ⟨h9_⟩
          have n10_ : Aside0 (gb357 ≠ gb375) := ⟨h10_⟩
          have n11_ : Aside0 (gb375 ≠ gb357) := ⟨h11_⟩
          have n12_ : Aside0 (gb358 ≠ gb375) := ⟨h12_⟩
          have n13_ : Aside0 (gb375 ≠ gb358) := ⟨h13_⟩
          have n14_ : Aside0 (Below w.heap.size w w17) := ⟨h14_⟩
          clear BK356 BK357 BK358 HB h0_ h1_ h2_ h3_ h4_ h5_ h6_ h7_ h8_ h9_ h10_ h11_ h12_ h13_ h14_
          have HO362 := n0_
          have HO365 := n1_
          have BK356 := n2_
          have BK357 := n3_
          have BK358 := n4_
          have BK375 := n5_
          have GW375 := n6_
          have GE375 := n7_
          have NB356_375 := n8_
          have NB375_356 := n9_
          have NB357_375 := n10_
          have NB375_357 := n11_
          have NB358_375 := n12_
          have NB375_358 := n13_
          have HB := n14_
          clear n0_ n1_ n2_ n3_ n4_ n5_ n6_ n7_ n8_ n9_ n10_ n11_ n12_ n13_ n14_
          have hHeld : w17.cell? ⟨gb356, 0, none⟩ = some (.int .i64 a0_0) ∧ w17.cell? ⟨gb356, 1, none⟩ = some (.slice A0_1 l0_1.length c0_1) ∧ w17.cell? ⟨gb356, 2, none⟩ = some (.slice A0_2 l0_2.length c0_2) ∧ w17.cell? ⟨gb356, 3, none⟩ = some (.int .i64 a0_3) ∧ w17.cell? ⟨gb356, 4, none⟩ = some (.slice A0_4 l0_4.length c0_4) ∧ w17.cell? ⟨gb357, 0, none⟩ = some (.int .i64 a1_0) ∧ w17.cell? ⟨gb357, 1, none⟩ = some (.int .i64 a1_1) ∧ w17.cell? ⟨gb357, 2, none⟩ = some (.int .i64 a1_2) ∧ w17.cell? ⟨gb357, 3, none⟩ = some (.int .i64 a1_3) ∧ w17.cell? ⟨gb357, 4, none⟩ = some (.int .i64 a1_4) := hS_
          refine norm_ (a' := ?_) ?_ ?_
          rotate_left
          ·
           simp only [putAll, Act.put, List.setIfInBounds_toArray, List.set_cons_zero, List.set_cons_succ]
           rfl
          refine two_ (i := 6) (j := 8) (Ni := some 15) (Nj := some 17) #[true, true, true, true, true, true, true, true, false, false, false, true, false] #[true, true, true, true, true, true, false, true, true, false, false, true, false] rfl rfl rfl rfl (two_of HT_.out (by kernel_rfl)) (by decide) (by decide) (fun K hK => ?_) (fun K hK => ?_)
          ·
           skip
           refine goes_ Try.func40 (by kernel_rfl) rfl #[.slice A0_4 l0_4.length c0_4] (by rfl) rfl rfl (by (try simp only [List.map_toArray, List.map_cons, List.map_nil]); first | done | rfl | (simp only [List.length_drop, List.length_take]; rfl)) ?_
           with_reducible refine (impl_Item_40.calls _ _ l0_4 t366 _ ?side1 ?side2 A5.out).mono ?_
           (case side1 => exact cb HR0_4 HB)
           (case side2 => exact HC0_4.out)
           rintro e w18 ⟨v367, rfl, ho0, hb⟩
           refine ⟨_, rfl, ?_⟩
           have n0_ := Ah (Kd.R_below (rr HO362.out) hb)
           have n1_ := Ah (Kd.R_below (rr HO365.out) hb)
           have n2_ := Ah (Kd.R_lower (Kd.R_newB ho0 (g := gb357) (o := .cells #[.int .i64 a1_0, .int .i64 a1_1, .int .i64 a1_2, .int .i64 a1_3, .int .i64 a1_4] 56 (0, 0)) (bk BK357)) (below_size (bs4 HB GE356 GE357 GE358 GE375)))
           have n3_ := Ah (bb BK356 hb)
           have n4_ := Ah (bb BK357 hb)
           have n5_ := Ah (bb BK358 hb)
           have n6_ := Ah (bb BK375 hb)
           have n7_ := Ah (below_step (bs4 HB GE356 GE357 GE358 GE375) hb)
           clear HO362 HO365 BK356 BK357 BK358 BK375 HB
           have HO362 := n0_
           have HO365 := n1_
           have HO368 := n2_
           have BK356 := n3_
           have BK357 := n4_
           have BK358 := n5_
           have BK375 := n6_
           have HB := n7_
           clear n0_ n1_ n2_ n3_ n4_ n5_ n6_ n7_
           (try clear hb)
           (try clear hb2)
           (try clear hk)
           (try clear hi)
           (try clear ho0)
           refine hK.out _ _ ⟨(blk_cell BK356.out 0).trans rfl, (blk_cell BK356.out 1).trans rfl, (blk_cell BK356.out 2).trans rfl, (blk_cell BK356.out 3).trans rfl, (blk_cell BK356.out 4).trans rfl, (blk_cell BK357.out 0).trans rfl, (blk_cell BK357.out 1).trans rfl, (blk_cell BK357.out 2).trans rfl, (blk_cell BK357.out 3).trans rfl, (blk_cell BK357.out 4).trans rfl⟩ (fun hHeld => ?_)
           clear hK K
           refine norm_ (a' := ?_) ?_ ?_
           rotate_left
           ·
            show Act.put _ (some 15) _ = _
            simp only [Act.put, List.setIfInBounds_toArray, List.set_cons_zero, List.set_cons_succ, i64_w, i32_w]
            rfl
           exact norm_ (by first | (simp only [putAll, Act.put, List.setIfInBounds_toArray, List.set_cons_zero, List.set_cons_succ]; done) | (simp only [putAll, Act.put, List.setIfInBounds_toArray, List.set_cons_zero, List.set_cons_succ]; rfl)) (hJ2_6_11 (v361, v364, v367, gb375) _ ⟨hHeld, (rr HO362.out), (rr HO365.out), (by (with_reducible repeat (first | apply Kd.R_alloc | apply Kd.R_drewN | apply Kd.R_drew)); exact Kd.R_mono HO368.out (fun _ hk => hk.2)), (bk BK356), (bk BK357), (bk BK358), (bk BK375), GW375.out, GE375.out, NB356_375.out, NB375_356.out, NB357_375.out, NB375_357.out, NB358_375.out, NB375_358.out, (bs4 HB GE356 GE357 GE358 GE375)⟩)
          ·
           skip
           refine Kd.R_lit_step k56 _ 56 ?hg (N := 17) ?hd (xs := ([(⟨a1_0, a1_1, (⟨a1_2, a1_3⟩ : S40), a1_4⟩ : S56)] : List (S56))) (inner := [.int .i64 a1_0, .int .i64 a1_1, .int .i64 a1_2, .int .i64 a1_3, .int .i64 a1_4]) (ok := fun _ => True) (okp := fun _ => True) ?hr ?hp (fun _ hk => hk) trivial (Below.refl _ _) (Nat.le_refl _) (by simp) ?_; (case hd => rfl); (case hg => rfl); (case hr => first | (go_simp; done) | (go_simp; rfl)); (case hp => exact (Reps.c5 (show Kd.M k56 _ _ _ (⟨a1_0, a1_1, (⟨a1_2, a1_3⟩ : S40), a1_4⟩ : S56) [.int .i64 a1_0, .int .i64 a1_1, .int .i64 a1_2, .int .i64 a1_3, .int .i64 a1_4] from (k56_mkM _ _ _ (⟨a1_0, a1_1, (⟨a1_2, a1_3⟩ : S40), a1_4⟩ : S56) )) (Reps.none _ _)))
           intro v370 w18 ho19 hb hg_ hnew_
           clear hg_ hnew_
           (first | rw [← Ny369.out] at ho19 | (simp only [Int.reduceToNat] at ho19; rw [← Ny369.out] at ho19))
           have n0_ := Ah (Kd.R_below (rr HO362.out) hb)
           have n1_ := Ah (Kd.R_below (rr HO365.out) hb)
           have n2_ := Ah (Kd.R_lower (Kd.R_newB ho19 (g := gb357) (o := .cells #[.int .i64 a1_0, .int .i64 a1_1, .int .i64 a1_2, .int .i64 a1_3, .int .i64 a1_4] 56 (0, 0)) (bk BK357)) (below_size (bs4 HB GE356 GE357 GE358 GE375)))
           have n3_ := Ah (bb BK356 hb)
           have n4_ := Ah (bb BK357 hb)
           have n5_ := Ah (bb BK358 hb)
           have n6_ := Ah (bb BK375 hb)
           have n7_ := Ah (below_step (bs4 HB GE356 GE357 GE358 GE375) hb)
           clear HO362 HO365 BK356 BK357 BK358 BK375 HB
           have HO362 := n0_
           have HO365 := n1_
           have HO371 := n2_
           have BK356 := n3_
           have BK357 := n4_
           have BK358 := n5_
           have BK375 := n6_
           have HB := n7_
           clear n0_ n1_ n2_ n3_ n4_ n5_ n6_ n7_ hb ho19
           refine hK.out _ _ ⟨(blk_cell BK356.out 0).trans rfl, (blk_cell BK356.out 1).trans rfl, (blk_cell BK356.out 2).trans rfl, (blk_cell BK356.out 3).trans rfl, (blk_cell BK356.out 4).trans rfl, (blk_cell BK357.out 0).trans rfl, (blk_cell BK357.out 1).trans rfl, (blk_cell BK357.out 2).trans rfl, (blk_cell BK357.out 3).trans rfl, (blk_cell BK357.out 4).trans rfl⟩ (fun hHeld => ?_)
           clear hK K
           refine norm_ (a' := ?_) ?_ ?_
           rotate_left
           ·
            show Act.put _ (some 17) _ = _
            simp only [Act.put, List.setIfInBounds_toArray, List.set_cons_zero, List.set_cons_succ, i64_w, i32_w]
            rfl
           exact norm_ (by first | (simp only [putAll, Act.put, List.setIfInBounds_toArray, List.set_cons_zero, List.set_cons_succ]; done) | (simp only [putAll, Act.put, List.setIfInBounds_toArray, List.set_cons_zero, List.set_cons_succ]; rfl)) (hJ2_8_11 (v361, v364, v370, gb375) _ ⟨hHeld, (rr HO362.out), (rr HO365.out), (by (with_reducible repeat (first | apply Kd.R_alloc | apply Kd.R_drewN | apply Kd.R_drew)); exact Kd.R_mono HO371.out (fun _ hk => hk.2)), (bk BK356), (bk BK357), (bk BK358), (bk BK375), GW375.out, GE375.out, NB356_375.out, NB375_356.out, NB357_375.out, NB375_357.out, NB358_375.out, NB375_358.out, (bs4 HB GE356 GE357 GE358 GE375)⟩)
        ·
         skip
         rintro ⟨v361, v364, v370⟩ w18 ⟨hS_, h0_, h1_, h2_, h3_, h4_, h5_, h6_⟩
         have n0_ : Aside0 (Kd.R k40 40 w18 w.heap.size (fun k_ => some k_ ≠ (v364 : Value).ownBlock) v361 t360) := ⟨h0_⟩
         have n1_ : Aside0 (Kd.R k40 40 w18 w.heap.size (fun k_ => some k_ ≠ (v361 : Value).ownBlock) v364 t363) := ⟨h1_⟩
         have n2_ : Aside0 (Kd.R k56 56 w18 w.heap.size (fun k_ => k_ ≠ gb357) v370 y369) := ⟨h2_⟩
         have n3_ : Aside0 (w18.heap[gb356]? = some (.cells #[.int .i64 a0_0, .slice A0_1 l0_1.length c0_1, .slice A0_2 l0_2.length c0_2, .int .i64 a0_3, .slice A0_4 l0_4.length c0_4] 36 (0, 0))) := ⟨h3_⟩
         have n4_ : Aside0 (w18.heap[gb357]? = some (.cells #[.int .i64 a1_0, .int .i64 a1_1, .int .i64 a1_2, .int .i64 a1_3, .int .i64 a1_4] 56 (0, 0))) := ⟨h4_⟩
         have n5_ : Aside0 (w18.heap[gb358]? = some (.cells #[.int .i64 0, .slice none 0 0, .slice none 0 0, .int .i64 0, .slice none 0 0] 36 (0, 0))) := ⟨h5_⟩
         have n6_ : Aside0 (Below w.heap.size w w18) := ⟨h6_⟩
         clear BK356 BK357 BK358 HB h0_ h1_ h2_ h3_ h4_ h5_ h6_
         have HO362 := n0_
         have HO365 := n1_
         have HO371 := n2_
         have BK356 := n3_
         have BK357 := n4_
         have BK358 := n5_
         have HB := n6_
         clear n0_ n1_ n2_ n3_ n4_ n5_ n6_
         have hHeld : w18.cell? ⟨gb356, 0, none⟩ = some (.int .i64 a0_0) ∧ w18.cell? ⟨gb356, 1, none⟩ = some (.slice A0_1 l0_1.length c0_1) ∧ w18.cell? ⟨gb356, 2, none⟩ = some (.slice A0_2 l0_2.length c0_2) ∧ w18.cell? ⟨gb356, 3, none⟩ = some (.int .i64 a0_3) ∧ w18.cell? ⟨gb356, 4, none⟩ = some (.slice A0_4 l0_4.length c0_4) ∧ w18.cell? ⟨gb357, 0, none⟩ = some (.int .i64 a1_0) ∧ w18.cell? ⟨gb357, 1, none⟩ = some (.int .i64 a1_1) ∧ w18.cell? ⟨gb357, 2, none⟩ = some (.int .i64 a1_2) ∧ w18.cell? ⟨gb357, 3, none⟩ = some (.int .i64 a1_3) ∧ w18.cell? ⟨gb357, 4, none⟩ = some (.int .i64 a1_4) := hS_
         refine norm_ (a' := ?_) ?_ ?_
         rotate_left
         ·
          simp only [putAll, Act.put, List.setIfInBounds_toArray, List.set_cons_zero, List.set_cons_succ]
          rfl
         refine two_ (i := 6) (j := 11) (Ni := some 15) (Nj := some 8) #[true, true, true, true, true, true, true, true, true, false, false, false, false] #[true, true, true, true, true, true, false, true, true, false, false, true, false] rfl rfl rfl rfl (two_of HT_.out (by kernel_rfl)) (by decide) (by decide) (fun K hK => ?_) (fun K hK => ?_)
         ·
          skip
          refine goes_ Try.func40 (by kernel_rfl) rfl #[.slice A0_4 l0_4.length c0_4] (by rfl) rfl rfl (by (try simp only [List.map_toArray, List.map_cons, List.map_nil]); first | done | rfl | (simp only [List.length_drop, List.length_take]; rfl)) ?_
          with_reducible refine (impl_Item_40.calls _ _ l0_4 t366 _ ?side1 ?side2 A5.out).mono ?_
          (case side1 => exact cb HR0_4 HB)
          (case side2 => exact HC0_4.out)
          rintro e w19 ⟨v367, rfl, ho0, hb⟩
          refine ⟨_, rfl, ?_⟩
          have n0_ := Ah (Kd.R_below (rr HO362.out) hb)
          have n1_ := Ah (Kd.R_below (rr HO365.out) hb)
          have n2_ := Ah (Kd.R_elder' (rr HO371.out) (Kd.R_base ho0) hb)
          have n3_ := Ah (Kd.R_lower (Kd.R_newB (Kd.R_new' ho0 (Kd.R_lt (rr HO371.out))) (g := gb357) (o := .cells #[.int .i64 a1_0, .int .i64 a1_1, .int .i64 a1_2, .int .i64 a1_3, .int .i64 a1_4] 56 (0, 0)) (bk BK357)) (below_size (bs3 HB GE356 GE357 GE358)))
          have n4_ := Ah (bb BK356 hb)
          have n5_ := Ah (bb BK357 hb)
          have n6_ := Ah (bb BK358 hb)
          have n7_ := Ah (below_step (bs3 HB GE356 GE357 GE358) hb)
          clear HO362 HO365 HO371 BK356 BK357 BK358 HB
          have HO362 := n0_
          have HO365 := n1_
          have HO371 := n2_
          have HO368 := n3_
          have BK356 := n4_
          have BK357 := n5_
          have BK358 := n6_
          have HB := n7_
          clear n0_ n1_ n2_ n3_ n4_ n5_ n6_ n7_
          (try clear hb)
          (try clear hb2)
          (try clear hk)
          (try clear hi)
          (try clear ho0)
          refine hK.out _ _ ⟨(blk_cell BK356.out 0).trans rfl, (blk_cell BK356.out 1).trans rfl, (blk_cell BK356.out 2).trans rfl, (blk_cell BK356.out 3).trans rfl, (blk_cell BK356.out 4).trans rfl, (blk_cell BK357.out 0).trans rfl, (blk_cell BK357.out 1).trans rfl, (blk_cell BK357.out 2).trans rfl, (blk_cell BK357.out 3).trans rfl, (blk_cell BK357.out 4).trans rfl⟩ (fun hHeld => ?_)
          clear hK K
          refine norm_ (a' := ?_) ?_ ?_
          rotate_left
          ·
           show Act.put _ (some 15) _ = _
           simp only [Act.put, List.setIfInBounds_toArray, List.set_cons_zero, List.set_cons_succ, i64_w, i32_w]
           rfl
          exact norm_ (by first | (simp only [putAll, Act.put, List.setIfInBounds_toArray, List.set_cons_zero, List.set_cons_succ]; done) | (simp only [putAll, Act.put, List.setIfInBounds_toArray, List.set_cons_zero, List.set_cons_succ]; rfl)) (hJ2_6_8 (v361, v364, v367, v370) _ ⟨hHeld, (rr HO362.out), (rr HO365.out), (by (with_reducible repeat (first | apply Kd.R_alloc | apply Kd.R_drewN | apply Kd.R_drew)); exact Kd.R_mono HO368.out (fun _ hk => ⟨hk.1.2, hk.2⟩)), (by (with_reducible repeat (first | apply Kd.R_alloc | apply Kd.R_drewN | apply Kd.R_drew)); exact Kd.R_mono HO371.out (fun _ hk => ⟨hk.2, hk.1⟩)), (bk BK356), (bk BK357), (bk BK358), (bs3 HB GE356 GE357 GE358)⟩)
         ·
          skip
          refine box_step ?hg (N := 8) ?hd (cs := #[.int .i64 0, .slice none 0 0, .slice none 0 0, .int .i64 0, .slice none 0 0]) (t := 36) ?hr ?_; (case hd => rfl); (case hg => rfl); (case hr => first | (go_simp; done) | (go_simp; rfl))
          intro gb375 hg w19 hbox hb
          have n0_ := Ah (Kd.R_below (rr HO362.out) hb)
          have n1_ := Ah (Kd.R_below (rr HO365.out) hb)
          have n2_ := Ah (Kd.R_below (rr HO371.out) hb)
          have n3_ := Ah (bb BK356 hb)
          have n4_ := Ah (bb BK357 hb)
          have n5_ := Ah (bb BK358 hb)
          have n6_ := Ah (below_step (bs3 HB GE356 GE357 GE358) hb)
          have n7_ := Ah (hbox)
          have n8_ := gw hg (bs3 HB GE356 GE357 GE358)
          have n9_ := gw hg (bs3 HB GE356 GE357 GE358)
          have n10_ := nn BK356 hg
          have n11_ := nm BK356 hg
          have n12_ := nn BK357 hg
          have n13_ := nm BK357 hg
          have n14_ := nn BK358 hg
          have n15_ := nm BK358 hg
          clear HO362 HO365 HO371 BK356 BK357 BK358 HB
          have HO362 := n0_
          have HO365 := n1_
          have HO371 := n2_
          have BK356 := n3_
          have BK357 := n4_
          have BK358 := n5_
          have HB := n6_
          have BK375 := n7_
          have GW375 := n8_
          have GE375 := n9_
          have NB356_375 := n10_
          have NB375_356 := n11_
          have NB357_375 := n12_
          have NB375_357 := n13_
          have NB358_375 := n14_
          have NB375_358 := n15_
          clear n0_ n1_ n2_ n3_ n4_ n5_ n6_ n7_ n8_ n9_ n10_ n11_ n12_ n13_ n14_ n15_ hb hbox hg
          refine hK.out _ _ ⟨(blk_cell BK356.out 0).trans rfl, (blk_cell BK356.out 1).trans rfl, (blk_cell BK356.out 2).trans rfl, (blk_cell BK356.out 3).trans rfl, (blk_cell BK356.out 4).trans rfl, (blk_cell BK357.out 0).trans rfl, (blk_cell BK357.out 1).trans rfl, (blk_cell BK357.out 2).trans rfl, (blk_cell BK357.out 3).trans rfl, (blk_cell BK357.out 4).trans rfl⟩ (fun hHeld => ?_)
          clear hK K
          refine norm_ (a' := ?_) ?_ ?_
          rotate_left
          ·
           show Act.put _ (some 8) _ = _
           simp only [Act.put, List.setIfInBounds_toArray, List.set_cons_zero, List.set_cons_succ, i64_w, i32_w]
           rfl
          exact norm_ (by first | (simp only [putAll, Act.put, List.setIfInBounds_toArray, List.set_cons_zero, List.set_cons_succ]; done) | (simp only [putAll, Act.put, List.setIfInBounds_toArray, List.set_cons_zero, List.set_cons_succ]; rfl)) (hJ2_8_11 (v361, v364, v370, gb375) _ ⟨hHeld, (rr HO362.out), (rr HO365.out), (rr HO371.out), (bk BK356), (bk BK357), (bk BK358), (bk BK375), GW375.out, GE375.out, NB356_375.out, NB375_356.out, NB357_375.out, NB375_357.out, NB358_375.out, NB375_358.out, (bs4 HB GE356 GE357 GE358 GE375)⟩)
       ·
        skip
        rintro ⟨v361, v364, v367⟩ w17 ⟨hS_, h0_, h1_, h2_, h3_, h4_, h5_, h6_⟩
        have n0_ : Aside0 (Kd.R k40 40 w17 w.heap.size (fun k_ => some k_ ≠ (v364 : Value).ownBlock) v361 t360) := ⟨h0_⟩
        have n1_ : Aside0 (Kd.R k40 40 w17 w.heap.size (fun k_ => some k_ ≠ (v361 : Value).ownBlock) v364 t363) := ⟨h1_⟩
        have n2_ : Aside0 (Kd.R k56 56 w17 w.heap.size (fun k_ => k_ ≠ gb357) v367 t366) := ⟨h2_⟩
        have n3_ : Aside0 (w17.heap[gb356]? = some (.cells #[.int .i64 a0_0, .slice A0_1 l0_1.length c0_1, .slice A0_2 l0_2.length c0_2, .int .i64 a0_3, .slice A0_4 l0_4.length c0_4] 36 (0, 0))) := ⟨h3_⟩
        have n4_ : Aside0 (w17.heap[gb357]? = some (.cells #[.int .i64 a1_0, .int .i64 a1_1, .int .i64 a1_2, .int .i64 a1_3, .int .i64 a1_4] 56 (0, 0))) := ⟨h4_⟩
        have n5_ : Aside0 (w17.heap[gb358]? = some (.cells #[.int .i64 0, .slice none 0 0, .slice none 0 0, .int .i64 0, .slice none 0 0] 36 (0, 0))) := ⟨h5_⟩
        have n6_ : Aside0 (Below w.heap.size w w17) := ⟨h6_⟩
        clear BK356 BK357 BK358 HB h0_ h1_ h2_ h3_ h4_ h5_ h6_
        have HO362 := n0_
        have HO365 := n1_
        have HO368 := n2_
        have BK356 := n3_
        have BK357 := n4_
        have BK358 := n5_
        have HB := n6_
        clear n0_ n1_ n2_ n3_ n4_ n5_ n6_
        have hHeld : w17.cell? ⟨gb356, 0, none⟩ = some (.int .i64 a0_0) ∧ w17.cell? ⟨gb356, 1, none⟩ = some (.slice A0_1 l0_1.length c0_1) ∧ w17.cell? ⟨gb356, 2, none⟩ = some (.slice A0_2 l0_2.length c0_2) ∧ w17.cell? ⟨gb356, 3, none⟩ = some (.int .i64 a0_3) ∧ w17.cell? ⟨gb356, 4, none⟩ = some (.slice A0_4 l0_4.length c0_4) ∧ w17.cell? ⟨gb357, 0, none⟩ = some (.int .i64 a1_0) ∧ w17.cell? ⟨gb357, 1, none⟩ = some (.int .i64 a1_1) ∧ w17.cell? ⟨gb357, 2, none⟩ = some (.int .i64 a1_2) ∧ w17.cell? ⟨gb357, 3, none⟩ = some (.int .i64 a1_3) ∧ w17.cell? ⟨gb357, 4, none⟩ = some (.int .i64 a1_4) := hS_
        refine norm_ (a' := ?_) ?_ ?_
        rotate_left
        ·
         simp only [putAll, Act.put, List.setIfInBounds_toArray, List.set_cons_zero, List.set_cons_succ]
         rfl
        refine two_ (i := 8) (j := 11) (Ni := some 17) (Nj := some 8) #[true, true, true, true, true, true, true, true, true, false, false, false, false] #[true, true, true, true, true, true, true, true, false, false, false, true, false] rfl rfl rfl rfl (two_of HT_.out (by kernel_rfl)) (by decide) (by decide) (fun K hK => ?_) (fun K hK => ?_)
        ·
         skip
         refine Kd.R_lit_step k56 _ 56 ?hg (N := 17) ?hd (xs := ([(⟨a1_0, a1_1, (⟨a1_2, a1_3⟩ : S40), a1_4⟩ : S56)] : List (S56))) (inner := [.int .i64 a1_0, .int .i64 a1_1, .int .i64 a1_2, .int .i64 a1_3, .int .i64 a1_4]) (ok := fun _ => True) (okp := fun _ => True) ?hr ?hp (fun _ hk => hk) trivial (Below.refl _ _) (Nat.le_refl _) (by simp) ?_; (case hd => rfl); (case hg => rfl); (case hr => first | (go_simp; done) | (go_simp; rfl)); (case hp => exact (Reps.c5 (show Kd.M k56 _ _ _ (⟨a1_0, a1_1, (⟨a1_2, a1_3⟩ : S40), a1_4⟩ : S56) [.int .i64 a1_0, .int .i64 a1_1, .int .i64 a1_2, .int .i64 a1_3, .int .i64 a1_4] from (k56_mkM _ _ _ (⟨a1_0, a1_1, (⟨a1_2, a1_3⟩ : S40), a1_4⟩ : S56) )) (Reps.none _ _)))
         intro v370 w18 ho19 hb hg_ hnew_
         clear hg_ hnew_
         (first | rw [← Ny369.out] at ho19 | (simp only [Int.reduceToNat] at ho19; rw [← Ny369.out] at ho19))
         have n0_ := Ah (Kd.R_below (rr HO362.out) hb)
         have n1_ := Ah (Kd.R_below (rr HO365.out) hb)
         have n2_ := Ah (Kd.R_elder' (rr HO368.out) (Kd.R_base ho19) hb)
         have n3_ := Ah (Kd.R_lower (Kd.R_newB (Kd.R_new' ho19 (Kd.R_lt (rr HO368.out))) (g := gb357) (o := .cells #[.int .i64 a1_0, .int .i64 a1_1, .int .i64 a1_2, .int .i64 a1_3, .int .i64 a1_4] 56 (0, 0)) (bk BK357)) (below_size (bs3 HB GE356 GE357 GE358)))
         have n4_ := Ah (bb BK356 hb)
         have n5_ := Ah (bb BK357 hb)
         have n6_ := Ah (bb BK358 hb)
         have n7_ := Ah (below_step (bs3 HB GE356 GE357 GE358) hb)
         clear HO362 HO365 HO368 BK356 BK357 BK358 HB
         have HO362 := n0_
         have HO365 := n1_
         have HO368 := n2_
         have HO371 := n3_
         have BK356 := n4_
         have BK357 := n5_
         have BK358 := n6_
         have HB := n7_
         clear n0_ n1_ n2_ n3_ n4_ n5_ n6_ n7_ hb ho19
         refine hK.out _ _ ⟨(blk_cell BK356.out 0).trans rfl, (blk_cell BK356.out 1).trans rfl, (blk_cell BK356.out 2).trans rfl, (blk_cell BK356.out 3).trans rfl, (blk_cell BK356.out 4).trans rfl, (blk_cell BK357.out 0).trans rfl, (blk_cell BK357.out 1).trans rfl, (blk_cell BK357.out 2).trans rfl, (blk_cell BK357.out 3).trans rfl, (blk_cell BK357.out 4).trans rfl⟩ (fun hHeld => ?_)
         clear hK K
         refine norm_ (a' := ?_) ?_ ?_
         rotate_left
         ·
          show Act.put _ (some 17) _ = _
          simp only [Act.put, List.setIfInBounds_toArray, List.set_cons_zero, List.set_cons_succ, i64_w, i32_w]
          rfl
         exact norm_ (by first | (simp only [putAll, Act.put, List.setIfInBounds_toArray, List.set_cons_zero, List.set_cons_succ]; done) | (simp only [putAll, Act.put, List.setIfInBounds_toArray, List.set_cons_zero, List.set_cons_succ]; rfl)) (hJ2_6_8 (v361, v364, v367, v370) _ ⟨hHeld, (rr HO362.out), (rr HO365.out), (by (with_reducible repeat (first | apply Kd.R_alloc | apply Kd.R_drewN | apply Kd.R_drew)); exact Kd.R_mono HO368.out (fun _ hk => ⟨hk.2, hk.1⟩)), (by (with_reducible repeat (first | apply Kd.R_alloc | apply Kd.R_drewN | apply Kd.R_drew)); exact Kd.R_mono HO371.out (fun _ hk => ⟨hk.1.2, hk.2⟩)), (bk BK356), (bk BK357), (bk BK358), (bs3 HB GE356 GE357 GE358)⟩)
        ·
         skip
         refine box_step ?hg (N := 8) ?hd (cs := #[.int .i64 0, .slice none 0 0, .slice none 0 0, .int .i64 0, .slice none 0 0]) (t := 36) ?hr ?_; (case hd => rfl); (case hg => rfl); (case hr => first | (go_simp; done) | (go_simp; rfl))
         intro gb375 hg w18 hbox hb
         have n0_ := Ah (Kd.R_below (rr HO362.out) hb)
         have n1_ := Ah (Kd.R_below (rr HO365.out) hb)
         have n2_ := Ah (Kd.R_below (rr HO368.out) hb)
         have n3_ := Ah (bb BK356 hb)
         have n4_ := Ah (bb BK357 hb)
         have n5_ := Ah (bb BK358 hb)
         have n6_ := Ah (below_step (bs3 HB GE356 GE357 GE358) hb)
         have n7_ := Ah (hbox)
         have n8_ := gw hg (bs3 HB GE356 GE357 GE358)
         have n9_ := gw hg (bs3 HB GE356 GE357 GE358)
         have n10_ := nn BK356 hg
         have n11_ := nm BK356 hg
         have n12_ := nn BK357 hg
         have n13_ := nm BK357 hg
         have n14_ := nn BK358 hg
         have n15_ := nm BK358 hg
         clear HO362 HO365 HO368 BK356 BK357 BK358 HB
         have HO362 := n0_
         have HO365 := n1_
         have HO368 := n2_
         have BK356 := n3_
         have BK357 := n4_
         have BK358 := n5_
         have HB := n6_
         have BK375 := n7_
         have GW375 := n8_
         have GE375 := n9_
         have NB356_375 := n10_
         have NB375_356 := n11_
         have NB357_375 := n12_
         have NB375_357 := n13_
         have NB358_375 := n14_
         have NB375_358 := n15_
         clear n0_ n1_ n2_ n3_ n4_ n5_ n6_ n7_ n8_ n9_ n10_ n11_ n12_ n13_ n14_ n15_ hb hbox hg
         refine hK.out _ _ ⟨(blk_cell BK356.out 0).trans rfl, (blk_cell BK356.out 1).trans rfl, (blk_cell BK356.out 2).trans rfl, (blk_cell BK356.out 3).trans rfl, (blk_cell BK356.out 4).trans rfl, (blk_cell BK357.out 0).trans rfl, (blk_cell BK357.out 1).trans rfl, (blk_cell BK357.out 2).trans rfl, (blk_cell BK357.out 3).trans rfl, (blk_cell BK357.out 4).trans rfl⟩ (fun hHeld => ?_)
         clear hK K
         refine norm_ (a' := ?_) ?_ ?_
         rotate_left
         ·
          show Act.put _ (some 8) _ = _
          simp only [Act.put, List.setIfInBounds_toArray, List.set_cons_zero, List.set_cons_succ, i64_w, i32_w]
          rfl
         exact norm_ (by first | (simp only [putAll, Act.put, List.setIfInBounds_toArray, List.set_cons_zero, List.set_cons_succ]; done) | (simp only [putAll, Act.put, List.setIfInBounds_toArray, List.set_cons_zero, List.set_cons_succ]; rfl)) (hJ2_6_11 (v361, v364, v367, gb375) _ ⟨hHeld, (rr HO362.out), (rr HO365.out), (rr HO368.out), (bk BK356), (bk BK357), (bk BK358), (bk BK375), GW375.out, GE375.out, NB356_375.out, NB375_356.out, NB357_375.out, NB375_357.out, NB358_375.out, NB375_358.out, (bs4 HB GE356 GE357 GE358 GE375)⟩)
      ·
       skip
       rintro ⟨v361, v364, v370, gb375⟩ w19 ⟨hS_, h0_, h1_, h2_, h3_, h4_, h5_, h6_, h7_, h8_, h9_, h10_, h11_, h12_, h13_, h14_, h15_⟩
       have n0_ : Aside0 (Kd.R k40 40 w19 w.heap.size (fun k_ => some k_ ≠ (v364 : Value).ownBlock) v361 t360) := ⟨h0_⟩
       have n1_ : Aside0 (Kd.R k40 40 w19 w.heap.size (fun k_ => some k_ ≠ (v361 : Value).ownBlock) v364 t363) := ⟨h1_⟩
       have n2_ : Aside0 (Kd.R k56 56 w19 w.heap.size (fun k_ => k_ ≠ gb357) v370 y369) := ⟨h2_⟩
       have n3_ : Aside0 (w19.heap[gb356]? = some (.cells #[.int .i64 a0_0, .slice A0_1 l0_1.length c0_1, .slice A0_2 l0_2.length c0_2, .int .i64 a0_3, .slice A0_4 l0_4.length c0_4] 36 (0, 0))) := ⟨h3_⟩
       have n4_ : Aside0 (w19.heap[gb357]? = some (.cells #[.int .i64 a1_0, .int .i64 a1_1, .int .i64 a1_2, .int .i64 a1_3, .int .i64 a1_4] 56 (0, 0))) := ⟨h4_⟩
       have n5_ : Aside0 (w19.heap[gb358]? = some (.cells #[.int .i64 0, .slice none 0 0, .slice none 0 0, .int .i64 0, .slice none 0 0] 36 (0, 0))) := ⟨h5_⟩
       have n6_ : Aside0 (w19.heap[gb375]? = some (.cells #[.int .i64 0, .slice none 0 0, .slice none 0 0, .int .i64 0, .slice none 0 0] 36 (0, 0))) := ⟨h6_⟩
       have n7_ : Aside0 (w.heap.size ≤ gb375) := ⟨h7_⟩
       have n8_ : Aside0 (w.heap.size ≤ gb375) := ⟨h8_⟩
       have n9_ : Aside0 (gb356 ≠ gb375) := ⟨h9_⟩
       have n10_ : Aside0 (gb375 ≠ gb356) := ⟨h10_⟩
       have n11_ : Aside0 (gb357 ≠ gb375) := ⟨h11_⟩
       have n12_ : Aside0 (gb375 ≠ gb357) := ⟨h12_⟩
       have n13_ : Aside0 (gb358 ≠ gb375) := ⟨h13_⟩
       have n14_ : Aside0 (gb375 ≠ gb358) := ⟨h14_⟩
       have n15_ : Aside0 (Below w.heap.size w w19) := ⟨h15_⟩
       clear BK356 BK357 BK358 HB h0_ h1_ h2_ h3_ h4_ h5_ h6_ h7_ h8_ h9_ h10_ h11_ h12_ h13_ h14_ h15_
       have HO362 := n0_
       have HO365 := n1_
       have HO371 := n2_
       have BK356 := n3_
       have BK357 := n4_
       have BK358 := n5_
       have BK375 := n6_
       have GW375 := n7_
       have GE375 := n8_
       have NB356_375 := n9_
       have NB375_356 := n10_
       have NB357_375 := n11_
       have NB375_357 := n12_
       have NB358_375 := n13_
       have NB375_358 := n14_
       have HB := n15_
       clear n0_ n1_ n2_ n3_ n4_ n5_ n6_ n7_ n8_ n9_ n10_ n11_ n12_ n13_ n14_ n15_
       have hHeld : w19.cell? ⟨gb356, 0, none⟩ = some (.int .i64 a0_0) ∧ w19.cell? ⟨gb356, 1, none⟩ = some (.slice A0_1 l0_1.length c0_1) ∧ w19.cell? ⟨gb356, 2, none⟩ = some (.slice A0_2 l0_2.length c0_2) ∧ w19.cell? ⟨gb356, 3, none⟩ = some (.int .i64 a0_3) ∧ w19.cell? ⟨gb356, 4, none⟩ = some (.slice A0_4 l0_4.length c0_4) ∧ w19.cell? ⟨gb357, 0, none⟩ = some (.int .i64 a1_0) ∧ w19.cell? ⟨gb357, 1, none⟩ = some (.int .i64 a1_1) ∧ w19.cell? ⟨gb357, 2, none⟩ = some (.int .i64 a1_2) ∧ w19.cell? ⟨gb357, 3, none⟩ = some (.int .i64 a1_3) ∧ w19.cell? ⟨gb357, 4, none⟩ = some (.int .i64 a1_4) := hS_
       refine norm_ (a' := ?_) ?_ ?_
       rotate_left
       ·
        simp only [putAll, Act.put, List.setIfInBounds_toArray, List.set_cons_zero, List.set_cons_succ]
        rfl
       refine one_ (i := 6) (N := some 15) #[true, true, true, true, true, true, true, true, true, false, false, true, false] rfl rfl (one_of HT_.out (by kernel_rfl)) (by decide) (fun K hK => ?_)
       refine goes_ Try.func40 (by kernel_rfl) rfl #[.slice A0_4 l0_4.length c0_4] (by rfl) rfl rfl (by (try simp only [List.map_toArray, List.map_cons, List.map_nil]); first | done | rfl | (simp only [List.length_drop, List.length_take]; rfl)) ?_
       with_reducible refine (impl_Item_40.calls _ _ l0_4 t366 _ ?side1 ?side2 A5.out).mono ?_
       (case side1 => exact cb HR0_4 HB)
       (case side2 => exact HC0_4.out)
       rintro e w20 ⟨v367, rfl, ho0, hb⟩
       refine ⟨_, rfl, ?_⟩
       have n0_ := Ah (Kd.R_below (rr HO362.out) hb)
       have n1_ := Ah (Kd.R_below (rr HO365.out) hb)
       have n2_ := Ah (Kd.R_elder' (rr HO371.out) (Kd.R_base ho0) hb)
       have n3_ := Ah (Kd.R_lower (Kd.R_newB (Kd.R_new' ho0 (Kd.R_lt (rr HO371.out))) (g := gb357) (o := .cells #[.int .i64 a1_0, .int .i64 a1_1, .int .i64 a1_2, .int .i64 a1_3, .int .i64 a1_4] 56 (0, 0)) (bk BK357)) (below_size (bs4 HB GE356 GE357 GE358 GE375)))
       have n4_ := Ah (bb BK356 hb)
       have n5_ := Ah (bb BK357 hb)
       have n6_ := Ah (bb BK358 hb)
       have n7_ := Ah (bb BK375 hb)
       have n8_ := Ah (below_step (bs4 HB GE356 GE357 GE358 GE375) hb)
       clear HO362 HO365 HO371 BK356 BK357 BK358 BK375 HB
       have HO362 := n0_
       have HO365 := n1_
       have HO371 := n2_
       have HO368 := n3_
       have BK356 := n4_
       have BK357 := n5_
       have BK358 := n6_
       have BK375 := n7_
       have HB := n8_
       clear n0_ n1_ n2_ n3_ n4_ n5_ n6_ n7_ n8_
       (try clear hb)
       (try clear hb2)
       (try clear hk)
       (try clear hi)
       (try clear ho0)
       refine hK.out _ _ ⟨(blk_cell BK356.out 0).trans rfl, (blk_cell BK356.out 1).trans rfl, (blk_cell BK356.out 2).trans rfl, (blk_cell BK356.out 3).trans rfl, (blk_cell BK356.out 4).trans rfl, (blk_cell BK357.out 0).trans rfl, (blk_cell BK357.out 1).trans rfl, (blk_cell BK357.out 2).trans rfl, (blk_cell BK357.out 3).trans rfl, (blk_cell BK357.out 4).trans rfl⟩ (fun hHeld => ?_)
       clear hK K
       refine norm_ (a' := ?_) ?_ ?_
       rotate_left
       ·
        show Act.put _ (some 15) _ = _
        simp only [Act.put, List.setIfInBounds_toArray, List.set_cons_zero, List.set_cons_succ, i64_w, i32_w]
        rfl
       exact norm_ (by first | (simp only [putAll, Act.put, List.setIfInBounds_toArray, List.set_cons_zero, List.set_cons_succ]; done) | (simp only [putAll, Act.put, List.setIfInBounds_toArray, List.set_cons_zero, List.set_cons_succ]; rfl)) (hJ2_6_8_11 (v361, v364, v367, v370, gb375) _ ⟨hHeld, (rr HO362.out), (rr HO365.out), (by (with_reducible repeat (first | apply Kd.R_alloc | apply Kd.R_drewN | apply Kd.R_drew)); exact Kd.R_mono HO368.out (fun _ hk => ⟨hk.1.2, hk.2⟩)), (by (with_reducible repeat (first | apply Kd.R_alloc | apply Kd.R_drewN | apply Kd.R_drew)); exact Kd.R_mono HO371.out (fun _ hk => ⟨hk.2, hk.1⟩)), (bk BK356), (bk BK357), (bk BK358), (bk BK375), GW375.out, GE375.out, NB356_375.out, NB375_356.out, NB357_375.out, NB375_357.out, NB358_375.out, NB375_358.out, (bs4 HB GE356 GE357 GE358 GE375)⟩)
     ·
      skip
      rintro ⟨v361, v364, v367, gb375⟩ w18 ⟨hS_, h0_, h1_, h2_, h3_, h4_, h5_, h6_, h7_, h8_, h9_, h10_, h11_, h12_, h13_, h14_, h15_⟩
      have n0_ : Aside0 (Kd.R k40 40 w18 w.heap.size (fun k_ => some k_ ≠ (v364 : Value).ownBlock) v361 t360) := ⟨h0_⟩
      have n1_ : Aside0 (Kd.R k40 40 w18 w.heap.size (fun k_ => some k_ ≠ (v361 : Value).ownBlock) v364 t363) := ⟨h1_⟩
      have n2_ : Aside0 (Kd.R k56 56 w18 w.heap.size (fun k_ => k_ ≠ gb357) v367 t366) := ⟨h2_⟩
      have n3_ : Aside0 (w18.heap[gb356]? = some (.cells #[.int .i64 a0_0, .slice A0_1 l0_1.length c0_1, .slice A0_2 l0_2.length c0_2, .int .i64 a0_3, .slice A0_4 l0_4.length c0_4] 36 (0, 0))) := ⟨h3_⟩
      have n4_ : Aside0 (w18.heap[gb357]? = some (.cells #[.int .i64 a1_0, .int .i64 a1_1, .int .i64 a1_2, .int .i64 a1_3, .int .i64 a1_4] 56 (0, 0))) := ⟨h4_⟩
      have n5_ : Aside0 (w18.heap[gb358]? = some (.cells #[.int .i64 0, .slice none 0 0, .slice none 0 0, .int .i64 0, .slice none 0 0] 36 (0, 0))) := ⟨h5_⟩
      have n6_ : Aside0 (w18.heap[gb375]? = some (.cells #[.int .i64 0, .slice none 0 0, .slice none 0 0, .int .i64 0, .slice none 0 0] 36 (0, 0))) := ⟨h6_⟩
      have n7_ : Aside0 (w.heap.size ≤ gb375) := ⟨h7_⟩
      have n8_ : Aside0 (w.heap.size ≤ gb375) := ⟨h8_⟩
      have n9_ : Aside0 (gb356 ≠ gb375) := ⟨h9_⟩
      have n10_ : Aside0 (gb375 ≠ gb356) := ⟨h10_⟩
      have n11_ : Aside0 (gb357 ≠ gb375) := ⟨h11_⟩
      have n12_ : Aside0 (gb375 ≠ gb357) := ⟨h12_⟩
      have n13_ : Aside0 (gb358 ≠ gb375) := ⟨h13_⟩
      have n14_ : Aside0 (gb375 ≠ gb358) := ⟨h14_⟩
      have n15_ : Aside0 (Below w.heap.size w w18) := ⟨h15_⟩
      clear BK356 BK357 BK358 HB h0_ h1_ h2_ h3_ h4_ h5_ h6_ h7_ h8_ h9_ h10_ h11_ h12_ h13_ h14_ h15_
      have HO362 := n0_
      have HO365 := n1_
      have HO368 := n2_
      have BK356 := n3_
      have BK357 := n4_
      have BK358 := n5_
      have BK375 := n6_
      have GW375 := n7_
      have GE375 := n8_
      have NB356_375 := n9_
      have NB375_356 := n10_
      have NB357_375 := n11_
      have NB375_357 := n12_
      have NB358_375 := n13_
      have NB375_358 := n14_
      have HB := n15_
      clear n0_ n1_ n2_ n3_ n4_ n5_ n6_ n7_ n8_ n9_ n10_ n11_ n12_ n13_ n14_ n15_
      have hHeld : w18.cell? ⟨gb356, 0, none⟩ = some (.int .i64 a0_0) ∧ w18.cell? ⟨gb356, 1, none⟩ = some (.slice A0_1 l0_1.length c0_1) ∧ w18.cell? ⟨gb356, 2, none⟩ = some (.slice A0_2 l0_2.length c0_2) ∧ w18.cell? ⟨gb356, 3, none⟩ = some (.int .i64 a0_3) ∧ w18.cell? ⟨gb356, 4, none⟩ = some (.slice A0_4 l0_4.length c0_4) ∧ w18.cell? ⟨gb357, 0, none⟩ = some (.int .i64 a1_0) ∧ w18.cell? ⟨gb357, 1, none⟩ = some (.int .i64 a1_1) ∧ w18.cell? ⟨gb357, 2, none⟩ = some (.int .i64 a1_2) ∧ w18.cell? ⟨gb357, 3, none⟩ = some (.int .i64 a1_3) ∧ w18.cell? ⟨gb357, 4, none⟩ = some (.int .i64 a1_4) := hS_
      refine norm_ (a' := ?_) ?_ ?_
      rotate_left
      ·
       simp only [putAll, Act.put, List.setIfInBounds_toArray, List.set_cons_zero, List.set_cons_succ]
       rfl
      refine one_ (i := 8) (N := some 17) #[true, true, true, true, true, true, true, true, true, false, false, true, false] rfl rfl (one_of HT_.out (by kernel_rfl)) (by decide) (fun K hK => ?_)
      refine Kd.R_lit_step k56 _ 56 ?hg (N := 17) ?hd (xs := ([(⟨a1_0, a1_1, (⟨a1_2, a1_3⟩ : S40), a1_4⟩ : S56)] : List (S56))) (inner := [.int .i64 a1_0, .int .i64 a1_1, .int .i64 a1_2, .int .i64 a1_3, .int .i64 a1_4]) (ok := fun _ => True) (okp := fun _ => True) ?hr ?hp (fun _ hk => hk) trivial (Below.refl _ _) (Nat.le_refl _) (by simp) ?_; (case hd => rfl); (case hg => rfl); (case hr => first | (go_simp; done) | (go_simp; rfl)); (case hp => exact (Reps.c5 (show Kd.M k56 _ _ _ (⟨a1_0, a1_1, (⟨a1_2, a1_3⟩ : S40), a1_4⟩ : S56) [.int .i64 a1_0, .int .i64 a1_1, .int .i64 a1_2, .int .i64 a1_3, .int .i64 a1_4] from (k56_mkM _ _ _ (⟨a1_0, a1_1, (⟨a1_2, a1_3⟩ : S40), a1_4⟩ : S56) )) (Reps.none _ _)))
      intro v370 w19 ho20 hb hg_ hnew_
      clear hg_ hnew_
      (first | rw [← Ny369.out] at ho20 | (simp only [Int.reduceToNat] at ho20; rw [← Ny369.out] at ho20))
      have n0_ := Ah (Kd.R_below (rr HO362.out) hb)
      have n1_ := Ah (Kd.R_below (rr HO365.out) hb)
      have n2_ := Ah (Kd.R_elder' (rr HO368.out) (Kd.R_base ho20) hb)
      have n3_ := Ah (Kd.R_lower (Kd.R_newB (Kd.R_new' ho20 (Kd.R_lt (rr HO368.out))) (g := gb357) (o := .cells #[.int .i64 a1_0, .int .i64 a1_1, .int .i64 a1_2, .int .i64 a1_3, .int .i64 a1_4] 56 (0, 0)) (bk BK357)) (below_size (bs4 HB GE356 GE357 GE358 GE375)))
      have n4_ := Ah (bb BK356 hb)
      have n5_ := Ah (bb BK357 hb)
      have n6_ := Ah (bb BK358 hb)
      have n7_ := Ah (bb BK375 hb)
      have n8_ := Ah (below_step (bs4 HB GE356 GE357 GE358 GE375) hb)
      clear HO362 HO365 HO368 BK356 BK357 BK358 BK375 HB
      have HO362 := n0_
      have HO365 := n1_
      have HO368 := n2_
      have HO371 := n3_
      have BK356 := n4_
      have BK357 := n5_
      have BK358 := n6_
      have BK375 := n7_
      have HB := n8_
      clear n0_ n1_ n2_ n3_ n4_ n5_ n6_ n7_ n8_ hb ho20
      refine hK.out _ _ ⟨(blk_cell BK356.out 0).trans rfl, (blk_cell BK356.out 1).trans rfl, (blk_cell BK356.out 2).trans rfl, (blk_cell BK356.out 3).trans rfl, (blk_cell BK356.out 4).trans rfl, (blk_cell BK357.out 0).trans rfl, (blk_cell BK357.out 1).trans rfl, (blk_cell BK357.out 2).trans rfl, (blk_cell BK357.out 3).trans rfl, (blk_cell BK357.out 4).trans rfl⟩ (fun hHeld => ?_)
      clear hK K
      refine norm_ (a' := ?_) ?_ ?_
      rotate_left
      ·
       show Act.put _ (some 17) _ = _
       simp only [Act.put, List.setIfInBounds_toArray, List.set_cons_zero, List.set_cons_succ, i64_w, i32_w]
       rfl
      exact norm_ (by first | (simp only [putAll, Act.put, List.setIfInBounds_toArray, List.set_cons_zero, List.set_cons_succ]; done) | (simp only [putAll, Act.put, List.setIfInBounds_toArray, List.set_cons_zero, List.set_cons_succ]; rfl)) (hJ2_6_8_11 (v361, v364, v367, v370, gb375) _ ⟨hHeld, (rr HO362.out), (rr HO365.out), (by (with_reducible repeat (first | apply Kd.R_alloc | apply Kd.R_drewN | apply Kd.R_drew)); exact Kd.R_mono HO368.out (fun _ hk => ⟨hk.2, hk.1⟩)), (by (with_reducible repeat (first | apply Kd.R_alloc | apply Kd.R_drewN | apply Kd.R_drew)); exact Kd.R_mono HO371.out (fun _ hk => ⟨hk.1.2, hk.2⟩)), (bk BK356), (bk BK357), (bk BK358), (bk BK375), GW375.out, GE375.out, NB356_375.out, NB375_356.out, NB357_375.out, NB375_357.out, NB358_375.out, NB375_358.out, (bs4 HB GE356 GE357 GE358 GE375)⟩)
    ·
     skip
     rintro ⟨v361, v364, v367, v370⟩ w19 ⟨hS_, h0_, h1_, h2_, h3_, h4_, h5_, h6_, h7_⟩
     have n0_ : Aside0 (Kd.R k40 40 w19 w.heap.size (fun k_ => some k_ ≠ (v364 : Value).ownBlock) v361 t360) := ⟨h0_⟩
     have n1_ : Aside0 (Kd.R k40 40 w19 w.heap.size (fun k_ => some k_ ≠ (v361 : Value).ownBlock) v364 t363) := ⟨h1_⟩
     have n2_ : Aside0 (Kd.R k56 56 w19 w.heap.size (fun k_ => some k_ ≠ (v370 : Value).ownBlock ∧ k_ ≠ gb357) v367 t366) := ⟨h2_⟩
     have n3_ : Aside0 (Kd.R k56 56 w19 w.heap.size (fun k_ => some k_ ≠ (v367 : Value).ownBlock ∧ k_ ≠ gb357) v370 y369) := ⟨h3_⟩
     have n4_ : Aside0 (w19.heap[gb356]? = some (.cells #[.int .i64 a0_0, .slice A0_1 l0_1.length c0_1, .slice A0_2 l0_2.length c0_2, .int .i64 a0_3, .slice A0_4 l0_4.length c0_4] 36 (0, 0))) := ⟨h4_⟩
     have n5_ : Aside0 (w19.heap[gb357]? = some (.cells #[.int .i64 a1_0, .int .i64 a1_1, .int .i64 a1_2, .int .i64 a1_3, .int .i64 a1_4] 56 (0, 0))) := ⟨h5_⟩
     have n6_ : Aside0 (w19.heap[gb358]? = some (.cells #[.int .i64 0, .slice none 0 0, .slice none 0 0, .int .i64 0, .slice none 0 0] 36 (0, 0))) := ⟨h6_⟩
     have n7_ : Aside0 (Below w.heap.size w w19) := ⟨h7_⟩
     clear BK356 BK357 BK358 HB h0_ h1_ h2_ h3_ h4_ h5_ h6_ h7_
     have HO362 := n0_
     have HO365 := n1_
     have HO368 := n2_
     have HO371 := n3_
     have BK356 := n4_
     have BK357 := n5_
     have BK358 := n6_
     have HB := n7_
     clear n0_ n1_ n2_ n3_ n4_ n5_ n6_ n7_
     have hHeld : w19.cell? ⟨gb356, 0, none⟩ = some (.int .i64 a0_0) ∧ w19.cell? ⟨gb356, 1, none⟩ = some (.slice A0_1 l0_1.length c0_1) ∧ w19.cell? ⟨gb356, 2, none⟩ = some (.slice A0_2 l0_2.length c0_2) ∧ w19.cell? ⟨gb356, 3, none⟩ = some (.int .i64 a0_3) ∧ w19.cell? ⟨gb356, 4, none⟩ = some (.slice A0_4 l0_4.length c0_4) ∧ w19.cell? ⟨gb357, 0, none⟩ = some (.int .i64 a1_0) ∧ w19.cell? ⟨gb357, 1, none⟩ = some (.int .i64 a1_1) ∧ w19.cell? ⟨gb357, 2, none⟩ = some (.int .i64 a1_2) ∧ w19.cell? ⟨gb357, 3, none⟩ = some (.int .i64 a1_3) ∧ w19.cell? ⟨gb357, 4, none⟩ = some (.int .i64 a1_4) := hS_
     obtain ⟨Ao21, co21, eo21⟩ := Kd.R_slice HO371.out
     (first | subst eo21 | (injection eo21 with f1_ f2_ f3_; have f4_ := f1_.symm; have f5_ := f3_.symm; clear f1_ f2_ f3_; subst f4_; subst f5_))
     refine norm_ (a' := ?_) ?_ ?_
     rotate_left
     ·
      simp only [putAll, Act.put, List.setIfInBounds_toArray, List.set_cons_zero, List.set_cons_succ]
      rfl
     refine two_ (i := 9) (j := 11) (Ni := some 18) (Nj := some 8) #[true, true, true, true, true, true, true, true, true, true, false, false, false] #[true, true, true, true, true, true, true, true, true, false, false, true, false] rfl rfl rfl rfl (two_of HT_.out (by kernel_rfl)) (by decide) (by decide) (fun K hK => ?_) (fun K hK => ?_)
     ·
      skip
      refine Kd.R_append_rows_step k56 (w0 := w) w.heap.size (by rfl) (.tmp 15) (.tmp 17) 34 56 (.agg #[(.int .i64 0), (.int .i64 0), (.int .i64 0), (.int .i64 0), (.int .i64 0)]) 40 rfl Try.underlying34 info56 rfl (by decide) (by omega) v367 t366 y369 _ _ _ (fun k_ => some k_ ≠ (.slice Ao21 y369.length co21 : Value).ownBlock ∧ k_ ≠ gb357) (fun _ => False) rfl rfl ?aO ?aR (fun _ _ h => h) (fun _ h => h.elim) ?aF ?aB ?aS ?aL ?_
      (case aR => exact rc0 HO371)
      (case aB => exact (bs3 HB GE356 GE357 GE358))
      (case aF => exact (fun k_ hk => ⟨Kd.fresh' (Kd.R_lt (rr HO371.out)) k_ hk, Kd.freshB (bk BK357) k_ hk⟩))
      (case aO => exact (rr HO368.out))
      (case aS => exact (below_size (bs3 HB GE356 GE357 GE358)))
      (case aL => have := LMc6.out; omega)
      intro v373 w20 ho hb hg hat
      rw [← Ny372.out] at ho
      have n0_ := Ah (blk_grown (bk BK356) hg (Kd.R_ne HO368.out BK356.out (by decide)))
      have n1_ := Ah (blk_grown (bk BK357) hg (Kd.R_away HO368.out (fun _ hk => hk.2)))
      have n2_ := Ah (blk_grown (bk BK358) hg (Kd.R_ne HO368.out BK358.out (by decide)))
      have n3_ := Ah (Kd.R_over' (rr HO362.out) (Kd.R_typed (rr HO368.out)) (by decide) hg)
      have n4_ := Ah (Kd.R_over' (rr HO365.out) (Kd.R_typed (rr HO368.out)) (by decide) hg)
      have n5_ := Ah (Kd.R_after (ok := (fun k_ => k_ ≠ gb357)) (by (with_reducible repeat (first | apply Kd.R_alloc | apply Kd.R_drewN | apply Kd.R_drew)); exact Kd.R_mono HO371.out (fun _ hk => ⟨hk.2, hk.1⟩)) hg hat)
      have n6_ := Ah (hb)
      have n7_ := Ah (ho)
      clear BK356 BK357 BK358 HO362 HO365 HO371 HB HO368
      have BK356 := n0_
      have BK357 := n1_
      have BK358 := n2_
      have HO362 := n3_
      have HO365 := n4_
      have HO371 := n5_
      have HB := n6_
      have HO374 := n7_
      clear n0_ n1_ n2_ n3_ n4_ n5_ n6_ n7_ ho hb hg hat
      obtain ⟨Ao22, co22, eo22⟩ := Kd.R_slice HO374.out
      (first | subst eo22 | (injection eo22 with f1_ f2_ f3_; have f4_ := f1_.symm; have f5_ := f3_.symm; clear f1_ f2_ f3_; subst f4_; subst f5_))
      obtain ⟨Ao23, co23, eo23⟩ := Kd.R_slice HO365.out
      (first | subst eo23 | (injection eo23 with f1_ f2_ f3_; have f4_ := f1_.symm; have f5_ := f3_.symm; clear f1_ f2_ f3_; subst f4_; subst f5_))
      obtain ⟨Ao24, co24, eo24⟩ := Kd.R_slice HO362.out
      (first | subst eo24 | (injection eo24 with f1_ f2_ f3_; have f4_ := f1_.symm; have f5_ := f3_.symm; clear f1_ f2_ f3_; subst f4_; subst f5_))
      refine hK.out _ _ ⟨(blk_cell BK356.out 0).trans rfl, (blk_cell BK356.out 1).trans rfl, (blk_cell BK356.out 2).trans rfl, (blk_cell BK356.out 3).trans rfl, (blk_cell BK356.out 4).trans rfl, (blk_cell BK357.out 0).trans rfl, (blk_cell BK357.out 1).trans rfl, (blk_cell BK357.out 2).trans rfl, (blk_cell BK357.out 3).trans rfl, (blk_cell BK357.out 4).trans rfl⟩ (fun hHeld => ?_)
      clear hK K
      refine norm_ (a' := ?_) ?_ ?_
      rotate_left
      ·
       show Act.put _ (some 18) _ = _
       simp only [Act.put, List.setIfInBounds_toArray, List.set_cons_zero, List.set_cons_succ, i64_w, i32_w]
       rfl
      refine pureS 10 19 HT_.out ?_
      exact norm_ (by first | (simp only [putAll, Act.put, List.setIfInBounds_toArray, List.set_cons_zero, List.set_cons_succ]; done) | (simp only [putAll, Act.put, List.setIfInBounds_toArray, List.set_cons_zero, List.set_cons_succ]; rfl)) (hJ2_6_8_9 (.slice Ao24 t360.length co24, .slice Ao23 t363.length co23, v367, .slice Ao21 y369.length co21, .slice Ao22 y372.length co22) _ ⟨hHeld, (rr HO362.out), (rr HO365.out), (by (with_reducible repeat (first | apply Kd.R_alloc | apply Kd.R_drewN | apply Kd.R_drew)); exact Kd.R_mono HO371.out (fun _ hk => ⟨hk.2, hk.1⟩)), (rr HO374.out), (bk BK356), (bk BK357), (bk BK358), (bs3 HB GE356 GE357 GE358)⟩)
     ·
      skip
      refine box_step ?hg (N := 8) ?hd (cs := #[.int .i64 0, .slice none 0 0, .slice none 0 0, .int .i64 0, .slice none 0 0]) (t := 36) ?hr ?_; (case hd => rfl); (case hg => rfl); (case hr => first | (go_simp; done) | (go_simp; rfl))
      intro gb375 hg w20 hbox hb
      have n0_ := Ah (Kd.R_below (rr HO362.out) hb)
      have n1_ := Ah (Kd.R_below (rr HO365.out) hb)
      have n2_ := Ah (Kd.R_below (rr HO368.out) hb)
      have n3_ := Ah (Kd.R_below (rr HO371.out) hb)
      have n4_ := Ah (bb BK356 hb)
      have n5_ := Ah (bb BK357 hb)
      have n6_ := Ah (bb BK358 hb)
      have n7_ := Ah (below_step (bs3 HB GE356 GE357 GE358) hb)
      have n8_ := Ah (hbox)
      have n9_ := gw hg (bs3 HB GE356 GE357 GE358)
      have n10_ := gw hg (bs3 HB GE356 GE357 GE358)
      have n11_ := nn BK356 hg
      have n12_ := nm BK356 hg
      have n13_ := nn BK357 hg
      have n14_ := nm BK357 hg
      have n15_ := nn BK358 hg
      have n16_ := nm BK358 hg
      clear HO362 HO365 HO368 HO371 BK356 BK357 BK358 HB
      have HO362 := n0_
      have HO365 := n1_
      have HO368 := n2_
      have HO371 := n3_
      have BK356 := n4_
      have BK357 := n5_
      have BK358 := n6_
      have HB := n7_
      have BK375 := n8_
      have GW375 := n9_
      have GE375 := n10_
      have NB356_375 := n11_
      have NB375_356 := n12_
      have NB357_375 := n13_
      have NB375_357 := n14_
      have NB358_375 := n15_
      have NB375_358 := n16_
      clear n0_ n1_ n2_ n3_ n4_ n5_ n6_ n7_ n8_ n9_ n10_ n11_ n12_ n13_ n14_ n15_ n16_ hb hbox hg
      refine hK.out _ _ ⟨(blk_cell BK356.out 0).trans rfl, (blk_cell BK356.out 1).trans rfl, (blk_cell BK356.out 2).trans rfl, (blk_cell BK356.out 3).trans rfl, (blk_cell BK356.out 4).trans rfl, (blk_cell BK357.out 0).trans rfl, (blk_cell BK357.out 1).trans rfl, (blk_cell BK357.out 2).trans rfl, (blk_cell BK357.out 3).trans rfl, (blk_cell BK357.out 4).trans rfl⟩ (fun hHeld => ?_)
      clear hK K
      refine norm_ (a' := ?_) ?_ ?_
      rotate_left
      ·
       show Act.put _ (some 8) _ = _
       simp only [Act.put, List.setIfInBounds_toArray, List.set_cons_zero, List.set_cons_succ, i64_w, i32_w]
       rfl
      exact norm_ (by first | (simp only [putAll, Act.put, List.setIfInBounds_toArray, List.set_cons_zero, List.set_cons_succ]; done) | (simp only [putAll, Act.put, List.setIfInBounds_toArray, List.set_cons_zero, List.set_cons_succ]; rfl)) (hJ2_6_8_11 (v361, v364, v367, (.slice Ao21 y369.length co21), gb375) _ ⟨hHeld, (rr HO362.out), (rr HO365.out), (rr HO368.out), (rr HO371.out), (bk BK356), (bk BK357), (bk BK358), (bk BK375), GW375.out, GE375.out, NB356_375.out, NB375_356.out, NB357_375.out, NB375_357.out, NB358_375.out, NB375_358.out, (bs4 HB GE356 GE357 GE358 GE375)⟩)
   ·
    skip
    rintro ⟨v361, v364, v367, v370, gb375⟩ w20 ⟨hS_, h0_, h1_, h2_, h3_, h4_, h5_, h6_, h7_, h8_, h9_, h10_, h11_, h12_, h13_, h14_, h15_, h16_⟩
    have n0_ : Aside0 (Kd.R k40 40 w20 w.heap.size (fun k_ => some k_ ≠ (v364 : Value).ownBlock) v361 t360) := ⟨h0_⟩
    have n1_ : Aside0 (Kd.R k40 40 w20 w.heap.size (fun k_ => some k_ ≠ (v361 : Value).ownBlock) v364 t363) := ⟨h1_⟩
    have n2_ : Aside0 (Kd.R k56 56 w20 w.heap.size (fun k_ => some k_ ≠ (v370 : Value).ownBlock ∧ k_ ≠ gb357) v367 t366) := ⟨h2_⟩
    have n3_ : Aside0 (Kd.R k56 56 w20 w.heap.size (fun k_ => some k_ ≠ (v367 : Value).ownBlock ∧ k_ ≠ gb357) v370 y369) := ⟨h3_⟩
    have n4_ : Aside0 (w20.heap[gb356]? = some (.cells #[.int .i64 a0_0, .slice A0_1 l0_1.length c0_1, .slice A0_2 l0_2.length c0_2, .int .i64 a0_3, .slice A0_4 l0_4.length c0_4] 36 (0, 0))) := ⟨h4_⟩
    have n5_ : Aside0 (w20.heap[gb357]? = some (.cells #[.int .i64 a1_0, .int .i64 a1_1, .int .i64 a1_2, .int .i64 a1_3, .int .i64 a1_4] 56 (0, 0))) := ⟨h5_⟩
    have n6_ : Aside0 (w20.heap[gb358]? = some (.cells #[.int .i64 0, .slice none 0 0, .slice none 0 0, .int .i64 0, .slice none 0 0] 36 (0, 0))) := ⟨h6_⟩
    have n7_ : Aside0 (w20.heap[gb375]? = some (.cells #[.int .i64 0, .slice none 0 0, .slice none 0 0, .int .i64 0, .slice none 0 0] 36 (0, 0))) := ⟨h7_⟩
    have n8_ : Aside0 (w.heap.size ≤ gb375) := ⟨h8_⟩
    have n9_ : Aside0 (w.heap.size ≤ gb375) := ⟨h9_⟩
    have n10_ : Aside0 (gb356 ≠ gb375) := ⟨h10_⟩
    have n11_ : Aside0 (gb375 ≠ gb356) := ⟨h11_⟩
    have n12_ : Aside0 (gb357 ≠ gb375) := ⟨h12_⟩
    have n13_ : Aside0 (gb375 ≠ gb357) := ⟨h13_⟩
    have n14_ : Aside0 (gb358 ≠ gb375) := ⟨h14_⟩
    have n15_ : Aside0 (gb375 ≠ gb358) := ⟨h15_⟩
    have n16_ : Aside0 (Below w.heap.size w w20) := ⟨h16_⟩
    clear BK356 BK357 BK358 HB h0_ h1_ h2_ h3_ h4_ h5_ h6_ h7_ h8_ h9_ h10_ h11_ h12_ h13_ h14_ h15_ h16_
    have HO362 := n0_
    have HO365 := n1_
    have HO368 := n2_
    have HO371 := n3_
    have BK356 := n4_
    have BK357 := n5_
    have BK358 := n6_
    have BK375 := n7_
    have GW375 := n8_
    have GE375 := n9_
    have NB356_375 := n10_
    have NB375_356 := n11_
    have NB357_375 := n12_
    have NB375_357 := n13_
    have NB358_375 := n14_
    have NB375_358 := n15_
    have HB := n16_
    clear n0_ n1_ n2_ n3_ n4_ n5_ n6_ n7_ n8_ n9_ n10_ n11_ n12_ n13_ n14_ n15_ n16_
    have hHeld : w20.cell? ⟨gb356, 0, none⟩ = some (.int .i64 a0_0) ∧ w20.cell? ⟨gb356, 1, none⟩ = some (.slice A0_1 l0_1.length c0_1) ∧ w20.cell? ⟨gb356, 2, none⟩ = some (.slice A0_2 l0_2.length c0_2) ∧ w20.cell? ⟨gb356, 3, none⟩ = some (.int .i64 a0_3) ∧ w20.cell? ⟨gb356, 4, none⟩ = some (.slice A0_4 l0_4.length c0_4) ∧ w20.cell? ⟨gb357, 0, none⟩ = some (.int .i64 a1_0) ∧ w20.cell? ⟨gb357, 1, none⟩ = some (.int .i64 a1_1) ∧ w20.cell? ⟨gb357, 2, none⟩ = some (.int .i64 a1_2) ∧ w20.cell? ⟨gb357, 3, none⟩ = some (.int .i64 a1_3) ∧ w20.cell? ⟨gb357, 4, none⟩ = some (.int .i64 a1_4) := hS_
    obtain ⟨Ao22, co22, eo22⟩ := Kd.R_slice HO371.out
    (first | subst eo22 | (injection eo22 with f1_ f2_ f3_; have f4_ := f1_.symm; have f5_ := f3_.symm; clear f1_ f2_ f3_; subst f4_; subst f5_))
    refine norm_ (a' := ?_) ?_ ?_
    rotate_left
    ·
     simp only [putAll, Act.put, List.setIfInBounds_toArray, List.set_cons_zero, List.set_cons_succ]
     rfl
    refine one_ (i := 9) (N := some 18) #[true, true, true, true, true, true, true, true, true, true, false, true, false] rfl rfl (one_of HT_.out (by kernel_rfl)) (by decide) (fun K hK => ?_)
    refine Kd.R_append_rows_step k56 (w0 := w) w.heap.size (by rfl) (.tmp 15) (.tmp 17) 34 56 (.agg #[(.int .i64 0), (.int .i64 0), (.int .i64 0), (.int .i64 0), (.int .i64 0)]) 40 rfl Try.underlying34 info56 rfl (by decide) (by omega) v367 t366 y369 _ _ _ (fun k_ => some k_ ≠ (.slice Ao22 y369.length co22 : Value).ownBlock ∧ k_ ≠ gb357) (fun _ => False) rfl rfl ?aO ?aR (fun _ _ h => h) (fun _ h => h.elim) ?aF ?aB ?aS ?aL ?_
    (case aR => exact rc0 HO371)
    (case aB => exact (bs4 HB GE356 GE357 GE358 GE375))
    (case aF => exact (fun k_ hk => ⟨Kd.fresh' (Kd.R_lt (rr HO371.out)) k_ hk, Kd.freshB (bk BK357) k_ hk⟩))
    (case aO => exact (rr HO368.out))
    (case aS => exact (below_size (bs4 HB GE356 GE357 GE358 GE375)))
    (case aL => have := LMc6.out; omega)
    intro v373 w21 ho hb hg hat
    rw [← Ny372.out] at ho
    have n0_ := Ah (blk_grown (bk BK356) hg (Kd.R_ne HO368.out BK356.out (by decide)))
    have n1_ := Ah (blk_grown (bk BK357) hg (Kd.R_away HO368.out (fun _ hk => hk.2)))
    have n2_ := Ah (blk_grown (bk BK358) hg (Kd.R_ne HO368.out BK358.out (by decide)))
    have n3_ := Ah (Kd.R_over' (rr HO362.out) (Kd.R_typed (rr HO368.out)) (by decide) hg)
    have n4_ := Ah (Kd.R_over' (rr HO365.out) (Kd.R_typed (rr HO368.out)) (by decide) hg)
    have n5_ := Ah (Kd.R_after (ok := (fun k_ => k_ ≠ gb357)) (by (with_reducible repeat (first | apply Kd.R_alloc | apply Kd.R_drewN | apply Kd.R_drew)); exact Kd.R_mono HO371.out (fun _ hk => ⟨hk.2, hk.1⟩)) hg hat)
    have n6_ := Ah (blk_grown (bk BK375) hg (Kd.R_ne HO368.out BK375.out (by decide)))
    have n7_ := Ah (hb)
    have n8_ := Ah (ho)
    clear BK356 BK357 BK358 HO362 HO365 HO371 BK375 HB HO368
    have BK356 := n0_
    have BK357 := n1_
    have BK358 := n2_
    have HO362 := n3_
    have HO365 := n4_
    have HO371 := n5_
    have BK375 := n6_
    have HB := n7_
    have HO374 := n8_
    clear n0_ n1_ n2_ n3_ n4_ n5_ n6_ n7_ n8_ ho hb hg hat
    obtain ⟨Ao23, co23, eo23⟩ := Kd.R_slice HO374.out
    (first | subst eo23 | (injection eo23 with f1_ f2_ f3_; have f4_ := f1_.symm; have f5_ := f3_.symm; clear f1_ f2_ f3_; subst f4_; subst f5_))
    obtain ⟨Ao24, co24, eo24⟩ := Kd.R_slice HO365.out
    (first | subst eo24 | (injection eo24 with f1_ f2_ f3_; have f4_ := f1_.symm; have f5_ := f3_.symm; clear f1_ f2_ f3_; subst f4_; subst f5_))
    obtain ⟨Ao25, co25, eo25⟩ := Kd.R_slice HO362.out
    (first | subst eo25 | (injection eo25 with f1_ f2_ f3_; have f4_ := f1_.symm; have f5_ := f3_.symm; clear f1_ f2_ f3_; subst f4_; subst f5_))
    refine hK.out _ _ ⟨(blk_cell BK356.out 0).trans rfl, (blk_cell BK356.out 1).trans rfl, (blk_cell BK356.out 2).trans rfl, (blk_cell BK356.out 3).trans rfl, (blk_cell BK356.out 4).trans rfl, (blk_cell BK357.out 0).trans rfl, (blk_cell BK357.out 1).trans rfl, (blk_cell BK357.out 2).trans rfl, (blk_cell BK357.out 3).trans rfl, (blk_cell BK357.out 4).trans rfl⟩ (fun hHeld => ?_)
    clear hK K
    refine norm_ (a' := ?_) ?_ ?_
    rotate_left
    ·
     show Act.put _ (some 18) _ = _
     simp only [Act.put, List.setIfInBounds_toArray, List.set_cons_zero, List.set_cons_succ, i64_w, i32_w]
     rfl
    refine pureS 10 19 HT_.out ?_
    exact norm_ (by first | (simp only [putAll, Act.put, List.setIfInBounds_toArray, List.set_cons_zero, List.set_cons_succ]; done) | (simp only [putAll, Act.put, List.setIfInBounds_toArray, List.set_cons_zero, List.set_cons_succ]; rfl)) (hJ2_6_8_9_11 (.slice Ao25 t360.length co25, .slice Ao24 t363.length co24, v367, .slice Ao22 y369.length co22, .slice Ao23 y372.length co23, gb375) _ ⟨hHeld, (rr HO362.out), (rr HO365.out), (by (with_reducible repeat (first | apply Kd.R_alloc | apply Kd.R_drewN | apply Kd.R_drew)); exact Kd.R_mono HO371.out (fun _ hk => ⟨hk.2, hk.1⟩)), (rr HO374.out), (bk BK356), (bk BK357), (bk BK358), (bk BK375), GW375.out, GE375.out, NB356_375.out, NB375_356.out, NB357_375.out, NB375_357.out, NB358_375.out, NB375_358.out, (bs4 HB GE356 GE357 GE358 GE375)⟩)
  ·
   skip
   rintro ⟨v361, v364, v367, v370, v373⟩ w24 ⟨hS_, h0_, h1_, h2_, h3_, h4_, h5_, h6_, h7_⟩
   have n0_ : Aside0 (Kd.R k40 40 w24 w.heap.size (fun k_ => some k_ ≠ (v364 : Value).ownBlock) v361 t360) := ⟨h0_⟩
   have n1_ : Aside0 (Kd.R k40 40 w24 w.heap.size (fun k_ => some k_ ≠ (v361 : Value).ownBlock) v364 t363) := ⟨h1_⟩
   have n2_ : Aside0 (Kd.R k56 56 w24 w.heap.size (fun k_ => some k_ ≠ (v373 : Value).ownBlock ∧ k_ ≠ gb357) v370 y369) := ⟨h2_⟩
   have n3_ : Aside0 (Kd.R k56 56 w24 w.heap.size (fun k_ => some k_ ≠ (v370 : Value).ownBlock ∧ k_ ≠ gb357) v373 y372) := ⟨h3_⟩
   have n4_ : Aside0 (w24.heap[gb356]? = some (.cells #[.int .i64 a0_0, .slice A0_1 l0_1.length c0_1, .slice A0_2 l0_2.length c0_2, .int .i64 a0_3, .slice A0_4 l0_4.length c0_4] 36 (0, 0))) := ⟨h4_⟩
   have n5_ : Aside0 (w24.heap[gb357]? = some (.cells #[.int .i64 a1_0, .int .i64 a1_1, .int .i64 a1_2, .int .i64 a1_3, .int .i64 a1_4] 56 (0, 0))) := ⟨h5_⟩
   have n6_ : Aside0 (w24.heap[gb358]? = some (.cells #[.int .i64 0, .slice none 0 0, .slice none 0 0, .int .i64 0, .slice none 0 0] 36 (0, 0))) := ⟨h6_⟩
   have n7_ : Aside0 (Below w.heap.size w w24) := ⟨h7_⟩
   clear BK356 BK357 BK358 HB h0_ h1_ h2_ h3_ h4_ h5_ h6_ h7_
   have HO362 := n0_
   have HO365 := n1_
   have HO371 := n2_
   have HO374 := n3_
   have BK356 := n4_
   have BK357 := n5_
   have BK358 := n6_
   have HB := n7_
   clear n0_ n1_ n2_ n3_ n4_ n5_ n6_ n7_
   have hHeld : w24.cell? ⟨gb356, 0, none⟩ = some (.int .i64 a0_0) ∧ w24.cell? ⟨gb356, 1, none⟩ = some (.slice A0_1 l0_1.length c0_1) ∧ w24.cell? ⟨gb356, 2, none⟩ = some (.slice A0_2 l0_2.length c0_2) ∧ w24.cell? ⟨gb356, 3, none⟩ = some (.int .i64 a0_3) ∧ w24.cell? ⟨gb356, 4, none⟩ = some (.slice A0_4 l0_4.length c0_4) ∧ w24.cell? ⟨gb357, 0, none⟩ = some (.int .i64 a1_0) ∧ w24.cell? ⟨gb357, 1, none⟩ = some (.int .i64 a1_1) ∧ w24.cell? ⟨gb357, 2, none⟩ = some (.int .i64 a1_2) ∧ w24.cell? ⟨gb357, 3, none⟩ = some (.int .i64 a1_3) ∧ w24.cell? ⟨gb357, 4, none⟩ = some (.int .i64 a1_4) := hS_
   obtain ⟨Ao25, co25, eo25⟩ := Kd.R_slice HO374.out
   (first | subst eo25 | (injection eo25 with f1_ f2_ f3_; have f4_ := f1_.symm; have f5_ := f3_.symm; clear f1_ f2_ f3_; subst f4_; subst f5_))
   obtain ⟨Ao26, co26, eo26⟩ := Kd.R_slice HO365.out
   (first | subst eo26 | (injection eo26 with f1_ f2_ f3_; have f4_ := f1_.symm; have f5_ := f3_.symm; clear f1_ f2_ f3_; subst f4_; subst f5_))
   obtain ⟨Ao27, co27, eo27⟩ := Kd.R_slice HO362.out
   (first | subst eo27 | (injection eo27 with f1_ f2_ f3_; have f4_ := f1_.symm; have f5_ := f3_.symm; clear f1_ f2_ f3_; subst f4_; subst f5_))
   refine norm_ (a' := ?_) ?_ ?_
   rotate_left
   ·
    simp only [putAll, Act.put, List.setIfInBounds_toArray, List.set_cons_zero, List.set_cons_succ]
    rfl
   refine one_ (i := 11) (N := some 8) #[true, true, true, true, true, true, true, true, true, true, true, true, false] rfl rfl (one_of HT_.out (by kernel_rfl)) (by decide) (fun K hK => ?_)
   refine box_step ?hg (N := 8) ?hd (cs := #[.int .i64 0, .slice none 0 0, .slice none 0 0, .int .i64 0, .slice none 0 0]) (t := 36) ?hr ?_; (case hd => rfl); (case hg => rfl); (case hr => first | (go_simp; done) | (go_simp; rfl))
   intro gb375 hg w28 hbox hb
   have n0_ := Ah (Kd.R_below (rr HO362.out) hb)
   have n1_ := Ah (Kd.R_below (rr HO365.out) hb)
   have n2_ := Ah (Kd.R_below (rr HO371.out) hb)
   have n3_ := Ah (Kd.R_below (rr HO374.out) hb)
   have n4_ := Ah (bb BK356 hb)
   have n5_ := Ah (bb BK357 hb)
   have n6_ := Ah (bb BK358 hb)
   have n7_ := Ah (below_step (bs3 HB GE356 GE357 GE358) hb)
   have n8_ := Ah (hbox)
   have n9_ := gw hg (bs3 HB GE356 GE357 GE358)
   have n10_ := gw hg (bs3 HB GE356 GE357 GE358)
   have n11_ := nn BK356 hg
   have n12_ := nm BK356 hg
   have n13_ := nn BK357 hg
   have n14_ := nm BK357 hg
   have n15_ := nn BK358 hg
   have n16_ := nm BK358 hg
   clear HO362 HO365 HO371 HO374 BK356 BK357 BK358 HB
   have HO362 := n0_
   have HO365 := n1_
   have HO371 := n2_
   have HO374 := n3_
   have BK356 := n4_
   have BK357 := n5_
   have BK358 := n6_
   have HB := n7_
   have BK375 := n8_
   have GW375 := n9_
   have GE375 := n10_
   have NB356_375 := n11_
   have NB375_356 := n12_
   have NB357_375 := n13_
   have NB375_357 := n14_
   have NB358_375 := n15_
   have NB375_358 := n16_
   clear n0_ n1_ n2_ n3_ n4_ n5_ n6_ n7_ n8_ n9_ n10_ n11_ n12_ n13_ n14_ n15_ n16_ hb hbox hg
   refine hK.out _ _ ⟨(blk_cell BK356.out 0).trans rfl, (blk_cell BK356.out 1).trans rfl, (blk_cell BK356.out 2).trans rfl, (blk_cell BK356.out 3).trans rfl, (blk_cell BK356.out 4).trans rfl, (blk_cell BK357.out 0).trans rfl, (blk_cell BK357.out 1).trans rfl, (blk_cell BK357.out 2).trans rfl, (blk_cell BK357.out 3).trans rfl, (blk_cell BK357.out 4).trans rfl⟩ (fun hHeld => ?_)
   clear hK K
   refine norm_ (a' := ?_) ?_ ?_
   rotate_left
   ·
    show Act.put _ (some 8) _ = _
    simp only [Act.put, List.setIfInBounds_toArray, List.set_cons_zero, List.set_cons_succ, i64_w, i32_w]
    rfl
   exact norm_ (by first | (simp only [putAll, Act.put, List.setIfInBounds_toArray, List.set_cons_zero, List.set_cons_succ]; done) | (simp only [putAll, Act.put, List.setIfInBounds_toArray, List.set_cons_zero, List.set_cons_succ]; rfl)) (hJ2_6_8_9_11 (.slice Ao27 t360.length co27, .slice Ao26 t363.length co26, v367, v370, .slice Ao25 y372.length co25, gb375) _ ⟨hHeld, (rr HO362.out), (rr HO365.out), (rr HO371.out), (rr HO374.out), (bk BK356), (bk BK357), (bk BK358), (bk BK375), GW375.out, GE375.out, NB356_375.out, NB375_356.out, NB357_375.out, NB375_357.out, NB358_375.out, NB375_358.out, (bs4 HB GE356 GE357 GE358 GE375)⟩)
 rintro ⟨v361, v364, v367, v370, v373, gb375⟩ w25 ⟨hS_, h0_, h1_, h2_, h3_, h4_, h5_, h6_, h7_, h8_, h9_, h10_, h11_, h12_, h13_, h14_, h15_, h16_⟩
 have n0_ : Aside0 (Kd.R k40 40 w25 w.heap.size (fun k_ => some k_ ≠ (v364 : Value).ownBlock) v361 t360) := ⟨h0_⟩
 have n1_ : Aside0 (Kd.R k40 40 w25 w.heap.size (fun k_ => some k_ ≠ (v361 : Value).ownBlock) v364 t363) := ⟨h1_⟩
 have n2_ : Aside0 (Kd.R k56 56 w25 w.heap.size (fun k_ => some k_ ≠ (v373 : Value).ownBlock ∧ k_ ≠ gb357) v370 y369) := ⟨h2_⟩
 have n3_ : Aside0 (Kd.R k56 56 w25 w.heap.size (fun k_ => some k_ ≠ (v370 : Value).ownBlock ∧ k_ ≠ gb357) v373 y372) := ⟨h3_⟩
 have n4_ : Aside0 (w25.heap[gb356]? = some (.cells #[.int .i64 a0_0, .slice A0_1 l0_1.length c0_1, .slice A0_2 l0_2.length c0_2, .int .i64 a0_3, .slice A0_4 l0_4.length c0_4] 36 (0, 0))) := ⟨h4_⟩
 have n5_ : Aside0 (w25.heap[gb357]? = some (.cells #[.int .i64 a1_0, .int .i64 a1_1, .int .i64 a1_2, .int .i64 a1_3, .int .i64 a1_4] 56 (0, 0))) := ⟨h5_⟩
 have n6_ : Aside0 (w25.heap[gb358]? = some (.cells #[.int .i64 0, .slice none 0 0, .slice none 0 0, .int .i64 0, .slice none 0 0] 36 (0, 0))) := ⟨h6_⟩
 have n7_ : Aside0 (w25.heap[gb375]? = some (.cells #[.int .i64 0, .slice none 0 0, .slice none 0 0, .int .i64 0, .slice none 0 0] 36 (0, 0))) := ⟨h7_⟩
 have n8_ : Aside0 (w.heap.size ≤ gb375) := ⟨h8_⟩
 have n9_ : Aside0 (w.heap.size ≤ gb375) := ⟨h9_⟩
 have n10_ : Aside0 (gb356 ≠ gb375) := ⟨h10_⟩
 have n11_ : Aside0 (gb375 ≠ gb356) := ⟨h11_⟩
 have n12_ : Aside0 (gb357 ≠ gb375) := ⟨h12_⟩
 have n13_ : Aside0 (gb375 ≠ gb357) := ⟨h13_⟩
 have n14_ : Aside0 (gb358 ≠ gb375) := ⟨h14_⟩
 have n15_ : Aside0 (gb375 ≠ gb358) := ⟨h15_⟩
 have n16_ : Aside0 (Below w.heap.size w w25) := ⟨h16_⟩
 clear BK356 BK357 BK358 HB h0_ h1_ h2_ h3_ h4_ h5_ h6_ h7_ h8_ h9_ h10_ h11_ h12_ h13_ h14_ h15_ h16_
 have HO362 := n0_
 have HO365 := n1_
 have HO371 := n2_
 have HO374 := n3_
 have BK356 := n4_
 have BK357 := n5_
 have BK358 := n6_
 have BK375 := n7_
 have GW375 := n8_
 have GE375 := n9_
 have NB356_375 := n10_
 have NB375_356 := n11_
 have NB357_375 := n12_
 have NB375_357 := n13_
 have NB358_375 := n14_
 have NB375_358 := n15_
 have HB := n16_
 clear n0_ n1_ n2_ n3_ n4_ n5_ n6_ n7_ n8_ n9_ n10_ n11_ n12_ n13_ n14_ n15_ n16_
 have hHeld : w25.cell? ⟨gb356, 0, none⟩ = some (.int .i64 a0_0) ∧ w25.cell? ⟨gb356, 1, none⟩ = some (.slice A0_1 l0_1.length c0_1) ∧ w25.cell? ⟨gb356, 2, none⟩ = some (.slice A0_2 l0_2.length c0_2) ∧ w25.cell? ⟨gb356, 3, none⟩ = some (.int .i64 a0_3) ∧ w25.cell? ⟨gb356, 4, none⟩ = some (.slice A0_4 l0_4.length c0_4) ∧ w25.cell? ⟨gb357, 0, none⟩ = some (.int .i64 a1_0) ∧ w25.cell? ⟨gb357, 1, none⟩ = some (.int .i64 a1_1) ∧ w25.cell? ⟨gb357, 2, none⟩ = some (.int .i64 a1_2) ∧ w25.cell? ⟨gb357, 3, none⟩ = some (.int .i64 a1_3) ∧ w25.cell? ⟨gb357, 4, none⟩ = some (.int .i64 a1_4) := hS_
 obtain ⟨Ao26, co26, eo26⟩ := Kd.R_slice HO374.out
 (first | subst eo26 | (injection eo26 with f1_ f2_ f3_; have f4_ := f1_.symm; have f5_ := f3_.symm; clear f1_ f2_ f3_; subst f4_; subst f5_))
 obtain ⟨Ao27, co27, eo27⟩ := Kd.R_slice HO365.out
 (first | subst eo27 | (injection eo27 with f1_ f2_ f3_; have f4_ := f1_.symm; have f5_ := f3_.symm; clear f1_ f2_ f3_; subst f4_; subst f5_))
 obtain ⟨Ao28, co28, eo28⟩ := Kd.R_slice HO362.out
 (first | subst eo28 | (injection eo28 with f1_ f2_ f3_; have f4_ := f1_.symm; have f5_ := f3_.symm; clear f1_ f2_ f3_; subst f4_; subst f5_))
 refine norm_ (a' := ?_) ?_ ?_
 rotate_left
 ·
  simp only [putAll, Act.put, List.setIfInBounds_toArray, List.set_cons_zero, List.set_cons_succ]
  rfl
 refine one_ (i := 12) (N := none) #[true, true, true, true, true, true, true, true, true, true, true, true, true] rfl rfl (one_of HT_.out (by kernel_rfl)) (by decide) (fun K hK => ?_)
 have hs29 : w25.cell? ⟨gb375, 0, none⟩ = some (.int .i64 0) := (blk_cell BK375.out 0).trans rfl
 have hfs29 := blk_frozen BK375.out 0
 have hns29_0 := NB356_375.out
 have hns29_1 := NB357_375.out
 have hns29_2 := NB358_375.out
 have hms29_0 := NB375_356.out
 have hms29_1 := NB375_357.out
 have hms29_2 := NB375_358.out
 have hs30 : w25.cell? ⟨gb375, 1, none⟩ = some (.slice none 0 0) := (blk_cell BK375.out 1).trans rfl
 have hfs30 := blk_frozen BK375.out 1
 have hns30_0 := NB356_375.out
 have hns30_1 := NB357_375.out
 have hns30_2 := NB358_375.out
 have hms30_0 := NB375_356.out
 have hms30_1 := NB375_357.out
 have hms30_2 := NB375_358.out
 have hs31 : w25.cell? ⟨gb375, 2, none⟩ = some (.slice none 0 0) := (blk_cell BK375.out 2).trans rfl
 have hfs31 := blk_frozen BK375.out 2
 have hns31_0 := NB356_375.out
 have hns31_1 := NB357_375.out
 have hns31_2 := NB358_375.out
 have hms31_0 := NB375_356.out
 have hms31_1 := NB375_357.out
 have hms31_2 := NB375_358.out
 have hs32 : w25.cell? ⟨gb375, 3, none⟩ = some (.int .i64 0) := (blk_cell BK375.out 3).trans rfl
 have hfs32 := blk_frozen BK375.out 3
 have hns32_0 := NB356_375.out
 have hns32_1 := NB357_375.out
 have hns32_2 := NB358_375.out
 have hms32_0 := NB375_356.out
 have hms32_1 := NB375_357.out
 have hms32_2 := NB375_358.out
 have hs33 : w25.cell? ⟨gb375, 4, none⟩ = some (.slice none 0 0) := (blk_cell BK375.out 4).trans rfl
 have hfs33 := blk_frozen BK375.out 4
 have hns33_0 := NB356_375.out
 have hns33_1 := NB357_375.out
 have hns33_2 := NB358_375.out
 have hms33_0 := NB375_356.out
 have hms33_1 := NB375_357.out
 have hms33_2 := NB375_358.out
 have H := H_.out
 clear H_
 by_cases c8 : t376 = true
 rotate_left
 ·
  replace c8 := Bool.eq_false_iff.mpr c8
  subst c8
  rw [if_neg fne] at H
  simp only [Option.some.injEq, Prod.mk.injEq] at H
  obtain ⟨rfl, rfl, rfl, rfl, rfl, rfl⟩ := H
  refine skip_ (w1 := ?_) (by rfl) rfl ?_ ?_
  rotate_left
  ·
   go_simp
   rfl
  refine hK.out _ _ ⟨((cell_far (p := ⟨gb375, _, none⟩) NB356_375.out _).trans (((cell_far (p := ⟨gb375, _, none⟩) NB356_375.out _).trans (((cell_far (p := ⟨gb375, _, none⟩) NB356_375.out _).trans (((cell_far (p := ⟨gb375, _, none⟩) NB356_375.out _).trans (((cell_far (p := ⟨gb375, _, none⟩) NB356_375.out _).trans (hHeld.1)))))))))), ((cell_far (p := ⟨gb375, _, none⟩) NB356_375.out _).trans (((cell_far (p := ⟨gb375, _, none⟩) NB356_375.out _).trans (((cell_far (p := ⟨gb375, _, none⟩) NB356_375.out _).trans (((cell_far (p := ⟨gb375, _, none⟩) NB356_375.out _).trans (((cell_far (p := ⟨gb375, _, none⟩) NB356_375.out _).trans (hHeld.2.1)))))))))), ((cell_far (p := ⟨gb375, _, none⟩) NB356_375.out _).trans (((cell_far (p := ⟨gb375, _, none⟩) NB356_375.out _).trans (((cell_far (p := ⟨gb375, _, none⟩) NB356_375.out _).trans (((cell_far (p := ⟨gb375, _, none⟩) NB356_375.out _).trans (((cell_far (p := ⟨gb375, _, none⟩) NB356_375.out _).trans (hHeld.2.2.1)))))))))), ((cell_far (p := ⟨gb375, _, none⟩) NB356_375.out _).trans (((cell_far (p := ⟨gb375, _, none⟩) NB356_375.out _).trans (((cell_far (p := ⟨gb375, _, none⟩) NB356_375.out _).trans (((cell_far (p := ⟨gb375, _, none⟩) NB356_375.out _).trans (((cell_far (p := ⟨gb375, _, none⟩) NB356_375.out _).trans (hHeld.2.2.2.1)))))))))), ((cell_far (p := ⟨gb375, _, none⟩) NB356_375.out _).trans (((cell_far (p := ⟨gb375, _, none⟩) NB356_375.out _).trans (((cell_far (p := ⟨gb375, _, none⟩) NB356_375.out _).trans (((cell_far (p := ⟨gb375, _, none⟩) NB356_375.out _).trans (((cell_far (p := ⟨gb375, _, none⟩) NB356_375.out _).trans (hHeld.2.2.2.2.1)))))))))), ((cell_far (p := ⟨gb375, _, none⟩) NB357_375.out _).trans (((cell_far (p := ⟨gb375, _, none⟩) NB357_375.out _).trans (((cell_far (p := ⟨gb375, _, none⟩) NB357_375.out _).trans (((cell_far (p := ⟨gb375, _, none⟩) NB357_375.out _).trans (((cell_far (p := ⟨gb375, _, none⟩) NB357_375.out _).trans (hHeld.2.2.2.2.2.1)))))))))), ((cell_far (p := ⟨gb375, _, none⟩) NB357_375.out _).trans (((cell_far (p := ⟨gb375, _, none⟩) NB357_375.out _).trans (((cell_far (p := ⟨gb375, _, none⟩) NB357_375.out _).trans (((cell_far (p := ⟨gb375, _, none⟩) NB357_375.out _).trans (((cell_far (p := ⟨gb375, _, none⟩) NB357_375.out _).trans (hHeld.2.2.2.2.2.2.1)))))))))), ((cell_far (p := ⟨gb375, _, none⟩) NB357_375.out _).trans (((cell_far (p := ⟨gb375, _, none⟩) NB357_375.out _).trans (((cell_far (p := ⟨gb375, _, none⟩) NB357_375.out _).trans (((cell_far (p := ⟨gb375, _, none⟩) NB357_375.out _).trans (((cell_far (p := ⟨gb375, _, none⟩) NB357_375.out _).trans (hHeld.2.2.2.2.2.2.2.1)))))))))), ((cell_far (p := ⟨gb375, _, none⟩) NB357_375.out _).trans (((cell_far (p := ⟨gb375, _, none⟩) NB357_375.out _).trans (((cell_far (p := ⟨gb375, _, none⟩) NB357_375.out _).trans (((cell_far (p := ⟨gb375, _, none⟩) NB357_375.out _).trans (((cell_far (p := ⟨gb375, _, none⟩) NB357_375.out _).trans (hHeld.2.2.2.2.2.2.2.2.1)))))))))), ((cell_far (p := ⟨gb375, _, none⟩) NB357_375.out _).trans (((cell_far (p := ⟨gb375, _, none⟩) NB357_375.out _).trans (((cell_far (p := ⟨gb375, _, none⟩) NB357_375.out _).trans (((cell_far (p := ⟨gb375, _, none⟩) NB357_375.out _).trans (((cell_far (p := ⟨gb375, _, none⟩) NB357_375.out _).trans (hHeld.2.2.2.2.2.2.2.2.2))))))))))⟩ (fun hHeld => ?_)
  clear hK K
  refine done_ (done_of HT_.out (by kernel_rfl)) ?_
  have hnb103 := NB356_357.out
  have hnc103 := NB357_356.out
  have hnb104 := NB356_358.out
  have hnc104 := NB358_356.out
  have hnb105 := NB356_375.out
  have hnc105 := NB375_356.out
  obtain ⟨hcz106_0, hcz106_1, hcz106_2, hcz106_3, hcz106_4⟩ := cz5 BK356
  obtain ⟨hfz106_0, hfz106_1, hfz106_2, hfz106_3, hfz106_4⟩ := fz5 BK356
  try go_wp2_with (first | ((with_reducible refine gate_callee (f := 33) rfl ?_); refine gL (some 21) rfl rfl Try.func33 (by kernel_rfl) rfl #[.agg #[.int .i64 a0_0, .slice A0_1 l0_1.length c0_1, .slice A0_2 l0_2.length c0_2, .int .i64 a0_3, .slice A0_4 l0_4.length c0_4]] rfl ?_; (with_reducible refine (impl_GoodWork.calls k a0_0 _ _ l0_1 _ _ l0_2 a0_3 _ _ l0_4 false _ ?side1 ?side2 ?side3 ?side4 ?side5 ?side6 A7.out).mono ?_); (case side1 => exact Kd.C_below HR0_1.out (bs4 HB GE356 GE357 GE358 GE375)); (case side2 => exact HC0_1.out); (case side3 => exact Kd.C_below HR0_2.out (bs4 HB GE356 GE357 GE358 GE375)); (case side4 => exact HC0_2.out); (case side5 => exact Kd.C_below HR0_4.out (bs4 HB GE356 GE357 GE358 GE375)); (case side6 => exact HC0_4.out); rintro e w107 ⟨rfl, hb⟩; refine ⟨_, rfl, ?_⟩; replace HO362 := nf HO362 BK375 hb; replace HO365 := nf HO365 BK375 hb; replace HO371 := nf HO371 BK375 hb; replace HO374 := nf HO374 BK375 hb; replace BK356 := Ah (blk_below (bf BK356 NB356_375) hb); replace BK357 := Ah (blk_below (bf BK357 NB357_375) hb); replace BK358 := Ah (blk_below (bf BK358 NB358_375) hb); replace BK375 := Ah (blk_below (g := gb375) (o := .cells #[.int .i64 t359, .slice Ao28 t360.length co28, .slice Ao27 t363.length co27, .int .i64 a2, .slice Ao26 y372.length co26] 36 (0, 0)) (by (with_reducible repeat (first | refine blk_drewN ?_ _ | refine blk_drew ?_ | refine blk_alloc ?_ _)); refine blk_put (cs := #[.int .i64 t359, .slice Ao28 t360.length co28, .slice Ao27 t363.length co27, .int .i64 a2, .slice none 0 0]) ?_ 4 _ rfl; (with_reducible repeat (first | refine blk_drewN ?_ _ | refine blk_drew ?_ | refine blk_alloc ?_ _)); refine blk_put (cs := #[.int .i64 t359, .slice Ao28 t360.length co28, .slice Ao27 t363.length co27, .int .i64 0, .slice none 0 0]) ?_ 3 _ rfl; (with_reducible repeat (first | refine blk_drewN ?_ _ | refine blk_drew ?_ | refine blk_alloc ?_ _)); refine blk_put (cs := #[.int .i64 t359, .slice Ao28 t360.length co28, .slice none 0 0, .int .i64 0, .slice none 0 0]) ?_ 2 _ rfl; (with_reducible repeat (first | refine blk_drewN ?_ _ | refine blk_drew ?_ | refine blk_alloc ?_ _)); refine blk_put (cs := #[.int .i64 t359, .slice none 0 0, .slice none 0 0, .int .i64 0, .slice none 0 0]) ?_ 1 _ rfl; (with_reducible repeat (first | refine blk_drewN ?_ _ | refine blk_drew ?_ | refine blk_alloc ?_ _)); refine blk_put (cs := #[.int .i64 0, .slice none 0 0, .slice none 0 0, .int .i64 0, .slice none 0 0]) ?_ 0 _ rfl; (with_reducible repeat (first | refine blk_drewN ?_ _ | refine blk_drew ?_ | refine blk_alloc ?_ _)); exact BK375.out) hb); replace HB := Ah (below_step (bs4 HB GE356 GE357 GE358 GE375) hb); (try clear hb); have hnb108 := NB358_357.out; have hnc108 := NB357_358.out; have hnb109 := NB358_375.out; have hnc109 := NB375_358.out; obtain ⟨hcz110_0, hcz110_1, hcz110_2, hcz110_3, hcz110_4⟩ := cz5 BK358; obtain ⟨hfz110_0, hfz110_1, hfz110_2, hfz110_3, hfz110_4⟩ := fz5 BK358))
  refine bodyPost_ret (results_ct rfl _ _ gb358 36 #[.int .i64 0, .slice none 0 0, .slice none 0 0, .int .i64 0, .slice none 0 0] (0, 0) _ rfl (by (with_reducible repeat (first | refine blk_drewN ?_ _ | refine blk_drew ?_ | refine blk_alloc ?_ _)); refine blk_put (cs := #[.int .i64 0, .slice none 0 0, .slice none 0 0, .int .i64 0, .slice none 0 0]) ?_ 4 _ rfl; (with_reducible repeat (first | refine blk_drewN ?_ _ | refine blk_drew ?_ | refine blk_alloc ?_ _)); refine blk_put (cs := #[.int .i64 0, .slice none 0 0, .slice none 0 0, .int .i64 0, .slice none 0 0]) ?_ 3 _ rfl; (with_reducible repeat (first | refine blk_drewN ?_ _ | refine blk_drew ?_ | refine blk_alloc ?_ _)); refine blk_put (cs := #[.int .i64 0, .slice none 0 0, .slice none 0 0, .int .i64 0, .slice none 0 0]) ?_ 2 _ rfl; (with_reducible repeat (first | refine blk_drewN ?_ _ | refine blk_drew ?_ | refine blk_alloc ?_ _)); refine blk_put (cs := #[.int .i64 0, .slice none 0 0, .slice none 0 0, .int .i64 0, .slice none 0 0]) ?_ 1 _ rfl; (with_reducible repeat (first | refine blk_drewN ?_ _ | refine blk_drew ?_ | refine blk_alloc ?_ _)); refine blk_put (cs := #[.int .i64 0, .slice none 0 0, .slice none 0 0, .int .i64 0, .slice none 0 0]) ?_ 0 _ rfl; (with_reducible repeat (first | refine blk_drewN ?_ _ | refine blk_drew ?_ | refine blk_alloc ?_ _)); exact BK358.out) Try.underlying36 rfl (by kernel_rfl)) rfl ?_
  exact ⟨_, _, _, er, by first | exact Kd.R_nil _ _ _ _ _ | exact Kd.N_nil _ _ _ _ _ | exact Kd.V_nil _ _ _ _ _ | exact Kd.Q_nil _ _ _ _ _ | exact Kd.S_nil _ _ _ _ _, by first | exact Kd.R_nil _ _ _ _ _ | exact Kd.N_nil _ _ _ _ _ | exact Kd.V_nil _ _ _ _ _ | exact Kd.Q_nil _ _ _ _ _ | exact Kd.S_nil _ _ _ _ _, by first | exact Kd.R_nil _ _ _ _ _ | exact Kd.N_nil _ _ _ _ _ | exact Kd.V_nil _ _ _ _ _ | exact Kd.Q_nil _ _ _ _ _ | exact Kd.S_nil _ _ _ _ _, bs4 HB GE356 GE357 GE358 GE375⟩
 subst c8
 rw [if_pos rfl] at H
 replace H := Option.bind_eq_some_iff.mp H
 obtain ⟨t377, A90, H⟩ := H
 try dsimp only at H
 have A9 := Ah A90
 clear A90
 by_cases c10 : t377 = true
 rotate_left
 ·
  replace c10 := Bool.eq_false_iff.mpr c10
  subst c10
  rw [if_neg fne] at H
  simp only [Option.some.injEq, Prod.mk.injEq] at H
  obtain ⟨rfl, rfl, rfl, rfl, rfl, rfl⟩ := H
  refine skip_ (w1 := ?_) (by rfl) rfl ?_ ?_
  rotate_left
  ·
   go_simp
   rfl
  refine hK.out _ _ ⟨((cell_far (p := ⟨gb375, _, none⟩) NB356_375.out _).trans (((cell_far (p := ⟨gb375, _, none⟩) NB356_375.out _).trans (((cell_far (p := ⟨gb375, _, none⟩) NB356_375.out _).trans (((cell_far (p := ⟨gb375, _, none⟩) NB356_375.out _).trans (((cell_far (p := ⟨gb375, _, none⟩) NB356_375.out _).trans (hHeld.1)))))))))), ((cell_far (p := ⟨gb375, _, none⟩) NB356_375.out _).trans (((cell_far (p := ⟨gb375, _, none⟩) NB356_375.out _).trans (((cell_far (p := ⟨gb375, _, none⟩) NB356_375.out _).trans (((cell_far (p := ⟨gb375, _, none⟩) NB356_375.out _).trans (((cell_far (p := ⟨gb375, _, none⟩) NB356_375.out _).trans (hHeld.2.1)))))))))), ((cell_far (p := ⟨gb375, _, none⟩) NB356_375.out _).trans (((cell_far (p := ⟨gb375, _, none⟩) NB356_375.out _).trans (((cell_far (p := ⟨gb375, _, none⟩) NB356_375.out _).trans (((cell_far (p := ⟨gb375, _, none⟩) NB356_375.out _).trans (((cell_far (p := ⟨gb375, _, none⟩) NB356_375.out _).trans (hHeld.2.2.1)))))))))), ((cell_far (p := ⟨gb375, _, none⟩) NB356_375.out _).trans (((cell_far (p := ⟨gb375, _, none⟩) NB356_375.out _).trans (((cell_far (p := ⟨gb375, _, none⟩) NB356_375.out _).trans (((cell_far (p := ⟨gb375, _, none⟩) NB356_375.out _).trans (((cell_far (p := ⟨gb375, _, none⟩) NB356_375.out _).trans (hHeld.2.2.2.1)))))))))), ((cell_far (p := ⟨gb375, _, none⟩) NB356_375.out _).trans (((cell_far (p := ⟨gb375, _, none⟩) NB356_375.out _).trans (((cell_far (p := ⟨gb375, _, none⟩) NB356_375.out _).trans (((cell_far (p := ⟨gb375, _, none⟩) NB356_375.out _).trans (((cell_far (p := ⟨gb375, _, none⟩) NB356_375.out _).trans (hHeld.2.2.2.2.1)))))))))), ((cell_far (p := ⟨gb375, _, none⟩) NB357_375.out _).trans (((cell_far (p := ⟨gb375, _, none⟩) NB357_375.out _).trans (((cell_far (p := ⟨gb375, _, none⟩) NB357_375.out _).trans (((cell_far (p := ⟨gb375, _, none⟩) NB357_375.out _).trans (((cell_far (p := ⟨gb375, _, none⟩) NB357_375.out _).trans (hHeld.2.2.2.2.2.1)))))))))), ((cell_far (p := ⟨gb375, _, none⟩) NB357_375.out _).trans (((cell_far (p := ⟨gb375, _, none⟩) NB357_375.out _).trans (((cell_far (p := ⟨gb375, _, none⟩) NB357_375.out _).trans (((cell_far (p := ⟨gb375, _, none⟩) NB357_375.out _).trans (((cell_far (p := ⟨gb375, _, none⟩) NB357_375.out _).trans (hHeld.2.2.2.2.2.2.1)))))))))), ((cell_far (p := ⟨gb375, _, none⟩) NB357_375.out _).trans (((cell_far (p := ⟨gb375, _, none⟩) NB357_375.out _).trans (((cell_far (p := ⟨gb375, _, none⟩) NB357_375.out _).trans (((cell_far (p := ⟨gb375, _, none⟩) NB357_375.out _).trans (((cell_far (p := ⟨gb375, _, none⟩) NB357_375.out _).trans (hHeld.2.2.2.2.2.2.2.1)))))))))), ((cell_far (p := ⟨gb375, _, none⟩) NB357_375.out _).trans (((cell_far (p := ⟨gb375, _, none⟩) NB357_375.out _).trans (((cell_far (p := ⟨gb375, _, none⟩) NB357_375.out _).trans (((cell_far (p := ⟨gb375, _, none⟩) NB357_375.out _).trans (((cell_far (p := ⟨gb375, _, none⟩) NB357_375.out _).trans (hHeld.2.2.2.2.2.2.2.2.1)))))))))), ((cell_far (p := ⟨gb375, _, none⟩) NB357_375.out _).trans (((cell_far (p := ⟨gb375, _, none⟩) NB357_375.out _).trans (((cell_far (p := ⟨gb375, _, none⟩) NB357_375.out _).trans (((cell_far (p := ⟨gb375, _, none⟩) NB357_375.out _).trans (((cell_far (p := ⟨gb375, _, none⟩) NB357_375.out _).trans (hHeld.2.2.2.2.2.2.2.2.2))))))))))⟩ (fun hHeld => ?_)
  clear hK K
  refine done_ (done_of HT_.out (by kernel_rfl)) ?_
  have hnb69 := NB356_357.out
  have hnc69 := NB357_356.out
  have hnb70 := NB356_358.out
  have hnc70 := NB358_356.out
  have hnb71 := NB356_375.out
  have hnc71 := NB375_356.out
  obtain ⟨hcz72_0, hcz72_1, hcz72_2, hcz72_3, hcz72_4⟩ := cz5 BK356
  obtain ⟨hfz72_0, hfz72_1, hfz72_2, hfz72_3, hfz72_4⟩ := fz5 BK356
  try go_wp2_with (first | ((with_reducible refine gate_callee (f := 33) rfl ?_); refine gL (some 21) rfl rfl Try.func33 (by kernel_rfl) rfl #[.agg #[.int .i64 a0_0, .slice A0_1 l0_1.length c0_1, .slice A0_2 l0_2.length c0_2, .int .i64 a0_3, .slice A0_4 l0_4.length c0_4]] rfl ?_; (with_reducible refine (impl_GoodWork.calls k a0_0 _ _ l0_1 _ _ l0_2 a0_3 _ _ l0_4 true _ ?side1 ?side2 ?side3 ?side4 ?side5 ?side6 A7.out).mono ?_); (case side1 => exact Kd.C_below HR0_1.out (bs4 HB GE356 GE357 GE358 GE375)); (case side2 => exact HC0_1.out); (case side3 => exact Kd.C_below HR0_2.out (bs4 HB GE356 GE357 GE358 GE375)); (case side4 => exact HC0_2.out); (case side5 => exact Kd.C_below HR0_4.out (bs4 HB GE356 GE357 GE358 GE375)); (case side6 => exact HC0_4.out); rintro e w73 ⟨rfl, hb⟩; refine ⟨_, rfl, ?_⟩; replace HO362 := nf HO362 BK375 hb; replace HO365 := nf HO365 BK375 hb; replace HO371 := nf HO371 BK375 hb; replace HO374 := nf HO374 BK375 hb; replace BK356 := Ah (blk_below (bf BK356 NB356_375) hb); replace BK357 := Ah (blk_below (bf BK357 NB357_375) hb); replace BK358 := Ah (blk_below (bf BK358 NB358_375) hb); replace BK375 := Ah (blk_below (g := gb375) (o := .cells #[.int .i64 t359, .slice Ao28 t360.length co28, .slice Ao27 t363.length co27, .int .i64 a2, .slice Ao26 y372.length co26] 36 (0, 0)) (by (with_reducible repeat (first | refine blk_drewN ?_ _ | refine blk_drew ?_ | refine blk_alloc ?_ _)); refine blk_put (cs := #[.int .i64 t359, .slice Ao28 t360.length co28, .slice Ao27 t363.length co27, .int .i64 a2, .slice none 0 0]) ?_ 4 _ rfl; (with_reducible repeat (first | refine blk_drewN ?_ _ | refine blk_drew ?_ | refine blk_alloc ?_ _)); refine blk_put (cs := #[.int .i64 t359, .slice Ao28 t360.length co28, .slice Ao27 t363.length co27, .int .i64 0, .slice none 0 0]) ?_ 3 _ rfl; (with_reducible repeat (first | refine blk_drewN ?_ _ | refine blk_drew ?_ | refine blk_alloc ?_ _)); refine blk_put (cs := #[.int .i64 t359, .slice Ao28 t360.length co28, .slice none 0 0, .int .i64 0, .slice none 0 0]) ?_ 2 _ rfl; (with_reducible repeat (first | refine blk_drewN ?_ _ | refine blk_drew ?_ | refine blk_alloc ?_ _)); refine blk_put (cs := #[.int .i64 t359, .slice none 0 0, .slice none 0 0, .int .i64 0, .slice none 0 0]) ?_ 1 _ rfl; (with_reducible repeat (first | refine blk_drewN ?_ _ | refine blk_drew ?_ | refine blk_alloc ?_ _)); refine blk_put (cs := #[.int .i64 0, .slice none 0 0, .slice none 0 0, .int .i64 0, .slice none 0 0]) ?_ 0 _ rfl; (with_reducible repeat (first | refine blk_drewN ?_ _ | refine blk_drew ?_ | refine blk_alloc ?_ _)); exact BK375.out) hb); replace HB := Ah (below_step (bs4 HB GE356 GE357 GE358 GE375) hb); (try clear hb); have hnb74 := NB375_357.out; have hnc74 := NB357_375.out; have hnb75 := NB375_358.out; have hnc75 := NB358_375.out; obtain ⟨hcz76_0, hcz76_1, hcz76_2, hcz76_3, hcz76_4⟩ := cz5 BK375; obtain ⟨hfz76_0, hfz76_1, hfz76_2, hfz76_3, hfz76_4⟩ := fz5 BK375) | (go_at_call 33; (with_reducible refine (impl_GoodWork.calls k t359 _ _ t360 _ _ t363 a2 _ _ y372 false _ ?side1 ?side2 ?side3 ?side4 ?side5 ?side6 A9.out).mono ?_); (case side1 => exact rc0 HO362); (case side2 => exact (Kd.R_reads' HO362.out).2.1); (case side3 => exact rc0 HO365); (case side4 => exact (Kd.R_reads' HO365.out).2.1); (case side5 => exact rc0 HO374); (case side6 => exact (Kd.R_reads' HO374.out).2.1); rintro e w77 ⟨rfl, hb⟩; replace HO362 := nr HO362 hb; replace HO365 := nr HO365 hb; replace HO371 := nr HO371 hb; replace HO374 := nr HO374 hb; replace BK356 := nb BK356 hb; replace BK357 := nb BK357 hb; replace BK358 := nb BK358 hb; replace BK375 := nb BK375 hb; replace HB := Ah (below_step (bs4 HB GE356 GE357 GE358 GE375) hb); (try clear hb); have hnb78 := NB358_357.out; have hnc78 := NB357_358.out; obtain ⟨hcz79_0, hcz79_1, hcz79_2, hcz79_3, hcz79_4⟩ := cz5 BK358; obtain ⟨hfz79_0, hfz79_1, hfz79_2, hfz79_3, hfz79_4⟩ := fz5 BK358))
  refine bodyPost_ret (results_ct rfl _ _ gb358 36 #[.int .i64 0, .slice none 0 0, .slice none 0 0, .int .i64 0, .slice none 0 0] (0, 0) _ rfl (by (with_reducible repeat (first | refine blk_drewN ?_ _ | refine blk_drew ?_ | refine blk_alloc ?_ _)); refine blk_put (cs := #[.int .i64 0, .slice none 0 0, .slice none 0 0, .int .i64 0, .slice none 0 0]) ?_ 4 _ rfl; (with_reducible repeat (first | refine blk_drewN ?_ _ | refine blk_drew ?_ | refine blk_alloc ?_ _)); refine blk_put (cs := #[.int .i64 0, .slice none 0 0, .slice none 0 0, .int .i64 0, .slice none 0 0]) ?_ 3 _ rfl; (with_reducible repeat (first | refine blk_drewN ?_ _ | refine blk_drew ?_ | refine blk_alloc ?_ _)); refine blk_put (cs := #[.int .i64 0, .slice none 0 0, .slice none 0 0, .int .i64 0, .slice none 0 0]) ?_ 2 _ rfl; (with_reducible repeat (first | refine blk_drewN ?_ _ | refine blk_drew ?_ | refine blk_alloc ?_ _)); refine blk_put (cs := #[.int .i64 0, .slice none 0 0, .slice none 0 0, .int .i64 0, .slice none 0 0]) ?_ 1 _ rfl; (with_reducible repeat (first | refine blk_drewN ?_ _ | refine blk_drew ?_ | refine blk_alloc ?_ _)); refine blk_put (cs := #[.int .i64 0, .slice none 0 0, .slice none 0 0, .int .i64 0, .slice none 0 0]) ?_ 0 _ rfl; (with_reducible repeat (first | refine blk_drewN ?_ _ | refine blk_drew ?_ | refine blk_alloc ?_ _)); exact BK358.out) Try.underlying36 rfl (by kernel_rfl)) rfl ?_
  exact ⟨_, _, _, er, by first | exact Kd.R_nil _ _ _ _ _ | exact Kd.N_nil _ _ _ _ _ | exact Kd.V_nil _ _ _ _ _ | exact Kd.Q_nil _ _ _ _ _ | exact Kd.S_nil _ _ _ _ _, by first | exact Kd.R_nil _ _ _ _ _ | exact Kd.N_nil _ _ _ _ _ | exact Kd.V_nil _ _ _ _ _ | exact Kd.Q_nil _ _ _ _ _ | exact Kd.S_nil _ _ _ _ _, by first | exact Kd.R_nil _ _ _ _ _ | exact Kd.N_nil _ _ _ _ _ | exact Kd.V_nil _ _ _ _ _ | exact Kd.Q_nil _ _ _ _ _ | exact Kd.S_nil _ _ _ _ _, bs4 HB GE356 GE357 GE358 GE375⟩
 subst c10
 rw [if_pos rfl] at H
 simp only [Option.some.injEq, Prod.mk.injEq] at H
 obtain ⟨rfl, rfl, rfl, rfl, rfl, rfl⟩ := H
 refine skip_ (w1 := ?_) (by rfl) rfl ?_ ?_
 rotate_left
 ·
  go_simp
  rfl
 refine hK.out _ _ ⟨((cell_far (p := ⟨gb375, _, none⟩) NB356_375.out _).trans (((cell_far (p := ⟨gb375, _, none⟩) NB356_375.out _).trans (((cell_far (p := ⟨gb375, _, none⟩) NB356_375.out _).trans (((cell_far (p := ⟨gb375, _, none⟩) NB356_375.out _).trans (((cell_far (p := ⟨gb375, _, none⟩) NB356_375.out _).trans (hHeld.1)))))))))), ((cell_far (p := ⟨gb375, _, none⟩) NB356_375.out _).trans (((cell_far (p := ⟨gb375, _, none⟩) NB356_375.out _).trans (((cell_far (p := ⟨gb375, _, none⟩) NB356_375.out _).trans (((cell_far (p := ⟨gb375, _, none⟩) NB356_375.out _).trans (((cell_far (p := ⟨gb375, _, none⟩) NB356_375.out _).trans (hHeld.2.1)))))))))), ((cell_far (p := ⟨gb375, _, none⟩) NB356_375.out _).trans (((cell_far (p := ⟨gb375, _, none⟩) NB356_375.out _).trans (((cell_far (p := ⟨gb375, _, none⟩) NB356_375.out _).trans (((cell_far (p := ⟨gb375, _, none⟩) NB356_375.out _).trans (((cell_far (p := ⟨gb375, _, none⟩) NB356_375.out _).trans (hHeld.2.2.1)))))))))), ((cell_far (p := ⟨gb375, _, none⟩) NB356_375.out _).trans (((cell_far (p := ⟨gb375, _, none⟩) NB356_375.out _).trans (((cell_far (p := ⟨gb375, _, none⟩) NB356_375.out _).trans (((cell_far (p := ⟨gb375, _, none⟩) NB356_375.out _).trans (((cell_far (p := ⟨gb375, _, none⟩) NB356_375.out _).trans (hHeld.2.2.2.1)))))))))), ((cell_far (p := ⟨gb375, _, none⟩) NB356_375.out _).trans (((cell_far (p := ⟨gb375, _, none⟩) NB356_375.out _).trans (((cell_far (p := ⟨gb375, _, none⟩) NB356_375.out _).trans (((cell_far (p := ⟨gb375, _, none⟩) NB356_375.out _).trans (((cell_far (p := ⟨gb375, _, none⟩) NB356_375.out _).trans (hHeld.2.2.2.2.1)))))))))), ((cell_far (p := ⟨gb375, _, none⟩) NB357_375.out _).trans (((cell_far (p := ⟨gb375, _, none⟩) NB357_375.out _).trans (((cell_far (p := ⟨gb375, _, none⟩) NB357_375.out _).trans (((cell_far (p := ⟨gb375, _, none⟩) NB357_375.out _).trans (((cell_far (p := ⟨gb375, _, none⟩) NB357_375.out _).trans (hHeld.2.2.2.2.2.1)))))))))), ((cell_far (p := ⟨gb375, _, none⟩) NB357_375.out _).trans (((cell_far (p := ⟨gb375, _, none⟩) NB357_375.out _).trans (((cell_far (p := ⟨gb375, _, none⟩) NB357_375.out _).trans (((cell_far (p := ⟨gb375, _, none⟩) NB357_375.out _).trans (((cell_far (p := ⟨gb375, _, none⟩) NB357_375.out _).trans (hHeld.2.2.2.2.2.2.1)))))))))), ((cell_far (p := ⟨gb375, _, none⟩) NB357_375.out _).trans (((cell_far (p := ⟨gb375, _, none⟩) NB357_375.out _).trans (((cell_far (p := ⟨gb375, _, none⟩) NB357_375.out _).trans (((cell_far (p := ⟨gb375, _, none⟩) NB357_375.out _).trans (((cell_far (p := ⟨gb375, _, none⟩) NB357_375.out _).trans (hHeld.2.2.2.2.2.2.2.1)))))))))), ((cell_far (p := ⟨gb375, _, none⟩) NB357_375.out _).trans (((cell_far (p := ⟨gb375, _, none⟩) NB357_375.out _).trans (((cell_far (p := ⟨gb375, _, none⟩) NB357_375.out _).trans (((cell_far (p := ⟨gb375, _, none⟩) NB357_375.out _).trans (((cell_far (p := ⟨gb375, _, none⟩) NB357_375.out _).trans (hHeld.2.2.2.2.2.2.2.2.1)))))))))), ((cell_far (p := ⟨gb375, _, none⟩) NB357_375.out _).trans (((cell_far (p := ⟨gb375, _, none⟩) NB357_375.out _).trans (((cell_far (p := ⟨gb375, _, none⟩) NB357_375.out _).trans (((cell_far (p := ⟨gb375, _, none⟩) NB357_375.out _).trans (((cell_far (p := ⟨gb375, _, none⟩) NB357_375.out _).trans (hHeld.2.2.2.2.2.2.2.2.2))))))))))⟩ (fun hHeld => ?_)
 clear hK K
 refine done_ (done_of HT_.out (by kernel_rfl)) ?_
 have hnb34 := NB356_357.out
 have hnc34 := NB357_356.out
 have hnb35 := NB356_358.out
 have hnc35 := NB358_356.out
 have hnb36 := NB356_375.out
 have hnc36 := NB375_356.out
 obtain ⟨hcz37_0, hcz37_1, hcz37_2, hcz37_3, hcz37_4⟩ := cz5 BK356
 obtain ⟨hfz37_0, hfz37_1, hfz37_2, hfz37_3, hfz37_4⟩ := fz5 BK356
 try go_wp2_with (first | ((with_reducible refine gate_callee (f := 33) rfl ?_); refine gL (some 21) rfl rfl Try.func33 (by kernel_rfl) rfl #[.agg #[.int .i64 a0_0, .slice A0_1 l0_1.length c0_1, .slice A0_2 l0_2.length c0_2, .int .i64 a0_3, .slice A0_4 l0_4.length c0_4]] rfl ?_; (with_reducible refine (impl_GoodWork.calls k a0_0 _ _ l0_1 _ _ l0_2 a0_3 _ _ l0_4 true _ ?side1 ?side2 ?side3 ?side4 ?side5 ?side6 A7.out).mono ?_); (case side1 => exact Kd.C_below HR0_1.out (bs4 HB GE356 GE357 GE358 GE375)); (case side2 => exact HC0_1.out); (case side3 => exact Kd.C_below HR0_2.out (bs4 HB GE356 GE357 GE358 GE375)); (case side4 => exact HC0_2.out); (case side5 => exact Kd.C_below HR0_4.out (bs4 HB GE356 GE357 GE358 GE375)); (case side6 => exact HC0_4.out); rintro e w38 ⟨rfl, hb⟩; refine ⟨_, rfl, ?_⟩; replace HO362 := nf HO362 BK375 hb; replace HO365 := nf HO365 BK375 hb; replace HO371 := nf HO371 BK375 hb; replace HO374 := nf HO374 BK375 hb; replace BK356 := Ah (blk_below (bf BK356 NB356_375) hb); replace BK357 := Ah (blk_below (bf BK357 NB357_375) hb); replace BK358 := Ah (blk_below (bf BK358 NB358_375) hb); replace BK375 := Ah (blk_below (g := gb375) (o := .cells #[.int .i64 t359, .slice Ao28 t360.length co28, .slice Ao27 t363.length co27, .int .i64 a2, .slice Ao26 y372.length co26] 36 (0, 0)) (by (with_reducible repeat (first | refine blk_drewN ?_ _ | refine blk_drew ?_ | refine blk_alloc ?_ _)); refine blk_put (cs := #[.int .i64 t359, .slice Ao28 t360.length co28, .slice Ao27 t363.length co27, .int .i64 a2, .slice none 0 0]) ?_ 4 _ rfl; (with_reducible repeat (first | refine blk_drewN ?_ _ | refine blk_drew ?_ | refine blk_alloc ?_ _)); refine blk_put (cs := #[.int .i64 t359, .slice Ao28 t360.length co28, .slice Ao27 t363.length co27, .int .i64 0, .slice none 0 0]) ?_ 3 _ rfl; (with_reducible repeat (first | refine blk_drewN ?_ _ | refine blk_drew ?_ | refine blk_alloc ?_ _)); refine blk_put (cs := #[.int .i64 t359, .slice Ao28 t360.length co28, .slice none 0 0, .int .i64 0, .slice none 0 0]) ?_ 2 _ rfl; (with_reducible repeat (first | refine blk_drewN ?_ _ | refine blk_drew ?_ | refine blk_alloc ?_ _)); refine blk_put (cs := #[.int .i64 t359, .slice none 0 0, .slice none 0 0, .int .i64 0, .slice none 0 0]) ?_ 1 _ rfl; (with_reducible repeat (first | refine blk_drewN ?_ _ | refine blk_drew ?_ | refine blk_alloc ?_ _)); refine blk_put (cs := #[.int .i64 0, .slice none 0 0, .slice none 0 0, .int .i64 0, .slice none 0 0]) ?_ 0 _ rfl; (with_reducible repeat (first | refine blk_drewN ?_ _ | refine blk_drew ?_ | refine blk_alloc ?_ _)); exact BK375.out) hb); replace HB := Ah (below_step (bs4 HB GE356 GE357 GE358 GE375) hb); (try clear hb); have hnb39 := NB375_357.out; have hnc39 := NB357_375.out; have hnb40 := NB375_358.out; have hnc40 := NB358_375.out; obtain ⟨hcz41_0, hcz41_1, hcz41_2, hcz41_3, hcz41_4⟩ := cz5 BK375; obtain ⟨hfz41_0, hfz41_1, hfz41_2, hfz41_3, hfz41_4⟩ := fz5 BK375) | (go_at_call 33; (with_reducible refine (impl_GoodWork.calls k t359 _ _ t360 _ _ t363 a2 _ _ y372 true _ ?side1 ?side2 ?side3 ?side4 ?side5 ?side6 A9.out).mono ?_); (case side1 => exact rc0 HO362); (case side2 => exact (Kd.R_reads' HO362.out).2.1); (case side3 => exact rc0 HO365); (case side4 => exact (Kd.R_reads' HO365.out).2.1); (case side5 => exact rc0 HO374); (case side6 => exact (Kd.R_reads' HO374.out).2.1); rintro e w42 ⟨rfl, hb⟩; replace HO362 := nr HO362 hb; replace HO365 := nr HO365 hb; replace HO371 := nr HO371 hb; replace HO374 := nr HO374 hb; replace BK356 := nb BK356 hb; replace BK357 := nb BK357 hb; replace BK358 := nb BK358 hb; replace BK375 := nb BK375 hb; replace HB := Ah (below_step (bs4 HB GE356 GE357 GE358 GE375) hb); (try clear hb); obtain ⟨hcz43_0, hcz43_1, hcz43_2, hcz43_3, hcz43_4⟩ := cz5 BK375; obtain ⟨hfz43_0, hfz43_1, hfz43_2, hfz43_3, hfz43_4⟩ := fz5 BK375; have hnb44 := NB358_357.out; have hnc44 := NB357_358.out; obtain ⟨hcz45_0, hcz45_1, hcz45_2, hcz45_3, hcz45_4⟩ := cz5 BK358; obtain ⟨hfz45_0, hfz45_1, hfz45_2, hfz45_3, hfz45_4⟩ := fz5 BK358))
 refine bodyPost_ret (results_ct rfl _ _ gb358 36 #[.int .i64 t359, .slice Ao28 t360.length co28, .slice Ao27 t363.length co27, .int .i64 a2, .slice Ao26 y372.length co26] (0, 0) _ rfl (by (with_reducible repeat (first | refine blk_drewN ?_ _ | refine blk_drew ?_ | refine blk_alloc ?_ _)); refine blk_put (cs := #[.int .i64 t359, .slice Ao28 t360.length co28, .slice Ao27 t363.length co27, .int .i64 a2, .slice none 0 0]) ?_ 4 _ rfl; (with_reducible repeat (first | refine blk_drewN ?_ _ | refine blk_drew ?_ | refine blk_alloc ?_ _)); refine blk_put (cs := #[.int .i64 t359, .slice Ao28 t360.length co28, .slice Ao27 t363.length co27, .int .i64 0, .slice none 0 0]) ?_ 3 _ rfl; (with_reducible repeat (first | refine blk_drewN ?_ _ | refine blk_drew ?_ | refine blk_alloc ?_ _)); refine blk_put (cs := #[.int .i64 t359, .slice Ao28 t360.length co28, .slice none 0 0, .int .i64 0, .slice none 0 0]) ?_ 2 _ rfl; (with_reducible repeat (first | refine blk_drewN ?_ _ | refine blk_drew ?_ | refine blk_alloc ?_ _)); refine blk_put (cs := #[.int .i64 t359, .slice none 0 0, .slice none 0 0, .int .i64 0, .slice none 0 0]) ?_ 1 _ rfl; (with_reducible repeat (first | refine blk_drewN ?_ _ | refine blk_drew ?_ | refine blk_alloc ?_ _)); refine blk_put (cs := #[.int .i64 0, .slice none 0 0, .slice none 0 0, .int .i64 0, .slice none 0 0]) ?_ 0 _ rfl; (with_reducible repeat (first | refine blk_drewN ?_ _ | refine blk_drew ?_ | refine blk_alloc ?_ _)); exact BK358.out) Try.underlying36 rfl (by kernel_rfl)) rfl ?_
 exact ⟨_, _, _, er, by (with_reducible repeat (first | apply Kd.R_alloc | apply Kd.R_drewN | apply Kd.R_drew)); exact Kd.R_mono (Kd.R_far (p := ⟨gb358, 4, none⟩) (Kd.R_far (p := ⟨gb358, 3, none⟩) (Kd.R_far (p := ⟨gb358, 2, none⟩) (Kd.R_far (p := ⟨gb358, 1, none⟩) (Kd.R_far (p := ⟨gb358, 0, none⟩) (Kd.R_types HO362.out BK358.out (by decide)) (fun _ hk => hk.2) (.int .i64 t359)) (fun _ hk => hk.2) (.slice Ao28 t360.length co28)) (fun _ hk => hk.2) (.slice Ao27 t363.length co27)) (fun _ hk => hk.2) (.int .i64 a2)) (fun _ hk => hk.2) (.slice Ao26 y372.length co26)) (fun _ hk => hk.1), by (with_reducible repeat (first | apply Kd.R_alloc | apply Kd.R_drewN | apply Kd.R_drew)); exact Kd.R_mono (Kd.R_far (p := ⟨gb358, 4, none⟩) (Kd.R_far (p := ⟨gb358, 3, none⟩) (Kd.R_far (p := ⟨gb358, 2, none⟩) (Kd.R_far (p := ⟨gb358, 1, none⟩) (Kd.R_far (p := ⟨gb358, 0, none⟩) (Kd.R_types HO365.out BK358.out (by decide)) (fun _ hk => hk.2) (.int .i64 t359)) (fun _ hk => hk.2) (.slice Ao28 t360.length co28)) (fun _ hk => hk.2) (.slice Ao27 t363.length co27)) (fun _ hk => hk.2) (.int .i64 a2)) (fun _ hk => hk.2) (.slice Ao26 y372.length co26)) (fun _ hk => hk.1), by (with_reducible repeat (first | apply Kd.R_alloc | apply Kd.R_drewN | apply Kd.R_drew)); exact Kd.R_mono (Kd.R_far (p := ⟨gb358, 4, none⟩) (Kd.R_far (p := ⟨gb358, 3, none⟩) (Kd.R_far (p := ⟨gb358, 2, none⟩) (Kd.R_far (p := ⟨gb358, 1, none⟩) (Kd.R_far (p := ⟨gb358, 0, none⟩) (Kd.R_types HO374.out BK358.out (by decide)) (fun _ hk => hk.2) (.int .i64 t359)) (fun _ hk => hk.2) (.slice Ao28 t360.length co28)) (fun _ hk => hk.2) (.slice Ao27 t363.length co27)) (fun _ hk => hk.2) (.int .i64 a2)) (fun _ hk => hk.2) (.slice Ao26 y372.length co26)) (fun _ hk => trivial), bs4 HB GE356 GE357 GE358 GE375⟩
def impl_PromiseFree.f (k : Nat) (a0_0 : Int) (l0_1 : List (S40)) (l0_2 : List (S40)) (a0_3 : Int) (l0_4 : List (S56)) (a1_0 : Int) (a1_1 : Int) : Option (Int × (List (S40)) × (List (S40)) × Int × (List (S56)) × Int × Bool) := (impl_withItem.f k a0_0 l0_1 l0_2 a0_3 l0_4 1 a0_3 a1_0 a1_1 0 (wrap64 (a0_3 + 1))).bind fun bt381 => (if bt381.2.2.2.2.2 = true then (some (bt381.1, bt381.2.1, bt381.2.2.1, bt381.2.2.2.1, bt381.2.2.2.2.1, a0_3, true)) else (some (0, ([] : List (S40)), ([] : List (S40)), 0, ([] : List (S56)), 0, false)))
theorem impl_PromiseFree.mono : ∀ a0 a1 a2 a3 a4 a5 a6 k, LeO (impl_PromiseFree.f k a0 a1 a2 a3 a4 a5 a6) (impl_PromiseFree.f (k + 1) a0 a1 a2 a3 a4 a5 a6) := by
 intro a0 a1 a2 a3 a4 a5 a6 k
 unfold impl_PromiseFree.f
 repeat' first
   | (with_reducible exact impl_withItem.mono _ _ _ _ _ _ _ _ _ _ _ _)
   | (with_reducible exact LeO.refl _)
   | (with_reducible exact LeO.none _)
   | (with_reducible refine LeO.ite ?_ ?_)
   | (with_reducible refine LeO.bind ?_ (fun _ => ?_))
   | exact impl_withItem.mono _ _ _ _ _ _ _ _ _ _ _ _
   | exact LeO.none _
   | refine LeO.ite ?_ ?_
   | refine LeO.bind ?_ (fun _ => ?_)
set_option maxHeartbeats 8000000 in
set_option maxRecDepth 100000 in
theorem impl_PromiseFree.calls (k : Nat) (a0_0 : Int) (A0_1 : Option Addr) (c0_1 : Nat) (l0_1 : List (S40)) (A0_2 : Option Addr) (c0_2 : Nat) (l0_2 : List (S40)) (a0_3 : Int) (A0_4 : Option Addr) (c0_4 : Nat) (l0_4 : List (S56)) (a1_0 : Int) (a1_1 : Int) (r1 : Int) (r2 : List (S40)) (r3 : List (S40)) (r4 : Int) (r5 : List (S56)) (r6 : Int) (r7 : Bool) (w : World) (hr0_1 : Kd.C k40 w A0_1 l0_1.length l0_1) (hc0_1 : l0_1.length ≤ c0_1) (hr0_2 : Kd.C k40 w A0_2 l0_2.length l0_2) (hc0_2 : l0_2.length ≤ c0_2) (hr0_4 : Kd.C k56 w A0_4 l0_4.length l0_4) (hc0_4 : l0_4.length ≤ c0_4) (h : impl_PromiseFree.f k a0_0 l0_1 l0_2 a0_3 l0_4 a1_0 a1_1 = some (r1, r2, r3, r4, r5, r6, r7)) :
  Calls Try.prog 9 #[.agg #[.int .i64 a0_0, .slice A0_1 l0_1.length c0_1, .slice A0_2 l0_2.length c0_2, .int .i64 a0_3, .slice A0_4 l0_4.length c0_4], .agg #[.int .i64 a1_0, .int .i64 a1_1]] w fun e w' => ∃ v1_ v2_ v4_ : Value, e = .returned (.tuple #[.agg #[.int .i64 r1, v1_, v2_, .int .i64 r4, v4_], .int .i64 r6, .bool r7]) ∧ Kd.R k40 40 w' w.heap.size (fun k_ => some k_ ≠ (v2_ : Value).ownBlock) v1_ r2 ∧ Kd.R k40 40 w' w.heap.size (fun k_ => some k_ ≠ (v1_ : Value).ownBlock) v2_ r3 ∧ Kd.R k56 56 w' w.heap.size (fun _ => True) v4_ r5 ∧ Below w.heap.size w w' := by
 have hu36 := Try.underlying36
 have hu40 := Try.underlying40
 have hu56 := Try.underlying56
 have HR0_1 := Ah hr0_1
 have HC0_1 := Ah hc0_1
 clear hr0_1 hc0_1
 have HR0_2 := Ah hr0_2
 have HC0_2 := Ah hc0_2
 clear hr0_2 hc0_2
 have HR0_4 := Ah hr0_4
 have HC0_4 := Ah hc0_4
 clear hr0_4 hc0_4
 have HB := Ah (Below.refl w.heap.size w)
 have H : ((impl_withItem.f k a0_0 l0_1 l0_2 a0_3 l0_4 1 a0_3 a1_0 a1_1 0 (wrap64 (a0_3 + 1))).bind fun bt381 => (if bt381.2.2.2.2.2 = true then (some (bt381.1, bt381.2.1, bt381.2.2.1, bt381.2.2.2.1, bt381.2.2.2.2.1, a0_3, true)) else (some (0, ([] : List (S40)), ([] : List (S40)), 0, ([] : List (S56)), 0, false)))) = some (r1, r2, r3, r4, r5, r6, r7) := h
 clear h
 replace H := Option.bind_eq_some_iff.mp H
 obtain ⟨⟨t381, t382, t385, t388, t389, t392⟩, A30, H⟩ := H
 try dsimp only at H
 have A3 := Ah A30
 clear A30
 by_cases c4 : t392 = true
 rotate_left
 ·
  replace c4 := Bool.eq_false_iff.mpr c4
  subst c4
  rw [if_neg fne] at H
  simp only [Option.some.injEq, Prod.mk.injEq] at H
  obtain ⟨rfl, rfl, rfl, rfl, rfl, rfl, rfl⟩ := H
  go_enter Try.func9, Try.ntmps9
  go_wp2_with (first | ((with_reducible refine gate_dst (N := 2) rfl ?_); refine boxL 2 36 #[.int .i64 a0_0, .slice A0_1 l0_1.length c0_1, .slice A0_2 l0_2.length c0_2, .int .i64 a0_3, .slice A0_4 l0_4.length c0_4] ?_; intro gb378 hg w29 BK378 hb; have GW378 := gw hg (bs HB); have GE378 := gw hg (bs HB); replace HB := Ah (below_step (bs HB) hb); clear hb hg) | ((with_reducible refine gate_dst (N := 3) rfl ?_); refine boxL 3 40 #[.int .i64 a1_0, .int .i64 a1_1] ?_; intro gb379 hg w30 BK379 hb; have GW379 := gw hg (bs1 HB GE378); have GE379 := gw hg (bs1 HB GE378); replace HB := Ah (below_step (bs1 HB GE378) hb); have NB378_379 := nn BK378 hg; have NB379_378 := nm BK378 hg; replace BK378 := nb BK378 hb; clear hb hg) | ((with_reducible refine gate_dst (N := 4) rfl ?_); refine boxL 4 36 #[.int .i64 0, .slice none 0 0, .slice none 0 0, .int .i64 0, .slice none 0 0] ?_; intro gb380 hg w31 BK380 hb; have GW380 := gw hg (bs2 HB GE378 GE379); have GE380 := gw hg (bs2 HB GE378 GE379); replace HB := Ah (below_step (bs2 HB GE378 GE379) hb); have NB378_380 := nn BK378 hg; have NB380_378 := nm BK378 hg; replace BK378 := nb BK378 hb; have NB379_380 := nn BK379 hg; have NB380_379 := nm BK379 hg; replace BK379 := nb BK379 hb; clear hb hg; have hnb32 := NB378_379.out; have hnc32 := NB379_378.out; have hnb33 := NB378_380.out; have hnc33 := NB380_378.out; obtain ⟨hcz34_0, hcz34_1, hcz34_2, hcz34_3, hcz34_4⟩ := cz5 BK378; obtain ⟨hfz34_0, hfz34_1, hfz34_2, hfz34_3, hfz34_4⟩ := fz5 BK378; have hnb35 := NB379_380.out; have hnc35 := NB380_379.out; obtain ⟨hcz36_0, hcz36_1⟩ := cz2 BK379; obtain ⟨hfz36_0, hfz36_1⟩ := fz2 BK379) | ((with_reducible refine gate_callee (f := 23) rfl ?_); refine gL (some 18) rfl rfl Try.func23 (by kernel_rfl) rfl #[.agg #[.int .i64 a0_0, .slice A0_1 l0_1.length c0_1, .slice A0_2 l0_2.length c0_2, .int .i64 a0_3, .slice A0_4 l0_4.length c0_4], .agg #[.int .i64 1, .int .i64 a0_3, .int .i64 a1_0, .int .i64 a1_1, .int .i64 0], .int .i64 (wrap64 (a0_3 + 1))] rfl ?_; (with_reducible refine (impl_withItem.calls k a0_0 _ _ l0_1 _ _ l0_2 a0_3 _ _ l0_4 1 a0_3 a1_0 a1_1 0 (wrap64 (a0_3 + 1)) t381 t382 t385 t388 t389 false _ ?side1 ?side2 ?side3 ?side4 ?side5 ?side6 A3.out).mono ?_); (case side1 => exact cb HR0_1 HB); (case side2 => exact HC0_1.out); (case side3 => exact cb HR0_2 HB); (case side4 => exact HC0_2.out); (case side5 => exact cb HR0_4 HB); (case side6 => exact HC0_4.out); rintro e w37 ⟨v383, v386, v390, rfl, ho0, ho1, ho2, hb⟩; refine ⟨_, rfl, ?_⟩; have HO384 := Ah (Kd.R_lower (Kd.R_newB ho0 (g := gb379) (o := .cells #[.int .i64 a1_0, .int .i64 a1_1] 40 (0, 0)) (bk BK379)) (below_size (bs3 HB GE378 GE379 GE380))); have HO387 := Ah (Kd.R_lower (Kd.R_newB ho1 (g := gb379) (o := .cells #[.int .i64 a1_0, .int .i64 a1_1] 40 (0, 0)) (bk BK379)) (below_size (bs3 HB GE378 GE379 GE380))); have HO391 := Ah (Kd.R_lower ho2 (below_size (bs3 HB GE378 GE379 GE380))); replace BK378 := nb BK378 hb; replace BK379 := nb BK379 hb; replace BK380 := nb BK380 hb; replace HB := Ah (below_step (bs3 HB GE378 GE379 GE380) hb); (try clear hb ho0 ho1 ho2)) | ((with_reducible refine gate_dst (N := 7) rfl ?_); refine boxL 7 36 #[.int .i64 0, .slice none 0 0, .slice none 0 0, .int .i64 0, .slice none 0 0] ?_; intro gb393 hg w38 BK393 hb; replace HO384 := nr HO384 hb; replace HO387 := nr HO387 hb; replace HO391 := nr HO391 hb; have GW393 := gw hg (bs3 HB GE378 GE379 GE380); have GE393 := gw hg (bs3 HB GE378 GE379 GE380); replace HB := Ah (below_step (bs3 HB GE378 GE379 GE380) hb); have NB378_393 := nn BK378 hg; have NB393_378 := nm BK378 hg; replace BK378 := nb BK378 hb; have NB379_393 := nn BK379 hg; have NB393_379 := nm BK379 hg; replace BK379 := nb BK379 hb; have NB380_393 := nn BK380 hg; have NB393_380 := nm BK380 hg; replace BK380 := nb BK380 hb; clear hb hg; have hnb39 := NB393_378.out; have hnc39 := NB378_393.out; have hnb40 := NB393_379.out; have hnc40 := NB379_393.out; have hnb41 := NB393_380.out; have hnc41 := NB380_393.out; obtain ⟨hcz42_0, hcz42_1, hcz42_2, hcz42_3, hcz42_4⟩ := cz5 BK393; obtain ⟨hfz42_0, hfz42_1, hfz42_2, hfz42_3, hfz42_4⟩ := fz5 BK393; obtain ⟨Ao43, co43, eo43⟩ := Kd.R_slice HO384.out; subst eo43; obtain ⟨Ao44, co44, eo44⟩ := Kd.R_slice HO387.out; subst eo44; obtain ⟨Ao45, co45, eo45⟩ := Kd.R_slice HO391.out; subst eo45; obtain ⟨hcz46_0, hcz46_1, hcz46_2, hcz46_3, hcz46_4⟩ := cz5 BK380; obtain ⟨hfz46_0, hfz46_1, hfz46_2, hfz46_3, hfz46_4⟩ := fz5 BK380))
  refine bodyPost_ret (results_ctt rfl _ _ gb380 36 #[.int .i64 0, .slice none 0 0, .slice none 0 0, .int .i64 0, .slice none 0 0] (0, 0) _ rfl (by (with_reducible repeat (first | refine blk_drewN ?_ _ | refine blk_drew ?_ | refine blk_alloc ?_ _)); refine blk_put (cs := #[.int .i64 0, .slice none 0 0, .slice none 0 0, .int .i64 0, .slice none 0 0]) ?_ 4 _ rfl; (with_reducible repeat (first | refine blk_drewN ?_ _ | refine blk_drew ?_ | refine blk_alloc ?_ _)); refine blk_put (cs := #[.int .i64 0, .slice none 0 0, .slice none 0 0, .int .i64 0, .slice none 0 0]) ?_ 3 _ rfl; (with_reducible repeat (first | refine blk_drewN ?_ _ | refine blk_drew ?_ | refine blk_alloc ?_ _)); refine blk_put (cs := #[.int .i64 0, .slice none 0 0, .slice none 0 0, .int .i64 0, .slice none 0 0]) ?_ 2 _ rfl; (with_reducible repeat (first | refine blk_drewN ?_ _ | refine blk_drew ?_ | refine blk_alloc ?_ _)); refine blk_put (cs := #[.int .i64 0, .slice none 0 0, .slice none 0 0, .int .i64 0, .slice none 0 0]) ?_ 1 _ rfl; (with_reducible repeat (first | refine blk_drewN ?_ _ | refine blk_drew ?_ | refine blk_alloc ?_ _)); refine blk_put (cs := #[.int .i64 0, .slice none 0 0, .slice none 0 0, .int .i64 0, .slice none 0 0]) ?_ 0 _ rfl; (with_reducible repeat (first | refine blk_drewN ?_ _ | refine blk_drew ?_ | refine blk_alloc ?_ _)); refine blk_far ?_ NB380_393.out _; (with_reducible repeat (first | refine blk_drewN ?_ _ | refine blk_drew ?_ | refine blk_alloc ?_ _)); refine blk_far ?_ NB380_393.out _; (with_reducible repeat (first | refine blk_drewN ?_ _ | refine blk_drew ?_ | refine blk_alloc ?_ _)); refine blk_far ?_ NB380_393.out _; (with_reducible repeat (first | refine blk_drewN ?_ _ | refine blk_drew ?_ | refine blk_alloc ?_ _)); refine blk_far ?_ NB380_393.out _; (with_reducible repeat (first | refine blk_drewN ?_ _ | refine blk_drew ?_ | refine blk_alloc ?_ _)); refine blk_far ?_ NB380_393.out _; (with_reducible repeat (first | refine blk_drewN ?_ _ | refine blk_drew ?_ | refine blk_alloc ?_ _)); exact BK380.out) Try.underlying36 rfl (by kernel_rfl)) rfl ?_
  exact ⟨_, _, _, er, by first | exact Kd.R_nil _ _ _ _ _ | exact Kd.N_nil _ _ _ _ _ | exact Kd.V_nil _ _ _ _ _ | exact Kd.Q_nil _ _ _ _ _ | exact Kd.S_nil _ _ _ _ _, by first | exact Kd.R_nil _ _ _ _ _ | exact Kd.N_nil _ _ _ _ _ | exact Kd.V_nil _ _ _ _ _ | exact Kd.Q_nil _ _ _ _ _ | exact Kd.S_nil _ _ _ _ _, by first | exact Kd.R_nil _ _ _ _ _ | exact Kd.N_nil _ _ _ _ _ | exact Kd.V_nil _ _ _ _ _ | exact Kd.Q_nil _ _ _ _ _ | exact Kd.S_nil _ _ _ _ _, bs4 HB GE378 GE379 GE380 GE393⟩
 subst c4
 rw [if_pos rfl] at H
 simp only [Option.some.injEq, Prod.mk.injEq] at H
 obtain ⟨rfl, rfl, rfl, rfl, rfl, rfl, rfl⟩ := H
 go_enter Try.func9, Try.ntmps9
 try go_wp2_with (first | ((with_reducible refine gate_dst (N := 2) rfl ?_); refine boxL 2 36 #[.int .i64 a0_0, .slice A0_1 l0_1.length c0_1, .slice A0_2 l0_2.length c0_2, .int .i64 a0_3, .slice A0_4 l0_4.length c0_4] ?_; intro gb378 hg w5 BK378 hb; have GW378 := gw hg (bs HB); have GE378 := gw hg (bs HB); replace HB := Ah (below_step (bs HB) hb); clear hb hg) | ((with_reducible refine gate_dst (N := 3) rfl ?_); refine boxL 3 40 #[.int .i64 a1_0, .int .i64 a1_1] ?_; intro gb379 hg w6 BK379 hb; have GW379 := gw hg (bs1 HB GE378); have GE379 := gw hg (bs1 HB GE378); replace HB := Ah (below_step (bs1 HB GE378) hb); have NB378_379 := nn BK378 hg; have NB379_378 := nm BK378 hg; replace BK378 := nb BK378 hb; clear hb hg) | ((with_reducible refine gate_dst (N := 4) rfl ?_); refine boxL 4 36 #[.int .i64 0, .slice none 0 0, .slice none 0 0, .int .i64 0, .slice none 0 0] ?_; intro gb380 hg w7 BK380 hb; have GW380 := gw hg (bs2 HB GE378 GE379); have GE380 := gw hg (bs2 HB GE378 GE379); replace HB := Ah (below_step (bs2 HB GE378 GE379) hb); have NB378_380 := nn BK378 hg; have NB380_378 := nm BK378 hg; replace BK378 := nb BK378 hb; have NB379_380 := nn BK379 hg; have NB380_379 := nm BK379 hg; replace BK379 := nb BK379 hb; clear hb hg; have hnb8 := NB378_379.out; have hnc8 := NB379_378.out; have hnb9 := NB378_380.out; have hnc9 := NB380_378.out; obtain ⟨hcz10_0, hcz10_1, hcz10_2, hcz10_3, hcz10_4⟩ := cz5 BK378; obtain ⟨hfz10_0, hfz10_1, hfz10_2, hfz10_3, hfz10_4⟩ := fz5 BK378; have hnb11 := NB379_380.out; have hnc11 := NB380_379.out; obtain ⟨hcz12_0, hcz12_1⟩ := cz2 BK379; obtain ⟨hfz12_0, hfz12_1⟩ := fz2 BK379) | ((with_reducible refine gate_callee (f := 23) rfl ?_); refine gL (some 18) rfl rfl Try.func23 (by kernel_rfl) rfl #[.agg #[.int .i64 a0_0, .slice A0_1 l0_1.length c0_1, .slice A0_2 l0_2.length c0_2, .int .i64 a0_3, .slice A0_4 l0_4.length c0_4], .agg #[.int .i64 1, .int .i64 a0_3, .int .i64 a1_0, .int .i64 a1_1, .int .i64 0], .int .i64 (wrap64 (a0_3 + 1))] rfl ?_; (with_reducible refine (impl_withItem.calls k a0_0 _ _ l0_1 _ _ l0_2 a0_3 _ _ l0_4 1 a0_3 a1_0 a1_1 0 (wrap64 (a0_3 + 1)) t381 t382 t385 t388 t389 true _ ?side1 ?side2 ?side3 ?side4 ?side5 ?side6 A3.out).mono ?_); (case side1 => exact cb HR0_1 HB); (case side2 => exact HC0_1.out); (case side3 => exact cb HR0_2 HB); (case side4 => exact HC0_2.out); (case side5 => exact cb HR0_4 HB); (case side6 => exact HC0_4.out); rintro e w13 ⟨v383, v386, v390, rfl, ho0, ho1, ho2, hb⟩; refine ⟨_, rfl, ?_⟩; have HO384 := Ah (Kd.R_lower (Kd.R_newB ho0 (g := gb379) (o := .cells #[.int .i64 a1_0, .int .i64 a1_1] 40 (0, 0)) (bk BK379)) (below_size (bs3 HB GE378 GE379 GE380))); have HO387 := Ah (Kd.R_lower (Kd.R_newB ho1 (g := gb379) (o := .cells #[.int .i64 a1_0, .int .i64 a1_1] 40 (0, 0)) (bk BK379)) (below_size (bs3 HB GE378 GE379 GE380))); have HO391 := Ah (Kd.R_lower ho2 (below_size (bs3 HB GE378 GE379 GE380))); replace BK378 := nb BK378 hb; replace BK379 := nb BK379 hb; replace BK380 := nb BK380 hb; replace HB := Ah (below_step (bs3 HB GE378 GE379 GE380) hb); (try clear hb ho0 ho1 ho2)) | ((with_reducible refine gate_dst (N := 7) rfl ?_); refine boxL 7 36 #[.int .i64 0, .slice none 0 0, .slice none 0 0, .int .i64 0, .slice none 0 0] ?_; intro gb393 hg w14 BK393 hb; replace HO384 := nr HO384 hb; replace HO387 := nr HO387 hb; replace HO391 := nr HO391 hb; have GW393 := gw hg (bs3 HB GE378 GE379 GE380); have GE393 := gw hg (bs3 HB GE378 GE379 GE380); replace HB := Ah (below_step (bs3 HB GE378 GE379 GE380) hb); have NB378_393 := nn BK378 hg; have NB393_378 := nm BK378 hg; replace BK378 := nb BK378 hb; have NB379_393 := nn BK379 hg; have NB393_379 := nm BK379 hg; replace BK379 := nb BK379 hb; have NB380_393 := nn BK380 hg; have NB393_380 := nm BK380 hg; replace BK380 := nb BK380 hb; clear hb hg; have hnb15 := NB393_378.out; have hnc15 := NB378_393.out; have hnb16 := NB393_379.out; have hnc16 := NB379_393.out; have hnb17 := NB393_380.out; have hnc17 := NB380_393.out; obtain ⟨hcz18_0, hcz18_1, hcz18_2, hcz18_3, hcz18_4⟩ := cz5 BK393; obtain ⟨hfz18_0, hfz18_1, hfz18_2, hfz18_3, hfz18_4⟩ := fz5 BK393; obtain ⟨Ao19, co19, eo19⟩ := Kd.R_slice HO384.out; subst eo19; obtain ⟨Ao20, co20, eo20⟩ := Kd.R_slice HO387.out; subst eo20; obtain ⟨Ao21, co21, eo21⟩ := Kd.R_slice HO391.out; subst eo21))
 have n0_ : Aside0 (Kd.R k40 40 (((((w14.setCell ⟨gb393, 0, none⟩ (.int .i64 t381)).setCell ⟨gb393, 1, none⟩ (.slice Ao19 t382.length co19)).setCell ⟨gb393, 2, none⟩ (.slice Ao20 t385.length co20)).setCell ⟨gb393, 3, none⟩ (.int .i64 t388)).setCell ⟨gb393, 4, none⟩ (.slice Ao21 t389.length co21)) w.heap.size (fun k_ => some k_ ≠ (.slice Ao20 t385.length co20 : Value).ownBlock ∧ k_ ≠ gb379) (.slice Ao19 t382.length co19) t382) := ⟨by (with_reducible repeat (first | apply Kd.R_alloc | apply Kd.R_drewN | apply Kd.R_drew)); exact Kd.R_mono (Kd.R_far (p := ⟨gb393, 4, none⟩) (Kd.R_far (p := ⟨gb393, 3, none⟩) (Kd.R_far (p := ⟨gb393, 2, none⟩) (Kd.R_far (p := ⟨gb393, 1, none⟩) (Kd.R_far (p := ⟨gb393, 0, none⟩) (Kd.R_types HO384.out BK393.out (by decide)) (fun _ hk => hk.2) (.int .i64 t381)) (fun _ hk => hk.2) (.slice Ao19 t382.length co19)) (fun _ hk => hk.2) (.slice Ao20 t385.length co20)) (fun _ hk => hk.2) (.int .i64 t388)) (fun _ hk => hk.2) (.slice Ao21 t389.length co21)) (fun _ hk => ⟨hk.1.1, hk.1.2⟩)⟩
 have n1_ : Aside0 (Kd.R k40 40 (((((w14.setCell ⟨gb393, 0, none⟩ (.int .i64 t381)).setCell ⟨gb393, 1, none⟩ (.slice Ao19 t382.length co19)).setCell ⟨gb393, 2, none⟩ (.slice Ao20 t385.length co20)).setCell ⟨gb393, 3, none⟩ (.int .i64 t388)).setCell ⟨gb393, 4, none⟩ (.slice Ao21 t389.length co21)) w.heap.size (fun k_ => some k_ ≠ (.slice Ao19 t382.length co19 : Value).ownBlock ∧ k_ ≠ gb379) (.slice Ao20 t385.length co20) t385) := ⟨by (with_reducible repeat (first | apply Kd.R_alloc | apply Kd.R_drewN | apply Kd.R_drew)); exact Kd.R_mono (Kd.R_far (p := ⟨gb393, 4, none⟩) (Kd.R_far (p := ⟨gb393, 3, none⟩) (Kd.R_far (p := ⟨gb393, 2, none⟩) (Kd.R_far (p := ⟨gb393, 1, none⟩) (Kd.R_far (p := ⟨gb393, 0, none⟩) (Kd.R_types HO387.out BK393.out (by decide)) (fun _ hk => hk.2) (.int .i64 t381)) (fun _ hk => hk.2) (.slice Ao19 t382.length co19)) (fun _ hk => hk.2) (.slice Ao20 t385.length co20)) (fun _ hk => hk.2) (.int .i64 t388)) (fun _ hk => hk.2) (.slice Ao21 t389.length co21)) (fun _ hk => ⟨hk.1.1, hk.1.2⟩)⟩
 have n2_ : Aside0 (Kd.R k56 56 (((((w14.setCell ⟨gb393, 0, none⟩ (.int .i64 t381)).setCell ⟨gb393, 1, none⟩ (.slice Ao19 t382.length co19)).setCell ⟨gb393, 2, none⟩ (.slice Ao20 t385.length co20)).setCell ⟨gb393, 3, none⟩ (.int .i64 t388)).setCell ⟨gb393, 4, none⟩ (.slice Ao21 t389.length co21)) w.heap.size (fun _ => True) (.slice Ao21 t389.length co21) t389) := ⟨by (with_reducible repeat (first | apply Kd.R_alloc | apply Kd.R_drewN | apply Kd.R_drew)); exact Kd.R_mono (Kd.R_far (p := ⟨gb393, 4, none⟩) (Kd.R_far (p := ⟨gb393, 3, none⟩) (Kd.R_far (p := ⟨gb393, 2, none⟩) (Kd.R_far (p := ⟨gb393, 1, none⟩) (Kd.R_far (p := ⟨gb393, 0, none⟩) (Kd.R_types HO391.out BK393.out (by decide)) (fun _ hk => hk.2) (.int .i64 t381)) (fun _ hk => hk.2) (.slice Ao19 t382.length co19)) (fun _ hk => hk.2) (.slice Ao20 t385.length co20)) (fun _ hk => hk.2) (.int .i64 t388)) (fun _ hk => hk.2) (.slice Ao21 t389.length co21)) (fun _ hk => trivial)⟩
 have n3_ : Aside0 ((((((w14.setCell ⟨gb393, 0, none⟩ (.int .i64 t381)).setCell ⟨gb393, 1, none⟩ (.slice Ao19 t382.length co19)).setCell ⟨gb393, 2, none⟩ (.slice Ao20 t385.length co20)).setCell ⟨gb393, 3, none⟩ (.int .i64 t388)).setCell ⟨gb393, 4, none⟩ (.slice Ao21 t389.length co21)).heap[gb378]? = some (.cells #[.int .i64 a0_0, .slice A0_1 l0_1.length c0_1, .slice A0_2 l0_2.length c0_2, .int .i64 a0_3, .slice A0_4 l0_4.length c0_4] 36 (0, 0))) := ⟨bf BK378 NB378_393⟩
 have n4_ : Aside0 ((((((w14.setCell ⟨gb393, 0, none⟩ (.int .i64 t381)).setCell ⟨gb393, 1, none⟩ (.slice Ao19 t382.length co19)).setCell ⟨gb393, 2, none⟩ (.slice Ao20 t385.length co20)).setCell ⟨gb393, 3, none⟩ (.int .i64 t388)).setCell ⟨gb393, 4, none⟩ (.slice Ao21 t389.length co21)).heap[gb379]? = some (.cells #[.int .i64 a1_0, .int .i64 a1_1] 40 (0, 0))) := ⟨bf BK379 NB379_393⟩
 have n5_ : Aside0 ((((((w14.setCell ⟨gb393, 0, none⟩ (.int .i64 t381)).setCell ⟨gb393, 1, none⟩ (.slice Ao19 t382.length co19)).setCell ⟨gb393, 2, none⟩ (.slice Ao20 t385.length co20)).setCell ⟨gb393, 3, none⟩ (.int .i64 t388)).setCell ⟨gb393, 4, none⟩ (.slice Ao21 t389.length co21)).heap[gb380]? = some (.cells #[.int .i64 0, .slice none 0 0, .slice none 0 0, .int .i64 0, .slice none 0 0] 36 (0, 0))) := ⟨bf BK380 NB380_393⟩
 have n6_ : Aside0 ((((((w14.setCell ⟨gb393, 0, none⟩ (.int .i64 t381)).setCell ⟨gb393, 1, none⟩ (.slice Ao19 t382.length co19)).setCell ⟨gb393, 2, none⟩ (.slice Ao20 t385.length co20)).setCell ⟨gb393, 3, none⟩ (.int .i64 t388)).setCell ⟨gb393, 4, none⟩ (.slice Ao21 t389.length co21)).heap[gb393]? = some (.cells #[.int .i64 t381, .slice Ao19 t382.length co19, .slice Ao20 t385.length co20, .int .i64 t388, .slice Ao21 t389.length co21] 36 (0, 0))) := ⟨by (with_reducible repeat (first | refine blk_drewN ?_ _ | refine blk_drew ?_ | refine blk_alloc ?_ _)); refine blk_put (cs := #[.int .i64 t381, .slice Ao19 t382.length co19, .slice Ao20 t385.length co20, .int .i64 t388, .slice none 0 0]) ?_ 4 _ rfl; (with_reducible repeat (first | refine blk_drewN ?_ _ | refine blk_drew ?_ | refine blk_alloc ?_ _)); refine blk_put (cs := #[.int .i64 t381, .slice Ao19 t382.length co19, .slice Ao20 t385.length co20, .int .i64 0, .slice none 0 0]) ?_ 3 _ rfl; (with_reducible repeat (first | refine blk_drewN ?_ _ | refine blk_drew ?_ | refine blk_alloc ?_ _)); refine blk_put (cs := #[.int .i64 t381, .slice Ao19 t382.length co19, .slice none 0 0, .int .i64 0, .slice none 0 0]) ?_ 2 _ rfl; (with_reducible repeat (first | refine blk_drewN ?_ _ | refine blk_drew ?_ | refine blk_alloc ?_ _)); refine blk_put (cs := #[.int .i64 t381, .slice none 0 0, .slice none 0 0, .int .i64 0, .slice none 0 0]) ?_ 1 _ rfl; (with_reducible repeat (first | refine blk_drewN ?_ _ | refine blk_drew ?_ | refine blk_alloc ?_ _)); refine blk_put (cs := #[.int .i64 0, .slice none 0 0, .slice none 0 0, .int .i64 0, .slice none 0 0]) ?_ 0 _ rfl; (with_reducible repeat (first | refine blk_drewN ?_ _ | refine blk_drew ?_ | refine blk_alloc ?_ _)); exact BK393.out⟩
 have n7_ : Aside0 (Below w.heap.size w (((((w14.setCell ⟨gb393, 0, none⟩ (.int .i64 t381)).setCell ⟨gb393, 1, none⟩ (.slice Ao19 t382.length co19)).setCell ⟨gb393, 2, none⟩ (.slice Ao20 t385.length co20)).setCell ⟨gb393, 3, none⟩ (.int .i64 t388)).setCell ⟨gb393, 4, none⟩ (.slice Ao21 t389.length co21))) := ⟨bs4 HB GE378 GE379 GE380 GE393⟩
 (try clear HO384)
 (try clear HO387)
 (try clear HO391)
 (try clear BK378)
 (try clear BK379)
 (try clear BK380)
 (try clear BK393)
 (try clear HB)
 generalize (((((w14.setCell ⟨gb393, 0, none⟩ (.int .i64 t381)).setCell ⟨gb393, 1, none⟩ (.slice Ao19 t382.length co19)).setCell ⟨gb393, 2, none⟩ (.slice Ao20 t385.length co20)).setCell ⟨gb393, 3, none⟩ (.int .i64 t388)).setCell ⟨gb393, 4, none⟩ (.slice Ao21 t389.length co21)) = w22 at n0_ n1_ n2_ n3_ n4_ n5_ n6_ n7_ ⊢
 have HO384 := n0_
 have HO387 := n1_
 have HO391 := n2_
 have BK378 := n3_
 have BK379 := n4_
 have BK380 := n5_
 have BK393 := n6_
 have HB := n7_
 clear n0_ n1_ n2_ n3_ n4_ n5_ n6_ n7_
 have n0_ := Ah (Kd.R_drew HO384.out)
 have n1_ := Ah (Kd.R_drew HO387.out)
 have n2_ := Ah (Kd.R_drew HO391.out)
 have n3_ := Ah (blk_drew BK378.out)
 have n4_ := Ah (blk_drew BK379.out)
 have n5_ := Ah (blk_drew BK380.out)
 have n6_ := Ah (blk_drew BK393.out)
 have n7_ := Ah (below_drew1 HB.out)
 clear HO384 HO387 HO391 BK378 BK379 BK380 BK393 HB
 have HO384 := n0_
 have HO387 := n1_
 have HO391 := n2_
 have BK378 := n3_
 have BK379 := n4_
 have BK380 := n5_
 have BK393 := n6_
 have HB := n7_
 clear n0_ n1_ n2_ n3_ n4_ n5_ n6_ n7_
 refine start_ (n := 6) (S := fun w' => w'.cell? ⟨gb393, 0, none⟩ = some (.int .i64 t381) ∧ w'.cell? ⟨gb393, 1, none⟩ = some (.slice Ao19 t382.length co19) ∧ w'.cell? ⟨gb393, 2, none⟩ = some (.slice Ao20 t385.length co20) ∧ w'.cell? ⟨gb393, 3, none⟩ = some (.int .i64 t388) ∧ w'.cell? ⟨gb393, 4, none⟩ = some (.slice Ao21 t389.length co21) ∧ w'.cell? ⟨gb378, 0, none⟩ = some (.int .i64 a0_0) ∧ w'.cell? ⟨gb378, 1, none⟩ = some (.slice A0_1 l0_1.length c0_1) ∧ w'.cell? ⟨gb378, 2, none⟩ = some (.slice A0_2 l0_2.length c0_2) ∧ w'.cell? ⟨gb378, 3, none⟩ = some (.int .i64 a0_3) ∧ w'.cell? ⟨gb378, 4, none⟩ = some (.slice A0_4 l0_4.length c0_4)) (ds := []) #[false, false, false, false, false, false] (by kernel_rfl) rfl rfl ⟨(blk_cell BK393.out 0).trans rfl, (blk_cell BK393.out 1).trans rfl, (blk_cell BK393.out 2).trans rfl, (blk_cell BK393.out 3).trans rfl, (blk_cell BK393.out 4).trans rfl, (blk_cell BK378.out 0).trans rfl, (blk_cell BK378.out 1).trans rfl, (blk_cell BK378.out 2).trans rfl, (blk_cell BK378.out 3).trans rfl, (blk_cell BK378.out 4).trans rfl⟩ (fun hHeld => ?_)
 generalize w22.drew = w23 at HO384 HO387 HO391 BK378 BK379 BK380 BK393 HB hHeld ⊢
 refine pure_ (i := 1) (N := some 25) (v := ?_) (a' := ?_) #[false, true, false, false, false, false] rfl rfl (by kernel_rfl) (fun _ _ _ h => h) (Or.inl ⟨by rfl, ?_⟩) ?_ ?_
 rotate_left
 ·
  intro w'
  go_simp
  with_reducible rfl
 rotate_left
 ·
  simp only [Act.put, List.setIfInBounds_toArray, List.set_cons_zero, List.set_cons_succ, i64_w, i32_w]
  rfl
 refine take_ (i := 0) (N := some 24) (v := ?_) (a' := ?_) #[true, true, false, false, false, false] rfl rfl (by kernel_rfl) (fun _ _ _ h => h) (Or.inl ⟨by rfl, ?_⟩) hHeld ?_ ?_
 rotate_left
 ·
  rintro w' ⟨s0, s1, s2, s3, s4, s5, s6, s7, s8, s9⟩
  go_simp
  with_reducible rfl
 rotate_left
 ·
  simp only [Act.put, List.setIfInBounds_toArray, List.set_cons_zero, List.set_cons_succ, i64_w, i32_w]
  rfl
 refine take_ (i := 2) (N := some 26) (v := ?_) (a' := ?_) #[true, true, true, false, false, false] rfl rfl (by kernel_rfl) (fun _ _ _ h => h) (Or.inl ⟨by rfl, ?_⟩) hHeld ?_ ?_
 rotate_left
 ·
  rintro w' ⟨s0, s1, s2, s3, s4, s5, s6, s7, s8, s9⟩
  go_simp
  with_reducible rfl
 rotate_left
 ·
  simp only [Act.put, List.setIfInBounds_toArray, List.set_cons_zero, List.set_cons_succ, i64_w, i32_w]
  rfl
 refine one_ (i := 3) (N := none) #[true, true, true, true, false, false] rfl rfl (by kernel_rfl) (by decide) (fun K hK => ?_)
 have hs24 : w23.cell? ⟨gb380, 0, none⟩ = some (.int .i64 0) := (blk_cell BK380.out 0).trans rfl
 have hfs24 := blk_frozen BK380.out 0
 have hns24_0 := NB378_380.out
 have hns24_1 := NB379_380.out
 have hns24_3 := NB393_380.out
 have hms24_0 := NB380_378.out
 have hms24_1 := NB380_379.out
 have hms24_3 := NB380_393.out
 have hs25 : w23.cell? ⟨gb380, 1, none⟩ = some (.slice none 0 0) := (blk_cell BK380.out 1).trans rfl
 have hfs25 := blk_frozen BK380.out 1
 have hns25_0 := NB378_380.out
 have hns25_1 := NB379_380.out
 have hns25_3 := NB393_380.out
 have hms25_0 := NB380_378.out
 have hms25_1 := NB380_379.out
 have hms25_3 := NB380_393.out
 have hs26 : w23.cell? ⟨gb380, 2, none⟩ = some (.slice none 0 0) := (blk_cell BK380.out 2).trans rfl
 have hfs26 := blk_frozen BK380.out 2
 have hns26_0 := NB378_380.out
 have hns26_1 := NB379_380.out
 have hns26_3 := NB393_380.out
 have hms26_0 := NB380_378.out
 have hms26_1 := NB380_379.out
 have hms26_3 := NB380_393.out
 have hs27 : w23.cell? ⟨gb380, 3, none⟩ = some (.int .i64 0) := (blk_cell BK380.out 3).trans rfl
 have hfs27 := blk_frozen BK380.out 3
 have hns27_0 := NB378_380.out
 have hns27_1 := NB379_380.out
 have hns27_3 := NB393_380.out
 have hms27_0 := NB380_378.out
 have hms27_1 := NB380_379.out
 have hms27_3 := NB380_393.out
 have hs28 : w23.cell? ⟨gb380, 4, none⟩ = some (.slice none 0 0) := (blk_cell BK380.out 4).trans rfl
 have hfs28 := blk_frozen BK380.out 4
 have hns28_0 := NB378_380.out
 have hns28_1 := NB379_380.out
 have hns28_3 := NB393_380.out
 have hms28_0 := NB380_378.out
 have hms28_1 := NB380_379.out
 have hms28_3 := NB380_393.out
 refine skip_ (w1 := ?_) (by rfl) rfl ?_ ?_
 rotate_left
 ·
  go_simp
  rfl
 refine hK.out _ _ ⟨((cell_far (p := ⟨gb380, _, none⟩) NB393_380.out _).trans (((cell_far (p := ⟨gb380, _, none⟩) NB393_380.out _).trans (((cell_far (p := ⟨gb380, _, none⟩) NB393_380.out _).trans (((cell_far (p := ⟨gb380, _, none⟩) NB393_380.out _).trans (((cell_far (p := ⟨gb380, _, none⟩) NB393_380.out _).trans (hHeld.1)))))))))), ((cell_far (p := ⟨gb380, _, none⟩) NB393_380.out _).trans (((cell_far (p := ⟨gb380, _, none⟩) NB393_380.out _).trans (((cell_far (p := ⟨gb380, _, none⟩) NB393_380.out _).trans (((cell_far (p := ⟨gb380, _, none⟩) NB393_380.out _).trans (((cell_far (p := ⟨gb380, _, none⟩) NB393_380.out _).trans (hHeld.2.1)))))))))), ((cell_far (p := ⟨gb380, _, none⟩) NB393_380.out _).trans (((cell_far (p := ⟨gb380, _, none⟩) NB393_380.out _).trans (((cell_far (p := ⟨gb380, _, none⟩) NB393_380.out _).trans (((cell_far (p := ⟨gb380, _, none⟩) NB393_380.out _).trans (((cell_far (p := ⟨gb380, _, none⟩) NB393_380.out _).trans (hHeld.2.2.1)))))))))), ((cell_far (p := ⟨gb380, _, none⟩) NB393_380.out _).trans (((cell_far (p := ⟨gb380, _, none⟩) NB393_380.out _).trans (((cell_far (p := ⟨gb380, _, none⟩) NB393_380.out _).trans (((cell_far (p := ⟨gb380, _, none⟩) NB393_380.out _).trans (((cell_far (p := ⟨gb380, _, none⟩) NB393_380.out _).trans (hHeld.2.2.2.1)))))))))), ((cell_far (p := ⟨gb380, _, none⟩) NB393_380.out _).trans (((cell_far (p := ⟨gb380, _, none⟩) NB393_380.out _).trans (((cell_far (p := ⟨gb380, _, none⟩) NB393_380.out _).trans (((cell_far (p := ⟨gb380, _, none⟩) NB393_380.out _).trans (((cell_far (p := ⟨gb380, _, none⟩) NB393_380.out _).trans (hHeld.2.2.2.2.1)))))))))), ((cell_far (p := ⟨gb380, _, none⟩) NB378_380.out _).trans (((cell_far (p := ⟨gb380, _, none⟩) NB378_380.out _).trans (((cell_far (p := ⟨gb380, _, none⟩) NB378_380.out _).trans (((cell_far (p := ⟨gb380, _, none⟩) NB378_380.out _).trans (((cell_far (p := ⟨gb380, _, none⟩) NB378_380.out _).trans (hHeld.2.2.2.2.2.1)))))))))), ((cell_far (p := ⟨gb380, _, none⟩) NB378_380.out _).trans (((cell_far (p := ⟨gb380, _, none⟩) NB378_380.out _).trans (((cell_far (p := ⟨gb380, _, none⟩) NB378_380.out _).trans (((cell_far (p := ⟨gb380, _, none⟩) NB378_380.out _).trans (((cell_far (p := ⟨gb380, _, none⟩) NB378_380.out _).trans (hHeld.2.2.2.2.2.2.1)))))))))), ((cell_far (p := ⟨gb380, _, none⟩) NB378_380.out _).trans (((cell_far (p := ⟨gb380, _, none⟩) NB378_380.out _).trans (((cell_far (p := ⟨gb380, _, none⟩) NB378_380.out _).trans (((cell_far (p := ⟨gb380, _, none⟩) NB378_380.out _).trans (((cell_far (p := ⟨gb380, _, none⟩) NB378_380.out _).trans (hHeld.2.2.2.2.2.2.2.1)))))))))), ((cell_far (p := ⟨gb380, _, none⟩) NB378_380.out _).trans (((cell_far (p := ⟨gb380, _, none⟩) NB378_380.out _).trans (((cell_far (p := ⟨gb380, _, none⟩) NB378_380.out _).trans (((cell_far (p := ⟨gb380, _, none⟩) NB378_380.out _).trans (((cell_far (p := ⟨gb380, _, none⟩) NB378_380.out _).trans (hHeld.2.2.2.2.2.2.2.2.1)))))))))), ((cell_far (p := ⟨gb380, _, none⟩) NB378_380.out _).trans (((cell_far (p := ⟨gb380, _, none⟩) NB378_380.out _).trans (((cell_far (p := ⟨gb380, _, none⟩) NB378_380.out _).trans (((cell_far (p := ⟨gb380, _, none⟩) NB378_380.out _).trans (((cell_far (p := ⟨gb380, _, none⟩) NB378_380.out _).trans (hHeld.2.2.2.2.2.2.2.2.2))))))))))⟩ (fun hHeld => ?_)
 clear hK K
 refine pure_ (i := 4) (N := some 5) (v := ?_) (a' := ?_) #[true, true, true, true, true, false] rfl rfl (by kernel_rfl) (fun _ _ _ h => h) (Or.inl ⟨by rfl, ?_⟩) ?_ ?_
 rotate_left
 ·
  intro w'
  go_simp
  with_reducible rfl
 rotate_left
 ·
  simp only [Act.put, List.setIfInBounds_toArray, List.set_cons_zero, List.set_cons_succ, i64_w, i32_w]
  rfl
 refine pure_ (i := 5) (N := some 6) (v := ?_) (a' := ?_) #[true, true, true, true, true, true] rfl rfl (by kernel_rfl) (fun _ _ _ h => h) (Or.inl ⟨by rfl, ?_⟩) ?_ ?_
 rotate_left
 ·
  intro w'
  go_simp
  with_reducible rfl
 rotate_left
 ·
  simp only [Act.put, List.setIfInBounds_toArray, List.set_cons_zero, List.set_cons_succ, i64_w, i32_w]
  rfl
 refine done_ (by kernel_rfl) ?_
 try go_wp2
 refine bodyPost_ret (results_ctt rfl _ _ gb380 36 #[.int .i64 t381, .slice Ao19 t382.length co19, .slice Ao20 t385.length co20, .int .i64 t388, .slice Ao21 t389.length co21] (0, 0) _ rfl (by (with_reducible repeat (first | refine blk_drewN ?_ _ | refine blk_drew ?_ | refine blk_alloc ?_ _)); refine blk_put (cs := #[.int .i64 t381, .slice Ao19 t382.length co19, .slice Ao20 t385.length co20, .int .i64 t388, .slice none 0 0]) ?_ 4 _ rfl; (with_reducible repeat (first | refine blk_drewN ?_ _ | refine blk_drew ?_ | refine blk_alloc ?_ _)); refine blk_put (cs := #[.int .i64 t381, .slice Ao19 t382.length co19, .slice Ao20 t385.length co20, .int .i64 0, .slice none 0 0]) ?_ 3 _ rfl; (with_reducible repeat (first | refine blk_drewN ?_ _ | refine blk_drew ?_ | refine blk_alloc ?_ _)); refine blk_put (cs := #[.int .i64 t381, .slice Ao19 t382.length co19, .slice none 0 0, .int .i64 0, .slice none 0 0]) ?_ 2 _ rfl; (with_reducible repeat (first | refine blk_drewN ?_ _ | refine blk_drew ?_ | refine blk_alloc ?_ _)); refine blk_put (cs := #[.int .i64 t381, .slice none 0 0, .slice none 0 0, .int .i64 0, .slice none 0 0]) ?_ 1 _ rfl; (with_reducible repeat (first | refine blk_drewN ?_ _ | refine blk_drew ?_ | refine blk_alloc ?_ _)); refine blk_put (cs := #[.int .i64 0, .slice none 0 0, .slice none 0 0, .int .i64 0, .slice none 0 0]) ?_ 0 _ rfl; (with_reducible repeat (first | refine blk_drewN ?_ _ | refine blk_drew ?_ | refine blk_alloc ?_ _)); exact BK380.out) Try.underlying36 rfl (by kernel_rfl)) rfl ?_
 exact ⟨_, _, _, er, by (with_reducible repeat (first | apply Kd.R_alloc | apply Kd.R_drewN | apply Kd.R_drew)); exact Kd.R_mono (Kd.R_far (p := ⟨gb380, 4, none⟩) (Kd.R_far (p := ⟨gb380, 3, none⟩) (Kd.R_far (p := ⟨gb380, 2, none⟩) (Kd.R_far (p := ⟨gb380, 1, none⟩) (Kd.R_far (p := ⟨gb380, 0, none⟩) (Kd.R_types HO384.out BK380.out (by decide)) (fun _ hk => hk.2) (.int .i64 t381)) (fun _ hk => hk.2) (.slice Ao19 t382.length co19)) (fun _ hk => hk.2) (.slice Ao20 t385.length co20)) (fun _ hk => hk.2) (.int .i64 t388)) (fun _ hk => hk.2) (.slice Ao21 t389.length co21)) (fun _ hk => hk.1.1), by (with_reducible repeat (first | apply Kd.R_alloc | apply Kd.R_drewN | apply Kd.R_drew)); exact Kd.R_mono (Kd.R_far (p := ⟨gb380, 4, none⟩) (Kd.R_far (p := ⟨gb380, 3, none⟩) (Kd.R_far (p := ⟨gb380, 2, none⟩) (Kd.R_far (p := ⟨gb380, 1, none⟩) (Kd.R_far (p := ⟨gb380, 0, none⟩) (Kd.R_types HO387.out BK380.out (by decide)) (fun _ hk => hk.2) (.int .i64 t381)) (fun _ hk => hk.2) (.slice Ao19 t382.length co19)) (fun _ hk => hk.2) (.slice Ao20 t385.length co20)) (fun _ hk => hk.2) (.int .i64 t388)) (fun _ hk => hk.2) (.slice Ao21 t389.length co21)) (fun _ hk => hk.1.1), by (with_reducible repeat (first | apply Kd.R_alloc | apply Kd.R_drewN | apply Kd.R_drew)); exact Kd.R_mono (Kd.R_far (p := ⟨gb380, 4, none⟩) (Kd.R_far (p := ⟨gb380, 3, none⟩) (Kd.R_far (p := ⟨gb380, 2, none⟩) (Kd.R_far (p := ⟨gb380, 1, none⟩) (Kd.R_far (p := ⟨gb380, 0, none⟩) (Kd.R_types HO391.out BK380.out (by decide)) (fun _ hk => hk.2) (.int .i64 t381)) (fun _ hk => hk.2) (.slice Ao19 t382.length co19)) (fun _ hk => hk.2) (.slice Ao20 t385.length co20)) (fun _ hk => hk.2) (.int .i64 t388)) (fun _ hk => hk.2) (.slice Ao21 t389.length co21)) (fun _ hk => trivial), bs4 HB GE378 GE379 GE380 GE393⟩
def laws_eqExtent.f (a0_0 : Int) (a0_1 : Int) (a1_0 : Int) (a1_1 : Int) : Option (Bool) := if a0_0 = a1_0 then (if a0_1 = a1_1 then (some true) else (some false)) else (some false)
set_option maxHeartbeats 8000000 in
set_option maxRecDepth 100000 in
theorem laws_eqExtent.calls (a0_0 : Int) (a0_1 : Int) (a1_0 : Int) (a1_1 : Int) (r : Bool) (w : World) (h : laws_eqExtent.f a0_0 a0_1 a1_0 a1_1 = some r) :
  Calls Try.prog 59 #[.agg #[.int .i64 a0_0, .int .i64 a0_1], .agg #[.int .i64 a1_0, .int .i64 a1_1]] w fun e w' => e = .returned (.bool r) ∧ Below w.heap.size w w' := by
 have hu40 := Try.underlying40
 have HB := Ah (Below.refl w.heap.size w)
 have H : (if a0_0 = a1_0 then (if a0_1 = a1_1 then (some true) else (some false)) else (some false)) = some r := h
 clear h
 by_cases c3 : a0_0 = a1_0
 rotate_left
 ·
  rw [if_neg c3] at H
  have c3b0 : (a0_0 == a1_0) = false := beq_eq_false_iff_ne.mpr c3
  have c3b1 : (a0_0 != a1_0) = true := bne_iff_ne.mpr c3
  obtain rfl := Option.some.inj H
  go_enter Try.func59, Try.ntmps59
  go_wp2_with (first | ((with_reducible refine gate_dst (N := 2) rfl ?_); refine boxL 2 40 #[.int .i64 a0_0, .int .i64 a0_1] ?_; intro gb394 hg w15 BK394 hb; have GW394 := gw hg (bs HB); have GE394 := gw hg (bs HB); replace HB := Ah (below_step (bs HB) hb); clear hb hg) | ((with_reducible refine gate_dst (N := 3) rfl ?_); refine boxL 3 40 #[.int .i64 a1_0, .int .i64 a1_1] ?_; intro gb395 hg w16 BK395 hb; have GW395 := gw hg (bs1 HB GE394); have GE395 := gw hg (bs1 HB GE394); replace HB := Ah (below_step (bs1 HB GE394) hb); have NB394_395 := nn BK394 hg; have NB395_394 := nm BK394 hg; replace BK394 := nb BK394 hb; clear hb hg; have hnb17 := NB394_395.out; have hnc17 := NB395_394.out; obtain ⟨hcz18_0, hcz18_1⟩ := cz2 BK394; obtain ⟨hfz18_0, hfz18_1⟩ := fz2 BK394; obtain ⟨hcz19_0, hcz19_1⟩ := cz2 BK395; obtain ⟨hfz19_0, hfz19_1⟩ := fz2 BK395))
  go_ret
  exact ⟨er, bs2 HB GE394 GE395⟩
 rw [if_pos c3] at H
 have c3b0 : (a0_0 == a1_0) = true := beq_iff_eq.mpr c3
 have c3b1 : (a0_0 != a1_0) = false := bne_eq_false_iff_eq.mpr c3
 clear c3
 by_cases c4 : a0_1 = a1_1
 ·
  rw [if_pos c4] at H
  have c4b0 : (a0_1 == a1_1) = true := beq_iff_eq.mpr c4
  have c4b1 : (a0_1 != a1_1) = false := bne_eq_false_iff_eq.mpr c4
  clear c4
  obtain rfl := Option.some.inj H
  go_enter Try.func59, Try.ntmps59
  go_wp2_with (first | ((with_reducible refine gate_dst (N := 2) rfl ?_); refine boxL 2 40 #[.int .i64 a0_0, .int .i64 a0_1] ?_; intro gb394 hg w5 BK394 hb; have GW394 := gw hg (bs HB); have GE394 := gw hg (bs HB); replace HB := Ah (below_step (bs HB) hb); clear hb hg) | ((with_reducible refine gate_dst (N := 3) rfl ?_); refine boxL 3 40 #[.int .i64 a1_0, .int .i64 a1_1] ?_; intro gb395 hg w6 BK395 hb; have GW395 := gw hg (bs1 HB GE394); have GE395 := gw hg (bs1 HB GE394); replace HB := Ah (below_step (bs1 HB GE394) hb); have NB394_395 := nn BK394 hg; have NB395_394 := nm BK394 hg; replace BK394 := nb BK394 hb; clear hb hg; have hnb7 := NB394_395.out; have hnc7 := NB395_394.out; obtain ⟨hcz8_0, hcz8_1⟩ := cz2 BK394; obtain ⟨hfz8_0, hfz8_1⟩ := fz2 BK394; obtain ⟨hcz9_0, hcz9_1⟩ := cz2 BK395; obtain ⟨hfz9_0, hfz9_1⟩ := fz2 BK395))
  go_ret
  exact ⟨er, bs2 HB GE394 GE395⟩
 rw [if_neg c4] at H
 have c4b0 : (a0_1 == a1_1) = false := beq_eq_false_iff_ne.mpr c4
 have c4b1 : (a0_1 != a1_1) = true := bne_iff_ne.mpr c4
 obtain rfl := Option.some.inj H
 go_enter Try.func59, Try.ntmps59
 go_wp2_with (first | ((with_reducible refine gate_dst (N := 2) rfl ?_); refine boxL 2 40 #[.int .i64 a0_0, .int .i64 a0_1] ?_; intro gb394 hg w10 BK394 hb; have GW394 := gw hg (bs HB); have GE394 := gw hg (bs HB); replace HB := Ah (below_step (bs HB) hb); clear hb hg) | ((with_reducible refine gate_dst (N := 3) rfl ?_); refine boxL 3 40 #[.int .i64 a1_0, .int .i64 a1_1] ?_; intro gb395 hg w11 BK395 hb; have GW395 := gw hg (bs1 HB GE394); have GE395 := gw hg (bs1 HB GE394); replace HB := Ah (below_step (bs1 HB GE394) hb); have NB394_395 := nn BK394 hg; have NB395_394 := nm BK394 hg; replace BK394 := nb BK394 hb; clear hb hg; have hnb12 := NB394_395.out; have hnc12 := NB395_394.out; obtain ⟨hcz13_0, hcz13_1⟩ := cz2 BK394; obtain ⟨hfz13_0, hfz13_1⟩ := fz2 BK394; obtain ⟨hcz14_0, hcz14_1⟩ := cz2 BK395; obtain ⟨hfz14_0, hfz14_1⟩ := fz2 BK395))
 go_ret
 exact ⟨er, bs2 HB GE394 GE395⟩
def laws_eqItem.f (a0_0 : Int) (a0_1 : Int) (a0_2 : Int) (a0_3 : Int) (a0_4 : Int) (a1_0 : Int) (a1_1 : Int) (a1_2 : Int) (a1_3 : Int) (a1_4 : Int) : Option (Bool) := if a0_0 = a1_0 then (if a0_1 = a1_1 then ((laws_eqExtent.f a0_2 a0_3 a1_2 a1_3).bind fun t398 => (if t398 = true then (if a0_4 = a1_4 then (some true) else (some false)) else (some false))) else (some false)) else (some false)
set_option maxHeartbeats 8000000 in
set_option maxRecDepth 100000 in
theorem laws_eqItem.calls (a0_0 : Int) (a0_1 : Int) (a0_2 : Int) (a0_3 : Int) (a0_4 : Int) (a1_0 : Int) (a1_1 : Int) (a1_2 : Int) (a1_3 : Int) (a1_4 : Int) (r : Bool) (w : World) (h : laws_eqItem.f a0_0 a0_1 a0_2 a0_3 a0_4 a1_0 a1_1 a1_2 a1_3 a1_4 = some r) :
  Calls Try.prog 36 #[.agg #[.int .i64 a0_0, .int .i64 a0_1, .int .i64 a0_2, .int .i64 a0_3, .int .i64 a0_4], .agg #[.int .i64 a1_0, .int .i64 a1_1, .int .i64 a1_2, .int .i64 a1_3, .int .i64 a1_4]] w fun e w' => e = .returned (.bool r) ∧ Below w.heap.size w w' := by
 have hu56 := Try.underlying56
 have hu40 := Try.underlying40
 have HB := Ah (Below.refl w.heap.size w)
 have H : (if a0_0 = a1_0 then (if a0_1 = a1_1 then ((laws_eqExtent.f a0_2 a0_3 a1_2 a1_3).bind fun t398 => (if t398 = true then (if a0_4 = a1_4 then (some true) else (some false)) else (some false))) else (some false)) else (some false)) = some r := h
 clear h
 by_cases c3 : a0_0 = a1_0
 rotate_left
 ·
  rw [if_neg c3] at H
  have c3b0 : (a0_0 == a1_0) = false := beq_eq_false_iff_ne.mpr c3
  have c3b1 : (a0_0 != a1_0) = true := bne_iff_ne.mpr c3
  obtain rfl := Option.some.inj H
  go_enter Try.func36, Try.ntmps36
  go_wp2_with (first | ((with_reducible refine gate_dst (N := 2) rfl ?_); refine boxL 2 56 #[.int .i64 a0_0, .int .i64 a0_1, .int .i64 a0_2, .int .i64 a0_3, .int .i64 a0_4] ?_; intro gb396 hg w35 BK396 hb; have GW396 := gw hg (bs HB); have GE396 := gw hg (bs HB); replace HB := Ah (below_step (bs HB) hb); clear hb hg) | ((with_reducible refine gate_dst (N := 3) rfl ?_); refine boxL 3 56 #[.int .i64 a1_0, .int .i64 a1_1, .int .i64 a1_2, .int .i64 a1_3, .int .i64 a1_4] ?_; intro gb397 hg w36 BK397 hb; have GW397 := gw hg (bs1 HB GE396); have GE397 := gw hg (bs1 HB GE396); replace HB := Ah (below_step (bs1 HB GE396) hb); have NB396_397 := nn BK396 hg; have NB397_396 := nm BK396 hg; replace BK396 := nb BK396 hb; clear hb hg; have hnb37 := NB396_397.out; have hnc37 := NB397_396.out; obtain ⟨hcz38_0, hcz38_1, hcz38_2, hcz38_3, hcz38_4⟩ := cz5 BK396; obtain ⟨hfz38_0, hfz38_1, hfz38_2, hfz38_3, hfz38_4⟩ := fz5 BK396; obtain ⟨hcz39_0, hcz39_1, hcz39_2, hcz39_3, hcz39_4⟩ := cz5 BK397; obtain ⟨hfz39_0, hfz39_1, hfz39_2, hfz39_3, hfz39_4⟩ := fz5 BK397))
  go_ret
  exact ⟨er, bs2 HB GE396 GE397⟩
 rw [if_pos c3] at H
 have c3b0 : (a0_0 == a1_0) = true := beq_iff_eq.mpr c3
 have c3b1 : (a0_0 != a1_0) = false := bne_eq_false_iff_eq.mpr c3
 clear c3
 by_cases c4 : a0_1 = a1_1
 rotate_left
 ·
  rw [if_neg c4] at H
  have c4b0 : (a0_1 == a1_1) = false := beq_eq_false_iff_ne.mpr c4
  have c4b1 : (a0_1 != a1_1) = true := bne_iff_ne.mpr c4
  obtain rfl := Option.some.inj H
  go_enter Try.func36, Try.ntmps36
  go_wp2_with (first | ((with_reducible refine gate_dst (N := 2) rfl ?_); refine boxL 2 56 #[.int .i64 a0_0, .int .i64 a0_1, .int .i64 a0_2, .int .i64 a0_3, .int .i64 a0_4] ?_; intro gb396 hg w30 BK396 hb; have GW396 := gw hg (bs HB); have GE396 := gw hg (bs HB); replace HB := Ah (below_step (bs HB) hb); clear hb hg) | ((with_reducible refine gate_dst (N := 3) rfl ?_); refine boxL 3 56 #[.int .i64 a1_0, .int .i64 a1_1, .int .i64 a1_2, .int .i64 a1_3, .int .i64 a1_4] ?_; intro gb397 hg w31 BK397 hb; have GW397 := gw hg (bs1 HB GE396); have GE397 := gw hg (bs1 HB GE396); replace HB := Ah (below_step (bs1 HB GE396) hb); have NB396_397 := nn BK396 hg; have NB397_396 := nm BK396 hg; replace BK396 := nb BK396 hb; clear hb hg; have hnb32 := NB396_397.out; have hnc32 := NB397_396.out; obtain ⟨hcz33_0, hcz33_1, hcz33_2, hcz33_3, hcz33_4⟩ := cz5 BK396; obtain ⟨hfz33_0, hfz33_1, hfz33_2, hfz33_3, hfz33_4⟩ := fz5 BK396; obtain ⟨hcz34_0, hcz34_1, hcz34_2, hcz34_3, hcz34_4⟩ := cz5 BK397; obtain ⟨hfz34_0, hfz34_1, hfz34_2, hfz34_3, hfz34_4⟩ := fz5 BK397))
  go_ret
  exact ⟨er, bs2 HB GE396 GE397⟩
 rw [if_pos c4] at H
 have c4b0 : (a0_1 == a1_1) = true := beq_iff_eq.mpr c4
 have c4b1 : (a0_1 != a1_1) = false := bne_eq_false_iff_eq.mpr c4
 clear c4
 replace H := Option.bind_eq_some_iff.mp H
 obtain ⟨t398, A50, H⟩ := H
 try dsimp only at H
 have A5 := Ah A50
 clear A50
 by_cases c6 : t398 = true
 rotate_left
 ·
  replace c6 := Bool.eq_false_iff.mpr c6
  subst c6
  rw [if_neg fne] at H
  obtain rfl := Option.some.inj H
  go_enter Try.func36, Try.ntmps36
  go_wp2_with (first | ((with_reducible refine gate_dst (N := 2) rfl ?_); refine boxL 2 56 #[.int .i64 a0_0, .int .i64 a0_1, .int .i64 a0_2, .int .i64 a0_3, .int .i64 a0_4] ?_; intro gb396 hg w24 BK396 hb; have GW396 := gw hg (bs HB); have GE396 := gw hg (bs HB); replace HB := Ah (below_step (bs HB) hb); clear hb hg) | ((with_reducible refine gate_dst (N := 3) rfl ?_); refine boxL 3 56 #[.int .i64 a1_0, .int .i64 a1_1, .int .i64 a1_2, .int .i64 a1_3, .int .i64 a1_4] ?_; intro gb397 hg w25 BK397 hb; have GW397 := gw hg (bs1 HB GE396); have GE397 := gw hg (bs1 HB GE396); replace HB := Ah (below_step (bs1 HB GE396) hb); have NB396_397 := nn BK396 hg; have NB397_396 := nm BK396 hg; replace BK396 := nb BK396 hb; clear hb hg; have hnb26 := NB396_397.out; have hnc26 := NB397_396.out; obtain ⟨hcz27_0, hcz27_1, hcz27_2, hcz27_3, hcz27_4⟩ := cz5 BK396; obtain ⟨hfz27_0, hfz27_1, hfz27_2, hfz27_3, hfz27_4⟩ := fz5 BK396; obtain ⟨hcz28_0, hcz28_1, hcz28_2, hcz28_3, hcz28_4⟩ := cz5 BK397; obtain ⟨hfz28_0, hfz28_1, hfz28_2, hfz28_3, hfz28_4⟩ := fz5 BK397) | ((with_reducible refine gate_callee (f := 59) rfl ?_); refine gL (some 19) rfl rfl Try.func59 (by kernel_rfl) rfl #[.agg #[.int .i64 a0_2, .int .i64 a0_3], .agg #[.int .i64 a1_2, .int .i64 a1_3]] rfl ?_; (with_reducible refine (laws_eqExtent.calls a0_2 a0_3 a1_2 a1_3 false _ A5.out).mono ?_); rintro e w29 ⟨rfl, hb⟩; refine ⟨_, rfl, ?_⟩; replace BK396 := nb BK396 hb; replace BK397 := nb BK397 hb; replace HB := Ah (below_step (bs2 HB GE396 GE397) hb); (try clear hb)))
  go_ret
  exact ⟨er, bs2 HB GE396 GE397⟩
 subst c6
 rw [if_pos rfl] at H
 by_cases c7 : a0_4 = a1_4
 rotate_left
 ·
  rw [if_neg c7] at H
  have c7b0 : (a0_4 == a1_4) = false := beq_eq_false_iff_ne.mpr c7
  have c7b1 : (a0_4 != a1_4) = true := bne_iff_ne.mpr c7
  obtain rfl := Option.some.inj H
  go_enter Try.func36, Try.ntmps36
  go_wp2_with (first | ((with_reducible refine gate_dst (N := 2) rfl ?_); refine boxL 2 56 #[.int .i64 a0_0, .int .i64 a0_1, .int .i64 a0_2, .int .i64 a0_3, .int .i64 a0_4] ?_; intro gb396 hg w16 BK396 hb; have GW396 := gw hg (bs HB); have GE396 := gw hg (bs HB); replace HB := Ah (below_step (bs HB) hb); clear hb hg) | ((with_reducible refine gate_dst (N := 3) rfl ?_); refine boxL 3 56 #[.int .i64 a1_0, .int .i64 a1_1, .int .i64 a1_2, .int .i64 a1_3, .int .i64 a1_4] ?_; intro gb397 hg w17 BK397 hb; have GW397 := gw hg (bs1 HB GE396); have GE397 := gw hg (bs1 HB GE396); replace HB := Ah (below_step (bs1 HB GE396) hb); have NB396_397 := nn BK396 hg; have NB397_396 := nm BK396 hg; replace BK396 := nb BK396 hb; clear hb hg; have hnb18 := NB396_397.out; have hnc18 := NB397_396.out; obtain ⟨hcz19_0, hcz19_1, hcz19_2, hcz19_3, hcz19_4⟩ := cz5 BK396; obtain ⟨hfz19_0, hfz19_1, hfz19_2, hfz19_3, hfz19_4⟩ := fz5 BK396; obtain ⟨hcz20_0, hcz20_1, hcz20_2, hcz20_3, hcz20_4⟩ := cz5 BK397; obtain ⟨hfz20_0, hfz20_1, hfz20_2, hfz20_3, hfz20_4⟩ := fz5 BK397) | ((with_reducible refine gate_callee (f := 59) rfl ?_); refine gL (some 19) rfl rfl Try.func59 (by kernel_rfl) rfl #[.agg #[.int .i64 a0_2, .int .i64 a0_3], .agg #[.int .i64 a1_2, .int .i64 a1_3]] rfl ?_; (with_reducible refine (laws_eqExtent.calls a0_2 a0_3 a1_2 a1_3 true _ A5.out).mono ?_); rintro e w21 ⟨rfl, hb⟩; refine ⟨_, rfl, ?_⟩; replace BK396 := nb BK396 hb; replace BK397 := nb BK397 hb; replace HB := Ah (below_step (bs2 HB GE396 GE397) hb); (try clear hb); obtain ⟨hcz22_0, hcz22_1, hcz22_2, hcz22_3, hcz22_4⟩ := cz5 BK396; obtain ⟨hfz22_0, hfz22_1, hfz22_2, hfz22_3, hfz22_4⟩ := fz5 BK396; obtain ⟨hcz23_0, hcz23_1, hcz23_2, hcz23_3, hcz23_4⟩ := cz5 BK397; obtain ⟨hfz23_0, hfz23_1, hfz23_2, hfz23_3, hfz23_4⟩ := fz5 BK397))
  go_ret
  exact ⟨er, bs2 HB GE396 GE397⟩
 rw [if_pos c7] at H
 have c7b0 : (a0_4 == a1_4) = true := beq_iff_eq.mpr c7
 have c7b1 : (a0_4 != a1_4) = false := bne_eq_false_iff_eq.mpr c7
 clear c7
 obtain rfl := Option.some.inj H
 go_enter Try.func36, Try.ntmps36
 go_wp2_with (first | ((with_reducible refine gate_dst (N := 2) rfl ?_); refine boxL 2 56 #[.int .i64 a0_0, .int .i64 a0_1, .int .i64 a0_2, .int .i64 a0_3, .int .i64 a0_4] ?_; intro gb396 hg w8 BK396 hb; have GW396 := gw hg (bs HB); have GE396 := gw hg (bs HB); replace HB := Ah (below_step (bs HB) hb); clear hb hg) | ((with_reducible refine gate_dst (N := 3) rfl ?_); refine boxL 3 56 #[.int .i64 a1_0, .int .i64 a1_1, .int .i64 a1_2, .int .i64 a1_3, .int .i64 a1_4] ?_; intro gb397 hg w9 BK397 hb; have GW397 := gw hg (bs1 HB GE396); have GE397 := gw hg (bs1 HB GE396); replace HB := Ah (below_step (bs1 HB GE396) hb); have NB396_397 := nn BK396 hg; have NB397_396 := nm BK396 hg; replace BK396 := nb BK396 hb; clear hb hg; have hnb10 := NB396_397.out; have hnc10 := NB397_396.out; obtain ⟨hcz11_0, hcz11_1, hcz11_2, hcz11_3, hcz11_4⟩ := cz5 BK396; obtain ⟨hfz11_0, hfz11_1, hfz11_2, hfz11_3, hfz11_4⟩ := fz5 BK396; obtain ⟨hcz12_0, hcz12_1, hcz12_2, hcz12_3, hcz12_4⟩ := cz5 BK397; obtain ⟨hfz12_0, hfz12_1, hfz12_2, hfz12_3, hfz12_4⟩ := fz5 BK397) | ((with_reducible refine gate_callee (f := 59) rfl ?_); refine gL (some 19) rfl rfl Try.func59 (by kernel_rfl) rfl #[.agg #[.int .i64 a0_2, .int .i64 a0_3], .agg #[.int .i64 a1_2, .int .i64 a1_3]] rfl ?_; (with_reducible refine (laws_eqExtent.calls a0_2 a0_3 a1_2 a1_3 true _ A5.out).mono ?_); rintro e w13 ⟨rfl, hb⟩; refine ⟨_, rfl, ?_⟩; replace BK396 := nb BK396 hb; replace BK397 := nb BK397 hb; replace HB := Ah (below_step (bs2 HB GE396 GE397) hb); (try clear hb); obtain ⟨hcz14_0, hcz14_1, hcz14_2, hcz14_3, hcz14_4⟩ := cz5 BK396; obtain ⟨hfz14_0, hfz14_1, hfz14_2, hfz14_3, hfz14_4⟩ := fz5 BK396; obtain ⟨hcz15_0, hcz15_1, hcz15_2, hcz15_3, hcz15_4⟩ := cz5 BK397; obtain ⟨hfz15_0, hfz15_1, hfz15_2, hfz15_3, hfz15_4⟩ := fz5 BK397))
 go_ret
 exact ⟨er, bs2 HB GE396 GE397⟩
def laws_eqItemS.l0 : Nat → List (S56) → List (S56) → Int → Option (Bool)
 | 0, _, _, _ => none
 | k + 1, x0, x1, x5 => if x5 < (x0.length : Int) then (if 0 ≤ x5 then (if x5 < (x1.length : Int) then ((laws_eqItem.f ((rd_T56 x0 x5).f0) ((rd_T56 x0 x5).f1) ((rd_T56 x0 x5).f2.f0) ((rd_T56 x0 x5).f2.f1) ((rd_T56 x0 x5).f3) ((rd_T56 x1 x5).f0) ((rd_T56 x1 x5).f1) ((rd_T56 x1 x5).f2.f0) ((rd_T56 x1 x5).f2.f1) ((rd_T56 x1 x5).f3)).bind fun t401 => (if t401 = true then (laws_eqItemS.l0 k x0 x1 (wrap64 (x5 + 1))) else (some false))) else (none)) else (none)) else (some true)
def laws_eqItemS.f (k : Nat) (l0 : List (S56)) (l1 : List (S56)) : Option (Bool) := if (l0.length : Int) = (l1.length : Int) then (laws_eqItemS.l0 k l0 l1 0) else (some false)
theorem laws_eqItemS.mono_l : ∀ k, (∀ y0 y1 y2, LeO (laws_eqItemS.l0 k y0 y1 y2) (laws_eqItemS.l0 (k + 1) y0 y1 y2))
 | 0 => fun _ _ _ r h => by simp [laws_eqItemS.l0] at h
 | k + 1 => by
  have ih0 := laws_eqItemS.mono_l k
  ·
   intro y0 y1 y2
   unfold laws_eqItemS.l0
   repeat' first
   | (with_reducible exact ih0 _ _ _)
   | (with_reducible exact LeO.refl _)
   | (with_reducible exact LeO.none _)
   | (with_reducible refine LeO.ite ?_ ?_)
   | (with_reducible refine LeO.bind ?_ (fun _ => ?_))
   | exact ih0 _ _ _
   | exact LeO.none _
   | refine LeO.ite ?_ ?_
   | refine LeO.bind ?_ (fun _ => ?_)
theorem laws_eqItemS.mono : ∀ a0 a1 k, LeO (laws_eqItemS.f k a0 a1) (laws_eqItemS.f (k + 1) a0 a1) := by
 intro a0 a1 k
 have ih0 := laws_eqItemS.mono_l k
 unfold laws_eqItemS.f
 repeat' first
   | (with_reducible exact ih0 _ _ _)
   | (with_reducible exact LeO.refl _)
   | (with_reducible exact LeO.none _)
   | (with_reducible refine LeO.ite ?_ ?_)
   | (with_reducible refine LeO.bind ?_ (fun _ => ?_))
   | exact ih0 _ _ _
   | exact LeO.none _
   | refine LeO.ite ?_ ?_
   | refine LeO.bind ?_ (fun _ => ?_)
def laws_eqItemS.T6 : Bool × List (List Nat × List Nat) := (true, [([], []), ([], []), ([0, 1], [0, 1]), ([2], [2]), ([], []), ([], []), ([4, 5], [4, 5]), ([6], [6]), ([3, 7], [3, 7]), ([8], [8])])
def laws_eqItemS.B6 : List Nat := [0, 0, 3, 7, 0, 0, 48, 112, 255, 511]
theorem laws_eqItemS.tab6 : rtab .any (opsOf Try.f17 6) = laws_eqItemS.T6 := by kernel_rfl
theorem laws_eqItemS.bits6 : waitsOk laws_eqItemS.T6.2 laws_eqItemS.B6 = true := by kernel_rfl
set_option maxHeartbeats 8000000 in
set_option maxRecDepth 100000 in
theorem laws_eqItemS.calls (k : Nat) (A0 : Option Addr) (c0 : Nat) (l0 : List (S56)) (A1 : Option Addr) (c1 : Nat) (l1 : List (S56)) (r : Bool) (w : World) (hr0 : Kd.C k56 w A0 l0.length l0) (hc0 : l0.length ≤ c0) (hr1 : Kd.C k56 w A1 l1.length l1) (hc1 : l1.length ≤ c1) (h : laws_eqItemS.f k l0 l1 = some r) :
  Calls Try.prog 17 #[.slice A0 l0.length c0, .slice A1 l1.length c1] w fun e w' => e = .returned (.bool r) ∧ Below w.heap.size w w' := by
 have hu56 := Try.underlying56
 have HR0 := Ah hr0
 have HC0 := Ah hc0
 clear hr0 hc0
 have HR1 := Ah hr1
 have HC1 := Ah hc1
 clear hr1 hc1
 have HB := Ah (Below.refl w.heap.size w)
 have H : (if (l0.length : Int) = (l1.length : Int) then (laws_eqItemS.l0 k l0 l1 0) else (some false)) = some r := h
 clear h
 by_cases c3 : (l0.length : Int) = (l1.length : Int)
 rotate_left
 ·
  rw [if_neg c3] at H
  have c3b0 : ((l0.length : Int) == (l1.length : Int)) = false := beq_eq_false_iff_ne.mpr c3
  have c3b1 : ((l0.length : Int) != (l1.length : Int)) = true := bne_iff_ne.mpr c3
  have c3b2 : (l0.length == l1.length) = false := by first | simpa using c3 | (simp at c3 ⊢; omega)
  obtain rfl := Option.some.inj H
  go_enter Try.func17, Try.ntmps17
  go_wp2
  go_ret
  exact ⟨er, bs HB⟩
 rw [if_pos c3] at H
 have c3b0 : ((l0.length : Int) == (l1.length : Int)) = true := beq_iff_eq.mpr c3
 have c3b1 : ((l0.length : Int) != (l1.length : Int)) = false := bne_eq_false_iff_eq.mpr c3
 have c3b2 : (l0.length == l1.length) = true := by first | simpa using c3 | (simp at c3 ⊢; omega)
 clear c3
 have H' := Ah H
 clear H
 go_enter Try.func17, Try.ntmps17
 go_wp2
 go_loopg [5] k (fun kq v5 w' => ∃ (x5_1 : Int), v5 = .int .i64 x5_1 ∧ Aside0 (laws_eqItemS.l0 kq l0 l1 x5_1 = some r) ∧ Aside0 (kq ≤ k) ∧ Aside0 (Below w.heap.size w w'))
 case atStart => exact ⟨(0), e3, H', ⟨Nat.le_refl _⟩, ⟨bs HB⟩⟩
 case round =>
  clear H'
  try clear c1
  try clear p2
  try clear c3
  try clear c3b0
  try clear c3b1
  try clear c3b2
  obtain ⟨x5_1, rfl, HA, HK1, HB⟩ := hrel
  cases gk with
  | zero => exact absurd HA.out (by simp [laws_eqItemS.l0])
  | succ k1 =>
   have H := HA.out
   clear HA
   simp only [laws_eqItemS.l0] at H
   by_cases c4 : x5_1 < (l0.length : Int)
   rotate_left
   ·
    rw [if_neg c4] at H
    have c4b0 : decide (x5_1 < (l0.length : Int)) = false := decide_eq_false c4
    clear c4
    obtain rfl := Option.some.inj H
    go_wp2
    go_ret
    exact ⟨er, bs HB⟩
   rw [if_pos c4] at H
   have c4b0 : decide (x5_1 < (l0.length : Int)) = true := decide_eq_true c4
   clear c4
   by_cases c5 : 0 ≤ x5_1
   rotate_left
   ·
    rw [if_neg c5] at H
    exact absurd H (by simp)
   rw [if_pos c5] at H
   have c5b0 : decide (0 ≤ x5_1) = true := decide_eq_true c5
   clear c5
   by_cases c6 : x5_1 < (l1.length : Int)
   rotate_left
   ·
    rw [if_neg c6] at H
    exact absurd H (by simp)
   rw [if_pos c6] at H
   have c6b0 : decide (x5_1 < (l1.length : Int)) = true := decide_eq_true c6
   clear c6
   replace H := Option.bind_eq_some_iff.mp H
   obtain ⟨t401, A70, H⟩ := H
   try dsimp only at H
   have A7 := Ah A70
   clear A70
   have H_ := Ah H
   clear H
   try go_wp2
   have n0_ := Ah (below_drew1 HB.out)
   clear HB
   have HB := n0_
   clear n0_
   have p399 : 0 ≤ (x5_1 : Int) := od
   have q399 : x5_1 < (l0.length : Int) := od
   obtain ⟨ad399, e399, hx399_0, hx399_1, hx399_2, hx399_3, hx399_4⟩ := at_T56 HR0.out x5_1 p399 q399
   have hw399_4 := hx399_4
   have hw399_3 := hx399_3
   have hw399_2 := hx399_2
   have hw399_1 := hx399_1
   have hw399_0 := hx399_0
   cases e399
   replace hx399_0 := (HB.out.cell (World.block_lt_of_cell? w _ hx399_0)).trans hx399_0
   replace hx399_1 := (HB.out.cell (World.block_lt_of_cell? w _ hx399_1)).trans hx399_1
   replace hx399_2 := (HB.out.cell (World.block_lt_of_cell? w _ hx399_2)).trans hx399_2
   replace hx399_3 := (HB.out.cell (World.block_lt_of_cell? w _ hx399_3)).trans hx399_3
   replace hx399_4 := (HB.out.cell (World.block_lt_of_cell? w _ hx399_4)).trans hx399_4
   replace p399 := eq_true p399
   replace q399 := eq_true q399
   have p400 : 0 ≤ (x5_1 : Int) := od
   have q400 : x5_1 < (l1.length : Int) := od
   obtain ⟨ad400, e400, hx400_0, hx400_1, hx400_2, hx400_3, hx400_4⟩ := at_T56 HR1.out x5_1 p400 q400
   have hw400_4 := hx400_4
   have hw400_3 := hx400_3
   have hw400_2 := hx400_2
   have hw400_1 := hx400_1
   have hw400_0 := hx400_0
   cases e400
   replace hx400_0 := (HB.out.cell (World.block_lt_of_cell? w _ hx400_0)).trans hx400_0
   replace hx400_1 := (HB.out.cell (World.block_lt_of_cell? w _ hx400_1)).trans hx400_1
   replace hx400_2 := (HB.out.cell (World.block_lt_of_cell? w _ hx400_2)).trans hx400_2
   replace hx400_3 := (HB.out.cell (World.block_lt_of_cell? w _ hx400_3)).trans hx400_3
   replace hx400_4 := (HB.out.cell (World.block_lt_of_cell? w _ hx400_4)).trans hx400_4
   replace p400 := eq_true p400
   replace q400 := eq_true q400
   refine start_ (n := 10) (S := fun w' => w'.cell? (ad399.add ((x5_1).toNat * 5)) = some (.int .i64 ((rd_T56 l0 x5_1).f0)) ∧ w'.cell? ⟨(ad399.add ((x5_1).toNat * 5)).block, (ad399.add ((x5_1).toNat * 5)).off + 1, none⟩ = some (.int .i64 ((rd_T56 l0 x5_1).f1)) ∧ w'.cell? ⟨(ad399.add ((x5_1).toNat * 5)).block, (ad399.add ((x5_1).toNat * 5)).off + 2, none⟩ = some (.int .i64 ((rd_T56 l0 x5_1).f2.f0)) ∧ w'.cell? ⟨(ad399.add ((x5_1).toNat * 5)).block, (ad399.add ((x5_1).toNat * 5)).off + 3, none⟩ = some (.int .i64 ((rd_T56 l0 x5_1).f2.f1)) ∧ w'.cell? ⟨(ad399.add ((x5_1).toNat * 5)).block, (ad399.add ((x5_1).toNat * 5)).off + 4, none⟩ = some (.int .i64 ((rd_T56 l0 x5_1).f3)) ∧ w'.cell? (ad400.add ((x5_1).toNat * 5)) = some (.int .i64 ((rd_T56 l1 x5_1).f0)) ∧ w'.cell? ⟨(ad400.add ((x5_1).toNat * 5)).block, (ad400.add ((x5_1).toNat * 5)).off + 1, none⟩ = some (.int .i64 ((rd_T56 l1 x5_1).f1)) ∧ w'.cell? ⟨(ad400.add ((x5_1).toNat * 5)).block, (ad400.add ((x5_1).toNat * 5)).off + 2, none⟩ = some (.int .i64 ((rd_T56 l1 x5_1).f2.f0)) ∧ w'.cell? ⟨(ad400.add ((x5_1).toNat * 5)).block, (ad400.add ((x5_1).toNat * 5)).off + 3, none⟩ = some (.int .i64 ((rd_T56 l1 x5_1).f2.f1)) ∧ w'.cell? ⟨(ad400.add ((x5_1).toNat * 5)).block, (ad400.add ((x5_1).toNat * 5)).off + 4, none⟩ = some (.int .i64 ((rd_T56 l1 x5_1).f3))) (ds := []) #[false, false, false, false, false, false, false, false, false, false] (by kernel_rfl) rfl rfl ⟨((HB.out.cell (World.block_lt_of_cell? w _ hw399_0)).trans hw399_0), ((HB.out.cell (World.block_lt_of_cell? w _ hw399_1)).trans hw399_1), ((HB.out.cell (World.block_lt_of_cell? w _ hw399_2)).trans hw399_2), ((HB.out.cell (World.block_lt_of_cell? w _ hw399_3)).trans hw399_3), ((HB.out.cell (World.block_lt_of_cell? w _ hw399_4)).trans hw399_4), ((HB.out.cell (World.block_lt_of_cell? w _ hw400_0)).trans hw400_0), ((HB.out.cell (World.block_lt_of_cell? w _ hw400_1)).trans hw400_1), ((HB.out.cell (World.block_lt_of_cell? w _ hw400_2)).trans hw400_2), ((HB.out.cell (World.block_lt_of_cell? w _ hw400_3)).trans hw400_3), ((HB.out.cell (World.block_lt_of_cell? w _ hw400_4)).trans hw400_4)⟩ (fun hHeld => ?_); refine with_tabW laws_eqItemS.tab6 laws_eqItemS.bits6 (fun HT_ HW_ => ?_)
   generalize wr.drew = w9 at HB hx399_0 hx399_1 hx399_2 hx399_3 hx399_4 hx400_0 hx400_1 hx400_2 hx400_3 hx400_4 hHeld ⊢
   refine pureS 0 17 HT_.out ?_
   refine pureS 1 18 HT_.out ?_
   refine pureS 2 19 HT_.out ?_
   refine pureS 4 21 HT_.out ?_
   refine pureS 5 22 HT_.out ?_
   refine pureS 6 23 HT_.out ?_
   refine takeS 3 20 HT_.out HW_.out hHeld (hr := by rintro w' ⟨s0, s1, s2, s3, s4, s5, s6, s7, s8, s9⟩; go_simp; with_reducible rfl) (h := ?_)
   refine takeS 7 24 HT_.out HW_.out hHeld (hr := by rintro w' ⟨s0, s1, s2, s3, s4, s5, s6, s7, s8, s9⟩; go_simp; with_reducible rfl) (h := ?_)
   refine one_ (i := 8) (N := some 25) #[true, true, true, true, true, true, true, true, true, false] rfl rfl (one_of HT_.out (by kernel_rfl)) (by decide) (fun K hK => ?_)
   refine goes_ Try.func36 (by kernel_rfl) rfl #[.agg #[.int .i64 ((rd_T56 l0 x5_1).f0), .int .i64 ((rd_T56 l0 x5_1).f1), .int .i64 ((rd_T56 l0 x5_1).f2.f0), .int .i64 ((rd_T56 l0 x5_1).f2.f1), .int .i64 ((rd_T56 l0 x5_1).f3)], .agg #[.int .i64 ((rd_T56 l1 x5_1).f0), .int .i64 ((rd_T56 l1 x5_1).f1), .int .i64 ((rd_T56 l1 x5_1).f2.f0), .int .i64 ((rd_T56 l1 x5_1).f2.f1), .int .i64 ((rd_T56 l1 x5_1).f3)]] (by rfl) rfl rfl (by (try simp only [List.map_toArray, List.map_cons, List.map_nil]); first | done | rfl | (simp only [List.length_drop, List.length_take]; rfl)) ?_
   have H := H_.out
   clear H_
   by_cases c8 : t401 = true
   rotate_left
   ·
    replace c8 := Bool.eq_false_iff.mpr c8
    subst c8
    rw [if_neg fne] at H
    obtain rfl := Option.some.inj H
    with_reducible refine (laws_eqItem.calls ((rd_T56 l0 x5_1).f0) ((rd_T56 l0 x5_1).f1) ((rd_T56 l0 x5_1).f2.f0) ((rd_T56 l0 x5_1).f2.f1) ((rd_T56 l0 x5_1).f3) ((rd_T56 l1 x5_1).f0) ((rd_T56 l1 x5_1).f1) ((rd_T56 l1 x5_1).f2.f0) ((rd_T56 l1 x5_1).f2.f1) ((rd_T56 l1 x5_1).f3) false _ A7.out).mono ?_
    rintro e w12 ⟨rfl, hb⟩
    refine ⟨_, rfl, ?_⟩
    have n0_ := Ah (below_step (bs HB) hb)
    clear HB
    have HB := n0_
    clear n0_
    (try clear hb)
    (try clear hb2)
    (try clear hk)
    (try clear hi)
    refine hK.out _ _ ⟨((HB.out.cell (World.block_lt_of_cell? w _ hw399_0)).trans hw399_0), ((HB.out.cell (World.block_lt_of_cell? w _ hw399_1)).trans hw399_1), ((HB.out.cell (World.block_lt_of_cell? w _ hw399_2)).trans hw399_2), ((HB.out.cell (World.block_lt_of_cell? w _ hw399_3)).trans hw399_3), ((HB.out.cell (World.block_lt_of_cell? w _ hw399_4)).trans hw399_4), ((HB.out.cell (World.block_lt_of_cell? w _ hw400_0)).trans hw400_0), ((HB.out.cell (World.block_lt_of_cell? w _ hw400_1)).trans hw400_1), ((HB.out.cell (World.block_lt_of_cell? w _ hw400_2)).trans hw400_2), ((HB.out.cell (World.block_lt_of_cell? w _ hw400_3)).trans hw400_3), ((HB.out.cell (World.block_lt_of_cell? w _ hw400_4)).trans hw400_4)⟩ (fun hHeld => ?_)
    clear hK K
    refine norm_ (a' := ?_) ?_ ?_
    rotate_left
    ·
     show Act.put _ (some 25) _ = _
     simp only [Act.put, List.setIfInBounds_toArray, List.set_cons_zero, List.set_cons_succ, i64_w, i32_w]
     rfl
    refine pureS 9 26 HT_.out ?_
    refine done_ (done_of HT_.out (by kernel_rfl)) ?_
    try go_wp2
    go_ret
    exact ⟨er, bs HB⟩
   subst c8
   rw [if_pos rfl] at H
   have H' := Ah H
   clear H
   with_reducible refine (laws_eqItem.calls ((rd_T56 l0 x5_1).f0) ((rd_T56 l0 x5_1).f1) ((rd_T56 l0 x5_1).f2.f0) ((rd_T56 l0 x5_1).f2.f1) ((rd_T56 l0 x5_1).f3) ((rd_T56 l1 x5_1).f0) ((rd_T56 l1 x5_1).f1) ((rd_T56 l1 x5_1).f2.f0) ((rd_T56 l1 x5_1).f2.f1) ((rd_T56 l1 x5_1).f3) true _ A7.out).mono ?_
   rintro e w10 ⟨rfl, hb⟩
   refine ⟨_, rfl, ?_⟩
   have n0_ := Ah (below_step (bs HB) hb)
   clear HB
   have HB := n0_
   clear n0_
   (try clear hb)
   (try clear hb2)
   (try clear hk)
   (try clear hi)
   refine hK.out _ _ ⟨((HB.out.cell (World.block_lt_of_cell? w _ hw399_0)).trans hw399_0), ((HB.out.cell (World.block_lt_of_cell? w _ hw399_1)).trans hw399_1), ((HB.out.cell (World.block_lt_of_cell? w _ hw399_2)).trans hw399_2), ((HB.out.cell (World.block_lt_of_cell? w _ hw399_3)).trans hw399_3), ((HB.out.cell (World.block_lt_of_cell? w _ hw399_4)).trans hw399_4), ((HB.out.cell (World.block_lt_of_cell? w _ hw400_0)).trans hw400_0), ((HB.out.cell (World.block_lt_of_cell? w _ hw400_1)).trans hw400_1), ((HB.out.cell (World.block_lt_of_cell? w _ hw400_2)).trans hw400_2), ((HB.out.cell (World.block_lt_of_cell? w _ hw400_3)).trans hw400_3), ((HB.out.cell (World.block_lt_of_cell? w _ hw400_4)).trans hw400_4)⟩ (fun hHeld => ?_)
   clear hK K
   refine norm_ (a' := ?_) ?_ ?_
   rotate_left
   ·
    show Act.put _ (some 25) _ = _
    simp only [Act.put, List.setIfInBounds_toArray, List.set_cons_zero, List.set_cons_succ, i64_w, i32_w]
    rfl
   refine pureS 9 26 HT_.out ?_
   refine done_ (done_of HT_.out (by kernel_rfl)) ?_
   try go_wp2
   go_roundg k1
   case measure => have := HK1.out; omega
   case rel => exact ⟨(wrap64 (x5_1 + 1)), e3, H', ⟨by have := HK1.out; omega⟩, ⟨bs HB⟩⟩
end Go.Proofs.Ytpfimjgfojdhhaa.G
