-- Printed by a program of this session (drive.py, by way of the kit's print). Not trusted: Lean checks it.
import Derived.Test.YtcdkgenfggdpaaaG0
import Derived.Test.YtcdkgenfggdpaaaG2
namespace Go.Proofs.Ytcdkgenfggdpaaa.G
open Go.RowKit Go.Proofs.YtcdkgenfggdpaaaW.PrintWords Go.Proofs.YtcdkgenfggdpaaaW.PrintLast Go.Proofs.YtcdkgenfggdpaaaW.PrintMore
attribute [local go_sem] max2_int min2_int max_two min_two max_three min_three max_four min_four   -- for this text's walks alone
set_option linter.unusedVariables false
set_option linter.unusedSimpArgs false

/-! ### spec_l11Read: function 67 -/
mutual
def spec_l11Read.j0 : Nat → ByteArray → Bool → Option ((List (S72)) × Bool)
 | 0, _, _ => none
 | k + 1, x0, x19 => if x19 = true then (some (([] : List (S72)), false)) else (spec_l11Read.l0 k x0 ([] : List (S72)) 0)
def spec_l11Read.l0 : Nat → ByteArray → List (S72) → Int → Option ((List (S72)) × Bool)
 | 0, _, _, _ => none
 | k + 1, x0, x4, x5 => if 0 < (x0.size : Int) then (if x5 < (wrap64 (bt x0 0)) then (if 0 ≤ (wrap64 (1 + (wrap64 (x5 * 9)))) then (if (wrap64 (1 + (wrap64 (x5 * 9)))) < (x0.size : Int) then (if 0 ≤ (wrap64 ((wrap64 (1 + (wrap64 (x5 * 9)))) + 1)) then (if (wrap64 ((wrap64 (1 + (wrap64 (x5 * 9)))) + 1)) ≤ (wrap64 ((wrap64 ((wrap64 (1 + (wrap64 (x5 * 9)))) + 1)) + 8)) then (if (wrap64 ((wrap64 ((wrap64 (1 + (wrap64 (x5 * 9)))) + 1)) + 8)) ≤ (x0.size : Int) then (if x4.length < 5864062014805 then (spec_l11Read.l0 k x0 (x4 ++ [(⟨wrap64 (bt x0 (wrap64 (1 + (wrap64 (x5 * 9))))), x0.extract ((wrap64 ((wrap64 (1 + (wrap64 (x5 * 9)))) + 1)) : Int).toNat ((wrap64 ((wrap64 ((wrap64 (1 + (wrap64 (x5 * 9)))) + 1)) + 8)) : Int).toNat⟩ : S72)]) (wrap64 (x5 + 1))) else (none)) else (none)) else (none)) else (none)) else (none)) else (none)) else ((spec_l11Txn.f k x4 32).bind fun t195 => (if t195 = true then ((spec_l11Text.f k x4).bind fun t196 => (if t196.toList = x0.toList then (some (x4, true)) else (some (([] : List (S72)), false)))) else (some (([] : List (S72)), false))))) else (none)
end
def spec_l11Read.f (k : Nat) (a0 : ByteArray) : Option ((List (S72)) × Bool) := if (a0.size : Int) = 0 then (spec_l11Read.j0 k a0 true) else (if 0 < (a0.size : Int) then (spec_l11Read.j0 k a0 ((a0.size : Int) != (wrap64 (2 + (wrap64 ((wrap64 (bt a0 0)) * 9)))))) else (none))
theorem spec_l11Read.mono_l : ∀ k, (∀ y0 y1, LeO (spec_l11Read.j0 k y0 y1) (spec_l11Read.j0 (k + 1) y0 y1)) ∧ (∀ y0 y1 y2, LeO (spec_l11Read.l0 k y0 y1 y2) (spec_l11Read.l0 (k + 1) y0 y1 y2))
 | 0 => ⟨fun _ _ r h => by simp [spec_l11Read.j0] at h, fun _ _ _ r h => by simp [spec_l11Read.l0] at h⟩
 | k + 1 => by
  obtain ⟨ih0, ih1⟩ := spec_l11Read.mono_l k
  refine ⟨?_, ?_⟩
  ·
   intro y0 y1
   unfold spec_l11Read.j0
   repeat' first
   | (with_reducible exact ih0 _ _)
   | (with_reducible exact ih1 _ _ _)
   | (with_reducible exact spec_l11Text.mono _ _)
   | (with_reducible exact spec_l11Txn.mono _ _ _)
   | (with_reducible exact LeO.refl _)
   | (with_reducible exact LeO.none _)
   | (with_reducible refine LeO.ite ?_ ?_)
   | (with_reducible refine LeO.bind ?_ (fun _ => ?_))
   | exact ih0 _ _
   | exact ih1 _ _ _
   | exact spec_l11Text.mono _ _
   | exact spec_l11Txn.mono _ _ _
   | exact LeO.none _
   | refine LeO.ite ?_ ?_
   | refine LeO.bind ?_ (fun _ => ?_)
  ·
   intro y0 y1 y2
   unfold spec_l11Read.l0
   repeat' first
   | (with_reducible exact ih0 _ _)
   | (with_reducible exact ih1 _ _ _)
   | (with_reducible exact spec_l11Text.mono _ _)
   | (with_reducible exact spec_l11Txn.mono _ _ _)
   | (with_reducible exact LeO.refl _)
   | (with_reducible exact LeO.none _)
   | (with_reducible refine LeO.ite ?_ ?_)
   | (with_reducible refine LeO.bind ?_ (fun _ => ?_))
   | exact ih0 _ _
   | exact ih1 _ _ _
   | exact spec_l11Text.mono _ _
   | exact spec_l11Txn.mono _ _ _
   | exact LeO.none _
   | refine LeO.ite ?_ ?_
   | refine LeO.bind ?_ (fun _ => ?_)
theorem spec_l11Read.mono : ∀ a0 k, LeO (spec_l11Read.f k a0) (spec_l11Read.f (k + 1) a0) := by
 intro a0 k
 obtain ⟨ih0, ih1⟩ := spec_l11Read.mono_l k
 unfold spec_l11Read.f
 repeat' first
   | (with_reducible exact ih0 _ _)
   | (with_reducible exact ih1 _ _ _)
   | (with_reducible exact spec_l11Text.mono _ _)
   | (with_reducible exact spec_l11Txn.mono _ _ _)
   | (with_reducible exact LeO.refl _)
   | (with_reducible exact LeO.none _)
   | (with_reducible refine LeO.ite ?_ ?_)
   | (with_reducible refine LeO.bind ?_ (fun _ => ?_))
   | exact ih0 _ _
   | exact ih1 _ _ _
   | exact spec_l11Text.mono _ _
   | exact spec_l11Txn.mono _ _ _
   | exact LeO.none _
   | refine LeO.ite ?_ ?_
   | refine LeO.bind ?_ (fun _ => ?_)
def spec_l11Read.T8 : Bool × List (List Nat × List Nat) := (true, [([], []), ([], []), ([], []), ([1, 2], [1, 2]), ([3], [3]), ([], []), ([], []), ([6], [6]), ([], []), ([8], [8]), ([9], [9]), ([5, 7, 10], [5, 7, 10]), ([4, 11], [4, 11]), ([12], [12]), ([0, 13], [0, 13]), ([14, 14, 0, 1, 2, 3, 4, 5, 6, 7, 8, 9, 10, 11, 12, 13, 14], [0, 14])])
def spec_l11Read.B8 : List Nat := [0, 0, 0, 6, 14, 0, 0, 64, 0, 256, 768, 2016, 4094, 8190, 16383, 32767]
theorem spec_l11Read.tab8 : rtab .any (opsOf Try.f67 8) = spec_l11Read.T8 := by kernel_rfl
theorem spec_l11Read.bits8 : waitsOk spec_l11Read.T8.2 spec_l11Read.B8 = true := by kernel_rfl
set_option maxHeartbeats 8000000 in
set_option maxRecDepth 100000 in
theorem spec_l11Read.calls (k : Nat) (a0 : ByteArray) (r1 : List (S72)) (r2 : Bool) (w : World) (h : spec_l11Read.f k a0 = some (r1, r2)) :
  Calls Try.prog 67 #[.string a0] w fun e w' => ∃ v0_ : Value, e = .returned (.tuple #[v0_, .bool r2]) ∧ Kd.R k72 72 w' w.heap.size (fun _ => True) v0_ r1 ∧ Below w.heap.size w w' := by
 have hu72 := Try.underlying72
 have HB := Aside0.mk (Below.refl w.heap.size w)
 have H : (if (a0.size : Int) = 0 then (spec_l11Read.j0 k a0 true) else (if 0 < (a0.size : Int) then (spec_l11Read.j0 k a0 ((a0.size : Int) != (wrap64 (2 + (wrap64 ((wrap64 (bt a0 0)) * 9)))))) else (none))) = some (r1, r2) := h
 clear h
 have HC2 := Aside0.mk H
 clear H
 go_enter Try.func67, Try.ntmps67
 go_upto_region 1 with (fail)
 go_cut [19] (fun v19 wc => ∃ (kq : Nat) (x19_1 : Bool), v19 = .bool x19_1 ∧ Aside0 (spec_l11Read.j0 kq a0 x19_1 = some (r1, r2)) ∧ Aside0 (kq ≤ k) ∧ Aside0 (Below w.heap.size w wc))
 case first =>
  have H := HC2.out
  clear HC2
  by_cases c3 : (a0.size : Int) = 0
  ·
   rw [if_pos c3] at H
   have c3b0 : ((a0.size : Int) == 0) = true := beq_iff_eq.mpr c3
   have c3b1 : ((a0.size : Int) != 0) = false := bne_eq_false_iff_eq.mpr c3
   clear c3
   (first | rw [c3b0] | (simp only [i64_w, i32_w]; rw [c3b0]) | (simp only [c3b2, Bool.not_false, Bool.not_true]) | skip)
   have H' := Aside0.mk H
   clear H
   go_wp2
   go_meet
   case rel => exact ⟨_, (true), (by first | rfl | (simp; done) | (simp [*]; done)), H', ⟨by first | omega | exact Nat.le_refl _⟩, ⟨bs HB⟩⟩
  ·
   rw [if_neg c3] at H
   have c3b0 : ((a0.size : Int) == 0) = false := beq_eq_false_iff_ne.mpr c3
   have c3b1 : ((a0.size : Int) != 0) = true := bne_iff_ne.mpr c3
   (first | rw [c3b0] | (simp only [i64_w, i32_w]; rw [c3b0]) | (simp only [c3b2, Bool.not_false, Bool.not_true]) | skip)
   by_cases c4 : 0 < (a0.size : Int)
   ·
    rw [if_pos c4] at H
    have c4b0 : decide (0 < (a0.size : Int)) = true := decide_eq_true c4
    have c4b1 : decide (0 < a0.size) = true := decide_eq_true (by omega)
    clear c4
    have H' := Aside0.mk H
    clear H
    have p5 : 0 ≤ (0 : Int) := (by omega)
    have q5 : 0 < a0.size := (by have : (0 : Int) < (a0.size : Int) := of_decide_eq_true (by first | (with_reducible assumption) | assumption); omega)
    have hx5 : ∀ h : 0 < a0.size, ((a0[0]'h).toNat : Int) = bt a0 0 := bt_at a0 0
    clear p5
    have qi5 : (0 < (a0.size : Int)) = True := eq_true (of_decide_eq_true (by first | (with_reducible assumption) | assumption))
    replace q5 := eq_true q5
    go_wp2
    go_meet
    case rel => exact ⟨_, (((a0.size : Int) != (wrap64 (2 + (wrap64 ((wrap64 (bt a0 0)) * 9)))))), (by first | rfl | (simp; done) | (simp [*]; done)), H', ⟨by first | omega | exact Nat.le_refl _⟩, ⟨bs HB⟩⟩
   ·
    rw [if_neg c4] at H
    exact absurd H (by simp)
 case rest =>
  clear HC2
  try clear p2
  try clear c3
  try clear c3b0
  try clear c3b1
  try clear c4
  try clear c4b0
  try clear c4b1
  try clear p5
  try clear q5
  try clear hx5
  try clear qi5
  try clear p5
  try clear q5
  obtain ⟨kq, x19_1, rfl, HA, HJ1, HB⟩ := hcut
  cases kq with
  | zero => exact absurd HA.out (by simp [spec_l11Read.j0])
  | succ kj1 =>
   have H := HA.out
   clear HA
   simp only [spec_l11Read.j0] at H
   by_cases c6 : x19_1 = true
   ·
    subst c6
    rw [if_pos rfl] at H
    simp only [Option.some.injEq, Prod.mk.injEq] at H
    obtain ⟨rfl, rfl⟩ := H
    go_wp2
    go_ret2
    exact ⟨_, by first | rfl | (simp [errW_none, errW_some] <;> rfl) | (simp [*, errW_none, errW_some] <;> rfl), by first | exact Kd.R_nil _ _ _ _ _ | exact Kd.N_nil _ _ _ _ _ | exact Kd.V_nil _ _ _ _ _ | exact Kd.Q_nil _ _ _ _ _ | exact Kd.S_nil _ _ _ _ _, bs HB⟩
   ·
    replace c6 := Bool.eq_false_iff.mpr c6
    subst c6
    rw [if_neg (show ¬ (false = true) by decide)] at H
    have H' := Aside0.mk H
    clear H
    go_wp2
    go_loopg [4, 5] kj1 (fun kq v4 v5 w' => ∃ (x4_2 : List (S72)) (x5_2 : Int), v5 = .int .i64 x5_2 ∧ Aside0 (spec_l11Read.l0 kq a0 x4_2 x5_2 = some (r1, r2)) ∧ Aside0 (kq ≤ kj1) ∧ Aside0 (Kd.R k72 72 w' w.heap.size (fun _ => True) v4 x4_2) ∧ Aside0 (Below w.heap.size w w'))
    case atStart => exact ⟨(([] : List (S72))), (0), (by first | rfl | (simp; done) | (simp [*]; done)), H', ⟨Nat.le_refl _⟩, ⟨by first | exact Kd.R_nil _ _ _ _ _ | exact Kd.N_nil _ _ _ _ _ | exact Kd.V_nil _ _ _ _ _ | exact Kd.Q_nil _ _ _ _ _ | exact Kd.S_nil _ _ _ _ _⟩, ⟨bs HB⟩⟩
    case round =>
     clear H'
     try clear p2
     try clear c3
     try clear c3b0
     try clear c3b1
     try clear c4
     try clear c4b0
     try clear c4b1
     try clear p5
     try clear q5
     try clear hx5
     try clear qi5
     try clear c6
     try clear p6
     try clear p2
     try clear p5
     try clear q5
     obtain ⟨x4_2, x5_2, rfl, HA, HK2, HO_4, HB⟩ := hrel
     cases gk with
     | zero => exact absurd HA.out (by simp [spec_l11Read.l0])
     | succ k2 =>
      have H := HA.out
      clear HA
      simp only [spec_l11Read.l0] at H
      by_cases c7 : 0 < (a0.size : Int)
      ·
       rw [if_pos c7] at H
       have c7b0 : decide (0 < (a0.size : Int)) = true := decide_eq_true c7
       have c7b1 : decide (0 < a0.size) = true := decide_eq_true (by omega)
       clear c7
       by_cases c9 : x5_2 < (wrap64 (bt a0 0))
       ·
        rw [if_pos c9] at H
        have c9b0 : decide (x5_2 < (wrap64 (bt a0 0))) = true := decide_eq_true c9
        clear c9
        obtain ⟨ji10, hji10⟩ : ∃ j_ : Int, (wrap64 (1 + (wrap64 (x5_2 * 9)))) = j_ := ⟨_, rfl⟩
        replace H : (if 0 ≤ (ji10) then (if (ji10) < (a0.size : Int) then (if 0 ≤ (wrap64 ((ji10) + 1)) then (if (wrap64 ((ji10) + 1)) ≤ (wrap64 ((wrap64 ((ji10) + 1)) + 8)) then (if (wrap64 ((wrap64 ((ji10) + 1)) + 8)) ≤ (a0.size : Int) then (if x4_2.length < 5864062014805 then (spec_l11Read.l0 k2 a0 (x4_2 ++ [(⟨wrap64 (bt a0 (ji10)), a0.extract ((wrap64 ((ji10) + 1)) : Int).toNat ((wrap64 ((wrap64 ((ji10) + 1)) + 8)) : Int).toNat⟩ : S72)]) (wrap64 (x5_2 + 1))) else (none)) else (none)) else (none)) else (none)) else (none)) else (none)) = some (r1, r2) := by first | (rw [hji10] at H; exact H) | (simp only [hji10] at H ⊢; exact H)
        have hji10w : (IntKind.i64.wrap (1 + (wrap64 (x5_2 * 9)))) = ji10 := (i64_w _).trans hji10
        by_cases c11 : 0 ≤ (ji10)
        ·
         rw [if_pos c11] at H
         have c11b0 : decide (0 ≤ (ji10)) = true := decide_eq_true c11
         clear c11
         by_cases c12 : (ji10) < (a0.size : Int)
         ·
          rw [if_pos c12] at H
          have c12b0 : decide ((ji10) < (a0.size : Int)) = true := decide_eq_true c12
          clear c12
          obtain ⟨ji14, hji14⟩ : ∃ j_ : Int, (wrap64 ((ji10) + 1)) = j_ := ⟨_, rfl⟩
          replace H : (if 0 ≤ (ji14) then (if (ji14) ≤ (wrap64 ((ji14) + 8)) then (if (wrap64 ((ji14) + 8)) ≤ (a0.size : Int) then (if x4_2.length < 5864062014805 then (spec_l11Read.l0 k2 a0 (x4_2 ++ [(⟨wrap64 (bt a0 (ji10)), a0.extract ((ji14) : Int).toNat ((wrap64 ((ji14) + 8)) : Int).toNat⟩ : S72)]) (wrap64 (x5_2 + 1))) else (none)) else (none)) else (none)) else (none)) = some (r1, r2) := by first | (rw [hji14] at H; exact H) | (simp only [hji14] at H ⊢; exact H)
          have hji14w : (IntKind.i64.wrap ((ji10) + 1)) = ji14 := (i64_w _).trans hji14
          by_cases c15 : 0 ≤ (ji14)
          ·
           rw [if_pos c15] at H
           have c15b0 := eq_true c15
           have c15b1 : decide (0 ≤ (ji14)) = true := decide_eq_true c15
           clear c15
           by_cases c16 : (ji14) ≤ (wrap64 ((ji14) + 8))
           ·
            rw [if_pos c16] at H
            have c16b0 := eq_true c16
            have c16b1 : decide ((ji14) ≤ (wrap64 ((ji14) + 8))) = true := decide_eq_true c16
            by_cases c17 : (wrap64 ((ji14) + 8)) ≤ (a0.size : Int)
            ·
             rw [if_pos c17] at H
             have c17b0 := eq_true c17
             have c17b1 : decide ((wrap64 ((ji14) + 8)) ≤ (a0.size : Int)) = true := decide_eq_true c17
             by_cases c18 : x4_2.length < 5864062014805
             ·
              rw [if_pos c18] at H
              have LMc18 := Aside0.mk c18
              clear c18
              obtain ⟨y192, hy192⟩ : ∃ y_ : List (S72), y_ = (x4_2 ++ [(⟨wrap64 (bt a0 (ji10)), a0.extract ((ji14) : Int).toNat ((wrap64 ((ji14) + 8)) : Int).toNat⟩ : S72)]) := ⟨_, rfl⟩
              replace H : (spec_l11Read.l0 k2 a0 y192 (wrap64 (x5_2 + 1))) = some (r1, r2) := by first | (rw [hy192]; with_reducible exact H) | (have H2_ := (Option.bind_some _ _).symm.trans H; rw [hy192]; with_reducible exact H2_) | (have H2_ := (Option.bind_some _ _).symm.trans H; with_reducible exact H2_) | with_reducible exact H | (rw [hy192]; exact H) | exact H
              have Ny192 := Aside0.mk hy192
              clear hy192
              have H' := Aside0.mk H
              clear H
              have p8 : 0 ≤ (0 : Int) := (by omega)
              have q8 : 0 < a0.size := (by have : (0 : Int) < (a0.size : Int) := of_decide_eq_true (by first | (with_reducible assumption) | assumption); omega)
              have hx8 : ∀ h : 0 < a0.size, ((a0[0]'h).toNat : Int) = bt a0 0 := bt_at a0 0
              clear p8
              have qi8 : (0 < (a0.size : Int)) = True := eq_true (of_decide_eq_true (by first | (with_reducible assumption) | assumption))
              replace q8 := eq_true q8
              try go_wp2
              have n0_ := Aside0.mk (Kd.R_drew HO_4.out)
              have n1_ := Aside0.mk (below_drew1 HB.out)
              clear HO_4
              clear HB
              have HO_4 := n0_
              have HB := n1_
              clear n0_ n1_
              have p13 : 0 ≤ ((ji10) : Int) := of_decide_eq_true (by first | (with_reducible assumption) | assumption)
              have q13 : (ji10) < (a0.size : Int) := of_decide_eq_true (by first | (with_reducible assumption) | assumption)
              have hx13 := bt_at a0 (ji10)
              replace p13 := eq_true p13
              replace q13 := eq_true q13
              refine start_ (n := 16) (S := fun w' => True) (ds := []) #[false, false, false, false, false, false, false, false, false, false, false, false, false, false, false, false] (by kernel_rfl) rfl rfl trivial (fun hHeld => ?_); refine with_tabW spec_l11Read.tab8 spec_l11Read.bits8 (fun HT_ HW_ => ?_)
              generalize wr.drew = w19 at HO_4 HB hHeld ⊢
              refine pureS 0 30 HT_.out ?_
              refine pureS 1 31 HT_.out ?_
              refine pureS 2 32 HT_.out ?_
              refine pureS 5 35 HT_.out ?_
              refine pureS 6 36 HT_.out ?_
              refine pureS 7 37 HT_.out ?_
              refine pureS 8 38 HT_.out ?_
              refine pureS 9 39 HT_.out ?_
              refine pureS 10 40 HT_.out ?_
              refine pureS 11 41 HT_.out ?_
              refine take_ (i := 3) (N := some 33) (v := ?_) (a' := ?_) #[true, true, true, true, false, true, true, true, true, true, true, true, false, false, false, false] rfl rfl (take_ofW HT_.out HW_.out (by kernel_rfl)) (fun _ _ _ h => h) (Or.inl ⟨by rfl, ?_⟩) hHeld ?_ ?_
              rotate_left
              ·
               intro w' _
               go_simp
               with_reducible rfl
              rotate_left
              ·
               simp only [Act.put, List.setIfInBounds_toArray, List.set_cons_zero, List.set_cons_succ, i64_w, i32_w]
               rfl
              refine pureS 4 34 HT_.out ?_
              refine pureS 12 42 HT_.out ?_
              refine one_ (i := 13) (N := some 43) #[true, true, true, true, true, true, true, true, true, true, true, true, true, true, false, false] rfl rfl (one_of HT_.out (by kernel_rfl)) (by decide) (fun K hK => ?_)
              refine value_ (w1 := ?_) (v := ?_) (by rfl) rfl ?_ ?_
              rotate_left 2
              ·
               go_simp
               constructor
               ·
                rfl
               ·
                rfl
              refine hK.out _ _ trivial (fun hHeld => ?_)
              clear hK K
              refine norm_ (a' := ?_) ?_ ?_
              rotate_left
              ·
               show Act.put _ (some 43) _ = _
               simp only [Act.put, List.setIfInBounds_toArray, List.set_cons_zero, List.set_cons_succ, i64_w, i32_w]
               rfl
              refine one_ (i := 14) (N := some 44) #[true, true, true, true, true, true, true, true, true, true, true, true, true, true, true, false] rfl rfl (one_of HT_.out (by kernel_rfl)) (by decide) (fun K hK => ?_)
              refine Kd.R_append_step k72 (w0 := w) w.heap.size (by rfl) (.tmp 30) (.tmp 43) 26 72 (.agg #[(.int .i64 0), (.string ⟨#[]⟩)]) 24 rfl Try.underlying26 info72 rfl (by decide) (by omega) u4 x4_2 (⟨wrap64 (bt a0 (ji10)), a0.extract ((ji14) : Int).toNat ((wrap64 ((ji14) + 8)) : Int).toNat⟩ : S72) [.int .i64 (wrap64 (bt a0 (ji10))), .string (a0.extract ((ji14) : Int).toNat ((wrap64 ((ji14) + 8)) : Int).toNat)] (fun _ => True) (fun _ => False) rfl rfl ?aP (fun _ hk => hk.elim) ?aF ?aO ?aB ?aS ?aL ?_
              (case aP => exact k72_mkM _ _ _ (⟨wrap64 (bt a0 (ji10)), a0.extract ((ji14) : Int).toNat ((wrap64 ((ji14) + 8)) : Int).toNat⟩ : S72))
              (case aB => exact (bs HB))
              (case aF => exact (fun _ _ => trivial))
              (case aO => exact (rr HO_4.out))
              (case aS => exact (below_size (bs HB)))
              (case aL => have := LMc18.out; omega)
              intro v193 w20 ho hb hg hat
              rw [← Ny192.out] at ho
              have n0_ := Aside0.mk (hb)
              have n1_ := Aside0.mk (ho)
              clear HB
              clear HO_4
              have HB := n0_
              have HO194 := n1_
              clear n0_ n1_
              clear ho hb hg hat
              refine hK.out _ _ trivial (fun hHeld => ?_)
              clear hK K
              refine norm_ (a' := ?_) ?_ ?_
              rotate_left
              ·
               show Act.put _ (some 44) _ = _
               simp only [Act.put, List.setIfInBounds_toArray, List.set_cons_zero, List.set_cons_succ, i64_w, i32_w]
               rfl
              refine pureS 15 4 HT_.out ?_
              refine done_ (done_of HT_.out (by kernel_rfl)) ?_
              try go_wp2
              go_roundg k2
              case measure => have := HJ1.out; have := HK2.out; omega
              case rel => exact ⟨(y192), (wrap64 (x5_2 + 1)), (by first | rfl | (simp; done) | (simp [*]; done)), H', ⟨by have := HJ1.out; have := HK2.out; omega⟩, ⟨rr HO194.out⟩, ⟨bs HB⟩⟩
             ·
              rw [if_neg c18] at H
              exact absurd H (by simp)
            ·
             rw [if_neg c17] at H
             exact absurd H (by simp)
           ·
            rw [if_neg c16] at H
            exact absurd H (by simp)
          ·
           rw [if_neg c15] at H
           exact absurd H (by simp)
         ·
          rw [if_neg c12] at H
          exact absurd H (by simp)
        ·
         rw [if_neg c11] at H
         exact absurd H (by simp)
       ·
        rw [if_neg c9] at H
        have c9b0 : decide (x5_2 < (wrap64 (bt a0 0))) = false := decide_eq_false c9
        clear c9
        replace H := Option.bind_eq_some_iff.mp H
        obtain ⟨t195, A210, H⟩ := H
        replace H : (if t195 = true then ((spec_l11Text.f k2 x4_2).bind fun t196 => (if t196.toList = a0.toList then (some (x4_2, true)) else (some (([] : List (S72)), false)))) else (some (([] : List (S72)), false))) = some (r1, r2) := H
        have A21 := Aside0.mk A210
        clear A210
        by_cases c22 : t195 = true
        ·
         subst c22
         rw [if_pos rfl] at H
         replace H := Option.bind_eq_some_iff.mp H
         obtain ⟨t196, A230, H⟩ := H
         replace H : (if t196.toList = a0.toList then (some (x4_2, true)) else (some (([] : List (S72)), false))) = some (r1, r2) := H
         have A23 := Aside0.mk A230
         clear A230
         by_cases c24 : t196.toList = a0.toList
         ·
          rw [if_pos c24] at H
          have c24b0 : (t196.toList == a0.toList) = true := beq_iff_eq.mpr c24
          have c24b1 : (t196.toList != a0.toList) = false := bne_eq_false_iff_eq.mpr c24
          clear c24
          simp only [Option.some.injEq, Prod.mk.injEq] at H
          obtain ⟨rfl, rfl⟩ := H
          have p8 : 0 ≤ (0 : Int) := (by omega)
          have q8 : 0 < a0.size := (by have : (0 : Int) < (a0.size : Int) := of_decide_eq_true (by first | (with_reducible assumption) | assumption); omega)
          have hx8 : ∀ h : 0 < a0.size, ((a0[0]'h).toNat : Int) = bt a0 0 := bt_at a0 0
          clear p8
          have qi8 : (0 < (a0.size : Int)) = True := eq_true (of_decide_eq_true (by first | (with_reducible assumption) | assumption))
          replace q8 := eq_true q8
          obtain ⟨Ao25, co25, eo25⟩ := Kd.R_slice HO_4.out
          subst eo25
          go_wp2_with (first | ((with_reducible refine gate_callee (f := 61) rfl ?_); refine gL (some 46) rfl rfl Try.func61 (by kernel_rfl) rfl #[.slice Ao25 x4_2.length co25, .int .i64 32] rfl ?_; (with_reducible refine (spec_l11Txn.calls k2 _ _ x4_2 32 true _ ?side1 ?side2 A21.out).mono ?_); (case side1 => exact rc0 HO_4); (case side2 => exact (Kd.R_reads' HO_4.out).2.1); rintro e w26 ⟨rfl, hb⟩; refine ⟨_, rfl, ?_⟩; replace HO_4 := nr HO_4 hb; replace HB := Aside0.mk (below_step (bs HB) hb); (try clear hb); (try clear hb2); (try clear hk); (try clear hi)) | (go_at_call 62; (with_reducible refine (spec_l11Text.calls k2 _ _ x4_2 t196 _ ?side1 ?side2 A23.out).mono ?_); (case side1 => exact rc0 HO_4); (case side2 => exact (Kd.R_reads' HO_4.out).2.1); rintro e w27 ⟨rfl, hb⟩; replace HO_4 := nr HO_4 hb; replace HB := Aside0.mk (below_step (bs HB) hb); (try clear hb); (try clear hb2); (try clear hk); (try clear hi)))
          go_ret2
          exact ⟨_, by first | rfl | (simp [errW_none, errW_some] <;> rfl) | (simp [*, errW_none, errW_some] <;> rfl), by (with_reducible repeat (first | apply Kd.R_alloc | apply Kd.R_drewN | apply Kd.R_drew)); exact HO_4.out, bs HB⟩
         ·
          rw [if_neg c24] at H
          have c24b0 : (t196.toList == a0.toList) = false := beq_eq_false_iff_ne.mpr c24
          have c24b1 : (t196.toList != a0.toList) = true := bne_iff_ne.mpr c24
          simp only [Option.some.injEq, Prod.mk.injEq] at H
          obtain ⟨rfl, rfl⟩ := H
          have p8 : 0 ≤ (0 : Int) := (by omega)
          have q8 : 0 < a0.size := (by have : (0 : Int) < (a0.size : Int) := of_decide_eq_true (by first | (with_reducible assumption) | assumption); omega)
          have hx8 : ∀ h : 0 < a0.size, ((a0[0]'h).toNat : Int) = bt a0 0 := bt_at a0 0
          clear p8
          have qi8 : (0 < (a0.size : Int)) = True := eq_true (of_decide_eq_true (by first | (with_reducible assumption) | assumption))
          replace q8 := eq_true q8
          obtain ⟨Ao28, co28, eo28⟩ := Kd.R_slice HO_4.out
          subst eo28
          go_wp2_with (first | ((with_reducible refine gate_callee (f := 61) rfl ?_); refine gL (some 46) rfl rfl Try.func61 (by kernel_rfl) rfl #[.slice Ao28 x4_2.length co28, .int .i64 32] rfl ?_; (with_reducible refine (spec_l11Txn.calls k2 _ _ x4_2 32 true _ ?side1 ?side2 A21.out).mono ?_); (case side1 => exact rc0 HO_4); (case side2 => exact (Kd.R_reads' HO_4.out).2.1); rintro e w29 ⟨rfl, hb⟩; refine ⟨_, rfl, ?_⟩; replace HO_4 := nr HO_4 hb; replace HB := Aside0.mk (below_step (bs HB) hb); (try clear hb); (try clear hb2); (try clear hk); (try clear hi)) | (go_at_call 62; (with_reducible refine (spec_l11Text.calls k2 _ _ x4_2 t196 _ ?side1 ?side2 A23.out).mono ?_); (case side1 => exact rc0 HO_4); (case side2 => exact (Kd.R_reads' HO_4.out).2.1); rintro e w30 ⟨rfl, hb⟩; replace HO_4 := nr HO_4 hb; replace HB := Aside0.mk (below_step (bs HB) hb); (try clear hb); (try clear hb2); (try clear hk); (try clear hi)))
          go_ret2
          exact ⟨_, by first | rfl | (simp [errW_none, errW_some] <;> rfl) | (simp [*, errW_none, errW_some] <;> rfl), by first | exact Kd.R_nil _ _ _ _ _ | exact Kd.N_nil _ _ _ _ _ | exact Kd.V_nil _ _ _ _ _ | exact Kd.Q_nil _ _ _ _ _ | exact Kd.S_nil _ _ _ _ _, bs HB⟩
        ·
         replace c22 := Bool.eq_false_iff.mpr c22
         subst c22
         rw [if_neg (show ¬ (false = true) by decide)] at H
         simp only [Option.some.injEq, Prod.mk.injEq] at H
         obtain ⟨rfl, rfl⟩ := H
         have p8 : 0 ≤ (0 : Int) := (by omega)
         have q8 : 0 < a0.size := (by have : (0 : Int) < (a0.size : Int) := of_decide_eq_true (by first | (with_reducible assumption) | assumption); omega)
         have hx8 : ∀ h : 0 < a0.size, ((a0[0]'h).toNat : Int) = bt a0 0 := bt_at a0 0
         clear p8
         have qi8 : (0 < (a0.size : Int)) = True := eq_true (of_decide_eq_true (by first | (with_reducible assumption) | assumption))
         replace q8 := eq_true q8
         obtain ⟨Ao31, co31, eo31⟩ := Kd.R_slice HO_4.out
         subst eo31
         go_wp2_with (first | ((with_reducible refine gate_callee (f := 61) rfl ?_); refine gL (some 46) rfl rfl Try.func61 (by kernel_rfl) rfl #[.slice Ao31 x4_2.length co31, .int .i64 32] rfl ?_; (with_reducible refine (spec_l11Txn.calls k2 _ _ x4_2 32 false _ ?side1 ?side2 A21.out).mono ?_); (case side1 => exact rc0 HO_4); (case side2 => exact (Kd.R_reads' HO_4.out).2.1); rintro e w32 ⟨rfl, hb⟩; refine ⟨_, rfl, ?_⟩; replace HO_4 := nr HO_4 hb; replace HB := Aside0.mk (below_step (bs HB) hb); (try clear hb); (try clear hb2); (try clear hk); (try clear hi)))
         go_ret2
         exact ⟨_, by first | rfl | (simp [errW_none, errW_some] <;> rfl) | (simp [*, errW_none, errW_some] <;> rfl), by first | exact Kd.R_nil _ _ _ _ _ | exact Kd.N_nil _ _ _ _ _ | exact Kd.V_nil _ _ _ _ _ | exact Kd.Q_nil _ _ _ _ _ | exact Kd.S_nil _ _ _ _ _, bs HB⟩
      ·
       rw [if_neg c7] at H
       exact absurd H (by simp)

/-! ### impl_ReadTxn: function 22 -/
def impl_ReadTxn.l0 : Nat → ByteArray → List (S72) → Int → Option ((List (S72)) × Bool)
 | 0, _, _, _ => none
 | k + 1, x0, x4, x5 => if (wrap64 ((wrap64 (x5 + 8)) + 1)) < (x0.size : Int) then (if 0 ≤ x5 then (if x5 < (x0.size : Int) then (if 0 ≤ (wrap64 (x5 + 1)) then (if (wrap64 (x5 + 1)) ≤ (wrap64 ((wrap64 (x5 + 1)) + 8)) then (if (wrap64 ((wrap64 (x5 + 1)) + 8)) ≤ (x0.size : Int) then (if x4.length < 5864062014805 then (impl_ReadTxn.l0 k x0 (x4 ++ [(⟨wrap64 (bt x0 x5), x0.extract ((wrap64 (x5 + 1)) : Int).toNat ((wrap64 ((wrap64 (x5 + 1)) + 8)) : Int).toNat⟩ : S72)]) (wrap64 (x5 + 9))) else (none)) else (none)) else (none)) else (none)) else (none)) else (none)) else ((impl_isTxn.f k x4 32).bind fun t207 => (if t207 = true then ((impl_txnText.f k x4).bind fun t208 => (if t208.toList = x0.toList then (some (x4, true)) else (some (([] : List (S72)), false)))) else (some (([] : List (S72)), false))))
def impl_ReadTxn.f (k : Nat) (a0 : ByteArray) : Option ((List (S72)) × Bool) := if (a0.size : Int) > 74 then (some (([] : List (S72)), false)) else (impl_ReadTxn.l0 k a0 (([] : List (S72))) 1)
theorem impl_ReadTxn.mono_l : ∀ k, (∀ y0 y1 y2, LeO (impl_ReadTxn.l0 k y0 y1 y2) (impl_ReadTxn.l0 (k + 1) y0 y1 y2))
 | 0 => fun _ _ _ r h => by simp [impl_ReadTxn.l0] at h
 | k + 1 => by
  have ih0 := impl_ReadTxn.mono_l k
  ·
   intro y0 y1 y2
   unfold impl_ReadTxn.l0
   repeat' first
   | (with_reducible exact ih0 _ _ _)
   | (with_reducible exact impl_isTxn.mono _ _ _)
   | (with_reducible exact impl_txnText.mono _ _)
   | (with_reducible exact LeO.refl _)
   | (with_reducible exact LeO.none _)
   | (with_reducible refine LeO.ite ?_ ?_)
   | (with_reducible refine LeO.bind ?_ (fun _ => ?_))
   | exact ih0 _ _ _
   | exact impl_isTxn.mono _ _ _
   | exact impl_txnText.mono _ _
   | exact LeO.none _
   | refine LeO.ite ?_ ?_
   | refine LeO.bind ?_ (fun _ => ?_)
theorem impl_ReadTxn.mono : ∀ a0 k, LeO (impl_ReadTxn.f k a0) (impl_ReadTxn.f (k + 1) a0) := by
 intro a0 k
 have ih0 := impl_ReadTxn.mono_l k
 unfold impl_ReadTxn.f
 repeat' first
   | (with_reducible exact ih0 _ _ _)
   | (with_reducible exact impl_isTxn.mono _ _ _)
   | (with_reducible exact impl_txnText.mono _ _)
   | (with_reducible exact LeO.refl _)
   | (with_reducible exact LeO.none _)
   | (with_reducible refine LeO.ite ?_ ?_)
   | (with_reducible refine LeO.bind ?_ (fun _ => ?_))
   | exact ih0 _ _ _
   | exact impl_isTxn.mono _ _ _
   | exact impl_txnText.mono _ _
   | exact LeO.none _
   | refine LeO.ite ?_ ?_
   | refine LeO.bind ?_ (fun _ => ?_)
def impl_ReadTxn.T7 : Bool × List (List Nat × List Nat) := (true, [([], []), ([], []), ([], []), ([1, 2], [1, 2]), ([3], [3]), ([], []), ([], []), ([6], [6]), ([], []), ([8], [8]), ([9], [9]), ([5, 7, 10], [5, 7, 10]), ([4, 11], [4, 11]), ([12], [12]), ([0, 13], [0, 13]), ([14, 14, 0, 1, 2, 3, 4, 5, 6, 7, 8, 9, 10, 11, 12, 13, 14], [0, 14])])
def impl_ReadTxn.B7 : List Nat := [0, 0, 0, 6, 14, 0, 0, 64, 0, 256, 768, 2016, 4094, 8190, 16383, 32767]
theorem impl_ReadTxn.tab7 : rtab .any (opsOf Try.f22 7) = impl_ReadTxn.T7 := by kernel_rfl
theorem impl_ReadTxn.bits7 : waitsOk impl_ReadTxn.T7.2 impl_ReadTxn.B7 = true := by kernel_rfl
set_option maxHeartbeats 8000000 in
set_option maxRecDepth 100000 in
theorem impl_ReadTxn.calls (k : Nat) (a0 : ByteArray) (r1 : List (S72)) (r2 : Bool) (w : World) (h : impl_ReadTxn.f k a0 = some (r1, r2)) :
  Calls Try.prog 22 #[.string a0] w fun e w' => ∃ v0_ : Value, e = .returned (.tuple #[v0_, .bool r2]) ∧ Kd.R k72 72 w' w.heap.size (fun _ => True) v0_ r1 ∧ Below w.heap.size w w' := by
 have hu72 := Try.underlying72
 have HB := Aside0.mk (Below.refl w.heap.size w)
 have H : (if (a0.size : Int) > 74 then (some (([] : List (S72)), false)) else (impl_ReadTxn.l0 k a0 (([] : List (S72))) 1)) = some (r1, r2) := h
 clear h
 by_cases c2 : (a0.size : Int) > 74
 ·
  rw [if_pos c2] at H
  have c2b0 : decide (74 < (a0.size : Int)) = true := decide_eq_true c2
  have c2b1 : decide (74 < a0.size) = true := decide_eq_true (by omega)
  clear c2
  simp only [Option.some.injEq, Prod.mk.injEq] at H
  obtain ⟨rfl, rfl⟩ := H
  go_enter Try.func22, Try.ntmps22
  go_wp2
  go_ret2
  exact ⟨_, by first | rfl | (simp [errW_none, errW_some] <;> rfl) | (simp [*, errW_none, errW_some] <;> rfl), by first | exact Kd.R_nil _ _ _ _ _ | exact Kd.N_nil _ _ _ _ _ | exact Kd.V_nil _ _ _ _ _ | exact Kd.Q_nil _ _ _ _ _ | exact Kd.S_nil _ _ _ _ _, bs HB⟩
 ·
  rw [if_neg c2] at H
  have c2b0 : decide (74 < (a0.size : Int)) = false := decide_eq_false c2
  have c2b1 : decide (74 < a0.size) = false := decide_eq_false (by omega)
  clear c2
  obtain ⟨y201, hy201⟩ : ∃ y_ : List (S72), y_ = (([] : List (S72))) := ⟨_, rfl⟩
  replace H : (impl_ReadTxn.l0 k a0 y201 1) = some (r1, r2) := by first | (rw [hy201]; with_reducible exact H) | (have H2_ := (Option.bind_some _ _).symm.trans H; rw [hy201]; with_reducible exact H2_) | (have H2_ := (Option.bind_some _ _).symm.trans H; with_reducible exact H2_) | with_reducible exact H | (rw [hy201]; exact H) | exact H
  have Ny201 := Aside0.mk hy201
  clear hy201
  have H' := Aside0.mk H
  clear H
  go_enter Try.func22, Try.ntmps22
  go_wp2_with (first | ((with_reducible refine gate_dst (N := 9) rfl ?_); refine Kd.R_lit k72 _ 72 ?hg (N := 9) ?hd (xs := ([] : List (S72))) (inner := []) (ok := fun _ => True) (okp := fun _ => True) ?hr ?hp (fun _ hk => hk) trivial (Below.refl _ _) (Nat.le_refl _) (by simp) ?_; (case hd => rfl); (case hg => rfl); (case hr => first | (go_simp; done) | (go_simp; rfl)); (case hp => exact (Reps.none _ _)); intro v202 w3 ho4 hb hg_ hnew_; clear hg_ hnew_; (first | rw [← Ny201.out] at ho4 | (simp only [Int.reduceToNat] at ho4; rw [← Ny201.out] at ho4)); have HO203 := Aside0.mk (Kd.R_lower ho4 (below_size (bs HB))); replace HB := Aside0.mk (below_step (bs HB) hb); clear hb ho4))
  go_loopg [4, 5] k (fun kq v4 v5 w' => ∃ (x4_1 : List (S72)) (x5_1 : Int), v5 = .int .i64 x5_1 ∧ Aside0 (impl_ReadTxn.l0 kq a0 x4_1 x5_1 = some (r1, r2)) ∧ Aside0 (kq ≤ k) ∧ Aside0 (Kd.R k72 72 w' w.heap.size (fun _ => True) v4 x4_1) ∧ Aside0 (Below w.heap.size w w'))
  case atStart => exact ⟨(y201), (1), (by first | rfl | (simp; done) | (simp [*]; done)), H', ⟨Nat.le_refl _⟩, ⟨rr HO203.out⟩, ⟨bs HB⟩⟩
  case round =>
   clear H'
   try clear c2
   try clear c2b0
   try clear c2b1
   try clear p2
   obtain ⟨x4_1, x5_1, rfl, HA, HK1, HO_4, HB⟩ := hrel
   cases gk with
   | zero => exact absurd HA.out (by simp [impl_ReadTxn.l0])
   | succ k1 =>
    have H := HA.out
    clear HA
    simp only [impl_ReadTxn.l0] at H
    by_cases c5 : (wrap64 ((wrap64 (x5_1 + 8)) + 1)) < (a0.size : Int)
    ·
     rw [if_pos c5] at H
     have c5b0 : decide ((wrap64 ((wrap64 (x5_1 + 8)) + 1)) < (a0.size : Int)) = true := decide_eq_true c5
     clear c5
     by_cases c6 : 0 ≤ x5_1
     ·
      rw [if_pos c6] at H
      have c6b0 : decide (0 ≤ x5_1) = true := decide_eq_true c6
      clear c6
      by_cases c7 : x5_1 < (a0.size : Int)
      ·
       rw [if_pos c7] at H
       have c7b0 : decide (x5_1 < (a0.size : Int)) = true := decide_eq_true c7
       clear c7
       obtain ⟨ji9, hji9⟩ : ∃ j_ : Int, (wrap64 (x5_1 + 1)) = j_ := ⟨_, rfl⟩
       replace H : (if 0 ≤ (ji9) then (if (ji9) ≤ (wrap64 ((ji9) + 8)) then (if (wrap64 ((ji9) + 8)) ≤ (a0.size : Int) then (if x4_1.length < 5864062014805 then (impl_ReadTxn.l0 k1 a0 (x4_1 ++ [(⟨wrap64 (bt a0 x5_1), a0.extract ((ji9) : Int).toNat ((wrap64 ((ji9) + 8)) : Int).toNat⟩ : S72)]) (wrap64 (x5_1 + 9))) else (none)) else (none)) else (none)) else (none)) = some (r1, r2) := by first | (rw [hji9] at H; exact H) | (simp only [hji9] at H ⊢; exact H)
       have hji9w : (IntKind.i64.wrap (x5_1 + 1)) = ji9 := (i64_w _).trans hji9
       by_cases c10 : 0 ≤ (ji9)
       ·
        rw [if_pos c10] at H
        have c10b0 := eq_true c10
        have c10b1 : decide (0 ≤ (ji9)) = true := decide_eq_true c10
        clear c10
        by_cases c11 : (ji9) ≤ (wrap64 ((ji9) + 8))
        ·
         rw [if_pos c11] at H
         have c11b0 := eq_true c11
         have c11b1 : decide ((ji9) ≤ (wrap64 ((ji9) + 8))) = true := decide_eq_true c11
         by_cases c12 : (wrap64 ((ji9) + 8)) ≤ (a0.size : Int)
         ·
          rw [if_pos c12] at H
          have c12b0 := eq_true c12
          have c12b1 : decide ((wrap64 ((ji9) + 8)) ≤ (a0.size : Int)) = true := decide_eq_true c12
          by_cases c13 : x4_1.length < 5864062014805
          ·
           rw [if_pos c13] at H
           have LMc13 := Aside0.mk c13
           clear c13
           obtain ⟨y204, hy204⟩ : ∃ y_ : List (S72), y_ = (x4_1 ++ [(⟨wrap64 (bt a0 x5_1), a0.extract ((ji9) : Int).toNat ((wrap64 ((ji9) + 8)) : Int).toNat⟩ : S72)]) := ⟨_, rfl⟩
           replace H : (impl_ReadTxn.l0 k1 a0 y204 (wrap64 (x5_1 + 9))) = some (r1, r2) := by first | (rw [hy204]; with_reducible exact H) | (have H2_ := (Option.bind_some _ _).symm.trans H; rw [hy204]; with_reducible exact H2_) | (have H2_ := (Option.bind_some _ _).symm.trans H; with_reducible exact H2_) | with_reducible exact H | (rw [hy204]; exact H) | exact H
           have Ny204 := Aside0.mk hy204
           clear hy204
           have H' := Aside0.mk H
           clear H
           try go_wp2
           have n0_ := Aside0.mk (Kd.R_drew HO_4.out)
           have n1_ := Aside0.mk (below_drew1 HB.out)
           clear HO_4
           clear HB
           have HO_4 := n0_
           have HB := n1_
           clear n0_ n1_
           have p8 : 0 ≤ (x5_1 : Int) := of_decide_eq_true (by first | (with_reducible assumption) | assumption)
           have q8 : x5_1 < (a0.size : Int) := of_decide_eq_true (by first | (with_reducible assumption) | assumption)
           have hx8 := bt_at a0 x5_1
           replace p8 := eq_true p8
           replace q8 := eq_true q8
           refine start_ (n := 16) (S := fun w' => True) (ds := []) #[false, false, false, false, false, false, false, false, false, false, false, false, false, false, false, false] (by kernel_rfl) rfl rfl trivial (fun hHeld => ?_); refine with_tabW impl_ReadTxn.tab7 impl_ReadTxn.bits7 (fun HT_ HW_ => ?_)
           generalize wr.drew = w14 at HO_4 HB hHeld ⊢
           refine pureS 0 18 HT_.out ?_
           refine pureS 1 19 HT_.out ?_
           refine pureS 2 20 HT_.out ?_
           refine pureS 5 23 HT_.out ?_
           refine pureS 6 24 HT_.out ?_
           refine pureS 7 25 HT_.out ?_
           refine pureS 8 26 HT_.out ?_
           refine pureS 9 27 HT_.out ?_
           refine pureS 10 28 HT_.out ?_
           refine pureS 11 29 HT_.out ?_
           refine take_ (i := 3) (N := some 21) (v := ?_) (a' := ?_) #[true, true, true, true, false, true, true, true, true, true, true, true, false, false, false, false] rfl rfl (take_ofW HT_.out HW_.out (by kernel_rfl)) (fun _ _ _ h => h) (Or.inl ⟨by rfl, ?_⟩) hHeld ?_ ?_
           rotate_left
           ·
            intro w' _
            go_simp
            with_reducible rfl
           rotate_left
           ·
            simp only [Act.put, List.setIfInBounds_toArray, List.set_cons_zero, List.set_cons_succ, i64_w, i32_w]
            rfl
           refine pureS 4 22 HT_.out ?_
           refine pureS 12 30 HT_.out ?_
           refine one_ (i := 13) (N := some 31) #[true, true, true, true, true, true, true, true, true, true, true, true, true, true, false, false] rfl rfl (one_of HT_.out (by kernel_rfl)) (by decide) (fun K hK => ?_)
           refine value_ (w1 := ?_) (v := ?_) (by rfl) rfl ?_ ?_
           rotate_left 2
           ·
            go_simp
            constructor
            ·
             rfl
            ·
             rfl
           refine hK.out _ _ trivial (fun hHeld => ?_)
           clear hK K
           refine norm_ (a' := ?_) ?_ ?_
           rotate_left
           ·
            show Act.put _ (some 31) _ = _
            simp only [Act.put, List.setIfInBounds_toArray, List.set_cons_zero, List.set_cons_succ, i64_w, i32_w]
            rfl
           refine one_ (i := 14) (N := some 32) #[true, true, true, true, true, true, true, true, true, true, true, true, true, true, true, false] rfl rfl (one_of HT_.out (by kernel_rfl)) (by decide) (fun K hK => ?_)
           refine Kd.R_append_step k72 (w0 := w) w.heap.size (by rfl) (.tmp 18) (.tmp 31) 26 72 (.agg #[(.int .i64 0), (.string ⟨#[]⟩)]) 24 rfl Try.underlying26 info72 rfl (by decide) (by omega) u4 x4_1 (⟨wrap64 (bt a0 x5_1), a0.extract ((ji9) : Int).toNat ((wrap64 ((ji9) + 8)) : Int).toNat⟩ : S72) [.int .i64 (wrap64 (bt a0 x5_1)), .string (a0.extract ((ji9) : Int).toNat ((wrap64 ((ji9) + 8)) : Int).toNat)] (fun _ => True) (fun _ => False) rfl rfl ?aP (fun _ hk => hk.elim) ?aF ?aO ?aB ?aS ?aL ?_
           (case aP => exact k72_mkM _ _ _ (⟨wrap64 (bt a0 x5_1), a0.extract ((ji9) : Int).toNat ((wrap64 ((ji9) + 8)) : Int).toNat⟩ : S72))
           (case aB => exact (bs HB))
           (case aF => exact (fun _ _ => trivial))
           (case aO => exact (rr HO_4.out))
           (case aS => exact (below_size (bs HB)))
           (case aL => have := LMc13.out; omega)
           intro v205 w15 ho hb hg hat
           rw [← Ny204.out] at ho
           have n0_ := Aside0.mk (hb)
           have n1_ := Aside0.mk (ho)
           clear HB
           clear HO_4
           have HB := n0_
           have HO206 := n1_
           clear n0_ n1_
           clear ho hb hg hat
           refine hK.out _ _ trivial (fun hHeld => ?_)
           clear hK K
           refine norm_ (a' := ?_) ?_ ?_
           rotate_left
           ·
            show Act.put _ (some 32) _ = _
            simp only [Act.put, List.setIfInBounds_toArray, List.set_cons_zero, List.set_cons_succ, i64_w, i32_w]
            rfl
           refine pureS 15 4 HT_.out ?_
           refine done_ (done_of HT_.out (by kernel_rfl)) ?_
           try go_wp2
           go_roundg k1
           case measure => have := HK1.out; omega
           case rel => exact ⟨(y204), (wrap64 (x5_1 + 9)), (by first | rfl | (simp; done) | (simp [*]; done)), H', ⟨by have := HK1.out; omega⟩, ⟨rr HO206.out⟩, ⟨bs HB⟩⟩
          ·
           rw [if_neg c13] at H
           exact absurd H (by simp)
         ·
          rw [if_neg c12] at H
          exact absurd H (by simp)
        ·
         rw [if_neg c11] at H
         exact absurd H (by simp)
       ·
        rw [if_neg c10] at H
        exact absurd H (by simp)
      ·
       rw [if_neg c7] at H
       exact absurd H (by simp)
     ·
      rw [if_neg c6] at H
      exact absurd H (by simp)
    ·
     rw [if_neg c5] at H
     have c5b0 : decide ((wrap64 ((wrap64 (x5_1 + 8)) + 1)) < (a0.size : Int)) = false := decide_eq_false c5
     clear c5
     replace H := Option.bind_eq_some_iff.mp H
     obtain ⟨t207, A160, H⟩ := H
     replace H : (if t207 = true then ((impl_txnText.f k1 x4_1).bind fun t208 => (if t208.toList = a0.toList then (some (x4_1, true)) else (some (([] : List (S72)), false)))) else (some (([] : List (S72)), false))) = some (r1, r2) := H
     have A16 := Aside0.mk A160
     clear A160
     by_cases c17 : t207 = true
     ·
      subst c17
      rw [if_pos rfl] at H
      replace H := Option.bind_eq_some_iff.mp H
      obtain ⟨t208, A180, H⟩ := H
      replace H : (if t208.toList = a0.toList then (some (x4_1, true)) else (some (([] : List (S72)), false))) = some (r1, r2) := H
      have A18 := Aside0.mk A180
      clear A180
      by_cases c19 : t208.toList = a0.toList
      ·
       rw [if_pos c19] at H
       have c19b0 : (t208.toList == a0.toList) = true := beq_iff_eq.mpr c19
       have c19b1 : (t208.toList != a0.toList) = false := bne_eq_false_iff_eq.mpr c19
       clear c19
       simp only [Option.some.injEq, Prod.mk.injEq] at H
       obtain ⟨rfl, rfl⟩ := H
       obtain ⟨Ao20, co20, eo20⟩ := Kd.R_slice HO_4.out
       subst eo20
       go_wp2_with (first | ((with_reducible refine gate_callee (f := 64) rfl ?_); refine gL (some 34) rfl rfl Try.func64 (by kernel_rfl) rfl #[.slice Ao20 x4_1.length co20, .int .i64 32] rfl ?_; (with_reducible refine (impl_isTxn.calls k1 _ _ x4_1 32 true _ ?side1 ?side2 A16.out).mono ?_); (case side1 => exact rc0 HO_4); (case side2 => exact (Kd.R_reads' HO_4.out).2.1); rintro e w21 ⟨rfl, hb⟩; refine ⟨_, rfl, ?_⟩; replace HO_4 := nr HO_4 hb; replace HB := Aside0.mk (below_step (bs HB) hb); (try clear hb); (try clear hb2); (try clear hk); (try clear hi)) | (go_at_call 65; (with_reducible refine (impl_txnText.calls k1 _ _ x4_1 t208 _ ?side1 ?side2 A18.out).mono ?_); (case side1 => exact rc0 HO_4); (case side2 => exact (Kd.R_reads' HO_4.out).2.1); rintro e w22 ⟨rfl, hb⟩; replace HO_4 := nr HO_4 hb; replace HB := Aside0.mk (below_step (bs HB) hb); (try clear hb); (try clear hb2); (try clear hk); (try clear hi)))
       go_ret2
       exact ⟨_, by first | rfl | (simp [errW_none, errW_some] <;> rfl) | (simp [*, errW_none, errW_some] <;> rfl), by (with_reducible repeat (first | apply Kd.R_alloc | apply Kd.R_drewN | apply Kd.R_drew)); exact HO_4.out, bs HB⟩
      ·
       rw [if_neg c19] at H
       have c19b0 : (t208.toList == a0.toList) = false := beq_eq_false_iff_ne.mpr c19
       have c19b1 : (t208.toList != a0.toList) = true := bne_iff_ne.mpr c19
       simp only [Option.some.injEq, Prod.mk.injEq] at H
       obtain ⟨rfl, rfl⟩ := H
       obtain ⟨Ao23, co23, eo23⟩ := Kd.R_slice HO_4.out
       subst eo23
       go_wp2_with (first | ((with_reducible refine gate_callee (f := 64) rfl ?_); refine gL (some 34) rfl rfl Try.func64 (by kernel_rfl) rfl #[.slice Ao23 x4_1.length co23, .int .i64 32] rfl ?_; (with_reducible refine (impl_isTxn.calls k1 _ _ x4_1 32 true _ ?side1 ?side2 A16.out).mono ?_); (case side1 => exact rc0 HO_4); (case side2 => exact (Kd.R_reads' HO_4.out).2.1); rintro e w24 ⟨rfl, hb⟩; refine ⟨_, rfl, ?_⟩; replace HO_4 := nr HO_4 hb; replace HB := Aside0.mk (below_step (bs HB) hb); (try clear hb); (try clear hb2); (try clear hk); (try clear hi)) | (go_at_call 65; (with_reducible refine (impl_txnText.calls k1 _ _ x4_1 t208 _ ?side1 ?side2 A18.out).mono ?_); (case side1 => exact rc0 HO_4); (case side2 => exact (Kd.R_reads' HO_4.out).2.1); rintro e w25 ⟨rfl, hb⟩; replace HO_4 := nr HO_4 hb; replace HB := Aside0.mk (below_step (bs HB) hb); (try clear hb); (try clear hb2); (try clear hk); (try clear hi)))
       go_ret2
       exact ⟨_, by first | rfl | (simp [errW_none, errW_some] <;> rfl) | (simp [*, errW_none, errW_some] <;> rfl), by first | exact Kd.R_nil _ _ _ _ _ | exact Kd.N_nil _ _ _ _ _ | exact Kd.V_nil _ _ _ _ _ | exact Kd.Q_nil _ _ _ _ _ | exact Kd.S_nil _ _ _ _ _, bs HB⟩
     ·
      replace c17 := Bool.eq_false_iff.mpr c17
      subst c17
      rw [if_neg (show ¬ (false = true) by decide)] at H
      simp only [Option.some.injEq, Prod.mk.injEq] at H
      obtain ⟨rfl, rfl⟩ := H
      obtain ⟨Ao26, co26, eo26⟩ := Kd.R_slice HO_4.out
      subst eo26
      go_wp2_with (first | ((with_reducible refine gate_callee (f := 64) rfl ?_); refine gL (some 34) rfl rfl Try.func64 (by kernel_rfl) rfl #[.slice Ao26 x4_1.length co26, .int .i64 32] rfl ?_; (with_reducible refine (impl_isTxn.calls k1 _ _ x4_1 32 false _ ?side1 ?side2 A16.out).mono ?_); (case side1 => exact rc0 HO_4); (case side2 => exact (Kd.R_reads' HO_4.out).2.1); rintro e w27 ⟨rfl, hb⟩; refine ⟨_, rfl, ?_⟩; replace HO_4 := nr HO_4 hb; replace HB := Aside0.mk (below_step (bs HB) hb); (try clear hb); (try clear hb2); (try clear hk); (try clear hi)))
      go_ret2
      exact ⟨_, by first | rfl | (simp [errW_none, errW_some] <;> rfl) | (simp [*, errW_none, errW_some] <;> rfl), by first | exact Kd.R_nil _ _ _ _ _ | exact Kd.N_nil _ _ _ _ _ | exact Kd.V_nil _ _ _ _ _ | exact Kd.Q_nil _ _ _ _ _ | exact Kd.S_nil _ _ _ _ _, bs HB⟩

end Go.Proofs.Ytcdkgenfggdpaaa.G
