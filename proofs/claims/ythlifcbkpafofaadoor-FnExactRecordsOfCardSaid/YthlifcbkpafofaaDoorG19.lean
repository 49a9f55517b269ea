-- Printed by a program of this session (drive.py, by way of the kit's print). Not trusted: Lean checks it.
import Derived.Test.YthlifcbkpafofaaDoorG0
import Derived.Test.YthlifcbkpafofaaDoorG4
import Derived.Test.YthlifcbkpafofaaDoorG6
import Derived.Test.YthlifcbkpafofaaDoorG7
import Derived.Test.YthlifcbkpafofaaDoorG11
namespace Go.Proofs.YthlifcbkpafofaaDoor.G
open Go.RowKit Go.Proofs.YthlifcbkpafofaaDoorW.PrintWords Go.Proofs.YthlifcbkpafofaaDoorW.PrintLast Go.Proofs.YthlifcbkpafofaaDoorW.PrintMore
attribute [local go_sem] max2_int min2_int max_two min_two max_three min_three max_four min_four   -- for this text's walks alone
set_option linter.unusedVariables false
set_option linter.unusedSimpArgs false

/-! ### spec_RecordsOf: function 28 -/
def spec_RecordsOf.l0 : Nat → List ByteArray → Int → List (S26) → Int → Int → Int → Option (List ByteArray × Bool)
 | 0, _, _, _, _, _, _ => none
 | k + 1, x4, x5, x334000, x334001, x334002, x334003 => if x5 < x334001 then (if (x334000.length : Int) = 0 then (none) else (if 0 ≤ (Int.tmod x5 (x334000.length : Int)) then (if (Int.tmod x5 (x334000.length : Int)) < (x334000.length : Int) then (if x4.length < 8796093022208 then (spec_RecordsOf.l0 k (x4 ++ [(rd_T26 x334000 (Int.tmod x5 (x334000.length : Int))).f2]) (wrap64 (x5 + 1)) x334000 x334001 x334002 x334003) else (none)) else (none)) else (none))) else (some (x4, true))
def spec_RecordsOf.f (k : Nat) (l0_0 : List (S26)) (a0_1 : Int) (a0_2 : Int) (a0_3 : Int) : Option (List ByteArray × Bool) := (spec_GoodRing.f k l0_0 a0_1 a0_2 a0_3).bind fun t334 => (if t334 = true then (spec_RecordsOf.l0 k ([] : List ByteArray) a0_3 l0_0 a0_1 a0_2 a0_3) else (some (([] : List ByteArray), false)))
theorem spec_RecordsOf.mono_l : ∀ k, (∀ y0 y1 y2 y3 y4 y5, LeO (spec_RecordsOf.l0 k y0 y1 y2 y3 y4 y5) (spec_RecordsOf.l0 (k + 1) y0 y1 y2 y3 y4 y5))
 | 0 => fun _ _ _ _ _ _ r h => by simp [spec_RecordsOf.l0] at h
 | k + 1 => by
  have ih0 := spec_RecordsOf.mono_l k
  ·
   intro y0 y1 y2 y3 y4 y5
   unfold spec_RecordsOf.l0
   repeat' first
   | (with_reducible exact ih0 _ _ _ _ _ _)
   | (with_reducible exact spec_GoodRing.mono _ _ _ _ _)
   | (with_reducible exact LeO.refl _)
   | (with_reducible exact LeO.none _)
   | (with_reducible refine LeO.ite ?_ ?_)
   | (with_reducible refine LeO.bind ?_ (fun _ => ?_))
   | exact ih0 _ _ _ _ _ _
   | exact spec_GoodRing.mono _ _ _ _ _
   | exact LeO.none _
   | refine LeO.ite ?_ ?_
   | refine LeO.bind ?_ (fun _ => ?_)
theorem spec_RecordsOf.mono : ∀ a0 a1 a2 a3 k, LeO (spec_RecordsOf.f k a0 a1 a2 a3) (spec_RecordsOf.f (k + 1) a0 a1 a2 a3) := by
 intro a0 a1 a2 a3 k
 have ih0 := spec_RecordsOf.mono_l k
 unfold spec_RecordsOf.f
 repeat' first
   | (with_reducible exact ih0 _ _ _ _ _ _)
   | (with_reducible exact spec_GoodRing.mono _ _ _ _ _)
   | (with_reducible exact LeO.refl _)
   | (with_reducible exact LeO.none _)
   | (with_reducible refine LeO.ite ?_ ?_)
   | (with_reducible refine LeO.bind ?_ (fun _ => ?_))
   | exact ih0 _ _ _ _ _ _
   | exact spec_GoodRing.mono _ _ _ _ _
   | exact LeO.none _
   | refine LeO.ite ?_ ?_
   | refine LeO.bind ?_ (fun _ => ?_)
def spec_RecordsOf.T7 : Bool × List (List Nat × List Nat) := (true, [([], []), ([], []), ([1], [1]), ([], []), ([], []), ([4], [4]), ([5], [5]), ([3, 6], [3, 6]), ([2, 7], [2, 7]), ([8], [8]), ([9], [9]), ([10], [10]), ([0, 11], [0, 11]), ([12, 12, 0, 1, 2, 3, 4, 5, 6, 7, 8, 9, 10, 11, 12], [0, 12])])
def spec_RecordsOf.B7 : List Nat := [0, 0, 2, 0, 0, 16, 48, 120, 254, 510, 1022, 2046, 4095, 8191]
theorem spec_RecordsOf.tab7 : rtab .any (opsOf Tryd.f28 7) = spec_RecordsOf.T7 := by kernel_rfl
theorem spec_RecordsOf.bits7 : waitsOk spec_RecordsOf.T7.2 spec_RecordsOf.B7 = true := by kernel_rfl
set_option maxHeartbeats 8000000 in
set_option maxRecDepth 100000 in
theorem spec_RecordsOf.calls (k : Nat) (A0_0 : Option Addr) (c0_0 : Nat) (l0_0 : List (S26)) (a0_1 : Int) (a0_2 : Int) (a0_3 : Int) (r1 : List ByteArray) (r2 : Bool) (w : World) (hr0_0 : Kd.C k26 w A0_0 l0_0.length l0_0) (hc0_0 : l0_0.length ≤ c0_0) (h : spec_RecordsOf.f k l0_0 a0_1 a0_2 a0_3 = some (r1, r2)) :
  Calls Tryd.prog 28 #[.agg #[.slice A0_0 l0_0.length c0_0, .int .i64 a0_1, .int .i64 a0_2, .int .i64 a0_3]] w fun e w' => ∃ v0_ : Value, e = .returned (.tuple #[v0_, .bool r2]) ∧ Kd.R Kd.string 9 w' w.heap.size (fun _ => True) v0_ r1 ∧ Below w.heap.size w w' := by
 have hu36 := Tryd.underlying36
 have HR0_0 := Aside0.mk hr0_0
 have HC0_0 := Aside0.mk hc0_0
 clear hr0_0 hc0_0
 have HB := Aside0.mk (Below.refl w.heap.size w)
 have H : ((spec_GoodRing.f k l0_0 a0_1 a0_2 a0_3).bind fun t334 => (if t334 = true then (spec_RecordsOf.l0 k ([] : List ByteArray) a0_3 l0_0 a0_1 a0_2 a0_3) else (some (([] : List ByteArray), false)))) = some (r1, r2) := h
 clear h
 replace H := Option.bind_eq_some_iff.mp H
 obtain ⟨t334, A20, H⟩ := H
 replace H : (if t334 = true then (spec_RecordsOf.l0 k ([] : List ByteArray) a0_3 l0_0 a0_1 a0_2 a0_3) else (some (([] : List ByteArray), false))) = some (r1, r2) := H
 have A2 := Aside0.mk A20
 clear A20
 by_cases c3 : t334 = true
 ·
  subst c3
  rw [if_pos rfl] at H
  have H' := Aside0.mk H
  clear H
  go_enter Tryd.func28, Tryd.ntmps28
  go_wp2_with (first | ((with_reducible refine gate_dst (N := 1) rfl ?_); refine box_event ?hg (N := 1) ?hd (cs := #[.slice A0_0 l0_0.length c0_0, .int .i64 a0_1, .int .i64 a0_2, .int .i64 a0_3]) (t := 36) ?hr ?_; (case hd => rfl); (case hg => rfl); (case hr => first | (go_simp; done) | (go_simp; rfl)); intro gb333 hg w4 hbox hb; have BK333 := Aside0.mk (hbox); have GW333 := Aside0.mk ((by rw [hg]; exact (below_size (bs HB)) : w.heap.size ≤ gb333)); have GE333 := Aside0.mk ((by rw [hg]; exact (below_size (bs HB)) : w.heap.size ≤ gb333)); replace HB := Aside0.mk (below_step (bs HB) hb); clear hb hbox hg; obtain ⟨hcz5_0, hcz5_1, hcz5_2, hcz5_3⟩ := cz4 BK333; obtain ⟨hfz5_0, hfz5_1, hfz5_2, hfz5_3⟩ := fz4 BK333) | ((with_reducible refine gate_callee (f := 18) rfl ?_); refine gL (some 7) rfl rfl Tryd.func18 (by kernel_rfl) rfl #[.agg #[.slice A0_0 l0_0.length c0_0, .int .i64 a0_1, .int .i64 a0_2, .int .i64 a0_3]] rfl ?_; (with_reducible refine (spec_GoodRing.calls k _ _ l0_0 a0_1 a0_2 a0_3 true _ ?side1 ?side2 A2.out).mono ?_); (case side1 => exact cb HR0_0 HB); (case side2 => exact HC0_0.out); rintro e w6 ⟨rfl, hb⟩; refine ⟨_, rfl, ?_⟩; replace BK333 := nb BK333 hb; replace HB := Aside0.mk (below_step (bs1 HB GE333) hb); (try clear hb); (try clear hb2); (try clear hk); (try clear hi); obtain ⟨hcz7_0, hcz7_1, hcz7_2, hcz7_3⟩ := cz4 BK333; obtain ⟨hfz7_0, hfz7_1, hfz7_2, hfz7_3⟩ := fz4 BK333))
  go_loopg [4, 5] k (fun kq v4 v5 w' => ∃ (x4_1 : List ByteArray) (x5_1 : Int), v5 = .int .i64 x5_1 ∧ Aside0 (spec_RecordsOf.l0 kq x4_1 x5_1 l0_0 a0_1 a0_2 a0_3 = some (r1, r2)) ∧ Aside0 (kq ≤ k) ∧ Aside0 (Kd.R Kd.string 9 w' w.heap.size (fun _ => True) v4 x4_1) ∧ Aside0 (w'.heap[gb333]? = some (.cells #[(.slice A0_0 l0_0.length c0_0), .int .i64 a0_1, .int .i64 a0_2, .int .i64 a0_3] 36 (0, 0))) ∧ Aside0 (Below w.heap.size w w'))
  case atStart => exact ⟨(([] : List ByteArray)), (a0_3), (by first | rfl | (simp; done) | (simp [*]; done)), H', ⟨Nat.le_refl _⟩, ⟨by first | exact Kd.R_nil _ _ _ _ _ | exact Kd.N_nil _ _ _ _ _ | exact Kd.V_nil _ _ _ _ _ | exact Kd.Q_nil _ _ _ _ _ | exact Kd.S_nil _ _ _ _ _⟩, ⟨bk BK333⟩, ⟨bs1 HB GE333⟩⟩
  case round =>
   clear H'
   try clear c1
   try clear c2
   try clear p2
   try clear c3
   try clear hcz5_0 hcz5_1 hcz5_2 hcz5_3
   try clear hcz7_0 hcz7_1 hcz7_2 hcz7_3
   try clear hfz5_0 hfz5_1 hfz5_2 hfz5_3
   try clear hfz7_0 hfz7_1 hfz7_2 hfz7_3
   obtain ⟨x4_1, x5_1, rfl, HA, HK1, HO_4, BK333, HB⟩ := hrel
   cases gk with
   | zero => exact absurd HA.out (by simp [spec_RecordsOf.l0])
   | succ k1 =>
    have H := HA.out
    clear HA
    simp only [spec_RecordsOf.l0] at H
    by_cases c8 : x5_1 < a0_1
    ·
     rw [if_pos c8] at H
     have c8b0 : decide (x5_1 < a0_1) = true := decide_eq_true c8
     clear c8
     by_cases c9 : (l0_0.length : Int) = 0
     ·
      rw [if_pos c9] at H
      exact absurd H (by simp)
     ·
      rw [if_neg c9] at H
      have c9b0 : ((l0_0.length : Int) == 0) = false := beq_eq_false_iff_ne.mpr c9
      have c9b1 : ((l0_0.length : Int) != 0) = true := bne_iff_ne.mpr c9
      have c9b2 : ¬ (l0_0 = []) := fun h_ => c9 (by rw [h_]; rfl)
      obtain ⟨ji10, hji10⟩ : ∃ j_ : Int, (Int.tmod x5_1 (l0_0.length : Int)) = j_ := ⟨_, rfl⟩
      replace H : (if 0 ≤ (ji10) then (if (ji10) < (l0_0.length : Int) then (if x4_1.length < 8796093022208 then (spec_RecordsOf.l0 k1 (x4_1 ++ [(rd_T26 l0_0 (ji10)).f2]) (wrap64 (x5_1 + 1)) l0_0 a0_1 a0_2 a0_3) else (none)) else (none)) else (none)) = some (r1, r2) := by first | (rw [hji10] at H; exact H) | (simp only [hji10] at H ⊢; exact H)
      by_cases c11 : 0 ≤ (ji10)
      ·
       rw [if_pos c11] at H
       have c11b0 : decide (0 ≤ (ji10)) = true := decide_eq_true c11
       clear c11
       by_cases c12 : (ji10) < (l0_0.length : Int)
       ·
        rw [if_pos c12] at H
        have c12b0 : decide ((ji10) < (l0_0.length : Int)) = true := decide_eq_true c12
        clear c12
        by_cases c13 : x4_1.length < 8796093022208
        ·
         rw [if_pos c13] at H
         have LMc13 := Aside0.mk c13
         clear c13
         obtain ⟨y336, hy336⟩ : ∃ y_ : List ByteArray, y_ = (x4_1 ++ [(rd_T26 l0_0 (ji10)).f2]) := ⟨_, rfl⟩
         replace H : (spec_RecordsOf.l0 k1 y336 (wrap64 (x5_1 + 1)) l0_0 a0_1 a0_2 a0_3) = some (r1, r2) := by first | (rw [hy336]; with_reducible exact H) | (have H2_ := (Option.bind_some _ _).symm.trans H; rw [hy336]; with_reducible exact H2_) | (have H2_ := (Option.bind_some _ _).symm.trans H; with_reducible exact H2_) | with_reducible exact H | (rw [hy336]; exact H) | exact H
         have Ny336 := Aside0.mk hy336
         clear hy336
         have H' := Aside0.mk H
         clear H
         obtain ⟨hcz14_0, hcz14_1, hcz14_2, hcz14_3⟩ := cz4 BK333
         obtain ⟨hfz14_0, hfz14_1, hfz14_2, hfz14_3⟩ := fz4 BK333
         try go_wp2
         have n0_ := Aside0.mk (Kd.R_drew HO_4.out)
         have n1_ := Aside0.mk (blk_drew BK333.out)
         have n2_ := Aside0.mk (below_drew1 HB.out)
         clear HO_4
         clear BK333
         clear HB
         have HO_4 := n0_
         have BK333 := n1_
         have HB := n2_
         clear n0_ n1_ n2_
         have p335 : 0 ≤ ((ji10) : Int) := of_decide_eq_true (by first | (with_reducible assumption) | assumption)
         have q335 : (ji10) < (l0_0.length : Int) := of_decide_eq_true (by first | (with_reducible assumption) | assumption)
         obtain ⟨ad335, e335, hx335_0, hx335_1, hx335_2, hx335_3⟩ := at_T26 HR0_0.out (ji10) p335 q335
         have hw335_3 := hx335_3
         have hw335_2 := hx335_2
         have hw335_1 := hx335_1
         have hw335_0 := hx335_0
         cases e335
         replace hx335_0 := (HB.out.cell (World.block_lt_of_cell? w _ hx335_0)).trans hx335_0
         replace hx335_1 := (HB.out.cell (World.block_lt_of_cell? w _ hx335_1)).trans hx335_1
         replace hx335_2 := (HB.out.cell (World.block_lt_of_cell? w _ hx335_2)).trans hx335_2
         replace hx335_3 := (HB.out.cell (World.block_lt_of_cell? w _ hx335_3)).trans hx335_3
         replace p335 := eq_true p335
         replace q335 := eq_true q335
         refine start_ (n := 14) (S := fun w' => w'.cell? ⟨gb333, 0, none⟩ = some (.slice (some ad335) l0_0.length c0_0) ∧ w'.cell? ⟨gb333, 1, none⟩ = some (.int .i64 a0_1) ∧ w'.cell? ⟨gb333, 2, none⟩ = some (.int .i64 a0_2) ∧ w'.cell? ⟨gb333, 3, none⟩ = some (.int .i64 a0_3) ∧ w'.cell? (ad335.add (((ji10)).toNat * 4)) = some (.int .i64 ((rd_T26 l0_0 (ji10)).f0)) ∧ w'.cell? ⟨(ad335.add (((ji10)).toNat * 4)).block, (ad335.add (((ji10)).toNat * 4)).off + 1, none⟩ = some (.int .i64 ((rd_T26 l0_0 (ji10)).f1)) ∧ w'.cell? ⟨(ad335.add (((ji10)).toNat * 4)).block, (ad335.add (((ji10)).toNat * 4)).off + 2, none⟩ = some (.string ((rd_T26 l0_0 (ji10)).f2)) ∧ w'.cell? ⟨(ad335.add (((ji10)).toNat * 4)).block, (ad335.add (((ji10)).toNat * 4)).off + 3, none⟩ = some (.int .i64 ((rd_T26 l0_0 (ji10)).f3))) (ds := []) #[false, false, false, false, false, false, false, false, false, false, false, false, false, false] (by kernel_rfl) rfl rfl ⟨(blk_cell BK333.out 0).trans rfl, (blk_cell BK333.out 1).trans rfl, (blk_cell BK333.out 2).trans rfl, (blk_cell BK333.out 3).trans rfl, ((HB.out.cell (World.block_lt_of_cell? w _ hw335_0)).trans hw335_0), ((HB.out.cell (World.block_lt_of_cell? w _ hw335_1)).trans hw335_1), ((HB.out.cell (World.block_lt_of_cell? w _ hw335_2)).trans hw335_2), ((HB.out.cell (World.block_lt_of_cell? w _ hw335_3)).trans hw335_3)⟩ (fun hHeld => ?_); refine with_tabW spec_RecordsOf.tab7 spec_RecordsOf.bits7 (fun HT_ HW_ => ?_)
         generalize wr.drew = w15 at HO_4 BK333 HB hx335_0 hx335_1 hx335_2 hx335_3 hHeld ⊢
         refine pureS 0 17 HT_.out ?_
         refine pureS 1 18 HT_.out ?_
         refine pureS 3 20 HT_.out ?_
         refine pureS 4 21 HT_.out ?_
         refine takeS 2 19 HT_.out HW_.out hHeld (hr := by rintro w' ⟨s0, s1, s2, s3, s4, s5, s6, s7⟩; go_simp; with_reducible rfl) (h := ?_)
         refine takeS 5 22 HT_.out HW_.out hHeld (hr := by rintro w' ⟨s0, s1, s2, s3, s4, s5, s6, s7⟩; go_simp; with_reducible rfl) (h := ?_)
         refine pureS 6 23 HT_.out ?_
         refine pureS 7 24 HT_.out ?_
         refine pureS 8 25 HT_.out ?_
         refine pureS 9 26 HT_.out ?_
         refine takeS 10 27 HT_.out HW_.out hHeld (hr := by rintro w' ⟨s0, s1, s2, s3, s4, s5, s6, s7⟩; go_simp; with_reducible rfl) (h := ?_)
         refine one_ (i := 11) (N := some 28) #[true, true, true, true, true, true, true, true, true, true, true, true, false, false] rfl rfl (one_of HT_.out (by kernel_rfl)) (by decide) (fun K hK => ?_)
         refine value_ (w1 := ?_) (v := ?_) (by rfl) rfl ?_ ?_
         rotate_left 2
         ·
          go_simp
          constructor
          ·
           rfl
          ·
           rfl
         refine hK.out _ _ ⟨(blk_cell (blk_alloc BK333.out _) 0).trans rfl, (blk_cell (blk_alloc BK333.out _) 1).trans rfl, (blk_cell (blk_alloc BK333.out _) 2).trans rfl, (blk_cell (blk_alloc BK333.out _) 3).trans rfl, (World.cell?_alloc_lt _ _ _ (World.block_lt_of_cell? _ _ (((HB.out.cell (World.block_lt_of_cell? w _ hw335_0)).trans hw335_0)))).trans (((HB.out.cell (World.block_lt_of_cell? w _ hw335_0)).trans hw335_0)), (World.cell?_alloc_lt _ _ _ (World.block_lt_of_cell? _ _ (((HB.out.cell (World.block_lt_of_cell? w _ hw335_1)).trans hw335_1)))).trans (((HB.out.cell (World.block_lt_of_cell? w _ hw335_1)).trans hw335_1)), (World.cell?_alloc_lt _ _ _ (World.block_lt_of_cell? _ _ (((HB.out.cell (World.block_lt_of_cell? w _ hw335_2)).trans hw335_2)))).trans (((HB.out.cell (World.block_lt_of_cell? w _ hw335_2)).trans hw335_2)), (World.cell?_alloc_lt _ _ _ (World.block_lt_of_cell? _ _ (((HB.out.cell (World.block_lt_of_cell? w _ hw335_3)).trans hw335_3)))).trans (((HB.out.cell (World.block_lt_of_cell? w _ hw335_3)).trans hw335_3))⟩ (fun hHeld => ?_)
         clear hK K
         refine norm_ (a' := ?_) ?_ ?_
         rotate_left
         ·
          show Act.put _ (some 28) _ = _
          simp only [Act.put, List.setIfInBounds_toArray, List.set_cons_zero, List.set_cons_succ, i64_w, i32_w]
          rfl
         refine one_ (i := 12) (N := some 29) #[true, true, true, true, true, true, true, true, true, true, true, true, true, false] rfl rfl (one_of HT_.out (by kernel_rfl)) (by decide) (fun K hK => ?_)
         refine Kd.R_append_step Kd.string (w0 := w) w.heap.size (by rfl) (.tmp 17) (.tmp 28) 46 9 (.string ⟨#[]⟩) 16 rfl Tryd.underlying46 info9 rfl (by decide) (by omega) u4 x4_1 ((rd_T26 l0_0 (ji10)).f2) [.string ((rd_T26 l0_0 (ji10)).f2)] (fun _ => True) (fun _ => False) rfl rfl ?aP (fun _ hk => hk.elim) ?aF ?aO ?aB ?aS ?aL ?_
         (case aP => exact rfl)
         (case aB => exact (bs1 HB GE333))
         (case aF => exact (fun _ _ => trivial))
         (case aO => exact (rr HO_4.out))
         (case aS => exact (below_size (bs1 HB GE333)))
         (case aL => have := LMc13.out; omega)
         intro v337 w16 ho hb hg hat
         rw [← Ny336.out] at ho
         have n0_ := Aside0.mk (blk_grown (bk BK333) hg (Kd.R_ne HO_4.out BK333.out (by decide)))
         have n1_ := Aside0.mk (hb)
         have n2_ := Aside0.mk (ho)
         clear BK333
         clear HB
         clear HO_4
         have BK333 := n0_
         have HB := n1_
         have HO338 := n2_
         clear n0_ n1_ n2_
         clear ho hb hg hat
         refine hK.out _ _ ⟨(blk_cell BK333.out 0).trans rfl, (blk_cell BK333.out 1).trans rfl, (blk_cell BK333.out 2).trans rfl, (blk_cell BK333.out 3).trans rfl, ((HB.out.cell (World.block_lt_of_cell? w _ hw335_0)).trans hw335_0), ((HB.out.cell (World.block_lt_of_cell? w _ hw335_1)).trans hw335_1), ((HB.out.cell (World.block_lt_of_cell? w _ hw335_2)).trans hw335_2), ((HB.out.cell (World.block_lt_of_cell? w _ hw335_3)).trans hw335_3)⟩ (fun hHeld => ?_)
         clear hK K
         refine norm_ (a' := ?_) ?_ ?_
         rotate_left
         ·
          show Act.put _ (some 29) _ = _
          simp only [Act.put, List.setIfInBounds_toArray, List.set_cons_zero, List.set_cons_succ, i64_w, i32_w]
          rfl
         refine pureS 13 4 HT_.out ?_
         refine done_ (done_of HT_.out (by kernel_rfl)) ?_
         try go_wp2
         go_roundg k1
         case measure => have := HK1.out; omega
         case rel => exact ⟨(y336), (wrap64 (x5_1 + 1)), (by first | rfl | (simp; done) | (simp [*]; done)), H', ⟨by have := HK1.out; omega⟩, ⟨rr HO338.out⟩, ⟨bk BK333⟩, ⟨bs1 HB GE333⟩⟩
        ·
         rw [if_neg c13] at H
         exact absurd H (by simp)
       ·
        rw [if_neg c12] at H
        exact absurd H (by simp)
      ·
       rw [if_neg c11] at H
       exact absurd H (by simp)
    ·
     rw [if_neg c8] at H
     have c8b0 : decide (x5_1 < a0_1) = false := decide_eq_false c8
     clear c8
     simp only [Option.some.injEq, Prod.mk.injEq] at H
     obtain ⟨rfl, rfl⟩ := H
     obtain ⟨hcz17_0, hcz17_1, hcz17_2, hcz17_3⟩ := cz4 BK333
     obtain ⟨hfz17_0, hfz17_1, hfz17_2, hfz17_3⟩ := fz4 BK333
     go_wp2
     go_ret2
     exact ⟨_, by first | rfl | (simp [errW_none, errW_some] <;> rfl) | (simp [*, errW_none, errW_some] <;> rfl), by (with_reducible repeat (first | apply Kd.R_alloc | apply Kd.R_drewN | apply Kd.R_drew)); exact HO_4.out, bs1 HB GE333⟩
 ·
  replace c3 := Bool.eq_false_iff.mpr c3
  subst c3
  rw [if_neg (show ¬ (false = true) by decide)] at H
  simp only [Option.some.injEq, Prod.mk.injEq] at H
  obtain ⟨rfl, rfl⟩ := H
  go_enter Tryd.func28, Tryd.ntmps28
  go_wp2_with (first | ((with_reducible refine gate_dst (N := 1) rfl ?_); refine box_event ?hg (N := 1) ?hd (cs := #[.slice A0_0 l0_0.length c0_0, .int .i64 a0_1, .int .i64 a0_2, .int .i64 a0_3]) (t := 36) ?hr ?_; (case hd => rfl); (case hg => rfl); (case hr => first | (go_simp; done) | (go_simp; rfl)); intro gb333 hg w18 hbox hb; have BK333 := Aside0.mk (hbox); have GW333 := Aside0.mk ((by rw [hg]; exact (below_size (bs HB)) : w.heap.size ≤ gb333)); have GE333 := Aside0.mk ((by rw [hg]; exact (below_size (bs HB)) : w.heap.size ≤ gb333)); replace HB := Aside0.mk (below_step (bs HB) hb); clear hb hbox hg; obtain ⟨hcz19_0, hcz19_1, hcz19_2, hcz19_3⟩ := cz4 BK333; obtain ⟨hfz19_0, hfz19_1, hfz19_2, hfz19_3⟩ := fz4 BK333) | ((with_reducible refine gate_callee (f := 18) rfl ?_); refine gL (some 7) rfl rfl Tryd.func18 (by kernel_rfl) rfl #[.agg #[.slice A0_0 l0_0.length c0_0, .int .i64 a0_1, .int .i64 a0_2, .int .i64 a0_3]] rfl ?_; (with_reducible refine (spec_GoodRing.calls k _ _ l0_0 a0_1 a0_2 a0_3 false _ ?side1 ?side2 A2.out).mono ?_); (case side1 => exact cb HR0_0 HB); (case side2 => exact HC0_0.out); rintro e w20 ⟨rfl, hb⟩; refine ⟨_, rfl, ?_⟩; replace BK333 := nb BK333 hb; replace HB := Aside0.mk (below_step (bs1 HB GE333) hb); (try clear hb); (try clear hb2); (try clear hk); (try clear hi)))
  go_ret2
  exact ⟨_, by first | rfl | (simp [errW_none, errW_some] <;> rfl) | (simp [*, errW_none, errW_some] <;> rfl), by first | exact Kd.R_nil _ _ _ _ _ | exact Kd.N_nil _ _ _ _ _ | exact Kd.V_nil _ _ _ _ _ | exact Kd.Q_nil _ _ _ _ _ | exact Kd.S_nil _ _ _ _ _, bs1 HB GE333⟩

/-! ### laws_eqStringS: function 30 -/
def laws_eqStringS.l0 : Nat → List ByteArray → List ByteArray → Int → Option (Bool)
 | 0, _, _, _ => none
 | k + 1, x0, x1, x5 => if x5 < (x0.length : Int) then (if 0 ≤ x5 then (if x5 < (x1.length : Int) then (if (rdOf ByteArray.empty x0 x5).toList = (rdOf ByteArray.empty x1 x5).toList then (laws_eqStringS.l0 k x0 x1 (wrap64 (x5 + 1))) else (some false)) else (none)) else (none)) else (some true)
def laws_eqStringS.f (k : Nat) (l0 : List ByteArray) (l1 : List ByteArray) : Option (Bool) := if (l0.length : Int) = (l1.length : Int) then (laws_eqStringS.l0 k l0 l1 0) else (some false)
theorem laws_eqStringS.mono_l : ∀ k, (∀ y0 y1 y2, LeO (laws_eqStringS.l0 k y0 y1 y2) (laws_eqStringS.l0 (k + 1) y0 y1 y2))
 | 0 => fun _ _ _ r h => by simp [laws_eqStringS.l0] at h
 | k + 1 => by
  have ih0 := laws_eqStringS.mono_l k
  ·
   intro y0 y1 y2
   unfold laws_eqStringS.l0
   repeat' first
   | (with_reducible exact ih0 _ _ _)
   | (with_reducible exact LeO.refl _)
   | (with_reducible exact LeO.none _)
   | (with_reducible refine LeO.ite ?_ ?_)
   | (with_reducible refine LeO.bind ?_ (fun _ => ?_))
   | exact ih0 _ _ _
   | exact LeO.none _
   | refine LeO.ite ?_ ?_
   | refine LeO.bind ?_ (fun _ => ?_)
theorem laws_eqStringS.mono : ∀ a0 a1 k, LeO (laws_eqStringS.f k a0 a1) (laws_eqStringS.f (k + 1) a0 a1) := by
 intro a0 a1 k
 have ih0 := laws_eqStringS.mono_l k
 unfold laws_eqStringS.f
 repeat' first
   | (with_reducible exact ih0 _ _ _)
   | (with_reducible exact LeO.refl _)
   | (with_reducible exact LeO.none _)
   | (with_reducible refine LeO.ite ?_ ?_)
   | (with_reducible refine LeO.bind ?_ (fun _ => ?_))
   | exact ih0 _ _ _
   | exact LeO.none _
   | refine LeO.ite ?_ ?_
   | refine LeO.bind ?_ (fun _ => ?_)
set_option maxHeartbeats 8000000 in
set_option maxRecDepth 100000 in
theorem laws_eqStringS.calls (k : Nat) (A0 : Option Addr) (c0 : Nat) (l0 : List ByteArray) (A1 : Option Addr) (c1 : Nat) (l1 : List ByteArray) (r : Bool) (w : World) (hr0 : Kd.C Kd.string w A0 l0.length l0) (hc0 : l0.length ≤ c0) (hr1 : Kd.C Kd.string w A1 l1.length l1) (hc1 : l1.length ≤ c1) (h : laws_eqStringS.f k l0 l1 = some r) :
  Calls Tryd.prog 30 #[.slice A0 l0.length c0, .slice A1 l1.length c1] w fun e w' => e = .returned (.bool r) ∧ Drawn0 w w' := by
 have HR0 := Aside0.mk hr0
 have HC0 := Aside0.mk hc0
 clear hr0 hc0
 have HR1 := Aside0.mk hr1
 have HC1 := Aside0.mk hc1
 clear hr1 hc1
 have H : (if (l0.length : Int) = (l1.length : Int) then (laws_eqStringS.l0 k l0 l1 0) else (some false)) = some r := h
 clear h
 by_cases c3 : (l0.length : Int) = (l1.length : Int)
 ·
  rw [if_pos c3] at H
  have c3b0 : ((l0.length : Int) == (l1.length : Int)) = true := beq_iff_eq.mpr c3
  have c3b1 : ((l0.length : Int) != (l1.length : Int)) = false := bne_eq_false_iff_eq.mpr c3
  have c3b2 : (l0.length == l1.length) = true := by first | simpa using c3 | (simp at c3 ⊢; omega)
  clear c3
  have H' := Aside0.mk H
  clear H
  go_enter Tryd.func30, Tryd.ntmps30
  go_wp2
  repeat (go_quiet (fail); try go_wp2)
  go_loopg [5] k (fun kq v5 w' => ∃ (x5_1 : Int), v5 = .int .i64 x5_1 ∧ Aside0 (laws_eqStringS.l0 kq l0 l1 x5_1 = some r) ∧ Aside0 (kq ≤ k) ∧ Drawn0 w w')
  case atStart => exact ⟨(0), (by first | rfl | (simp; done) | (simp [*]; done)), H', ⟨Nat.le_refl _⟩, by repeat (first | exact Drawn0.refl _ | apply Drawn0.step)⟩
  case round =>
   clear H'
   try clear c1
   try clear p2
   try clear c3
   try clear c3b0
   try clear c3b1
   try clear c3b2
   obtain ⟨x5_1, rfl, HA, HK1, ⟨m1, rfl⟩⟩ := hrel
   cases gk with
   | zero => exact absurd HA.out (by simp [laws_eqStringS.l0])
   | succ k1 =>
    have H := HA.out
    clear HA
    simp only [laws_eqStringS.l0] at H
    by_cases c4 : x5_1 < (l0.length : Int)
    ·
     rw [if_pos c4] at H
     have c4b0 : decide (x5_1 < (l0.length : Int)) = true := decide_eq_true c4
     clear c4
     by_cases c5 : 0 ≤ x5_1
     ·
      rw [if_pos c5] at H
      have c5b0 : decide (0 ≤ x5_1) = true := decide_eq_true c5
      clear c5
      by_cases c6 : x5_1 < (l1.length : Int)
      ·
       rw [if_pos c6] at H
       have c6b0 : decide (x5_1 < (l1.length : Int)) = true := decide_eq_true c6
       clear c6
       by_cases c7 : (rdOf ByteArray.empty l0 x5_1).toList = (rdOf ByteArray.empty l1 x5_1).toList
       ·
        rw [if_pos c7] at H
        have c7b0 : ((rdOf ByteArray.empty l0 x5_1).toList == (rdOf ByteArray.empty l1 x5_1).toList) = true := beq_iff_eq.mpr c7
        have c7b1 : ((rdOf ByteArray.empty l0 x5_1).toList != (rdOf ByteArray.empty l1 x5_1).toList) = false := bne_eq_false_iff_eq.mpr c7
        clear c7
        have H' := Aside0.mk H
        clear H
        have p348 : 0 ≤ (x5_1 : Int) := of_decide_eq_true (by first | (with_reducible assumption) | assumption)
        have q348 : x5_1 < (l0.length : Int) := of_decide_eq_true (by first | (with_reducible assumption) | assumption)
        obtain ⟨ad348, e348, hx348_0⟩ := Kd.at_string HR0.out x5_1 p348 q348
        cases e348
        replace p348 := eq_true p348
        replace q348 := eq_true q348
        have p349 : 0 ≤ (x5_1 : Int) := of_decide_eq_true (by first | (with_reducible assumption) | assumption)
        have q349 : x5_1 < (l1.length : Int) := of_decide_eq_true (by first | (with_reducible assumption) | assumption)
        obtain ⟨ad349, e349, hx349_0⟩ := Kd.at_string HR1.out x5_1 p349 q349
        cases e349
        replace p349 := eq_true p349
        replace q349 := eq_true q349
        go_wp2
        repeat (go_quiet (fail); try go_wp2)
        go_roundg k1
        case measure => have := HK1.out; omega
        case rel => exact ⟨(wrap64 (x5_1 + 1)), (by first | rfl | (simp; done) | (simp [*]; done)), H', ⟨by have := HK1.out; omega⟩, by repeat (first | exact Drawn0.refl _ | apply Drawn0.step)⟩
       ·
        rw [if_neg c7] at H
        have c7b0 : ((rdOf ByteArray.empty l0 x5_1).toList == (rdOf ByteArray.empty l1 x5_1).toList) = false := beq_eq_false_iff_ne.mpr c7
        have c7b1 : ((rdOf ByteArray.empty l0 x5_1).toList != (rdOf ByteArray.empty l1 x5_1).toList) = true := bne_iff_ne.mpr c7
        obtain rfl := Option.some.inj H
        have p348 : 0 ≤ (x5_1 : Int) := of_decide_eq_true (by first | (with_reducible assumption) | assumption)
        have q348 : x5_1 < (l0.length : Int) := of_decide_eq_true (by first | (with_reducible assumption) | assumption)
        obtain ⟨ad348, e348, hx348_0⟩ := Kd.at_string HR0.out x5_1 p348 q348
        cases e348
        replace p348 := eq_true p348
        replace q348 := eq_true q348
        have p349 : 0 ≤ (x5_1 : Int) := of_decide_eq_true (by first | (with_reducible assumption) | assumption)
        have q349 : x5_1 < (l1.length : Int) := of_decide_eq_true (by first | (with_reducible assumption) | assumption)
        obtain ⟨ad349, e349, hx349_0⟩ := Kd.at_string HR1.out x5_1 p349 q349
        cases e349
        replace p349 := eq_true p349
        replace q349 := eq_true q349
        go_wp2
        repeat (go_quiet (fail); try go_wp2)
        go_ret
        exact ⟨by first | rfl | (simp; done) | (simp [*]; done), by repeat (first | exact Drawn0.refl _ | apply Drawn0.step)⟩
      ·
       rw [if_neg c6] at H
       exact absurd H (by simp)
     ·
      rw [if_neg c5] at H
      exact absurd H (by simp)
    ·
     rw [if_neg c4] at H
     have c4b0 : decide (x5_1 < (l0.length : Int)) = false := decide_eq_false c4
     clear c4
     obtain rfl := Option.some.inj H
     go_wp2
     repeat (go_quiet (fail); try go_wp2)
     go_ret
     exact ⟨by first | rfl | (simp; done) | (simp [*]; done), by repeat (first | exact Drawn0.refl _ | apply Drawn0.step)⟩
 ·
  rw [if_neg c3] at H
  have c3b0 : ((l0.length : Int) == (l1.length : Int)) = false := beq_eq_false_iff_ne.mpr c3
  have c3b1 : ((l0.length : Int) != (l1.length : Int)) = true := bne_iff_ne.mpr c3
  have c3b2 : (l0.length == l1.length) = false := by first | simpa using c3 | (simp at c3 ⊢; omega)
  obtain rfl := Option.some.inj H
  go_enter Tryd.func30, Tryd.ntmps30
  go_wp2
  repeat (go_quiet (fail); try go_wp2)
  go_ret
  exact ⟨by first | rfl | (simp; done) | (simp [*]; done), by repeat (first | exact Drawn0.refl _ | apply Drawn0.step)⟩

/-! ### laws_markStringS: function 31 -/
def laws_markStringS.l0 : Nat → List ByteArray → Int → Int → Option (Int × List ByteArray)
 | 0, _, _, _ => none
 | k + 1, x0, x1, x5 => if x5 < (x0.length : Int) then ((laws_markText.f k x1).bind fun t350 => (if 0 ≤ x5 then (laws_markStringS.l0 k (x0.set (x5 : Int).toNat t350) (wrap64 (x1 + 1)) (wrap64 (x5 + 1))) else (none))) else (some (x1, x0))
def laws_markStringS.f (k : Nat) (l0 : List ByteArray) (a1 : Int) : Option (Int × List ByteArray) := laws_markStringS.l0 k l0 a1 0
theorem laws_markStringS.mono_l : ∀ k, (∀ y0 y1 y2, LeO (laws_markStringS.l0 k y0 y1 y2) (laws_markStringS.l0 (k + 1) y0 y1 y2))
 | 0 => fun _ _ _ r h => by simp [laws_markStringS.l0] at h
 | k + 1 => by
  have ih0 := laws_markStringS.mono_l k
  ·
   intro y0 y1 y2
   unfold laws_markStringS.l0
   repeat' first
   | (with_reducible exact ih0 _ _ _)
   | (with_reducible exact laws_markText.mono _ _)
   | (with_reducible exact LeO.refl _)
   | (with_reducible exact LeO.none _)
   | (with_reducible refine LeO.ite ?_ ?_)
   | (with_reducible refine LeO.bind ?_ (fun _ => ?_))
   | exact ih0 _ _ _
   | exact laws_markText.mono _ _
   | exact LeO.none _
   | refine LeO.ite ?_ ?_
   | refine LeO.bind ?_ (fun _ => ?_)
theorem laws_markStringS.mono : ∀ a0 a1 k, LeO (laws_markStringS.f k a0 a1) (laws_markStringS.f (k + 1) a0 a1) := by
 intro a0 a1 k
 have ih0 := laws_markStringS.mono_l k
 unfold laws_markStringS.f
 repeat' first
   | (with_reducible exact ih0 _ _ _)
   | (with_reducible exact laws_markText.mono _ _)
   | (with_reducible exact LeO.refl _)
   | (with_reducible exact LeO.none _)
   | (with_reducible refine LeO.ite ?_ ?_)
   | (with_reducible refine LeO.bind ?_ (fun _ => ?_))
   | exact ih0 _ _ _
   | exact laws_markText.mono _ _
   | exact LeO.none _
   | refine LeO.ite ?_ ?_
   | refine LeO.bind ?_ (fun _ => ?_)
set_option maxHeartbeats 8000000 in
set_option maxRecDepth 100000 in
theorem laws_markStringS.calls (k : Nat) (P0_ : Nat → Prop) (u9000_ : Value) (l0 : List ByteArray) (a1 : Int) (r1 : Int) (r2 : List ByteArray) (w0 w : World) (hB : Below w0.heap.size w0 w) (ho0 : Kd.R Kd.string 9 w w0.heap.size P0_ u9000_ l0) (h : laws_markStringS.f k l0 a1 = some (r1, r2)) :
  Calls Tryd.prog 31 #[u9000_, .int .i64 a1] w fun e w' => e = .returned (.int .i64 r1) ∧ Kd.R Kd.string 9 w' w0.heap.size (fun k_ => (P0_ k_ ∨ w.heap.size ≤ k_)) u9000_ r2 ∧ Below w0.heap.size w0 w' ∧ Kept w w' (fun k_ => P0_ k_) := by
 have HO0 := Aside0.mk (show Kd.R Kd.string 9 w w0.heap.size (fun k_ => (P0_ k_ ∨ w.heap.size ≤ k_)) u9000_ l0 from Kd.R_mono ho0 (fun k_ hk => (.inl hk)))
 have HK := Aside0.mk (Kept.refl w (fun k_ => P0_ k_))
 have HW0 := Aside0.mk hB.size
 have HB := Aside0.mk hB
 clear hB
 have H : (laws_markStringS.l0 k l0 a1 0) = some (r1, r2) := h
 clear h
 have H' := Aside0.mk H
 clear H
 go_enter Tryd.func31, Tryd.ntmps31
 go_wp2
 go_loopg [1, 5] k (fun kq v1 v5 w' => ∃ (x0_1 : List ByteArray) (x1_1 : Int) (x5_1 : Int), v1 = .int .i64 x1_1 ∧ v5 = .int .i64 x5_1 ∧ Aside0 (laws_markStringS.l0 kq x0_1 x1_1 x5_1 = some (r1, r2)) ∧ Aside0 (kq ≤ k) ∧ Aside0 (Kd.R Kd.string 9 w' w0.heap.size (fun k_ => (P0_ k_ ∨ w.heap.size ≤ k_)) u9000_ x0_1) ∧ Aside0 (Kept w w' (fun k_ => P0_ k_)) ∧ Aside0 (Below w0.heap.size w0 w'))
 case atStart => exact ⟨(l0), (a1), (0), (by first | rfl | (simp; done) | (simp [*]; done)), (by first | rfl | (simp; done) | (simp [*]; done)), H', ⟨Nat.le_refl _⟩, ⟨rr HO0.out⟩, ⟨by repeat (first | (with_reducible first | exact HK.out | apply Kept.alloc | apply Kept.drewN | apply Kept.drew) | exact HK.out)⟩, ⟨bs HB⟩⟩
 case round =>
  clear H'
  try clear p2
  obtain ⟨x0_1, x1_1, x5_1, rfl, rfl, HA, HK1, HO_0, HK, HB⟩ := hrel
  cases gk with
  | zero => exact absurd HA.out (by simp [laws_markStringS.l0])
  | succ k1 =>
   have H := HA.out
   clear HA
   simp only [laws_markStringS.l0] at H
   by_cases c3 : x5_1 < (x0_1.length : Int)
   ·
    rw [if_pos c3] at H
    have c3b0 : decide (x5_1 < (x0_1.length : Int)) = true := decide_eq_true c3
    clear c3
    replace H := Option.bind_eq_some_iff.mp H
    obtain ⟨t350, A40, H⟩ := H
    replace H : (if 0 ≤ x5_1 then (laws_markStringS.l0 k1 (x0_1.set (x5_1 : Int).toNat t350) (wrap64 (x1_1 + 1)) (wrap64 (x5_1 + 1))) else (none)) = some (r1, r2) := H
    have A4 := Aside0.mk A40
    clear A40
    by_cases c5 : 0 ≤ x5_1
    ·
     rw [if_pos c5] at H
     have c5b0 : decide (0 ≤ x5_1) = true := decide_eq_true c5
     clear c5
     obtain ⟨y351, hy351⟩ : ∃ y_ : List ByteArray, y_ = (x0_1.set (x5_1 : Int).toNat t350) := ⟨_, rfl⟩
     replace H : (laws_markStringS.l0 k1 y351 (wrap64 (x1_1 + 1)) (wrap64 (x5_1 + 1))) = some (r1, r2) := by first | (rw [hy351]; with_reducible exact H) | (have H2_ := (Option.bind_some _ _).symm.trans H; rw [hy351]; with_reducible exact H2_) | (have H2_ := (Option.bind_some _ _).symm.trans H; with_reducible exact H2_) | with_reducible exact H | (rw [hy351]; exact H) | exact H
     have Ny351 := Aside0.mk hy351
     clear hy351
     have H' := Aside0.mk H
     clear H
     obtain ⟨Ao7, co7, eo7⟩ := Kd.R_slice HO_0.out
     subst eo7
     go_wp2_with (first | ((with_reducible refine gate_callee (f := 63) rfl ?_); refine gL (some 15) rfl rfl Tryd.func63 (by kernel_rfl) rfl #[.int .i64 x1_1] rfl ?_; (with_reducible refine (laws_markText.calls k1 x1_1 t350 _ A4.out).mono ?_); rintro e w8 ⟨rfl, hb⟩; refine ⟨_, rfl, ?_⟩; replace HO_0 := nr HO_0 hb; replace HK := Aside0.mk (Kept.below (S := (fun k_ => P0_ k_)) (by repeat (first | (with_reducible first | exact HK.out | apply Kept.alloc | apply Kept.drewN | apply Kept.drew) | exact HK.out)) hb); replace HB := Aside0.mk (below_step (bs HB) hb); (try clear hb); (try clear hb2); (try clear hk); (try clear hi); have p6 : 0 ≤ (x5_1 : Int) := of_decide_eq_true (by first | (with_reducible assumption) | assumption); have q6 : (x5_1 : Int) < ((x0_1.length : Int) : Int) := of_decide_eq_true (by first | (with_reducible assumption) | assumption); obtain ⟨go6, co6, eo6, gb6, gl6, cl6, HG6⟩ := Kd.R_form HO_0.out (by omega); (first | cases eo6 | (injection eo6 with ea_ en_ ec_; (first | subst ea_ | (injection ea_ with ea_; subst ea_)); subst ec_; clear en_)); have GB6 := Aside0.mk gb6; have GG6 := Aside0.mk HG6; clear gb6 gl6 HG6; have HMgo6 := Aside0.mk (show (P0_ go6 ∨ w.heap.size ≤ go6) from (HO_0.out.1 _ rfl)); obtain ⟨hx6_0, hf6_0⟩ := Kd.R_celln (⟨#[]⟩ : ByteArray) HO_0.out (x5_1 : Int) p6 q6; replace p6 := eq_true p6; replace q6 := eq_true q6; obtain ⟨hy9_, hz9_⟩ := Kd.R_celln (⟨#[]⟩ : ByteArray) HO_0.out (x5_1 : Int) (of_decide_eq_true (by first | (with_reducible assumption) | assumption)) (of_decide_eq_true (by first | (with_reducible assumption) | assumption)); have HP9 := Kd.R_putg HO_0.out (x5_1 : Int) t350) | ((with_reducible refine gate_store (t := 9) (p := 16) rfl ?_); refine store_event (t := 9) (p := 16) (v := ?vo_w10) (w1 := (w8.setCell ⟨go6, (x5_1 : Int).toNat, none⟩ (.string t350))) ?hg ?ho ?hn ?hr ?_; (case ho => rfl); (case hg => rfl); (case hn => rfl); (case hr => first | (go_simp; done) | (go_simp; rfl)); intro w10 hw; have hg : w8.grownBy w10 (some go6) := (by rw [hw]; exact HP9.2); have hp_ : Kd.R Kd.string 9 w10 w0.heap.size (fun k_ => (P0_ k_ ∨ w.heap.size ≤ k_)) (.slice (some ⟨go6, 0, none⟩) x0_1.length co7) y351 := (by rw [hw, Ny351.out]; exact HP9.1); clear HP9; replace HB := Aside0.mk ((by rw [hw]; exact below_set (HB.out) GB6.out : Below w0.heap.size w0 w10)); replace HK := Aside0.mk (Kept.of_grown (S := (fun k_ => P0_ k_)) hg (by repeat (first | (with_reducible first | exact HK.out | apply Kept.alloc | apply Kept.drewN | apply Kept.drew) | exact HK.out)) (fun k_ e_ => (HO_0.out.1 k_ e_))); replace HO_0 := Aside0.mk (hp_); clear hg hw hp_))
     go_roundg k1
     case measure => have := HK1.out; omega
     case rel => exact ⟨(y351), (wrap64 (x1_1 + 1)), (wrap64 (x5_1 + 1)), (by first | rfl | (simp; done) | (simp [*]; done)), (by first | rfl | (simp; done) | (simp [*]; done)), H', ⟨by have := HK1.out; omega⟩, ⟨rr HO_0.out⟩, ⟨by repeat (first | (with_reducible first | exact HK.out | apply Kept.alloc | apply Kept.drewN | apply Kept.drew) | exact HK.out)⟩, ⟨bs HB⟩⟩
    ·
     rw [if_neg c5] at H
     exact absurd H (by simp)
   ·
    rw [if_neg c3] at H
    have c3b0 : decide (x5_1 < (x0_1.length : Int)) = false := decide_eq_false c3
    clear c3
    simp only [Option.some.injEq, Prod.mk.injEq] at H
    obtain ⟨rfl, rfl⟩ := H
    obtain ⟨Ao11, co11, eo11⟩ := Kd.R_slice HO_0.out
    subst eo11
    go_wp2
    go_ret
    exact ⟨by first | rfl | (simp [errW_none, errW_some] <;> rfl) | (simp [*, errW_none, errW_some] <;> rfl), by (with_reducible repeat (first | apply Kd.R_alloc | apply Kd.R_drewN | apply Kd.R_drew)); exact HO_0.out, bs HB, by repeat (first | (with_reducible first | exact HK.out | apply Kept.alloc | apply Kept.drewN | apply Kept.drew) | exact HK.out)⟩

/-! ### laws_heldStringS: function 32 -/
def laws_heldStringS.l0 : Nat → List ByteArray → Int → Int → Option (Int)
 | 0, _, _, _ => none
 | k + 1, x0, x1, x5 => if x5 < (x0.length : Int) then (if 0 ≤ x5 then ((laws_markText.f k x1).bind fun t353 => (if (rdOf ByteArray.empty x0 x5).toList = t353.toList then (laws_heldStringS.l0 k x0 (wrap64 (x1 + 1)) (wrap64 (x5 + 1))) else (some (-1)))) else (none)) else (some x1)
def laws_heldStringS.f (k : Nat) (l0 : List ByteArray) (a1 : Int) : Option (Int) := laws_heldStringS.l0 k l0 a1 0
theorem laws_heldStringS.mono_l : ∀ k, (∀ y0 y1 y2, LeO (laws_heldStringS.l0 k y0 y1 y2) (laws_heldStringS.l0 (k + 1) y0 y1 y2))
 | 0 => fun _ _ _ r h => by simp [laws_heldStringS.l0] at h
 | k + 1 => by
  have ih0 := laws_heldStringS.mono_l k
  ·
   intro y0 y1 y2
   unfold laws_heldStringS.l0
   repeat' first
   | (with_reducible exact ih0 _ _ _)
   | (with_reducible exact laws_markText.mono _ _)
   | (with_reducible exact LeO.refl _)
   | (with_reducible exact LeO.none _)
   | (with_reducible refine LeO.ite ?_ ?_)
   | (with_reducible refine LeO.bind ?_ (fun _ => ?_))
   | exact ih0 _ _ _
   | exact laws_markText.mono _ _
   | exact LeO.none _
   | refine LeO.ite ?_ ?_
   | refine LeO.bind ?_ (fun _ => ?_)
theorem laws_heldStringS.mono : ∀ a0 a1 k, LeO (laws_heldStringS.f k a0 a1) (laws_heldStringS.f (k + 1) a0 a1) := by
 intro a0 a1 k
 have ih0 := laws_heldStringS.mono_l k
 unfold laws_heldStringS.f
 repeat' first
   | (with_reducible exact ih0 _ _ _)
   | (with_reducible exact laws_markText.mono _ _)
   | (with_reducible exact LeO.refl _)
   | (with_reducible exact LeO.none _)
   | (with_reducible refine LeO.ite ?_ ?_)
   | (with_reducible refine LeO.bind ?_ (fun _ => ?_))
   | exact ih0 _ _ _
   | exact laws_markText.mono _ _
   | exact LeO.none _
   | refine LeO.ite ?_ ?_
   | refine LeO.bind ?_ (fun _ => ?_)
set_option maxHeartbeats 8000000 in
set_option maxRecDepth 100000 in
theorem laws_heldStringS.calls (k : Nat) (A0 : Option Addr) (c0 : Nat) (l0 : List ByteArray) (a1 : Int) (r : Int) (w : World) (hr0 : Kd.C Kd.string w A0 l0.length l0) (hc0 : l0.length ≤ c0) (h : laws_heldStringS.f k l0 a1 = some r) :
  Calls Tryd.prog 32 #[.slice A0 l0.length c0, .int .i64 a1] w fun e w' => e = .returned (.int .i64 r) ∧ Below w.heap.size w w' := by
 have HR0 := Aside0.mk hr0
 have HC0 := Aside0.mk hc0
 clear hr0 hc0
 have HB := Aside0.mk (Below.refl w.heap.size w)
 have H : (laws_heldStringS.l0 k l0 a1 0) = some r := h
 clear h
 have H' := Aside0.mk H
 clear H
 go_enter Tryd.func32, Tryd.ntmps32
 go_wp2
 go_loopg [1, 5] k (fun kq v1 v5 w' => ∃ (x1_1 : Int) (x5_1 : Int), v1 = .int .i64 x1_1 ∧ v5 = .int .i64 x5_1 ∧ Aside0 (laws_heldStringS.l0 kq l0 x1_1 x5_1 = some r) ∧ Aside0 (kq ≤ k) ∧ Aside0 (Below w.heap.size w w'))
 case atStart => exact ⟨(a1), (0), (by first | rfl | (simp; done) | (simp [*]; done)), (by first | rfl | (simp; done) | (simp [*]; done)), H', ⟨Nat.le_refl _⟩, ⟨bs HB⟩⟩
 case round =>
  clear H'
  try clear p2
  obtain ⟨x1_1, x5_1, rfl, rfl, HA, HK1, HB⟩ := hrel
  cases gk with
  | zero => exact absurd HA.out (by simp [laws_heldStringS.l0])
  | succ k1 =>
   have H := HA.out
   clear HA
   simp only [laws_heldStringS.l0] at H
   by_cases c3 : x5_1 < (l0.length : Int)
   ·
    rw [if_pos c3] at H
    have c3b0 : decide (x5_1 < (l0.length : Int)) = true := decide_eq_true c3
    clear c3
    by_cases c4 : 0 ≤ x5_1
    ·
     rw [if_pos c4] at H
     have c4b0 : decide (0 ≤ x5_1) = true := decide_eq_true c4
     clear c4
     replace H := Option.bind_eq_some_iff.mp H
     obtain ⟨t353, A50, H⟩ := H
     replace H : (if (rdOf ByteArray.empty l0 x5_1).toList = t353.toList then (laws_heldStringS.l0 k1 l0 (wrap64 (x1_1 + 1)) (wrap64 (x5_1 + 1))) else (some (-1))) = some r := H
     have A5 := Aside0.mk A50
     clear A50
     by_cases c6 : (rdOf ByteArray.empty l0 x5_1).toList = t353.toList
     ·
      rw [if_pos c6] at H
      have c6b0 : ((rdOf ByteArray.empty l0 x5_1).toList == t353.toList) = true := beq_iff_eq.mpr c6
      have c6b1 : ((rdOf ByteArray.empty l0 x5_1).toList != t353.toList) = false := bne_eq_false_iff_eq.mpr c6
      clear c6
      have H' := Aside0.mk H
      clear H
      try go_wp2
      have n0_ := Aside0.mk (below_drew1 HB.out)
      clear HB
      have HB := n0_
      clear n0_
      have p352 : 0 ≤ (x5_1 : Int) := of_decide_eq_true (by first | (with_reducible assumption) | assumption)
      have q352 : x5_1 < (l0.length : Int) := of_decide_eq_true (by first | (with_reducible assumption) | assumption)
      obtain ⟨ad352, e352, hx352_0⟩ := Kd.at_string HR0.out x5_1 p352 q352
      have hw352_0 := hx352_0
      cases e352
      replace hx352_0 := (HB.out.cell (World.block_lt_of_cell? w _ hx352_0)).trans hx352_0
      replace p352 := eq_true p352
      replace q352 := eq_true q352
      refine start_ (n := 7) (S := fun w' => w'.cell? (ad352.add (x5_1).toNat) = some (.string (rdOf ByteArray.empty l0 x5_1))) (ds := []) #[false, false, false, false, false, false, false] (by kernel_rfl) rfl rfl (((HB.out.cell (World.block_lt_of_cell? w _ hw352_0)).trans hw352_0)) (fun hHeld => ?_)
      generalize wr.drew = w7 at HB hx352_0 hHeld ⊢
      refine pure_ (i := 0) (N := some 12) (v := ?_) (a' := ?_) #[true, false, false, false, false, false, false] rfl rfl (by kernel_rfl) (fun _ _ _ h => h) (Or.inl ⟨by rfl, ?_⟩) ?_ ?_
      rotate_left
      ·
       intro w'
       go_simp
       with_reducible rfl
      rotate_left
      ·
       simp only [Act.put, List.setIfInBounds_toArray, List.set_cons_zero, List.set_cons_succ, i64_w, i32_w]
       rfl
      refine pure_ (i := 1) (N := some 13) (v := ?_) (a' := ?_) #[true, true, false, false, false, false, false] rfl rfl (by kernel_rfl) (fun _ _ _ h => h) (Or.inl ⟨by rfl, ?_⟩) ?_ ?_
      rotate_left
      ·
       intro w'
       go_simp
       with_reducible rfl
      rotate_left
      ·
       simp only [Act.put, List.setIfInBounds_toArray, List.set_cons_zero, List.set_cons_succ, i64_w, i32_w]
       rfl
      refine pure_ (i := 2) (N := some 14) (v := ?_) (a' := ?_) #[true, true, true, false, false, false, false] rfl rfl (by kernel_rfl) (fun _ _ _ h => h) (Or.inl ⟨by rfl, ?_⟩) ?_ ?_
      rotate_left
      ·
       intro w'
       go_simp
       with_reducible rfl
      rotate_left
      ·
       simp only [Act.put, List.setIfInBounds_toArray, List.set_cons_zero, List.set_cons_succ, i64_w, i32_w]
       rfl
      refine pure_ (i := 4) (N := some 16) (v := ?_) (a' := ?_) #[true, true, true, false, true, false, false] rfl rfl (by kernel_rfl) (fun _ _ _ h => h) (Or.inl ⟨by rfl, ?_⟩) ?_ ?_
      rotate_left
      ·
       intro w'
       go_simp
       with_reducible rfl
      rotate_left
      ·
       simp only [Act.put, List.setIfInBounds_toArray, List.set_cons_zero, List.set_cons_succ, i64_w, i32_w]
       rfl
      refine take_ (i := 3) (N := some 15) (v := ?_) (a' := ?_) #[true, true, true, true, true, false, false] rfl rfl (by kernel_rfl) (fun _ _ _ h => h) (Or.inl ⟨by rfl, ?_⟩) hHeld ?_ ?_
      rotate_left
      ·
       intro w' s0
       go_simp
       with_reducible rfl
      rotate_left
      ·
       simp only [Act.put, List.setIfInBounds_toArray, List.set_cons_zero, List.set_cons_succ, i64_w, i32_w]
       rfl
      refine one_ (i := 5) (N := some 17) #[true, true, true, true, true, true, false] rfl rfl (by kernel_rfl) (by decide) (fun K hK => ?_)
      refine goes_ Tryd.func63 (by kernel_rfl) rfl #[.int .i64 x1_1] (by rfl) rfl rfl (by (try simp only [List.map_toArray, List.map_cons, List.map_nil]); first | done | rfl | (simp only [List.length_drop, List.length_take]; rfl)) ?_
      with_reducible refine (laws_markText.calls k1 x1_1 t353 _ A5.out).mono ?_
      rintro e w8 ⟨rfl, hb⟩
      refine ⟨_, rfl, ?_⟩
      have n0_ := Aside0.mk (below_step (bs HB) hb)
      clear HB
      have HB := n0_
      clear n0_
      (try clear hb)
      (try clear hb2)
      (try clear hk)
      (try clear hi)
      refine hK.out _ _ (((HB.out.cell (World.block_lt_of_cell? w _ hw352_0)).trans hw352_0)) (fun hHeld => ?_)
      clear hK K
      refine norm_ (a' := ?_) ?_ ?_
      rotate_left
      ·
       show Act.put _ (some 17) _ = _
       simp only [Act.put, List.setIfInBounds_toArray, List.set_cons_zero, List.set_cons_succ, i64_w, i32_w]
       rfl
      refine pure_ (i := 6) (N := some 18) (v := ?_) (a' := ?_) #[true, true, true, true, true, true, true] rfl rfl (by kernel_rfl) (fun _ _ _ h => h) (Or.inl ⟨by rfl, ?_⟩) ?_ ?_
      rotate_left
      ·
       intro w'
       go_simp
       with_reducible rfl
      rotate_left
      ·
       simp only [Act.put, List.setIfInBounds_toArray, List.set_cons_zero, List.set_cons_succ, i64_w, i32_w]
       rfl
      refine done_ (by kernel_rfl) ?_
      try go_wp2
      go_roundg k1
      case measure => have := HK1.out; omega
      case rel => exact ⟨(wrap64 (x1_1 + 1)), (wrap64 (x5_1 + 1)), (by first | rfl | (simp; done) | (simp [*]; done)), (by first | rfl | (simp; done) | (simp [*]; done)), H', ⟨by have := HK1.out; omega⟩, ⟨bs HB⟩⟩
     ·
      rw [if_neg c6] at H
      have c6b0 : ((rdOf ByteArray.empty l0 x5_1).toList == t353.toList) = false := beq_eq_false_iff_ne.mpr c6
      have c6b1 : ((rdOf ByteArray.empty l0 x5_1).toList != t353.toList) = true := bne_iff_ne.mpr c6
      obtain rfl := Option.some.inj H
      try go_wp2
      have n0_ := Aside0.mk (below_drew1 HB.out)
      clear HB
      have HB := n0_
      clear n0_
      have p352 : 0 ≤ (x5_1 : Int) := of_decide_eq_true (by first | (with_reducible assumption) | assumption)
      have q352 : x5_1 < (l0.length : Int) := of_decide_eq_true (by first | (with_reducible assumption) | assumption)
      obtain ⟨ad352, e352, hx352_0⟩ := Kd.at_string HR0.out x5_1 p352 q352
      have hw352_0 := hx352_0
      cases e352
      replace hx352_0 := (HB.out.cell (World.block_lt_of_cell? w _ hx352_0)).trans hx352_0
      replace p352 := eq_true p352
      replace q352 := eq_true q352
      refine start_ (n := 7) (S := fun w' => w'.cell? (ad352.add (x5_1).toNat) = some (.string (rdOf ByteArray.empty l0 x5_1))) (ds := []) #[false, false, false, false, false, false, false] (by kernel_rfl) rfl rfl (((HB.out.cell (World.block_lt_of_cell? w _ hw352_0)).trans hw352_0)) (fun hHeld => ?_)
      generalize wr.drew = w9 at HB hx352_0 hHeld ⊢
      refine pure_ (i := 0) (N := some 12) (v := ?_) (a' := ?_) #[true, false, false, false, false, false, false] rfl rfl (by kernel_rfl) (fun _ _ _ h => h) (Or.inl ⟨by rfl, ?_⟩) ?_ ?_
      rotate_left
      ·
       intro w'
       go_simp
       with_reducible rfl
      rotate_left
      ·
       simp only [Act.put, List.setIfInBounds_toArray, List.set_cons_zero, List.set_cons_succ, i64_w, i32_w]
       rfl
      refine pure_ (i := 1) (N := some 13) (v := ?_) (a' := ?_) #[true, true, false, false, false, false, false] rfl rfl (by kernel_rfl) (fun _ _ _ h => h) (Or.inl ⟨by rfl, ?_⟩) ?_ ?_
      rotate_left
      ·
       intro w'
       go_simp
       with_reducible rfl
      rotate_left
      ·
       simp only [Act.put, List.setIfInBounds_toArray, List.set_cons_zero, List.set_cons_succ, i64_w, i32_w]
       rfl
      refine pure_ (i := 2) (N := some 14) (v := ?_) (a' := ?_) #[true, true, true, false, false, false, false] rfl rfl (by kernel_rfl) (fun _ _ _ h => h) (Or.inl ⟨by rfl, ?_⟩) ?_ ?_
      rotate_left
      ·
       intro w'
       go_simp
       with_reducible rfl
      rotate_left
      ·
       simp only [Act.put, List.setIfInBounds_toArray, List.set_cons_zero, List.set_cons_succ, i64_w, i32_w]
       rfl
      refine pure_ (i := 4) (N := some 16) (v := ?_) (a' := ?_) #[true, true, true, false, true, false, false] rfl rfl (by kernel_rfl) (fun _ _ _ h => h) (Or.inl ⟨by rfl, ?_⟩) ?_ ?_
      rotate_left
      ·
       intro w'
       go_simp
       with_reducible rfl
      rotate_left
      ·
       simp only [Act.put, List.setIfInBounds_toArray, List.set_cons_zero, List.set_cons_succ, i64_w, i32_w]
       rfl
      refine take_ (i := 3) (N := some 15) (v := ?_) (a' := ?_) #[true, true, true, true, true, false, false] rfl rfl (by kernel_rfl) (fun _ _ _ h => h) (Or.inl ⟨by rfl, ?_⟩) hHeld ?_ ?_
      rotate_left
      ·
       intro w' s0
       go_simp
       with_reducible rfl
      rotate_left
      ·
       simp only [Act.put, List.setIfInBounds_toArray, List.set_cons_zero, List.set_cons_succ, i64_w, i32_w]
       rfl
      refine one_ (i := 5) (N := some 17) #[true, true, true, true, true, true, false] rfl rfl (by kernel_rfl) (by decide) (fun K hK => ?_)
      refine goes_ Tryd.func63 (by kernel_rfl) rfl #[.int .i64 x1_1] (by rfl) rfl rfl (by (try simp only [List.map_toArray, List.map_cons, List.map_nil]); first | done | rfl | (simp only [List.length_drop, List.length_take]; rfl)) ?_
      with_reducible refine (laws_markText.calls k1 x1_1 t353 _ A5.out).mono ?_
      rintro e w10 ⟨rfl, hb⟩
      refine ⟨_, rfl, ?_⟩
      have n0_ := Aside0.mk (below_step (bs HB) hb)
      clear HB
      have HB := n0_
      clear n0_
      (try clear hb)
      (try clear hb2)
      (try clear hk)
      (try clear hi)
      refine hK.out _ _ (((HB.out.cell (World.block_lt_of_cell? w _ hw352_0)).trans hw352_0)) (fun hHeld => ?_)
      clear hK K
      refine norm_ (a' := ?_) ?_ ?_
      rotate_left
      ·
       show Act.put _ (some 17) _ = _
       simp only [Act.put, List.setIfInBounds_toArray, List.set_cons_zero, List.set_cons_succ, i64_w, i32_w]
       rfl
      refine pure_ (i := 6) (N := some 18) (v := ?_) (a' := ?_) #[true, true, true, true, true, true, true] rfl rfl (by kernel_rfl) (fun _ _ _ h => h) (Or.inl ⟨by rfl, ?_⟩) ?_ ?_
      rotate_left
      ·
       intro w'
       go_simp
       with_reducible rfl
      rotate_left
      ·
       simp only [Act.put, List.setIfInBounds_toArray, List.set_cons_zero, List.set_cons_succ, i64_w, i32_w]
       rfl
      refine done_ (by kernel_rfl) ?_
      try go_wp2
      go_ret
      exact ⟨by first | rfl | (simp [errW_none, errW_some] <;> rfl) | (simp [*, errW_none, errW_some] <;> rfl), bs HB⟩
    ·
     rw [if_neg c4] at H
     exact absurd H (by simp)
   ·
    rw [if_neg c3] at H
    have c3b0 : decide (x5_1 < (l0.length : Int)) = false := decide_eq_false c3
    clear c3
    obtain rfl := Option.some.inj H
    go_wp2
    go_ret
    exact ⟨by first | rfl | (simp [errW_none, errW_some] <;> rfl) | (simp [*, errW_none, errW_some] <;> rfl), bs HB⟩

/-! ### laws_FnExactRecordsOf: function 7 -/
mutual
def laws_FnExactRecordsOf.j0 : Nat → List ByteArray → Bool → List ByteArray → Bool → Bool → List (S23) → Int → Int → Int → List (S26) → Int → Int → Int → Option (Bool)
 | 0, _, _, _, _, _, _, _, _, _, _, _, _, _ => none
 | k + 1, x4, x5, x7, x8, x40, x355000, x355001, x355002, x355003, x373000, x373001, x373002, x373003 => if x40 = true then (some false) else ((laws_toRing.f k x355000 x355001 x355002 x355003).bind fun bt378 => ((laws_eqRing.f k x373000 x373001 x373002 x373003 bt378.1 bt378.2.1 bt378.2.2.1 bt378.2.2.2).bind fun t384 => (if t384 = true then ((laws_markRing.f k x373000 x373001 x373002 x373003 1).bind fun bt385 => (if bt385.1 < 0 then (laws_FnExactRecordsOf.j1 k x4 x5 x7 true x355000 x355001 x355002 x355003) else ((laws_eqStringS.f k x7 x4).bind fun t387 => (if t387 = true then (laws_FnExactRecordsOf.j1 k x4 x5 x7 (x8 != x5) x355000 x355001 x355002 x355003) else (laws_FnExactRecordsOf.j1 k x4 x5 x7 true x355000 x355001 x355002 x355003))))) else (some false))))
def laws_FnExactRecordsOf.j1 : Nat → List ByteArray → Bool → List ByteArray → Bool → List (S23) → Int → Int → Int → Option (Bool)
 | 0, _, _, _, _, _, _, _, _ => none
 | k + 1, x4, x5, x7, x61, x355000, x355001, x355002, x355003 => if x61 = true then (some false) else ((laws_markStringS.f k x7 1).bind fun bt388 => ((laws_heldStringS.f k bt388.2 1).bind fun t390 => (if t390 < 0 then (some false) else (if t390 = bt388.1 then ((laws_toRing.f k x355000 x355001 x355002 x355003).bind fun bt391 => ((impl_RecordsOf.f k bt391.1 bt391.2.1 bt391.2.2.1 bt391.2.2.2).bind fun bt397 => ((laws_eqStringS.f k bt397.1 x4).bind fun t401 => (if t401 = true then (laws_FnExactRecordsOf.j2 k bt388.2 bt388.1 (bt397.2 != x5)) else (laws_FnExactRecordsOf.j2 k bt388.2 bt388.1 true))))) else (some false)))))
def laws_FnExactRecordsOf.j2 : Nat → List ByteArray → Int → Bool → Option (Bool)
 | 0, _, _, _ => none
 | k + 1, x7, x10, x87 => if x87 = true then (some false) else ((laws_heldStringS.f k x7 1).bind fun t402 => (if t402 < 0 then (some false) else (if t402 = x10 then (some true) else (some false))))
end
def laws_FnExactRecordsOf.f (k : Nat) (l0_0 : List (S23)) (a0_1 : Int) (a0_2 : Int) (a0_3 : Int) : Option (Bool) := (laws_szRing.f k l0_0 a0_1 a0_2 a0_3 1048576).bind fun t355 => (if t355 < 0 then (some true) else ((laws_toRing.f k l0_0 a0_1 a0_2 a0_3).bind fun bt356 => ((spec_RecordsOf.f k bt356.1 bt356.2.1 bt356.2.2.1 bt356.2.2.2).bind fun bt362 => ((laws_toRing.f k l0_0 a0_1 a0_2 a0_3).bind fun bt366 => ((impl_RecordsOf.f k bt366.1 bt366.2.1 bt366.2.2.1 bt366.2.2.2).bind fun bt373 => ((laws_eqStringS.f k bt373.1 bt362.1).bind fun t377 => (if t377 = true then (laws_FnExactRecordsOf.j0 k bt362.1 bt362.2 bt373.1 bt373.2 (bt373.2 != bt362.2) l0_0 a0_1 a0_2 a0_3 bt366.1 bt366.2.1 bt366.2.2.1 bt366.2.2.2) else (laws_FnExactRecordsOf.j0 k bt362.1 bt362.2 bt373.1 bt373.2 true l0_0 a0_1 a0_2 a0_3 bt366.1 bt366.2.1 bt366.2.2.1 bt366.2.2.2))))))))
theorem laws_FnExactRecordsOf.mono_l : ∀ k, (∀ y0 y1 y2 y3 y4 y5 y6 y7 y8 y9 y10 y11 y12, LeO (laws_FnExactRecordsOf.j0 k y0 y1 y2 y3 y4 y5 y6 y7 y8 y9 y10 y11 y12) (laws_FnExactRecordsOf.j0 (k + 1) y0 y1 y2 y3 y4 y5 y6 y7 y8 y9 y10 y11 y12)) ∧ (∀ y0 y1 y2 y3 y4 y5 y6 y7, LeO (laws_FnExactRecordsOf.j1 k y0 y1 y2 y3 y4 y5 y6 y7) (laws_FnExactRecordsOf.j1 (k + 1) y0 y1 y2 y3 y4 y5 y6 y7)) ∧ (∀ y0 y1 y2, LeO (laws_FnExactRecordsOf.j2 k y0 y1 y2) (laws_FnExactRecordsOf.j2 (k + 1) y0 y1 y2))
 | 0 => ⟨fun _ _ _ _ _ _ _ _ _ _ _ _ _ r h => by simp [laws_FnExactRecordsOf.j0] at h, fun _ _ _ _ _ _ _ _ r h => by simp [laws_FnExactRecordsOf.j1] at h, fun _ _ _ r h => by simp [laws_FnExactRecordsOf.j2] at h⟩
 | k + 1 => by
  obtain ⟨ih0, ih1, ih2⟩ := laws_FnExactRecordsOf.mono_l k
  refine ⟨?_, ?_, ?_⟩
  ·
   intro y0 y1 y2 y3 y4 y5 y6 y7 y8 y9 y10 y11 y12
   unfold laws_FnExactRecordsOf.j0
   repeat' first
   | (with_reducible exact ih0 _ _ _ _ _ _ _ _ _ _ _ _ _)
   | (with_reducible exact ih1 _ _ _ _ _ _ _ _)
   | (with_reducible exact ih2 _ _ _)
   | (with_reducible exact impl_RecordsOf.mono _ _ _ _ _)
   | (with_reducible exact laws_eqRing.mono _ _ _ _ _ _ _ _ _)
   | (with_reducible exact laws_eqStringS.mono _ _ _)
   | (with_reducible exact laws_heldStringS.mono _ _ _)
   | (with_reducible exact laws_markRing.mono _ _ _ _ _ _)
   | (with_reducible exact laws_markStringS.mono _ _ _)
   | (with_reducible exact laws_szRing.mono _ _ _ _ _ _)
   | (with_reducible exact laws_toRing.mono _ _ _ _ _)
   | (with_reducible exact spec_RecordsOf.mono _ _ _ _ _)
   | (with_reducible exact LeO.refl _)
   | (with_reducible exact LeO.none _)
   | (with_reducible refine LeO.ite ?_ ?_)
   | (with_reducible refine LeO.bind ?_ (fun _ => ?_))
   | exact ih0 _ _ _ _ _ _ _ _ _ _ _ _ _
   | exact ih1 _ _ _ _ _ _ _ _
   | exact ih2 _ _ _
   | exact impl_RecordsOf.mono _ _ _ _ _
   | exact laws_eqRing.mono _ _ _ _ _ _ _ _ _
   | exact laws_eqStringS.mono _ _ _
   | exact laws_heldStringS.mono _ _ _
   | exact laws_markRing.mono _ _ _ _ _ _
   | exact laws_markStringS.mono _ _ _
   | exact laws_szRing.mono _ _ _ _ _ _
   | exact laws_toRing.mono _ _ _ _ _
   | exact spec_RecordsOf.mono _ _ _ _ _
   | exact LeO.none _
   | refine LeO.ite ?_ ?_
   | refine LeO.bind ?_ (fun _ => ?_)
  ·
   intro y0 y1 y2 y3 y4 y5 y6 y7
   unfold laws_FnExactRecordsOf.j1
   repeat' first
   | (with_reducible exact ih0 _ _ _ _ _ _ _ _ _ _ _ _ _)
   | (with_reducible exact ih1 _ _ _ _ _ _ _ _)
   | (with_reducible exact ih2 _ _ _)
   | (with_reducible exact impl_RecordsOf.mono _ _ _ _ _)
   | (with_reducible exact laws_eqRing.mono _ _ _ _ _ _ _ _ _)
   | (with_reducible exact laws_eqStringS.mono _ _ _)
   | (with_reducible exact laws_heldStringS.mono _ _ _)
   | (with_reducible exact laws_markRing.mono _ _ _ _ _ _)
   | (with_reducible exact laws_markStringS.mono _ _ _)
   | (with_reducible exact laws_szRing.mono _ _ _ _ _ _)
   | (with_reducible exact laws_toRing.mono _ _ _ _ _)
   | (with_reducible exact spec_RecordsOf.mono _ _ _ _ _)
   | (with_reducible exact LeO.refl _)
   | (with_reducible exact LeO.none _)
   | (with_reducible refine LeO.ite ?_ ?_)
   | (with_reducible refine LeO.bind ?_ (fun _ => ?_))
   | exact ih0 _ _ _ _ _ _ _ _ _ _ _ _ _
   | exact ih1 _ _ _ _ _ _ _ _
   | exact ih2 _ _ _
   | exact impl_RecordsOf.mono _ _ _ _ _
   | exact laws_eqRing.mono _ _ _ _ _ _ _ _ _
   | exact laws_eqStringS.mono _ _ _
   | exact laws_heldStringS.mono _ _ _
   | exact laws_markRing.mono _ _ _ _ _ _
   | exact laws_markStringS.mono _ _ _
   | exact laws_szRing.mono _ _ _ _ _ _
   | exact laws_toRing.mono _ _ _ _ _
   | exact spec_RecordsOf.mono _ _ _ _ _
   | exact LeO.none _
   | refine LeO.ite ?_ ?_
   | refine LeO.bind ?_ (fun _ => ?_)
  ·
   intro y0 y1 y2
   unfold laws_FnExactRecordsOf.j2
   repeat' first
   | (with_reducible exact ih0 _ _ _ _ _ _ _ _ _ _ _ _ _)
   | (with_reducible exact ih1 _ _ _ _ _ _ _ _)
   | (with_reducible exact ih2 _ _ _)
   | (with_reducible exact impl_RecordsOf.mono _ _ _ _ _)
   | (with_reducible exact laws_eqRing.mono _ _ _ _ _ _ _ _ _)
   | (with_reducible exact laws_eqStringS.mono _ _ _)
   | (with_reducible exact laws_heldStringS.mono _ _ _)
   | (with_reducible exact laws_markRing.mono _ _ _ _ _ _)
   | (with_reducible exact laws_markStringS.mono _ _ _)
   | (with_reducible exact laws_szRing.mono _ _ _ _ _ _)
   | (with_reducible exact laws_toRing.mono _ _ _ _ _)
   | (with_reducible exact spec_RecordsOf.mono _ _ _ _ _)
   | (with_reducible exact LeO.refl _)
   | (with_reducible exact LeO.none _)
   | (with_reducible refine LeO.ite ?_ ?_)
   | (with_reducible refine LeO.bind ?_ (fun _ => ?_))
   | exact ih0 _ _ _ _ _ _ _ _ _ _ _ _ _
   | exact ih1 _ _ _ _ _ _ _ _
   | exact ih2 _ _ _
   | exact impl_RecordsOf.mono _ _ _ _ _
   | exact laws_eqRing.mono _ _ _ _ _ _ _ _ _
   | exact laws_eqStringS.mono _ _ _
   | exact laws_heldStringS.mono _ _ _
   | exact laws_markRing.mono _ _ _ _ _ _
   | exact laws_markStringS.mono _ _ _
   | exact laws_szRing.mono _ _ _ _ _ _
   | exact laws_toRing.mono _ _ _ _ _
   | exact spec_RecordsOf.mono _ _ _ _ _
   | exact LeO.none _
   | refine LeO.ite ?_ ?_
   | refine LeO.bind ?_ (fun _ => ?_)
theorem laws_FnExactRecordsOf.mono : ∀ a0 a1 a2 a3 k, LeO (laws_FnExactRecordsOf.f k a0 a1 a2 a3) (laws_FnExactRecordsOf.f (k + 1) a0 a1 a2 a3) := by
 intro a0 a1 a2 a3 k
 obtain ⟨ih0, ih1, ih2⟩ := laws_FnExactRecordsOf.mono_l k
 unfold laws_FnExactRecordsOf.f
 repeat' first
   | (with_reducible exact ih0 _ _ _ _ _ _ _ _ _ _ _ _ _)
   | (with_reducible exact ih1 _ _ _ _ _ _ _ _)
   | (with_reducible exact ih2 _ _ _)
   | (with_reducible exact impl_RecordsOf.mono _ _ _ _ _)
   | (with_reducible exact laws_eqRing.mono _ _ _ _ _ _ _ _ _)
   | (with_reducible exact laws_eqStringS.mono _ _ _)
   | (with_reducible exact laws_heldStringS.mono _ _ _)
   | (with_reducible exact laws_markRing.mono _ _ _ _ _ _)
   | (with_reducible exact laws_markStringS.mono _ _ _)
   | (with_reducible exact laws_szRing.mono _ _ _ _ _ _)
   | (with_reducible exact laws_toRing.mono _ _ _ _ _)
   | (with_reducible exact spec_RecordsOf.mono _ _ _ _ _)
   | (with_reducible exact LeO.refl _)
   | (with_reducible exact LeO.none _)
   | (with_reducible refine LeO.ite ?_ ?_)
   | (with_reducible refine LeO.bind ?_ (fun _ => ?_))
   | exact ih0 _ _ _ _ _ _ _ _ _ _ _ _ _
   | exact ih1 _ _ _ _ _ _ _ _
   | exact ih2 _ _ _
   | exact impl_RecordsOf.mono _ _ _ _ _
   | exact laws_eqRing.mono _ _ _ _ _ _ _ _ _
   | exact laws_eqStringS.mono _ _ _
   | exact laws_heldStringS.mono _ _ _
   | exact laws_markRing.mono _ _ _ _ _ _
   | exact laws_markStringS.mono _ _ _
   | exact laws_szRing.mono _ _ _ _ _ _
   | exact laws_toRing.mono _ _ _ _ _
   | exact spec_RecordsOf.mono _ _ _ _ _
   | exact LeO.none _
   | refine LeO.ite ?_ ?_
   | refine LeO.bind ?_ (fun _ => ?_)
set_option maxHeartbeats 8000000 in
set_option maxRecDepth 100000 in
theorem laws_FnExactRecordsOf.calls (k : Nat) (A0_0 : Option Addr) (c0_0 : Nat) (l0_0 : List (S23)) (a0_1 : Int) (a0_2 : Int) (a0_3 : Int) (r : Bool) (w : World) (hTab_ : Aside0 (Ito.TabW w)) (hr0_0 : Kd.C k23 w A0_0 l0_0.length l0_0) (hc0_0 : l0_0.length ≤ c0_0) (h : laws_FnExactRecordsOf.f k l0_0 a0_1 a0_2 a0_3 = some r) :
  Calls Tryd.prog 7 #[.agg #[.slice A0_0 l0_0.length c0_0, .int .i64 a0_1, .int .i64 a0_2, .int .i64 a0_3]] w fun e w' => e = .returned (.bool r) ∧ Below w.heap.size w w' := by
 have hu31 := Tryd.underlying31
 have hu36 := Tryd.underlying36
 have HR0_0 := Aside0.mk hr0_0
 have HC0_0 := Aside0.mk hc0_0
 clear hr0_0 hc0_0
 have HB := Aside0.mk (Below.refl w.heap.size w)
 have H : ((laws_szRing.f k l0_0 a0_1 a0_2 a0_3 1048576).bind fun t355 => (if t355 < 0 then (some true) else ((laws_toRing.f k l0_0 a0_1 a0_2 a0_3).bind fun bt356 => ((spec_RecordsOf.f k bt356.1 bt356.2.1 bt356.2.2.1 bt356.2.2.2).bind fun bt362 => ((laws_toRing.f k l0_0 a0_1 a0_2 a0_3).bind fun bt366 => ((impl_RecordsOf.f k bt366.1 bt366.2.1 bt366.2.2.1 bt366.2.2.2).bind fun bt373 => ((laws_eqStringS.f k bt373.1 bt362.1).bind fun t377 => (if t377 = true then (laws_FnExactRecordsOf.j0 k bt362.1 bt362.2 bt373.1 bt373.2 (bt373.2 != bt362.2) l0_0 a0_1 a0_2 a0_3 bt366.1 bt366.2.1 bt366.2.2.1 bt366.2.2.2) else (laws_FnExactRecordsOf.j0 k bt362.1 bt362.2 bt373.1 bt373.2 true l0_0 a0_1 a0_2 a0_3 bt366.1 bt366.2.1 bt366.2.2.1 bt366.2.2.2))))))))) = some r := h
 clear h
 replace H := Option.bind_eq_some_iff.mp H
 obtain ⟨t355, A20, H⟩ := H
 replace H : (if t355 < 0 then (some true) else ((laws_toRing.f k l0_0 a0_1 a0_2 a0_3).bind fun bt356 => ((spec_RecordsOf.f k bt356.1 bt356.2.1 bt356.2.2.1 bt356.2.2.2).bind fun bt362 => ((laws_toRing.f k l0_0 a0_1 a0_2 a0_3).bind fun bt366 => ((impl_RecordsOf.f k bt366.1 bt366.2.1 bt366.2.2.1 bt366.2.2.2).bind fun bt373 => ((laws_eqStringS.f k bt373.1 bt362.1).bind fun t377 => (if t377 = true then (laws_FnExactRecordsOf.j0 k bt362.1 bt362.2 bt373.1 bt373.2 (bt373.2 != bt362.2) l0_0 a0_1 a0_2 a0_3 bt366.1 bt366.2.1 bt366.2.2.1 bt366.2.2.2) else (laws_FnExactRecordsOf.j0 k bt362.1 bt362.2 bt373.1 bt373.2 true l0_0 a0_1 a0_2 a0_3 bt366.1 bt366.2.1 bt366.2.2.1 bt366.2.2.2)))))))) = some r := H
 have A2 := Aside0.mk A20
 clear A20
 by_cases c3 : t355 < 0
 ·
  rw [if_pos c3] at H
  have c3b0 : decide (t355 < 0) = true := decide_eq_true c3
  clear c3
  obtain rfl := Option.some.inj H
  go_enter Tryd.func7, Tryd.ntmps7
  go_wp2_with (first | ((with_reducible refine gate_dst (N := 1) rfl ?_); refine box_event ?hg (N := 1) ?hd (cs := #[.slice A0_0 l0_0.length c0_0, .int .i64 a0_1, .int .i64 a0_2, .int .i64 a0_3]) (t := 31) ?hr ?_; (case hd => rfl); (case hg => rfl); (case hr => first | (go_simp; done) | (go_simp; rfl)); intro gb354 hg w4 hbox hb; have BK354 := Aside0.mk (hbox); have GW354 := Aside0.mk ((by rw [hg]; exact (below_size (bs HB)) : w.heap.size ≤ gb354)); have GE354 := Aside0.mk ((by rw [hg]; exact (below_size (bs HB)) : w.heap.size ≤ gb354)); replace HB := Aside0.mk (below_step (bs HB) hb); clear hb hbox hg; obtain ⟨hcz5_0, hcz5_1, hcz5_2, hcz5_3⟩ := cz4 BK354; obtain ⟨hfz5_0, hfz5_1, hfz5_2, hfz5_3⟩ := fz4 BK354) | ((with_reducible refine gate_callee (f := 17) rfl ?_); refine gL (some 16) rfl rfl Tryd.func17 (by kernel_rfl) rfl #[.agg #[.slice A0_0 l0_0.length c0_0, .int .i64 a0_1, .int .i64 a0_2, .int .i64 a0_3], .int .i64 1048576] rfl ?_; (with_reducible refine (laws_szRing.calls k _ _ l0_0 a0_1 a0_2 a0_3 1048576 t355 _ ?side1 ?side2 A2.out).mono ?_); (case side1 => exact cb HR0_0 HB); (case side2 => exact HC0_0.out); rintro e w6 ⟨rfl, hb⟩; refine ⟨_, rfl, ?_⟩; replace BK354 := nb BK354 hb; replace HB := Aside0.mk (below_step (bs1 HB GE354) hb); (try clear hb); (try clear hb2); (try clear hk); (try clear hi)))
  go_ret
  exact ⟨by first | rfl | (simp [errW_none, errW_some] <;> rfl) | (simp [*, errW_none, errW_some] <;> rfl), bs1 HB GE354⟩
 ·
  rw [if_neg c3] at H
  have c3b0 : decide (t355 < 0) = false := decide_eq_false c3
  clear c3
  replace H := Option.bind_eq_some_iff.mp H
  obtain ⟨⟨t356, t359, t360, t361⟩, A70, H⟩ := H
  replace H : ((spec_RecordsOf.f k t356 t359 t360 t361).bind fun bt362 => ((laws_toRing.f k l0_0 a0_1 a0_2 a0_3).bind fun bt366 => ((impl_RecordsOf.f k bt366.1 bt366.2.1 bt366.2.2.1 bt366.2.2.2).bind fun bt373 => ((laws_eqStringS.f k bt373.1 bt362.1).bind fun t377 => (if t377 = true then (laws_FnExactRecordsOf.j0 k bt362.1 bt362.2 bt373.1 bt373.2 (bt373.2 != bt362.2) l0_0 a0_1 a0_2 a0_3 bt366.1 bt366.2.1 bt366.2.2.1 bt366.2.2.2) else (laws_FnExactRecordsOf.j0 k bt362.1 bt362.2 bt373.1 bt373.2 true l0_0 a0_1 a0_2 a0_3 bt366.1 bt366.2.1 bt366.2.2.1 bt366.2.2.2)))))) = some r := H
  have A7 := Aside0.mk A70
  clear A70
  replace H := Option.bind_eq_some_iff.mp H
  obtain ⟨⟨t362, t365⟩, A80, H⟩ := H
  replace H : ((laws_toRing.f k l0_0 a0_1 a0_2 a0_3).bind fun bt366 => ((impl_RecordsOf.f k bt366.1 bt366.2.1 bt366.2.2.1 bt366.2.2.2).bind fun bt373 => ((laws_eqStringS.f k bt373.1 t362).bind fun t377 => (if t377 = true then (laws_FnExactRecordsOf.j0 k t362 t365 bt373.1 bt373.2 (bt373.2 != t365) l0_0 a0_1 a0_2 a0_3 bt366.1 bt366.2.1 bt366.2.2.1 bt366.2.2.2) else (laws_FnExactRecordsOf.j0 k t362 t365 bt373.1 bt373.2 true l0_0 a0_1 a0_2 a0_3 bt366.1 bt366.2.1 bt366.2.2.1 bt366.2.2.2))))) = some r := H
  have A8 := Aside0.mk A80
  clear A80
  replace H := Option.bind_eq_some_iff.mp H
  obtain ⟨⟨t366, t369, t370, t371⟩, A90, H⟩ := H
  replace H : ((impl_RecordsOf.f k t366 t369 t370 t371).bind fun bt373 => ((laws_eqStringS.f k bt373.1 t362).bind fun t377 => (if t377 = true then (laws_FnExactRecordsOf.j0 k t362 t365 bt373.1 bt373.2 (bt373.2 != t365) l0_0 a0_1 a0_2 a0_3 t366 t369 t370 t371) else (laws_FnExactRecordsOf.j0 k t362 t365 bt373.1 bt373.2 true l0_0 a0_1 a0_2 a0_3 t366 t369 t370 t371)))) = some r := H
  have A9 := Aside0.mk A90
  clear A90
  replace H := Option.bind_eq_some_iff.mp H
  obtain ⟨⟨t373, t376⟩, A100, H⟩ := H
  replace H : ((laws_eqStringS.f k t373 t362).bind fun t377 => (if t377 = true then (laws_FnExactRecordsOf.j0 k t362 t365 t373 t376 (t376 != t365) l0_0 a0_1 a0_2 a0_3 t366 t369 t370 t371) else (laws_FnExactRecordsOf.j0 k t362 t365 t373 t376 true l0_0 a0_1 a0_2 a0_3 t366 t369 t370 t371))) = some r := H
  have A10 := Aside0.mk A100
  clear A100
  have HC11 := Aside0.mk H
  clear H
  go_enter Tryd.func7, Tryd.ntmps7
  go_upto_region 8 with (first | ((with_reducible refine gate_dst (N := 1) rfl ?_); refine box_event ?hg (N := 1) ?hd (cs := #[.slice A0_0 l0_0.length c0_0, .int .i64 a0_1, .int .i64 a0_2, .int .i64 a0_3]) (t := 31) ?hr ?_; (case hd => rfl); (case hg => rfl); (case hr => first | (go_simp; done) | (go_simp; rfl)); intro gb354 hg w12 hbox hb; have BK354 := Aside0.mk (hbox); have GW354 := Aside0.mk ((by rw [hg]; exact (below_size (bs HB)) : w.heap.size ≤ gb354)); have GE354 := Aside0.mk ((by rw [hg]; exact (below_size (bs HB)) : w.heap.size ≤ gb354)); replace HB := Aside0.mk (below_step (bs HB) hb); clear hb hbox hg; obtain ⟨hcz13_0, hcz13_1, hcz13_2, hcz13_3⟩ := cz4 BK354; obtain ⟨hfz13_0, hfz13_1, hfz13_2, hfz13_3⟩ := fz4 BK354) | ((with_reducible refine gate_callee (f := 17) rfl ?_); refine gL (some 16) rfl rfl Tryd.func17 (by kernel_rfl) rfl #[.agg #[.slice A0_0 l0_0.length c0_0, .int .i64 a0_1, .int .i64 a0_2, .int .i64 a0_3], .int .i64 1048576] rfl ?_; (with_reducible refine (laws_szRing.calls k _ _ l0_0 a0_1 a0_2 a0_3 1048576 t355 _ ?side1 ?side2 A2.out).mono ?_); (case side1 => exact cb HR0_0 HB); (case side2 => exact HC0_0.out); rintro e w14 ⟨rfl, hb⟩; refine ⟨_, rfl, ?_⟩; replace BK354 := nb BK354 hb; replace HB := Aside0.mk (below_step (bs1 HB GE354) hb); (try clear hb); (try clear hb2); (try clear hk); (try clear hi); obtain ⟨hcz15_0, hcz15_1, hcz15_2, hcz15_3⟩ := cz4 BK354; obtain ⟨hfz15_0, hfz15_1, hfz15_2, hfz15_3⟩ := fz4 BK354) | ((with_reducible refine gate_callee (f := 19) rfl ?_); refine gL (some 21) rfl rfl Tryd.func19 (by kernel_rfl) rfl #[.agg #[.slice A0_0 l0_0.length c0_0, .int .i64 a0_1, .int .i64 a0_2, .int .i64 a0_3]] rfl ?_; (with_reducible refine (laws_toRing.calls k _ _ l0_0 a0_1 a0_2 a0_3 t356 t359 t360 t361 _ ?side1 ?side2 A7.out).mono ?_); (case side1 => exact cb HR0_0 HB); (case side2 => exact HC0_0.out); rintro e w16 ⟨v357, rfl, ho0, hb⟩; refine ⟨_, rfl, ?_⟩; have HO358 := Aside0.mk (Kd.R_lower ho0 (below_size (bs1 HB GE354))); replace BK354 := nb BK354 hb; replace HB := Aside0.mk (below_step (bs1 HB GE354) hb); (try clear hb); (try clear hb2); (try clear hk); (try clear hi); (try clear ho0); obtain ⟨Ao17, co17, eo17⟩ := Kd.R_slice HO358.out; subst eo17) | ((with_reducible refine gate_callee (f := 28) rfl ?_); refine gL (some 22) rfl rfl Tryd.func28 (by kernel_rfl) rfl #[.agg #[.slice Ao17 t356.length co17, .int .i64 t359, .int .i64 t360, .int .i64 t361]] rfl ?_; (with_reducible refine (spec_RecordsOf.calls k _ _ t356 t359 t360 t361 t362 t365 _ ?side1 ?side2 A8.out).mono ?_); (case side1 => exact rc0 HO358); (case side2 => exact (Kd.R_reads' HO358.out).2.1); rintro e w18 ⟨v363, rfl, ho0, hb⟩; refine ⟨_, rfl, ?_⟩; replace HO358 := nr HO358 hb; have HO364 := Aside0.mk (Kd.R_lower ho0 (below_size (bs1 HB GE354))); replace BK354 := nb BK354 hb; replace HB := Aside0.mk (below_step (bs1 HB GE354) hb); (try clear hb); (try clear hb2); (try clear hk); (try clear hi); (try clear ho0); obtain ⟨hcz19_0, hcz19_1, hcz19_2, hcz19_3⟩ := cz4 BK354; obtain ⟨hfz19_0, hfz19_1, hfz19_2, hfz19_3⟩ := fz4 BK354) | ((with_reducible refine gate_callee (f := 19) rfl ?_); refine gL (some 26) rfl rfl Tryd.func19 (by kernel_rfl) rfl #[.agg #[.slice A0_0 l0_0.length c0_0, .int .i64 a0_1, .int .i64 a0_2, .int .i64 a0_3]] rfl ?_; (with_reducible refine (laws_toRing.calls k _ _ l0_0 a0_1 a0_2 a0_3 t366 t369 t370 t371 _ ?side1 ?side2 A9.out).mono ?_); (case side1 => exact cb HR0_0 HB); (case side2 => exact HC0_0.out); rintro e w20 ⟨v367, rfl, ho0, hb⟩; refine ⟨_, rfl, ?_⟩; replace HO364 := nr HO364 hb; have HO368 := Aside0.mk (Kd.R_lower (Kd.R_new' ho0 (Kd.R_lt (rr HO358.out))) (below_size (bs1 HB GE354))); replace HO358 := Aside0.mk (Kd.R_elder' (rr HO358.out) (Kd.R_base ho0) hb); replace BK354 := nb BK354 hb; replace HB := Aside0.mk (below_step (bs1 HB GE354) hb); (try clear hb); (try clear hb2); (try clear hk); (try clear hi); (try clear ho0)) | ((with_reducible refine gate_dst (N := 6) rfl ?_); refine box_event ?hg (N := 6) ?hd (cs := #[.slice none 0 0, .int .i64 0, .int .i64 0, .int .i64 0]) (t := 36) ?hr ?_; (case hd => rfl); (case hg => rfl); (case hr => first | (go_simp; done) | (go_simp; rfl)); intro gb372 hg w21 hbox hb; replace HO358 := nr HO358 hb; replace HO364 := nr HO364 hb; replace HO368 := nr HO368 hb; have BK372 := Aside0.mk (hbox); have GW372 := Aside0.mk ((by rw [hg]; exact (below_size (bs1 HB GE354)) : w.heap.size ≤ gb372)); have GE372 := Aside0.mk ((by rw [hg]; exact (below_size (bs1 HB GE354)) : w.heap.size ≤ gb372)); replace HB := Aside0.mk (below_step (bs1 HB GE354) hb); have NB354_372 := Aside0.mk ((bn BK354 hg : gb354 ≠ gb372)); have NB372_354 := Aside0.mk ((bm BK354 hg : gb372 ≠ gb354)); replace BK354 := nb BK354 hb; clear hb hbox hg; obtain ⟨Ao22, co22, eo22⟩ := Kd.R_slice HO368.out; subst eo22; have hnb23 := NB372_354.out; have hnc23 := NB354_372.out; obtain ⟨hcz24_0, hcz24_1, hcz24_2, hcz24_3⟩ := cz4 BK372; obtain ⟨hfz24_0, hfz24_1, hfz24_2, hfz24_3⟩ := fz4 BK372) | ((with_reducible refine gate_callee (f := 29) rfl ?_); refine gL (some 29) rfl rfl Tryd.func29 (by kernel_rfl) rfl #[.agg #[.slice Ao22 t366.length co22, .int .i64 t369, .int .i64 t370, .int .i64 t371]] rfl ?_; (with_reducible refine (impl_RecordsOf.calls k _ _ t366 t369 t370 t371 t373 t376 _ ?sideT ?side1 ?side2 A10.out).mono ?_); (case sideT => refine ⟨Ito.tabB hTab_.out ?_⟩; first | exact bs HB | exact st_below | (repeat (first | (with_reducible first | exact HB.out | apply below_alloc | apply pw_below_drewN | apply below_drew1 | refine below_set ?_ (Aside0.out (by assumption))) | exact HB.out))); (case side1 => exact rc HO368 BK372); (case side2 => exact (Kd.R_reads' HO368.out).2.1); rintro e w25 ⟨v374, rfl, ho0, hb⟩; refine ⟨_, rfl, ?_⟩; replace HO358 := nf HO358 BK372 hb; replace HO368 := nf HO368 BK372 hb; have HO375 := Aside0.mk (Kd.R_lower (Kd.R_new' ho0 (Kd.R_lt (rf HO364 BK372))) (below_size (bs2 HB GE354 GE372))); replace HO364 := Aside0.mk (Kd.R_elder' (rf HO364 BK372) (Kd.R_base ho0) hb); replace BK354 := Aside0.mk (blk_below (bf BK354 NB354_372) hb); replace BK372 := Aside0.mk (blk_below (g := gb372) (o := .cells #[.slice Ao22 t366.length co22, .int .i64 t369, .int .i64 t370, .int .i64 t371] 36 (0, 0)) (by (with_reducible repeat (first | refine blk_drewN ?_ _ | refine blk_drew ?_ | refine blk_alloc ?_ _)); refine blk_put (cs := #[.slice Ao22 t366.length co22, .int .i64 t369, .int .i64 t370, .int .i64 0]) ?_ 3 _ rfl; (with_reducible repeat (first | refine blk_drewN ?_ _ | refine blk_drew ?_ | refine blk_alloc ?_ _)); refine blk_put (cs := #[.slice Ao22 t366.length co22, .int .i64 t369, .int .i64 0, .int .i64 0]) ?_ 2 _ rfl; (with_reducible repeat (first | refine blk_drewN ?_ _ | refine blk_drew ?_ | refine blk_alloc ?_ _)); refine blk_put (cs := #[.slice Ao22 t366.length co22, .int .i64 0, .int .i64 0, .int .i64 0]) ?_ 1 _ rfl; (with_reducible repeat (first | refine blk_drewN ?_ _ | refine blk_drew ?_ | refine blk_alloc ?_ _)); refine blk_put (cs := #[.slice none 0 0, .int .i64 0, .int .i64 0, .int .i64 0]) ?_ 0 _ rfl; (with_reducible repeat (first | refine blk_drewN ?_ _ | refine blk_drew ?_ | refine blk_alloc ?_ _)); exact BK372.out) hb); replace HB := Aside0.mk (below_step (bs2 HB GE354 GE372) hb); (try clear hb); (try clear hb2); (try clear hk); (try clear hi); (try clear ho0)))
  (try simp only [Act.put, List.setIfInBounds_toArray, List.set_cons_zero, List.set_cons_succ])
  go_cut [40] (fun v40 wc => ∃ (kq : Nat) (x40_10 : Bool), v40 = .bool x40_10 ∧ Aside0 (laws_FnExactRecordsOf.j0 kq t362 t365 t373 t376 x40_10 l0_0 a0_1 a0_2 a0_3 t366 t369 t370 t371 = some r) ∧ Aside0 (kq ≤ k) ∧ Aside0 (Kd.R Kd.string 9 wc w.heap.size (fun k_ => some k_ ≠ (v374 : Value).ownBlock) v363 t362) ∧ Aside0 (Kd.R Kd.string 9 wc w.heap.size (fun k_ => some k_ ≠ (v363 : Value).ownBlock) v374 t373) ∧ Aside0 (Kd.R k26 26 wc w.heap.size (fun _ => True) (.slice Ao22 t366.length co22) t366) ∧ Aside0 (wc.heap[gb354]? = some (.cells #[(.slice A0_0 l0_0.length c0_0), .int .i64 a0_1, .int .i64 a0_2, .int .i64 a0_3] 31 (0, 0))) ∧ Aside0 (wc.heap[gb372]? = some (.cells #[(.slice Ao22 t366.length co22), .int .i64 t369, .int .i64 t370, .int .i64 t371] 36 (0, 0))) ∧ Aside0 (Below w.heap.size w wc))
  case first =>
   have H := HC11.out
   clear HC11
   replace H := Option.bind_eq_some_iff.mp H
   obtain ⟨t377, A260, H⟩ := H
   replace H : (if t377 = true then (laws_FnExactRecordsOf.j0 k t362 t365 t373 t376 (t376 != t365) l0_0 a0_1 a0_2 a0_3 t366 t369 t370 t371) else (laws_FnExactRecordsOf.j0 k t362 t365 t373 t376 true l0_0 a0_1 a0_2 a0_3 t366 t369 t370 t371)) = some r := H
   have A26 := Aside0.mk A260
   clear A260
   by_cases c27 : t377 = true
   ·
    subst c27
    rw [if_pos rfl] at H
    have H' := Aside0.mk H
    clear H
    obtain ⟨Ao28, co28, eo28⟩ := Kd.R_slice HO375.out
    subst eo28
    obtain ⟨Ao29, co29, eo29⟩ := Kd.R_slice HO364.out
    subst eo29
    go_wp2_with (first | ((with_reducible refine gate_callee (f := 30) rfl ?_); refine gL (some 34) rfl rfl Tryd.func30 (by kernel_rfl) rfl #[.slice Ao28 t373.length co28, .slice Ao29 t362.length co29] rfl ?_; (with_reducible refine (laws_eqStringS.calls k _ _ t373 _ _ t362 true _ ?side1 ?side2 ?side3 ?side4 A26.out).mono ?_); (case side1 => exact rc0 HO375); (case side2 => exact (Kd.R_reads' HO375.out).2.1); (case side3 => exact rc0 HO364); (case side4 => exact (Kd.R_reads' HO364.out).2.1); rintro e w' ⟨rfl, ⟨nd, rfl⟩⟩; refine ⟨_, rfl, ?_⟩))
    go_meet
    case rel => exact ⟨_, ((t376 != t365)), (by first | rfl | (simp; done) | (simp [*]; done)), H', ⟨by first | omega | exact Nat.le_refl _⟩, rm HO364 (fun _ hk => hk.2), rm HO375 (fun _ hk => hk.2), rm HO368 (fun _ hk => trivial), ⟨bk BK354⟩, ⟨bk BK372⟩, ⟨bs2 HB GE354 GE372⟩⟩
   ·
    replace c27 := Bool.eq_false_iff.mpr c27
    subst c27
    rw [if_neg (show ¬ (false = true) by decide)] at H
    have H' := Aside0.mk H
    clear H
    obtain ⟨Ao30, co30, eo30⟩ := Kd.R_slice HO375.out
    subst eo30
    obtain ⟨Ao31, co31, eo31⟩ := Kd.R_slice HO364.out
    subst eo31
    go_wp2_with (first | ((with_reducible refine gate_callee (f := 30) rfl ?_); refine gL (some 34) rfl rfl Tryd.func30 (by kernel_rfl) rfl #[.slice Ao30 t373.length co30, .slice Ao31 t362.length co31] rfl ?_; (with_reducible refine (laws_eqStringS.calls k _ _ t373 _ _ t362 false _ ?side1 ?side2 ?side3 ?side4 A26.out).mono ?_); (case side1 => exact rc0 HO375); (case side2 => exact (Kd.R_reads' HO375.out).2.1); (case side3 => exact rc0 HO364); (case side4 => exact (Kd.R_reads' HO364.out).2.1); rintro e w' ⟨rfl, ⟨nd, rfl⟩⟩; refine ⟨_, rfl, ?_⟩))
    go_meet
    case rel => exact ⟨_, (true), (by first | rfl | (simp; done) | (simp [*]; done)), H', ⟨by first | omega | exact Nat.le_refl _⟩, rm HO364 (fun _ hk => hk.2), rm HO375 (fun _ hk => hk.2), rm HO368 (fun _ hk => trivial), ⟨bk BK354⟩, ⟨bk BK372⟩, ⟨bs2 HB GE354 GE372⟩⟩
  case rest =>
   clear HC11
   try clear c1
   try clear c2
   try clear p2
   try clear c3
   try clear c3b0
   try clear c7
   try clear c17
   try clear c19
   try clear c23
   try clear c27
   try clear c28
   try clear c29
   try clear c30
   try clear hcz13_0 hcz13_1 hcz13_2 hcz13_3
   try clear hcz15_0 hcz15_1 hcz15_2 hcz15_3
   try clear hcz19_0 hcz19_1 hcz19_2 hcz19_3
   try clear hcz24_0 hcz24_1 hcz24_2 hcz24_3
   try clear hcz5_0 hcz5_1 hcz5_2 hcz5_3
   try clear hfz13_0 hfz13_1 hfz13_2 hfz13_3
   try clear hfz15_0 hfz15_1 hfz15_2 hfz15_3
   try clear hfz19_0 hfz19_1 hfz19_2 hfz19_3
   try clear hfz24_0 hfz24_1 hfz24_2 hfz24_3
   try clear hfz5_0 hfz5_1 hfz5_2 hfz5_3
   obtain ⟨kq, x40_10, rfl, HA, HJ10, HO_4, HO_7, HO_373000, BK354, BK372, HB⟩ := hcut
   cases kq with
   | zero => exact absurd HA.out (by simp [laws_FnExactRecordsOf.j0])
   | succ kj10 =>
    have H := HA.out
    clear HA
    simp only [laws_FnExactRecordsOf.j0] at H
    by_cases c32 : x40_10 = true
    ·
     subst c32
     rw [if_pos rfl] at H
     obtain rfl := Option.some.inj H
     go_wp2
     go_ret
     exact ⟨by first | rfl | (simp [errW_none, errW_some] <;> rfl) | (simp [*, errW_none, errW_some] <;> rfl), bs2 HB GE354 GE372⟩
    ·
     replace c32 := Bool.eq_false_iff.mpr c32
     subst c32
     rw [if_neg (show ¬ (false = true) by decide)] at H
     replace H := Option.bind_eq_some_iff.mp H
     obtain ⟨⟨t378, t381, t382, t383⟩, A330, H⟩ := H
     replace H : ((laws_eqRing.f kj10 t366 t369 t370 t371 t378 t381 t382 t383).bind fun t384 => (if t384 = true then ((laws_markRing.f kj10 t366 t369 t370 t371 1).bind fun bt385 => (if bt385.1 < 0 then (laws_FnExactRecordsOf.j1 kj10 t362 t365 t373 true l0_0 a0_1 a0_2 a0_3) else ((laws_eqStringS.f kj10 t373 t362).bind fun t387 => (if t387 = true then (laws_FnExactRecordsOf.j1 kj10 t362 t365 t373 (t376 != t365) l0_0 a0_1 a0_2 a0_3) else (laws_FnExactRecordsOf.j1 kj10 t362 t365 t373 true l0_0 a0_1 a0_2 a0_3))))) else (some false))) = some r := H
     have A33 := Aside0.mk A330
     clear A330
     replace H := Option.bind_eq_some_iff.mp H
     obtain ⟨t384, A340, H⟩ := H
     replace H : (if t384 = true then ((laws_markRing.f kj10 t366 t369 t370 t371 1).bind fun bt385 => (if bt385.1 < 0 then (laws_FnExactRecordsOf.j1 kj10 t362 t365 t373 true l0_0 a0_1 a0_2 a0_3) else ((laws_eqStringS.f kj10 t373 t362).bind fun t387 => (if t387 = true then (laws_FnExactRecordsOf.j1 kj10 t362 t365 t373 (t376 != t365) l0_0 a0_1 a0_2 a0_3) else (laws_FnExactRecordsOf.j1 kj10 t362 t365 t373 true l0_0 a0_1 a0_2 a0_3))))) else (some false)) = some r := H
     have A34 := Aside0.mk A340
     clear A340
     by_cases c35 : t384 = true
     ·
      subst c35
      rw [if_pos rfl] at H
      replace H := Option.bind_eq_some_iff.mp H
      obtain ⟨⟨t385, t386⟩, A360, H⟩ := H
      replace H : (if t385 < 0 then (laws_FnExactRecordsOf.j1 kj10 t362 t365 t373 true l0_0 a0_1 a0_2 a0_3) else ((laws_eqStringS.f kj10 t373 t362).bind fun t387 => (if t387 = true then (laws_FnExactRecordsOf.j1 kj10 t362 t365 t373 (t376 != t365) l0_0 a0_1 a0_2 a0_3) else (laws_FnExactRecordsOf.j1 kj10 t362 t365 t373 true l0_0 a0_1 a0_2 a0_3)))) = some r := H
      have A36 := Aside0.mk A360
      clear A360
      have HC37 := Aside0.mk H
      clear H
      try go_wp2
      have n0_ := Aside0.mk (Kd.R_drew HO_4.out)
      have n1_ := Aside0.mk (Kd.R_drew HO_7.out)
      have n2_ := Aside0.mk (Kd.R_drew HO_373000.out)
      have n3_ := Aside0.mk (blk_drew BK354.out)
      have n4_ := Aside0.mk (blk_drew BK372.out)
      have n5_ := Aside0.mk (below_drew1 HB.out)
      clear HO_4
      clear HO_7
      clear HO_373000
      clear BK354
      clear BK372
      clear HB
      have HO_4 := n0_
      have HO_7 := n1_
      have HO_373000 := n2_
      have BK354 := n3_
      have BK372 := n4_
      have HB := n5_
      clear n0_ n1_ n2_ n3_ n4_ n5_
      refine start_ (n := 5) (S := fun w' => w'.cell? ⟨gb372, 0, none⟩ = some (.slice Ao22 t366.length co22) ∧ w'.cell? ⟨gb372, 1, none⟩ = some (.int .i64 t369) ∧ w'.cell? ⟨gb372, 2, none⟩ = some (.int .i64 t370) ∧ w'.cell? ⟨gb372, 3, none⟩ = some (.int .i64 t371) ∧ w'.cell? ⟨gb354, 0, none⟩ = some (.slice A0_0 l0_0.length c0_0) ∧ w'.cell? ⟨gb354, 1, none⟩ = some (.int .i64 a0_1) ∧ w'.cell? ⟨gb354, 2, none⟩ = some (.int .i64 a0_2) ∧ w'.cell? ⟨gb354, 3, none⟩ = some (.int .i64 a0_3)) (ds := []) #[false, false, false, false, false] (by kernel_rfl) rfl rfl ⟨(blk_cell BK372.out 0).trans rfl, (blk_cell BK372.out 1).trans rfl, (blk_cell BK372.out 2).trans rfl, (blk_cell BK372.out 3).trans rfl, (blk_cell BK354.out 0).trans rfl, (blk_cell BK354.out 1).trans rfl, (blk_cell BK354.out 2).trans rfl, (blk_cell BK354.out 3).trans rfl⟩ (fun hHeld => ?_)
      generalize wc.drew = w38 at HO_4 HO_7 HO_373000 BK354 BK372 HB hHeld ⊢
      refine take_ (i := 0) (N := some 41) (v := ?_) (a' := ?_) #[true, false, false, false, false] rfl rfl (by kernel_rfl) (fun _ _ _ h => h) (Or.inl ⟨by rfl, ?_⟩) hHeld ?_ ?_
      rotate_left
      ·
       rintro w' ⟨s0, s1, s2, s3, s4, s5, s6, s7⟩
       go_simp
       with_reducible rfl
      rotate_left
      ·
       simp only [Act.put, List.setIfInBounds_toArray, List.set_cons_zero, List.set_cons_succ, i64_w, i32_w]
       rfl
      refine take_ (i := 1) (N := some 42) (v := ?_) (a' := ?_) #[true, true, false, false, false] rfl rfl (by kernel_rfl) (fun _ _ _ h => h) (Or.inl ⟨by rfl, ?_⟩) hHeld ?_ ?_
      rotate_left
      ·
       rintro w' ⟨s0, s1, s2, s3, s4, s5, s6, s7⟩
       go_simp
       with_reducible rfl
      rotate_left
      ·
       simp only [Act.put, List.setIfInBounds_toArray, List.set_cons_zero, List.set_cons_succ, i64_w, i32_w]
       rfl
      refine one_ (i := 2) (N := some 43) #[true, true, true, false, false] rfl rfl (by kernel_rfl) (by decide) (fun K hK => ?_)
      refine goes_ Tryd.func19 (by kernel_rfl) rfl #[.agg #[.slice A0_0 l0_0.length c0_0, .int .i64 a0_1, .int .i64 a0_2, .int .i64 a0_3]] (by rfl) rfl rfl (by (try simp only [List.map_toArray, List.map_cons, List.map_nil]); first | done | rfl | (simp only [List.length_drop, List.length_take]; rfl)) ?_
      with_reducible refine (laws_toRing.calls kj10 _ _ l0_0 a0_1 a0_2 a0_3 t378 t381 t382 t383 _ ?side1 ?side2 A33.out).mono ?_
      (case side1 => exact cb HR0_0 HB)
      (case side2 => exact HC0_0.out)
      rintro e w39 ⟨v379, rfl, ho0, hb⟩
      refine ⟨_, rfl, ?_⟩
      have n0_ := Aside0.mk (Kd.R_below (rr HO_4.out) hb)
      have n1_ := Aside0.mk (Kd.R_below (rr HO_7.out) hb)
      have n2_ := Aside0.mk (Kd.R_elder' (rr HO_373000.out) (Kd.R_base ho0) hb)
      have n3_ := Aside0.mk (Kd.R_lower (Kd.R_new' ho0 (Kd.R_lt (rr HO_373000.out))) (below_size (bs2 HB GE354 GE372)))
      have n4_ := Aside0.mk (bb BK354 hb)
      have n5_ := Aside0.mk (bb BK372 hb)
      have n6_ := Aside0.mk (below_step (bs2 HB GE354 GE372) hb)
      clear HO_4
      clear HO_7
      clear HO_373000
      clear BK354
      clear BK372
      clear HB
      have HO_4 := n0_
      have HO_7 := n1_
      have HO_373000 := n2_
      have HO380 := n3_
      have BK354 := n4_
      have BK372 := n5_
      have HB := n6_
      clear n0_ n1_ n2_ n3_ n4_ n5_ n6_
      (try clear hb)
      (try clear hb2)
      (try clear hk)
      (try clear hi)
      (try clear ho0)
      obtain ⟨Ao40, co40, eo40⟩ := Kd.R_slice HO380.out
      (first | subst eo40 | (injection eo40 with f1_ f2_ f3_; have f4_ := f1_.symm; have f5_ := f3_.symm; clear f1_ f2_ f3_; subst f4_; subst f5_))
      refine hK.out _ _ ⟨(blk_cell BK372.out 0).trans rfl, (blk_cell BK372.out 1).trans rfl, (blk_cell BK372.out 2).trans rfl, (blk_cell BK372.out 3).trans rfl, (blk_cell BK354.out 0).trans rfl, (blk_cell BK354.out 1).trans rfl, (blk_cell BK354.out 2).trans rfl, (blk_cell BK354.out 3).trans rfl⟩ (fun hHeld => ?_)
      clear hK K
      refine norm_ (a' := ?_) ?_ ?_
      rotate_left
      ·
       show Act.put _ (some 43) _ = _
       simp only [Act.put, List.setIfInBounds_toArray, List.set_cons_zero, List.set_cons_succ, i64_w, i32_w]
       rfl
      refine one_ (i := 3) (N := some 44) #[true, true, true, true, false] rfl rfl (by kernel_rfl) (by decide) (fun K hK => ?_)
      refine goes_ Tryd.func21 (by kernel_rfl) rfl #[.agg #[.slice Ao22 t366.length co22, .int .i64 t369, .int .i64 t370, .int .i64 t371], .agg #[.slice Ao40 t378.length co40, .int .i64 t381, .int .i64 t382, .int .i64 t383]] (by rfl) rfl rfl (by (try simp only [List.map_toArray, List.map_cons, List.map_nil]); first | done | rfl | (simp only [List.length_drop, List.length_take]; rfl)) ?_
      with_reducible refine (laws_eqRing.calls kj10 _ _ t366 t369 t370 t371 _ _ t378 t381 t382 t383 true _ ?side1 ?side2 ?side3 ?side4 A34.out).mono ?_
      (case side1 => exact rc0 HO_373000)
      (case side2 => exact (Kd.R_reads' HO_373000.out).2.1)
      (case side3 => exact rc0 HO380)
      (case side4 => exact (Kd.R_reads' HO380.out).2.1)
      rintro e w41 ⟨rfl, hb⟩
      refine ⟨_, rfl, ?_⟩
      have n0_ := Aside0.mk (Kd.R_below (rr HO_4.out) hb)
      have n1_ := Aside0.mk (Kd.R_below (rr HO_7.out) hb)
      have n2_ := Aside0.mk (Kd.R_below (rr HO_373000.out) hb)
      have n3_ := Aside0.mk (Kd.R_below (rr HO380.out) hb)
      have n4_ := Aside0.mk (bb BK354 hb)
      have n5_ := Aside0.mk (bb BK372 hb)
      have n6_ := Aside0.mk (below_step (bs2 HB GE354 GE372) hb)
      clear HO_4
      clear HO_7
      clear HO_373000
      clear HO380
      clear BK354
      clear BK372
      clear HB
      have HO_4 := n0_
      have HO_7 := n1_
      have HO_373000 := n2_
      have HO380 := n3_
      have BK354 := n4_
      have BK372 := n5_
      have HB := n6_
      clear n0_ n1_ n2_ n3_ n4_ n5_ n6_
      (try clear hb)
      (try clear hb2)
      (try clear hk)
      (try clear hi)
      refine hK.out _ _ ⟨(blk_cell BK372.out 0).trans rfl, (blk_cell BK372.out 1).trans rfl, (blk_cell BK372.out 2).trans rfl, (blk_cell BK372.out 3).trans rfl, (blk_cell BK354.out 0).trans rfl, (blk_cell BK354.out 1).trans rfl, (blk_cell BK354.out 2).trans rfl, (blk_cell BK354.out 3).trans rfl⟩ (fun hHeld => ?_)
      clear hK K
      refine norm_ (a' := ?_) ?_ ?_
      rotate_left
      ·
       show Act.put _ (some 44) _ = _
       simp only [Act.put, List.setIfInBounds_toArray, List.set_cons_zero, List.set_cons_succ, i64_w, i32_w]
       rfl
      refine pure_ (i := 4) (N := some 45) (v := ?_) (a' := ?_) #[true, true, true, true, true] rfl rfl (by kernel_rfl) (fun _ _ _ h => h) (Or.inl ⟨by rfl, ?_⟩) ?_ ?_
      rotate_left
      ·
       intro w'
       go_simp
       with_reducible rfl
      rotate_left
      ·
       simp only [Act.put, List.setIfInBounds_toArray, List.set_cons_zero, List.set_cons_succ, i64_w, i32_w]
       rfl
      refine done_ (by kernel_rfl) ?_
      have hnb42 := NB372_354.out
      have hnc42 := NB354_372.out
      obtain ⟨hcz43_0, hcz43_1, hcz43_2, hcz43_3⟩ := cz4 BK372
      obtain ⟨hfz43_0, hfz43_1, hfz43_2, hfz43_3⟩ := fz4 BK372
      go_upto_region 14 with (first | ((with_reducible refine gate_callee (f := 24) rfl ?_); refine gL (some 48) rfl rfl Tryd.func24 (by kernel_rfl) rfl #[.agg #[.slice Ao22 t366.length co22, .int .i64 t369, .int .i64 t370, .int .i64 t371], .int .i64 1] rfl ?_; (with_reducible refine (laws_markRing.calls kj10 (fun k_ => some k_ = (.slice Ao22 t366.length co22 : Value).ownBlock) (.slice Ao22 t366.length co22) t366 t369 t370 t371 1 t385 t386 w _ ?side1 ?side2 A36.out).mono ?_); (case side1 => repeat (first | (with_reducible first | exact HB.out | apply below_alloc | apply pw_below_drewN | apply below_drew1 | refine below_set ?_ GE354.out | refine below_set ?_ GE372.out) | exact HB.out)); (case side2 => exact Kd.R_tight rfl HO_373000.out); rintro e w44 ⟨rfl, hy0, hb, hkp⟩; refine ⟨_, rfl, ?_⟩; replace HO_4 := Aside0.mk (Kd.R_mono (ok' := fun k_ => some k_ ≠ (v374 : Value).ownBlock) (Kd.R_keptB ((Kd.R_apart' HO_4.out (Kd.R_typed HO_373000.out) (by decide))) hkp (fun k_ hk_ hs_ => (hk_.2) hs_)) (fun k_ hk_ => hk_.1.1)); replace HO_7 := Aside0.mk (Kd.R_mono (ok' := fun k_ => some k_ ≠ (v363 : Value).ownBlock) (Kd.R_keptB ((Kd.R_apart' HO_7.out (Kd.R_typed HO_373000.out) (by decide))) hkp (fun k_ hk_ hs_ => (hk_.2) hs_)) (fun k_ hk_ => hk_.1.1)); replace BK354 := Aside0.mk (blk_kept (bk BK354) hkp (fun hs_ => (fun e_ => (Kd.R_ne HO_373000.out BK354.out (by decide)) e_) hs_)); replace BK372 := Aside0.mk (blk_kept (bk BK372) hkp (fun hs_ => (fun e_ => (Kd.R_ne HO_373000.out BK372.out (by decide)) e_) hs_)); replace HO_373000 := Aside0.mk (Kd.R_reok rfl hy0 (fun k_ e_ => HO_373000.out.1 k_ e_)); replace HO380 := Aside0.mk (Kd.R_mono (ok' := fun k_ => some k_ ≠ (.slice Ao22 t366.length co22 : Value).ownBlock) (Kd.R_keptB (HO380.out) hkp (fun k_ hk_ hs_ => (hk_.2) hs_)) (fun k_ hk_ => hk_.1.2)); replace HB := Aside0.mk (hb); (try clear hb); (try clear hkp); (try clear hy0)))
      (try simp only [Act.put, List.setIfInBounds_toArray, List.set_cons_zero, List.set_cons_succ])
      go_cut [61] (fun v61 wc => ∃ (kq : Nat) (x61_36 : Bool), v61 = .bool x61_36 ∧ Aside0 (laws_FnExactRecordsOf.j1 kq t362 t365 t373 x61_36 l0_0 a0_1 a0_2 a0_3 = some r) ∧ Aside0 (kq ≤ kj10) ∧ Aside0 (Kd.R Kd.string 9 wc w.heap.size (fun k_ => some k_ ≠ (v374 : Value).ownBlock) v363 t362) ∧ Aside0 (Kd.R Kd.string 9 wc w.heap.size (fun k_ => some k_ ≠ (v363 : Value).ownBlock) v374 t373) ∧ Aside0 (Kd.R k26 26 wc w.heap.size (fun _ => True) (.slice Ao22 t366.length co22) t386) ∧ Aside0 (wc.heap[gb354]? = some (.cells #[(.slice A0_0 l0_0.length c0_0), .int .i64 a0_1, .int .i64 a0_2, .int .i64 a0_3] 31 (0, 0))) ∧ Aside0 (wc.heap[gb372]? = some (.cells #[(.slice Ao22 t366.length co22), .int .i64 t369, .int .i64 t370, .int .i64 t371] 36 (0, 0))) ∧ Aside0 (Below w.heap.size w wc))
      case first =>
       have H := HC37.out
       clear HC37
       by_cases c45 : t385 < 0
       ·
        rw [if_pos c45] at H
        have c45b0 : decide (t385 < 0) = true := decide_eq_true c45
        clear c45
        (first | rw [c45b0] | (simp only [i64_w, i32_w]; rw [c45b0]) | (simp only [c45b2, Bool.not_false, Bool.not_true]) | skip)
        have H' := Aside0.mk H
        clear H
        go_wp2
        go_meet
        case rel => exact ⟨_, (true), (by first | rfl | (simp; done) | (simp [*]; done)), H', ⟨by have := HJ10.out; first | omega | exact Nat.le_refl _⟩, ⟨rr HO_4.out⟩, ⟨rr HO_7.out⟩, rm HO_373000 (fun _ hk => trivial), ⟨bk BK354⟩, ⟨bk BK372⟩, ⟨bs2 HB GE354 GE372⟩⟩
       ·
        rw [if_neg c45] at H
        have c45b0 : decide (t385 < 0) = false := decide_eq_false c45
        clear c45
        (first | rw [c45b0] | (simp only [i64_w, i32_w]; rw [c45b0]) | (simp only [c45b2, Bool.not_false, Bool.not_true]) | skip)
        replace H := Option.bind_eq_some_iff.mp H
        obtain ⟨t387, A460, H⟩ := H
        replace H : (if t387 = true then (laws_FnExactRecordsOf.j1 kj10 t362 t365 t373 (t376 != t365) l0_0 a0_1 a0_2 a0_3) else (laws_FnExactRecordsOf.j1 kj10 t362 t365 t373 true l0_0 a0_1 a0_2 a0_3)) = some r := H
        have A46 := Aside0.mk A460
        clear A460
        by_cases c47 : t387 = true
        ·
         subst c47
         rw [if_pos rfl] at H
         have H' := Aside0.mk H
         clear H
         obtain ⟨Ao48, co48, eo48⟩ := Kd.R_slice HO_7.out
         subst eo48
         obtain ⟨Ao49, co49, eo49⟩ := Kd.R_slice HO_4.out
         subst eo49
         go_wp2_with (first | (go_at_call 30; (with_reducible refine (laws_eqStringS.calls kj10 _ _ t373 _ _ t362 true _ ?side1 ?side2 ?side3 ?side4 A46.out).mono ?_); (case side1 => exact rc0 HO_7); (case side2 => exact (Kd.R_reads' HO_7.out).2.1); (case side3 => exact rc0 HO_4); (case side4 => exact (Kd.R_reads' HO_4.out).2.1); rintro e w' ⟨rfl, ⟨nd, rfl⟩⟩))
         go_meet
         case rel => exact ⟨_, ((t376 != t365)), (by first | rfl | (simp; done) | (simp [*]; done)), H', ⟨by have := HJ10.out; first | omega | exact Nat.le_refl _⟩, ⟨rr HO_4.out⟩, ⟨rr HO_7.out⟩, rm HO_373000 (fun _ hk => trivial), ⟨bk BK354⟩, ⟨bk BK372⟩, ⟨bs2 HB GE354 GE372⟩⟩
        ·
         replace c47 := Bool.eq_false_iff.mpr c47
         subst c47
         rw [if_neg (show ¬ (false = true) by decide)] at H
         have H' := Aside0.mk H
         clear H
         obtain ⟨Ao50, co50, eo50⟩ := Kd.R_slice HO_7.out
         subst eo50
         obtain ⟨Ao51, co51, eo51⟩ := Kd.R_slice HO_4.out
         subst eo51
         go_wp2_with (first | (go_at_call 30; (with_reducible refine (laws_eqStringS.calls kj10 _ _ t373 _ _ t362 false _ ?side1 ?side2 ?side3 ?side4 A46.out).mono ?_); (case side1 => exact rc0 HO_7); (case side2 => exact (Kd.R_reads' HO_7.out).2.1); (case side3 => exact rc0 HO_4); (case side4 => exact (Kd.R_reads' HO_4.out).2.1); rintro e w' ⟨rfl, ⟨nd, rfl⟩⟩))
         go_meet
         case rel => exact ⟨_, (true), (by first | rfl | (simp; done) | (simp [*]; done)), H', ⟨by have := HJ10.out; first | omega | exact Nat.le_refl _⟩, ⟨rr HO_4.out⟩, ⟨rr HO_7.out⟩, rm HO_373000 (fun _ hk => trivial), ⟨bk BK354⟩, ⟨bk BK372⟩, ⟨bs2 HB GE354 GE372⟩⟩
      case rest =>
       clear HC37
       try clear c1
       try clear c2
       try clear p2
       try clear c3
       try clear c3b0
       try clear c4
       try clear c7
       try clear c17
       try clear c19
       try clear c21
       try clear c23
       try clear c24
       try clear c27
       try clear c28
       try clear c29
       try clear c30
       try clear c32
       try clear c35
       try clear c42
       try clear c45
       try clear c45b0
       try clear c47
       try clear hcz13_0 hcz13_1 hcz13_2 hcz13_3
       try clear hcz15_0 hcz15_1 hcz15_2 hcz15_3
       try clear hcz19_0 hcz19_1 hcz19_2 hcz19_3
       try clear hcz24_0 hcz24_1 hcz24_2 hcz24_3
       try clear hcz43_0 hcz43_1 hcz43_2 hcz43_3
       try clear hcz5_0 hcz5_1 hcz5_2 hcz5_3
       try clear hfz13_0 hfz13_1 hfz13_2 hfz13_3
       try clear hfz15_0 hfz15_1 hfz15_2 hfz15_3
       try clear hfz19_0 hfz19_1 hfz19_2 hfz19_3
       try clear hfz24_0 hfz24_1 hfz24_2 hfz24_3
       try clear hfz43_0 hfz43_1 hfz43_2 hfz43_3
       try clear hfz5_0 hfz5_1 hfz5_2 hfz5_3
       try clear p2
       obtain ⟨kq, x61_36, rfl, HA, HJ36, HO_4, HO_7, HO_373000, BK354, BK372, HB⟩ := hcut
       have hl373000_36 := (Kd.R_reads' HO_373000.out).1
       rw [hl373000_36] at HO_373000
       (try simp only [hl373000_36])
       (try simp only [hl373000_36] at BK354)
       (try simp only [hl373000_36] at BK372)
       (try simp only [hl373000_36] at HO_4)
       (try simp only [hl373000_36] at HO_7)
       cases kq with
       | zero => exact absurd HA.out (by simp [laws_FnExactRecordsOf.j1])
       | succ kj36 =>
        have H := HA.out
        clear HA
        simp only [laws_FnExactRecordsOf.j1] at H
        by_cases c52 : x61_36 = true
        ·
         subst c52
         rw [if_pos rfl] at H
         obtain rfl := Option.some.inj H
         go_wp2
         go_ret
         exact ⟨by first | rfl | (simp [errW_none, errW_some] <;> rfl) | (simp [*, errW_none, errW_some] <;> rfl), bs2 HB GE354 GE372⟩
        ·
         replace c52 := Bool.eq_false_iff.mpr c52
         subst c52
         rw [if_neg (show ¬ (false = true) by decide)] at H
         replace H := Option.bind_eq_some_iff.mp H
         obtain ⟨⟨t388, t389⟩, A530, H⟩ := H
         replace H : ((laws_heldStringS.f kj36 t389 1).bind fun t390 => (if t390 < 0 then (some false) else (if t390 = t388 then ((laws_toRing.f kj36 l0_0 a0_1 a0_2 a0_3).bind fun bt391 => ((impl_RecordsOf.f kj36 bt391.1 bt391.2.1 bt391.2.2.1 bt391.2.2.2).bind fun bt397 => ((laws_eqStringS.f kj36 bt397.1 t362).bind fun t401 => (if t401 = true then (laws_FnExactRecordsOf.j2 kj36 t389 t388 (bt397.2 != t365)) else (laws_FnExactRecordsOf.j2 kj36 t389 t388 true))))) else (some false)))) = some r := H
         have A53 := Aside0.mk A530
         clear A530
         replace H := Option.bind_eq_some_iff.mp H
         obtain ⟨t390, A540, H⟩ := H
         replace H : (if t390 < 0 then (some false) else (if t390 = t388 then ((laws_toRing.f kj36 l0_0 a0_1 a0_2 a0_3).bind fun bt391 => ((impl_RecordsOf.f kj36 bt391.1 bt391.2.1 bt391.2.2.1 bt391.2.2.2).bind fun bt397 => ((laws_eqStringS.f kj36 bt397.1 t362).bind fun t401 => (if t401 = true then (laws_FnExactRecordsOf.j2 kj36 t389 t388 (bt397.2 != t365)) else (laws_FnExactRecordsOf.j2 kj36 t389 t388 true))))) else (some false))) = some r := H
         have A54 := Aside0.mk A540
         clear A540
         by_cases c55 : t390 < 0
         ·
          rw [if_pos c55] at H
          have c55b0 : decide (t390 < 0) = true := decide_eq_true c55
          clear c55
          obtain rfl := Option.some.inj H
          obtain ⟨Ao56, co56, eo56⟩ := Kd.R_slice HO_7.out
          subst eo56
          go_wp2_with (first | ((with_reducible refine gate_callee (f := 31) rfl ?_); refine gL (some 64) rfl rfl Tryd.func31 (by kernel_rfl) rfl #[.slice Ao56 t373.length co56, .int .i64 1] rfl ?_; (with_reducible refine (laws_markStringS.calls kj36 (fun k_ => some k_ = (.slice Ao56 t373.length co56 : Value).ownBlock) (.slice Ao56 t373.length co56) t373 1 t388 t389 w _ ?side1 ?side2 A53.out).mono ?_); (case side1 => repeat (first | (with_reducible first | exact HB.out | apply below_alloc | apply pw_below_drewN | apply below_drew1 | refine below_set ?_ GE354.out | refine below_set ?_ GE372.out) | exact HB.out)); (case side2 => exact Kd.R_tight rfl HO_7.out); rintro e w57 ⟨rfl, hy0, hb, hkp⟩; refine ⟨_, rfl, ?_⟩; replace HO_4 := Aside0.mk (Kd.R_mono (ok' := fun k_ => some k_ ≠ (.slice Ao56 t373.length co56 : Value).ownBlock) (Kd.R_keptB (HO_4.out) hkp (fun k_ hk_ hs_ => (hk_) hs_)) (fun k_ hk_ => hk_.1)); replace HO_373000 := Aside0.mk (Kd.R_mono (ok' := fun k_ => True) (Kd.R_keptB ((Kd.R_apart' HO_373000.out (Kd.R_typed HO_7.out) (by decide))) hkp (fun k_ hk_ hs_ => (hk_.2) hs_)) (fun k_ hk_ => trivial)); replace BK354 := Aside0.mk (blk_kept (bk BK354) hkp (fun hs_ => (fun e_ => (Kd.R_ne HO_7.out BK354.out (by decide)) e_) hs_)); replace BK372 := Aside0.mk (blk_kept (bk BK372) hkp (fun hs_ => (fun e_ => (Kd.R_ne HO_7.out BK372.out (by decide)) e_) hs_)); replace HO_7 := Aside0.mk (Kd.R_reok rfl hy0 (fun k_ e_ => HO_7.out.1 k_ e_)); replace HB := Aside0.mk (hb); (try clear hb); (try clear hkp); (try clear hy0)) | ((with_reducible refine gate_callee (f := 32) rfl ?_); refine goesL_ (some 67) rfl rfl Tryd.func32 (by kernel_rfl) rfl #[.slice Ao56 t389.length co56, .int .i64 1] rfl (by (try simp only [List.map_toArray, List.map_cons, List.map_nil]); first | done | (rw [show t389.length = t373.length from (Kd.R_reads' HO_7.out).1.symm] <;> rfl) | rfl | (simp only [List.length_drop, List.length_take]; rfl)) ?_; (with_reducible refine (laws_heldStringS.calls kj36 _ _ t389 1 t390 _ ?side1 ?side2 A54.out).mono ?_); (case side1 => exact rc0 HO_7); (case side2 => rw [show t389.length = t373.length from (Kd.R_reads' HO_7.out).1.symm]; exact (Kd.R_reads' HO_7.out).2.1); rintro e w58 ⟨rfl, hb⟩; refine ⟨_, rfl, ?_⟩; replace HO_4 := nr HO_4 hb; replace HO_7 := nr HO_7 hb; replace HO_373000 := nr HO_373000 hb; replace BK354 := nb BK354 hb; replace BK372 := nb BK372 hb; replace HB := Aside0.mk (below_step (bs2 HB GE354 GE372) hb); (try clear hb); (try clear hb2); (try clear hk); (try clear hi)))
          go_ret
          exact ⟨by first | rfl | (simp [errW_none, errW_some] <;> rfl) | (simp [*, errW_none, errW_some] <;> rfl), bs2 HB GE354 GE372⟩
         ·
          rw [if_neg c55] at H
          have c55b0 : decide (t390 < 0) = false := decide_eq_false c55
          clear c55
          by_cases c59 : t390 = t388
          ·
           rw [if_pos c59] at H
           have c59b0 : (t390 == t388) = true := beq_iff_eq.mpr c59
           have c59b1 : (t390 != t388) = false := bne_eq_false_iff_eq.mpr c59
           clear c59
           replace H := Option.bind_eq_some_iff.mp H
           obtain ⟨⟨t391, t394, t395, t396⟩, A600, H⟩ := H
           replace H : ((impl_RecordsOf.f kj36 t391 t394 t395 t396).bind fun bt397 => ((laws_eqStringS.f kj36 bt397.1 t362).bind fun t401 => (if t401 = true then (laws_FnExactRecordsOf.j2 kj36 t389 t388 (bt397.2 != t365)) else (laws_FnExactRecordsOf.j2 kj36 t389 t388 true)))) = some r := H
           have A60 := Aside0.mk A600
           clear A600
           replace H := Option.bind_eq_some_iff.mp H
           obtain ⟨⟨t397, t400⟩, A610, H⟩ := H
           replace H : ((laws_eqStringS.f kj36 t397 t362).bind fun t401 => (if t401 = true then (laws_FnExactRecordsOf.j2 kj36 t389 t388 (t400 != t365)) else (laws_FnExactRecordsOf.j2 kj36 t389 t388 true))) = some r := H
           have A61 := Aside0.mk A610
           clear A610
           have HC62 := Aside0.mk H
           clear H
           obtain ⟨Ao63, co63, eo63⟩ := Kd.R_slice HO_7.out
           subst eo63
           go_upto_region 25 with (first | ((with_reducible refine gate_callee (f := 31) rfl ?_); refine gL (some 64) rfl rfl Tryd.func31 (by kernel_rfl) rfl #[.slice Ao63 t373.length co63, .int .i64 1] rfl ?_; (with_reducible refine (laws_markStringS.calls kj36 (fun k_ => some k_ = (.slice Ao63 t373.length co63 : Value).ownBlock) (.slice Ao63 t373.length co63) t373 1 t388 t389 w _ ?side1 ?side2 A53.out).mono ?_); (case side1 => repeat (first | (with_reducible first | exact HB.out | apply below_alloc | apply pw_below_drewN | apply below_drew1 | refine below_set ?_ GE354.out | refine below_set ?_ GE372.out) | exact HB.out)); (case side2 => exact Kd.R_tight rfl HO_7.out); rintro e w64 ⟨rfl, hy0, hb, hkp⟩; refine ⟨_, rfl, ?_⟩; replace HO_4 := Aside0.mk (Kd.R_mono (ok' := fun k_ => some k_ ≠ (.slice Ao63 t373.length co63 : Value).ownBlock) (Kd.R_keptB (HO_4.out) hkp (fun k_ hk_ hs_ => (hk_) hs_)) (fun k_ hk_ => hk_.1)); replace HO_373000 := Aside0.mk (Kd.R_mono (ok' := fun k_ => True) (Kd.R_keptB ((Kd.R_apart' HO_373000.out (Kd.R_typed HO_7.out) (by decide))) hkp (fun k_ hk_ hs_ => (hk_.2) hs_)) (fun k_ hk_ => trivial)); replace BK354 := Aside0.mk (blk_kept (bk BK354) hkp (fun hs_ => (fun e_ => (Kd.R_ne HO_7.out BK354.out (by decide)) e_) hs_)); replace BK372 := Aside0.mk (blk_kept (bk BK372) hkp (fun hs_ => (fun e_ => (Kd.R_ne HO_7.out BK372.out (by decide)) e_) hs_)); replace HO_7 := Aside0.mk (Kd.R_reok rfl hy0 (fun k_ e_ => HO_7.out.1 k_ e_)); replace HB := Aside0.mk (hb); (try clear hb); (try clear hkp); (try clear hy0)) | ((with_reducible refine gate_callee (f := 32) rfl ?_); refine goesL_ (some 67) rfl rfl Tryd.func32 (by kernel_rfl) rfl #[.slice Ao63 t389.length co63, .int .i64 1] rfl (by (try simp only [List.map_toArray, List.map_cons, List.map_nil]); first | done | (rw [show t389.length = t373.length from (Kd.R_reads' HO_7.out).1.symm] <;> rfl) | rfl | (simp only [List.length_drop, List.length_take]; rfl)) ?_; (with_reducible refine (laws_heldStringS.calls kj36 _ _ t389 1 t390 _ ?side1 ?side2 A54.out).mono ?_); (case side1 => exact rc0 HO_7); (case side2 => rw [show t389.length = t373.length from (Kd.R_reads' HO_7.out).1.symm]; exact (Kd.R_reads' HO_7.out).2.1); rintro e w65 ⟨rfl, hb⟩; refine ⟨_, rfl, ?_⟩; replace HO_4 := nr HO_4 hb; replace HO_7 := nr HO_7 hb; replace HO_373000 := nr HO_373000 hb; replace BK354 := nb BK354 hb; replace BK372 := nb BK372 hb; replace HB := Aside0.mk (below_step (bs2 HB GE354 GE372) hb); (try clear hb); (try clear hb2); (try clear hk); (try clear hi); have hnb66 := NB354_372.out; have hnc66 := NB372_354.out; obtain ⟨hcz67_0, hcz67_1, hcz67_2, hcz67_3⟩ := cz4 BK354; obtain ⟨hfz67_0, hfz67_1, hfz67_2, hfz67_3⟩ := fz4 BK354) | ((with_reducible refine gate_callee (f := 19) rfl ?_); refine gL (some 75) rfl rfl Tryd.func19 (by kernel_rfl) rfl #[.agg #[.slice A0_0 l0_0.length c0_0, .int .i64 a0_1, .int .i64 a0_2, .int .i64 a0_3]] rfl ?_; (with_reducible refine (laws_toRing.calls kj36 _ _ l0_0 a0_1 a0_2 a0_3 t391 t394 t395 t396 _ ?side1 ?side2 A60.out).mono ?_); (case side1 => exact cb HR0_0 HB); (case side2 => exact HC0_0.out); rintro e w68 ⟨v392, rfl, ho0, hb⟩; refine ⟨_, rfl, ?_⟩; replace HO_4 := nr HO_4 hb; replace HO_7 := nr HO_7 hb; have HO393 := Aside0.mk (Kd.R_lower (Kd.R_new' ho0 (Kd.R_lt (rr HO_373000.out))) (below_size (bs2 HB GE354 GE372))); replace HO_373000 := Aside0.mk (Kd.R_elder' (rr HO_373000.out) (Kd.R_base ho0) hb); replace BK354 := nb BK354 hb; replace BK372 := nb BK372 hb; replace HB := Aside0.mk (below_step (bs2 HB GE354 GE372) hb); (try clear hb); (try clear hb2); (try clear hk); (try clear hi); (try clear ho0); obtain ⟨Ao69, co69, eo69⟩ := Kd.R_slice HO393.out; subst eo69) | ((with_reducible refine gate_callee (f := 29) rfl ?_); refine gL (some 76) rfl rfl Tryd.func29 (by kernel_rfl) rfl #[.agg #[.slice Ao69 t391.length co69, .int .i64 t394, .int .i64 t395, .int .i64 t396]] rfl ?_; (with_reducible refine (impl_RecordsOf.calls kj36 _ _ t391 t394 t395 t396 t397 t400 _ ?sideT ?side1 ?side2 A61.out).mono ?_); (case sideT => refine ⟨Ito.tabB hTab_.out ?_⟩; first | exact bs HB | exact st_below | (repeat (first | (with_reducible first | exact HB.out | apply below_alloc | apply pw_below_drewN | apply below_drew1 | refine below_set ?_ (Aside0.out (by assumption))) | exact HB.out))); (case side1 => exact rc0 HO393); (case side2 => exact (Kd.R_reads' HO393.out).2.1); rintro e w70 ⟨v398, rfl, ho0, hb⟩; refine ⟨_, rfl, ?_⟩; replace HO_373000 := nr HO_373000 hb; replace HO393 := nr HO393 hb; have HO399 := Aside0.mk (Kd.R_lower (Kd.R_new' (Kd.R_new' ho0 (Kd.R_lt (rr HO_4.out))) (Kd.R_lt (rr HO_7.out))) (below_size (bs2 HB GE354 GE372))); replace HO_4 := Aside0.mk (Kd.R_elder' (rr HO_4.out) (Kd.R_base ho0) hb); replace HO_7 := Aside0.mk (Kd.R_elder' (rr HO_7.out) (Kd.R_base ho0) hb); replace BK354 := nb BK354 hb; replace BK372 := nb BK372 hb; replace HB := Aside0.mk (below_step (bs2 HB GE354 GE372) hb); (try clear hb); (try clear hb2); (try clear hk); (try clear hi); (try clear ho0)))
           (try simp only [Act.put, List.setIfInBounds_toArray, List.set_cons_zero, List.set_cons_succ])
           go_cut [87] (fun v87 wc => ∃ (kq : Nat) (x87_61 : Bool), v87 = .bool x87_61 ∧ Aside0 (laws_FnExactRecordsOf.j2 kq t389 t388 x87_61 = some r) ∧ Aside0 (kq ≤ kj36) ∧ Aside0 (Kd.R Kd.string 9 wc w.heap.size (fun _ => True) (.slice Ao63 t373.length co63) t389) ∧ Aside0 (Kd.R k26 26 wc w.heap.size (fun _ => True) (.slice Ao22 t386.length co22) t386) ∧ Aside0 (wc.heap[gb354]? = some (.cells #[(.slice A0_0 l0_0.length c0_0), .int .i64 a0_1, .int .i64 a0_2, .int .i64 a0_3] 31 (0, 0))) ∧ Aside0 (wc.heap[gb372]? = some (.cells #[(.slice Ao22 t386.length co22), .int .i64 t369, .int .i64 t370, .int .i64 t371] 36 (0, 0))) ∧ Aside0 (Below w.heap.size w wc))
           case first =>
            have H := HC62.out
            clear HC62
            replace H := Option.bind_eq_some_iff.mp H
            obtain ⟨t401, A710, H⟩ := H
            replace H : (if t401 = true then (laws_FnExactRecordsOf.j2 kj36 t389 t388 (t400 != t365)) else (laws_FnExactRecordsOf.j2 kj36 t389 t388 true)) = some r := H
            have A71 := Aside0.mk A710
            clear A710
            by_cases c72 : t401 = true
            ·
             subst c72
             rw [if_pos rfl] at H
             have H' := Aside0.mk H
             clear H
             obtain ⟨Ao73, co73, eo73⟩ := Kd.R_slice HO399.out
             subst eo73
             obtain ⟨Ao74, co74, eo74⟩ := Kd.R_slice HO_4.out
             subst eo74
             go_wp2_with (first | ((with_reducible refine gate_callee (f := 30) rfl ?_); refine gL (some 81) rfl rfl Tryd.func30 (by kernel_rfl) rfl #[.slice Ao73 t397.length co73, .slice Ao74 t362.length co74] rfl ?_; (with_reducible refine (laws_eqStringS.calls kj36 _ _ t397 _ _ t362 true _ ?side1 ?side2 ?side3 ?side4 A71.out).mono ?_); (case side1 => exact rc0 HO399); (case side2 => exact (Kd.R_reads' HO399.out).2.1); (case side3 => exact rc0 HO_4); (case side4 => exact (Kd.R_reads' HO_4.out).2.1); rintro e w' ⟨rfl, ⟨nd, rfl⟩⟩; refine ⟨_, rfl, ?_⟩))
             go_meet
             case rel => exact ⟨_, ((t400 != t365)), (by first | rfl | (simp; done) | (simp [*]; done)), H', ⟨by have := HJ10.out; have := HJ36.out; first | omega | exact Nat.le_refl _⟩, ⟨by (try simp only [hl373000_36]); (with_reducible repeat (first | apply Kd.R_alloc | apply Kd.R_drewN | apply Kd.R_drew)); exact Kd.R_mono HO_7.out (fun _ hk => trivial)⟩, ⟨by (try simp only [hl373000_36]); (with_reducible repeat (first | apply Kd.R_alloc | apply Kd.R_drewN | apply Kd.R_drew)); exact Kd.R_mono HO_373000.out (fun _ hk => trivial)⟩, ⟨by (try simp only [hl373000_36]); (with_reducible repeat (first | refine blk_drewN ?_ _ | refine blk_drew ?_ | refine blk_alloc ?_ _)); exact BK354.out⟩, ⟨by (try simp only [hl373000_36]); (with_reducible repeat (first | refine blk_drewN ?_ _ | refine blk_drew ?_ | refine blk_alloc ?_ _)); exact BK372.out⟩, ⟨bs2 HB GE354 GE372⟩⟩
            ·
             replace c72 := Bool.eq_false_iff.mpr c72
             subst c72
             rw [if_neg (show ¬ (false = true) by decide)] at H
             have H' := Aside0.mk H
             clear H
             obtain ⟨Ao75, co75, eo75⟩ := Kd.R_slice HO399.out
             subst eo75
             obtain ⟨Ao76, co76, eo76⟩ := Kd.R_slice HO_4.out
             subst eo76
             go_wp2_with (first | ((with_reducible refine gate_callee (f := 30) rfl ?_); refine gL (some 81) rfl rfl Tryd.func30 (by kernel_rfl) rfl #[.slice Ao75 t397.length co75, .slice Ao76 t362.length co76] rfl ?_; (with_reducible refine (laws_eqStringS.calls kj36 _ _ t397 _ _ t362 false _ ?side1 ?side2 ?side3 ?side4 A71.out).mono ?_); (case side1 => exact rc0 HO399); (case side2 => exact (Kd.R_reads' HO399.out).2.1); (case side3 => exact rc0 HO_4); (case side4 => exact (Kd.R_reads' HO_4.out).2.1); rintro e w' ⟨rfl, ⟨nd, rfl⟩⟩; refine ⟨_, rfl, ?_⟩))
             go_meet
             case rel => exact ⟨_, (true), (by first | rfl | (simp; done) | (simp [*]; done)), H', ⟨by have := HJ10.out; have := HJ36.out; first | omega | exact Nat.le_refl _⟩, ⟨by (try simp only [hl373000_36]); (with_reducible repeat (first | apply Kd.R_alloc | apply Kd.R_drewN | apply Kd.R_drew)); exact Kd.R_mono HO_7.out (fun _ hk => trivial)⟩, ⟨by (try simp only [hl373000_36]); (with_reducible repeat (first | apply Kd.R_alloc | apply Kd.R_drewN | apply Kd.R_drew)); exact Kd.R_mono HO_373000.out (fun _ hk => trivial)⟩, ⟨by (try simp only [hl373000_36]); (with_reducible repeat (first | refine blk_drewN ?_ _ | refine blk_drew ?_ | refine blk_alloc ?_ _)); exact BK354.out⟩, ⟨by (try simp only [hl373000_36]); (with_reducible repeat (first | refine blk_drewN ?_ _ | refine blk_drew ?_ | refine blk_alloc ?_ _)); exact BK372.out⟩, ⟨bs2 HB GE354 GE372⟩⟩
           case rest =>
            clear HC62
            try clear c1
            try clear c2
            try clear p2
            try clear c3
            try clear c3b0
            try clear c4
            try clear c5
            try clear c6
            try clear c7
            try clear c17
            try clear c19
            try clear c21
            try clear c23
            try clear c24
            try clear c27
            try clear c28
            try clear c29
            try clear c30
            try clear c31
            try clear c32
            try clear c35
            try clear c42
            try clear c45
            try clear c45b0
            try clear c47
            try clear c52
            try clear c55
            try clear c55b0
            try clear c59
            try clear c59b0
            try clear c59b1
            try clear c66
            try clear c72
            try clear hcz13_0 hcz13_1 hcz13_2 hcz13_3
            try clear hcz15_0 hcz15_1 hcz15_2 hcz15_3
            try clear hcz19_0 hcz19_1 hcz19_2 hcz19_3
            try clear hcz24_0 hcz24_1 hcz24_2 hcz24_3
            try clear hcz43_0 hcz43_1 hcz43_2 hcz43_3
            try clear hcz5_0 hcz5_1 hcz5_2 hcz5_3
            try clear hcz67_0 hcz67_1 hcz67_2 hcz67_3
            try clear hfz13_0 hfz13_1 hfz13_2 hfz13_3
            try clear hfz15_0 hfz15_1 hfz15_2 hfz15_3
            try clear hfz19_0 hfz19_1 hfz19_2 hfz19_3
            try clear hfz24_0 hfz24_1 hfz24_2 hfz24_3
            try clear hfz43_0 hfz43_1 hfz43_2 hfz43_3
            try clear hfz5_0 hfz5_1 hfz5_2 hfz5_3
            try clear hfz67_0 hfz67_1 hfz67_2 hfz67_3
            try clear p2
            obtain ⟨kq, x87_61, rfl, HA, HJ61, HO_7, HO_373000, BK354, BK372, HB⟩ := hcut
            have hl7_61 := (Kd.R_reads' HO_7.out).1
            rw [hl7_61] at HO_7
            (try simp only [hl7_61])
            (try simp only [hl7_61] at BK354)
            (try simp only [hl7_61] at BK372)
            (try simp only [hl7_61] at HO_373000)
            cases kq with
            | zero => exact absurd HA.out (by simp [laws_FnExactRecordsOf.j2])
            | succ kj61 =>
             have H := HA.out
             clear HA
             simp only [laws_FnExactRecordsOf.j2] at H
             by_cases c77 : x87_61 = true
             ·
              subst c77
              rw [if_pos rfl] at H
              obtain rfl := Option.some.inj H
              go_wp2
              go_ret
              exact ⟨by first | rfl | (simp [errW_none, errW_some] <;> rfl) | (simp [*, errW_none, errW_some] <;> rfl), bs2 HB GE354 GE372⟩
             ·
              replace c77 := Bool.eq_false_iff.mpr c77
              subst c77
              rw [if_neg (show ¬ (false = true) by decide)] at H
              replace H := Option.bind_eq_some_iff.mp H
              obtain ⟨t402, A780, H⟩ := H
              replace H : (if t402 < 0 then (some false) else (if t402 = t388 then (some true) else (some false))) = some r := H
              have A78 := Aside0.mk A780
              clear A780
              by_cases c79 : t402 < 0
              ·
               rw [if_pos c79] at H
               have c79b0 : decide (t402 < 0) = true := decide_eq_true c79
               clear c79
               obtain rfl := Option.some.inj H
               go_wp2_with (first | ((with_reducible refine gate_callee (f := 32) rfl ?_); refine gL (some 90) rfl rfl Tryd.func32 (by kernel_rfl) rfl #[.slice Ao63 t389.length co63, .int .i64 1] rfl ?_; (with_reducible refine (laws_heldStringS.calls kj61 _ _ t389 1 t402 _ ?side1 ?side2 A78.out).mono ?_); (case side1 => exact rc0 HO_7); (case side2 => exact (Kd.R_reads' HO_7.out).2.1); rintro e w80 ⟨rfl, hb⟩; refine ⟨_, rfl, ?_⟩; replace HO_7 := nr HO_7 hb; replace HO_373000 := nr HO_373000 hb; replace BK354 := nb BK354 hb; replace BK372 := nb BK372 hb; replace HB := Aside0.mk (below_step (bs2 HB GE354 GE372) hb); (try clear hb); (try clear hb2); (try clear hk); (try clear hi)))
               go_ret
               exact ⟨by first | rfl | (simp [errW_none, errW_some] <;> rfl) | (simp [*, errW_none, errW_some] <;> rfl), bs2 HB GE354 GE372⟩
              ·
               rw [if_neg c79] at H
               have c79b0 : decide (t402 < 0) = false := decide_eq_false c79
               clear c79
               by_cases c81 : t402 = t388
               ·
                rw [if_pos c81] at H
                have c81b0 : (t402 == t388) = true := beq_iff_eq.mpr c81
                have c81b1 : (t402 != t388) = false := bne_eq_false_iff_eq.mpr c81
                clear c81
                obtain rfl := Option.some.inj H
                go_wp2_with (first | ((with_reducible refine gate_callee (f := 32) rfl ?_); refine gL (some 90) rfl rfl Tryd.func32 (by kernel_rfl) rfl #[.slice Ao63 t389.length co63, .int .i64 1] rfl ?_; (with_reducible refine (laws_heldStringS.calls kj61 _ _ t389 1 t402 _ ?side1 ?side2 A78.out).mono ?_); (case side1 => exact rc0 HO_7); (case side2 => exact (Kd.R_reads' HO_7.out).2.1); rintro e w82 ⟨rfl, hb⟩; refine ⟨_, rfl, ?_⟩; replace HO_7 := nr HO_7 hb; replace HO_373000 := nr HO_373000 hb; replace BK354 := nb BK354 hb; replace BK372 := nb BK372 hb; replace HB := Aside0.mk (below_step (bs2 HB GE354 GE372) hb); (try clear hb); (try clear hb2); (try clear hk); (try clear hi)))
                go_ret
                exact ⟨by first | rfl | (simp [errW_none, errW_some] <;> rfl) | (simp [*, errW_none, errW_some] <;> rfl), bs2 HB GE354 GE372⟩
               ·
                rw [if_neg c81] at H
                have c81b0 : (t402 == t388) = false := beq_eq_false_iff_ne.mpr c81
                have c81b1 : (t402 != t388) = true := bne_iff_ne.mpr c81
                obtain rfl := Option.some.inj H
                go_wp2_with (first | ((with_reducible refine gate_callee (f := 32) rfl ?_); refine gL (some 90) rfl rfl Tryd.func32 (by kernel_rfl) rfl #[.slice Ao63 t389.length co63, .int .i64 1] rfl ?_; (with_reducible refine (laws_heldStringS.calls kj61 _ _ t389 1 t402 _ ?side1 ?side2 A78.out).mono ?_); (case side1 => exact rc0 HO_7); (case side2 => exact (Kd.R_reads' HO_7.out).2.1); rintro e w83 ⟨rfl, hb⟩; refine ⟨_, rfl, ?_⟩; replace HO_7 := nr HO_7 hb; replace HO_373000 := nr HO_373000 hb; replace BK354 := nb BK354 hb; replace BK372 := nb BK372 hb; replace HB := Aside0.mk (below_step (bs2 HB GE354 GE372) hb); (try clear hb); (try clear hb2); (try clear hk); (try clear hi)))
                go_ret
                exact ⟨by first | rfl | (simp [errW_none, errW_some] <;> rfl) | (simp [*, errW_none, errW_some] <;> rfl), bs2 HB GE354 GE372⟩
          ·
           rw [if_neg c59] at H
           have c59b0 : (t390 == t388) = false := beq_eq_false_iff_ne.mpr c59
           have c59b1 : (t390 != t388) = true := bne_iff_ne.mpr c59
           obtain rfl := Option.some.inj H
           obtain ⟨Ao84, co84, eo84⟩ := Kd.R_slice HO_7.out
           subst eo84
           go_wp2_with (first | ((with_reducible refine gate_callee (f := 31) rfl ?_); refine gL (some 64) rfl rfl Tryd.func31 (by kernel_rfl) rfl #[.slice Ao84 t373.length co84, .int .i64 1] rfl ?_; (with_reducible refine (laws_markStringS.calls kj36 (fun k_ => some k_ = (.slice Ao84 t373.length co84 : Value).ownBlock) (.slice Ao84 t373.length co84) t373 1 t388 t389 w _ ?side1 ?side2 A53.out).mono ?_); (case side1 => repeat (first | (with_reducible first | exact HB.out | apply below_alloc | apply pw_below_drewN | apply below_drew1 | refine below_set ?_ GE354.out | refine below_set ?_ GE372.out) | exact HB.out)); (case side2 => exact Kd.R_tight rfl HO_7.out); rintro e w85 ⟨rfl, hy0, hb, hkp⟩; refine ⟨_, rfl, ?_⟩; replace HO_4 := Aside0.mk (Kd.R_mono (ok' := fun k_ => some k_ ≠ (.slice Ao84 t373.length co84 : Value).ownBlock) (Kd.R_keptB (HO_4.out) hkp (fun k_ hk_ hs_ => (hk_) hs_)) (fun k_ hk_ => hk_.1)); replace HO_373000 := Aside0.mk (Kd.R_mono (ok' := fun k_ => True) (Kd.R_keptB ((Kd.R_apart' HO_373000.out (Kd.R_typed HO_7.out) (by decide))) hkp (fun k_ hk_ hs_ => (hk_.2) hs_)) (fun k_ hk_ => trivial)); replace BK354 := Aside0.mk (blk_kept (bk BK354) hkp (fun hs_ => (fun e_ => (Kd.R_ne HO_7.out BK354.out (by decide)) e_) hs_)); replace BK372 := Aside0.mk (blk_kept (bk BK372) hkp (fun hs_ => (fun e_ => (Kd.R_ne HO_7.out BK372.out (by decide)) e_) hs_)); replace HO_7 := Aside0.mk (Kd.R_reok rfl hy0 (fun k_ e_ => HO_7.out.1 k_ e_)); replace HB := Aside0.mk (hb); (try clear hb); (try clear hkp); (try clear hy0)) | ((with_reducible refine gate_callee (f := 32) rfl ?_); refine goesL_ (some 67) rfl rfl Tryd.func32 (by kernel_rfl) rfl #[.slice Ao84 t389.length co84, .int .i64 1] rfl (by (try simp only [List.map_toArray, List.map_cons, List.map_nil]); first | done | (rw [show t389.length = t373.length from (Kd.R_reads' HO_7.out).1.symm] <;> rfl) | rfl | (simp only [List.length_drop, List.length_take]; rfl)) ?_; (with_reducible refine (laws_heldStringS.calls kj36 _ _ t389 1 t390 _ ?side1 ?side2 A54.out).mono ?_); (case side1 => exact rc0 HO_7); (case side2 => rw [show t389.length = t373.length from (Kd.R_reads' HO_7.out).1.symm]; exact (Kd.R_reads' HO_7.out).2.1); rintro e w86 ⟨rfl, hb⟩; refine ⟨_, rfl, ?_⟩; replace HO_4 := nr HO_4 hb; replace HO_7 := nr HO_7 hb; replace HO_373000 := nr HO_373000 hb; replace BK354 := nb BK354 hb; replace BK372 := nb BK372 hb; replace HB := Aside0.mk (below_step (bs2 HB GE354 GE372) hb); (try clear hb); (try clear hb2); (try clear hk); (try clear hi)))
           go_ret
           exact ⟨by first | rfl | (simp [errW_none, errW_some] <;> rfl) | (simp [*, errW_none, errW_some] <;> rfl), bs2 HB GE354 GE372⟩
     ·
      replace c35 := Bool.eq_false_iff.mpr c35
      subst c35
      rw [if_neg (show ¬ (false = true) by decide)] at H
      obtain rfl := Option.some.inj H
      try go_wp2
      have n0_ := Aside0.mk (Kd.R_drew HO_4.out)
      have n1_ := Aside0.mk (Kd.R_drew HO_7.out)
      have n2_ := Aside0.mk (Kd.R_drew HO_373000.out)
      have n3_ := Aside0.mk (blk_drew BK354.out)
      have n4_ := Aside0.mk (blk_drew BK372.out)
      have n5_ := Aside0.mk (below_drew1 HB.out)
      clear HO_4
      clear HO_7
      clear HO_373000
      clear BK354
      clear BK372
      clear HB
      have HO_4 := n0_
      have HO_7 := n1_
      have HO_373000 := n2_
      have BK354 := n3_
      have BK372 := n4_
      have HB := n5_
      clear n0_ n1_ n2_ n3_ n4_ n5_
      refine start_ (n := 5) (S := fun w' => w'.cell? ⟨gb372, 0, none⟩ = some (.slice Ao22 t366.length co22) ∧ w'.cell? ⟨gb372, 1, none⟩ = some (.int .i64 t369) ∧ w'.cell? ⟨gb372, 2, none⟩ = some (.int .i64 t370) ∧ w'.cell? ⟨gb372, 3, none⟩ = some (.int .i64 t371) ∧ w'.cell? ⟨gb354, 0, none⟩ = some (.slice A0_0 l0_0.length c0_0) ∧ w'.cell? ⟨gb354, 1, none⟩ = some (.int .i64 a0_1) ∧ w'.cell? ⟨gb354, 2, none⟩ = some (.int .i64 a0_2) ∧ w'.cell? ⟨gb354, 3, none⟩ = some (.int .i64 a0_3)) (ds := []) #[false, false, false, false, false] (by kernel_rfl) rfl rfl ⟨(blk_cell BK372.out 0).trans rfl, (blk_cell BK372.out 1).trans rfl, (blk_cell BK372.out 2).trans rfl, (blk_cell BK372.out 3).trans rfl, (blk_cell BK354.out 0).trans rfl, (blk_cell BK354.out 1).trans rfl, (blk_cell BK354.out 2).trans rfl, (blk_cell BK354.out 3).trans rfl⟩ (fun hHeld => ?_)
      generalize wc.drew = w87 at HO_4 HO_7 HO_373000 BK354 BK372 HB hHeld ⊢
      refine take_ (i := 0) (N := some 41) (v := ?_) (a' := ?_) #[true, false, false, false, false] rfl rfl (by kernel_rfl) (fun _ _ _ h => h) (Or.inl ⟨by rfl, ?_⟩) hHeld ?_ ?_
      rotate_left
      ·
       rintro w' ⟨s0, s1, s2, s3, s4, s5, s6, s7⟩
       go_simp
       with_reducible rfl
      rotate_left
      ·
       simp only [Act.put, List.setIfInBounds_toArray, List.set_cons_zero, List.set_cons_succ, i64_w, i32_w]
       rfl
      refine take_ (i := 1) (N := some 42) (v := ?_) (a' := ?_) #[true, true, false, false, false] rfl rfl (by kernel_rfl) (fun _ _ _ h => h) (Or.inl ⟨by rfl, ?_⟩) hHeld ?_ ?_
      rotate_left
      ·
       rintro w' ⟨s0, s1, s2, s3, s4, s5, s6, s7⟩
       go_simp
       with_reducible rfl
      rotate_left
      ·
       simp only [Act.put, List.setIfInBounds_toArray, List.set_cons_zero, List.set_cons_succ, i64_w, i32_w]
       rfl
      refine one_ (i := 2) (N := some 43) #[true, true, true, false, false] rfl rfl (by kernel_rfl) (by decide) (fun K hK => ?_)
      refine goes_ Tryd.func19 (by kernel_rfl) rfl #[.agg #[.slice A0_0 l0_0.length c0_0, .int .i64 a0_1, .int .i64 a0_2, .int .i64 a0_3]] (by rfl) rfl rfl (by (try simp only [List.map_toArray, List.map_cons, List.map_nil]); first | done | rfl | (simp only [List.length_drop, List.length_take]; rfl)) ?_
      with_reducible refine (laws_toRing.calls kj10 _ _ l0_0 a0_1 a0_2 a0_3 t378 t381 t382 t383 _ ?side1 ?side2 A33.out).mono ?_
      (case side1 => exact cb HR0_0 HB)
      (case side2 => exact HC0_0.out)
      rintro e w88 ⟨v379, rfl, ho0, hb⟩
      refine ⟨_, rfl, ?_⟩
      have n0_ := Aside0.mk (Kd.R_below (rr HO_4.out) hb)
      have n1_ := Aside0.mk (Kd.R_below (rr HO_7.out) hb)
      have n2_ := Aside0.mk (Kd.R_elder' (rr HO_373000.out) (Kd.R_base ho0) hb)
      have n3_ := Aside0.mk (Kd.R_lower (Kd.R_new' ho0 (Kd.R_lt (rr HO_373000.out))) (below_size (bs2 HB GE354 GE372)))
      have n4_ := Aside0.mk (bb BK354 hb)
      have n5_ := Aside0.mk (bb BK372 hb)
      have n6_ := Aside0.mk (below_step (bs2 HB GE354 GE372) hb)
      clear HO_4
      clear HO_7
      clear HO_373000
      clear BK354
      clear BK372
      clear HB
      have HO_4 := n0_
      have HO_7 := n1_
      have HO_373000 := n2_
      have HO380 := n3_
      have BK354 := n4_
      have BK372 := n5_
      have HB := n6_
      clear n0_ n1_ n2_ n3_ n4_ n5_ n6_
      (try clear hb)
      (try clear hb2)
      (try clear hk)
      (try clear hi)
      (try clear ho0)
      obtain ⟨Ao89, co89, eo89⟩ := Kd.R_slice HO380.out
      (first | subst eo89 | (injection eo89 with f1_ f2_ f3_; have f4_ := f1_.symm; have f5_ := f3_.symm; clear f1_ f2_ f3_; subst f4_; subst f5_))
      refine hK.out _ _ ⟨(blk_cell BK372.out 0).trans rfl, (blk_cell BK372.out 1).trans rfl, (blk_cell BK372.out 2).trans rfl, (blk_cell BK372.out 3).trans rfl, (blk_cell BK354.out 0).trans rfl, (blk_cell BK354.out 1).trans rfl, (blk_cell BK354.out 2).trans rfl, (blk_cell BK354.out 3).trans rfl⟩ (fun hHeld => ?_)
      clear hK K
      refine norm_ (a' := ?_) ?_ ?_
      rotate_left
      ·
       show Act.put _ (some 43) _ = _
       simp only [Act.put, List.setIfInBounds_toArray, List.set_cons_zero, List.set_cons_succ, i64_w, i32_w]
       rfl
      refine one_ (i := 3) (N := some 44) #[true, true, true, true, false] rfl rfl (by kernel_rfl) (by decide) (fun K hK => ?_)
      refine goes_ Tryd.func21 (by kernel_rfl) rfl #[.agg #[.slice Ao22 t366.length co22, .int .i64 t369, .int .i64 t370, .int .i64 t371], .agg #[.slice Ao89 t378.length co89, .int .i64 t381, .int .i64 t382, .int .i64 t383]] (by rfl) rfl rfl (by (try simp only [List.map_toArray, List.map_cons, List.map_nil]); first | done | rfl | (simp only [List.length_drop, List.length_take]; rfl)) ?_
      with_reducible refine (laws_eqRing.calls kj10 _ _ t366 t369 t370 t371 _ _ t378 t381 t382 t383 false _ ?side1 ?side2 ?side3 ?side4 A34.out).mono ?_
      (case side1 => exact rc0 HO_373000)
      (case side2 => exact (Kd.R_reads' HO_373000.out).2.1)
      (case side3 => exact rc0 HO380)
      (case side4 => exact (Kd.R_reads' HO380.out).2.1)
      rintro e w90 ⟨rfl, hb⟩
      refine ⟨_, rfl, ?_⟩
      have n0_ := Aside0.mk (Kd.R_below (rr HO_4.out) hb)
      have n1_ := Aside0.mk (Kd.R_below (rr HO_7.out) hb)
      have n2_ := Aside0.mk (Kd.R_below (rr HO_373000.out) hb)
      have n3_ := Aside0.mk (Kd.R_below (rr HO380.out) hb)
      have n4_ := Aside0.mk (bb BK354 hb)
      have n5_ := Aside0.mk (bb BK372 hb)
      have n6_ := Aside0.mk (below_step (bs2 HB GE354 GE372) hb)
      clear HO_4
      clear HO_7
      clear HO_373000
      clear HO380
      clear BK354
      clear BK372
      clear HB
      have HO_4 := n0_
      have HO_7 := n1_
      have HO_373000 := n2_
      have HO380 := n3_
      have BK354 := n4_
      have BK372 := n5_
      have HB := n6_
      clear n0_ n1_ n2_ n3_ n4_ n5_ n6_
      (try clear hb)
      (try clear hb2)
      (try clear hk)
      (try clear hi)
      refine hK.out _ _ ⟨(blk_cell BK372.out 0).trans rfl, (blk_cell BK372.out 1).trans rfl, (blk_cell BK372.out 2).trans rfl, (blk_cell BK372.out 3).trans rfl, (blk_cell BK354.out 0).trans rfl, (blk_cell BK354.out 1).trans rfl, (blk_cell BK354.out 2).trans rfl, (blk_cell BK354.out 3).trans rfl⟩ (fun hHeld => ?_)
      clear hK K
      refine norm_ (a' := ?_) ?_ ?_
      rotate_left
      ·
       show Act.put _ (some 44) _ = _
       simp only [Act.put, List.setIfInBounds_toArray, List.set_cons_zero, List.set_cons_succ, i64_w, i32_w]
       rfl
      refine pure_ (i := 4) (N := some 45) (v := ?_) (a' := ?_) #[true, true, true, true, true] rfl rfl (by kernel_rfl) (fun _ _ _ h => h) (Or.inl ⟨by rfl, ?_⟩) ?_ ?_
      rotate_left
      ·
       intro w'
       go_simp
       with_reducible rfl
      rotate_left
      ·
       simp only [Act.put, List.setIfInBounds_toArray, List.set_cons_zero, List.set_cons_succ, i64_w, i32_w]
       rfl
      refine done_ (by kernel_rfl) ?_
      try go_wp2
      go_ret
      exact ⟨by first | rfl | (simp [errW_none, errW_some] <;> rfl) | (simp [*, errW_none, errW_some] <;> rfl), bs2 HB GE354 GE372⟩

/-- THE ONE PURE STATEMENT of laws_FnExactRecordsOf. -/
def laws_FnExactRecordsOf.Pure : Prop := ∀ (l0_0 : List (S23)) (a0_1 : Int) (a0_2 : Int) (a0_3 : Int), ok31 (⟨l0_0, a0_1, a0_2, a0_3⟩ : S31) → ∃ k, laws_FnExactRecordsOf.f k l0_0 a0_1 a0_2 a0_3 = some true

end Go.Proofs.YthlifcbkpafofaaDoor.G
