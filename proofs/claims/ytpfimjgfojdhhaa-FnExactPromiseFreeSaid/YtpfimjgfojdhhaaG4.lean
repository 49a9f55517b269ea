-- Printed by a program of this session (drive.py, by way of the kit's print). Not trusted: Lean checks it.
import Derived.Test.YtpfimjgfojdhhaaG0
import Derived.Test.YtpfimjgfojdhhaaG1
import Derived.Test.YtpfimjgfojdhhaaG3
namespace Go.Proofs.Ytpfimjgfojdhhaa.G
open Go.RowKit Go.Proofs.YtpfimjgfojdhhaaW.PrintWords Go.Proofs.YtpfimjgfojdhhaaW.PrintLast Go.Proofs.YtpfimjgfojdhhaaW.PrintMore
attribute [local go_sem] max2_int min2_int max_two min_two max_three min_three max_four min_four
set_option linter.unusedVariables false
set_option linter.unusedSimpArgs false
attribute [local go_sem high] eqA40
mutual
def impl_GoodFree.j0 : Nat → Bool → Int → List (S40) → List (S40) → Option (Bool)
 | 0, _, _, _, _ => none
 | k + 1, x14, x304000, x304001, x304002 => if x14 = true then (some false) else (impl_GoodFree.l0 k x304001 (x304001.length : Int) 0 x304000 x304001 x304002)
def impl_GoodFree.l0 : Nat → List (S40) → Int → Int → Int → List (S40) → List (S40) → Option (Bool)
 | 0, _, _, _, _, _, _ => none
 | k + 1, x16, x17, x18, x304000, x304001, x304002 => if x18 < x17 then (if 0 ≤ x18 then (if x18 < (x16.length : Int) then ((impl_isExtent.f ((rd_T40 x16 x18).f0) ((rd_T40 x16 x18).f1) x304000).bind fun t307 => (if t307 = true then (if x18 > 0 then (if 0 ≤ (wrap64 (x18 - 1)) then (if (wrap64 (x18 - 1)) < (x304001.length : Int) then (if ((rd_T40 x16 x18).f0) ≤ (wrap64 (((rd_T40 x304001 (wrap64 (x18 - 1))).f0) + ((rd_T40 x304001 (wrap64 (x18 - 1))).f1))) then (some false) else (impl_GoodFree.l0 k x16 x17 (wrap64 (x18 + 1)) x304000 x304001 x304002)) else (none)) else (none)) else (impl_GoodFree.l0 k x16 x17 (wrap64 (x18 + 1)) x304000 x304001 x304002)) else (some false))) else (none)) else (none)) else ((impl_freeOf.f x304000 x304001).bind fun bt310 => ((impl_Extent_63.f k bt310.2.2 x304002).bind fun t317 => (some t317)))
end
def impl_GoodFree.f (k : Nat) (a0_0 : Int) (l0_1 : List (S40)) (l0_2 : List (S40)) : Option (Bool) := (impl_within.f a0_0 1 400).bind fun t304 => (if t304 = true then (impl_GoodFree.j0 k (decide ((l0_1.length : Int) > 60)) a0_0 l0_1 l0_2) else (impl_GoodFree.j0 k true a0_0 l0_1 l0_2))
theorem impl_GoodFree.mono_l : ∀ k, (∀ y0 y1 y2 y3, LeO (impl_GoodFree.j0 k y0 y1 y2 y3) (impl_GoodFree.j0 (k + 1) y0 y1 y2 y3)) ∧ (∀ y0 y1 y2 y3 y4 y5, LeO (impl_GoodFree.l0 k y0 y1 y2 y3 y4 y5) (impl_GoodFree.l0 (k + 1) y0 y1 y2 y3 y4 y5))
 | 0 => ⟨fun _ _ _ _ r h => by simp [impl_GoodFree.j0] at h, fun _ _ _ _ _ _ r h => by simp [impl_GoodFree.l0] at h⟩
 | k + 1 => by
  obtain ⟨ih0, ih1⟩ := impl_GoodFree.mono_l k
  refine ⟨?_, ?_⟩ <;> intros <;> first | unfold impl_GoodFree.j0 | unfold impl_GoodFree.l0
  all_goals repeat' first
   | (with_reducible exact ih0 _ _ _ _)
   | (with_reducible exact ih1 _ _ _ _ _ _)
   | (with_reducible exact impl_Extent_63.mono _ _ _)
   | (with_reducible exact LeO.refl _)
   | (with_reducible exact LeO.none _)
   | (with_reducible refine LeO.ite ?_ ?_)
   | (with_reducible refine LeO.bind ?_ (fun _ => ?_))
   | exact ih0 _ _ _ _
   | exact ih1 _ _ _ _ _ _
   | exact impl_Extent_63.mono _ _ _
   | exact LeO.none _
   | refine LeO.ite ?_ ?_
   | refine LeO.bind ?_ (fun _ => ?_)
theorem impl_GoodFree.mono : ∀ a0 a1 a2 k, LeO (impl_GoodFree.f k a0 a1 a2) (impl_GoodFree.f (k + 1) a0 a1 a2) := by
 intro a0 a1 a2 k
 obtain ⟨ih0, ih1⟩ := impl_GoodFree.mono_l k
 unfold impl_GoodFree.f
 repeat' first
   | (with_reducible exact ih0 _ _ _ _)
   | (with_reducible exact ih1 _ _ _ _ _ _)
   | (with_reducible exact impl_Extent_63.mono _ _ _)
   | (with_reducible exact LeO.refl _)
   | (with_reducible exact LeO.none _)
   | (with_reducible refine LeO.ite ?_ ?_)
   | (with_reducible refine LeO.bind ?_ (fun _ => ?_))
   | exact ih0 _ _ _ _
   | exact ih1 _ _ _ _ _ _
   | exact impl_Extent_63.mono _ _ _
   | exact LeO.none _
   | refine LeO.ite ?_ ?_
   | refine LeO.bind ?_ (fun _ => ?_)
def impl_GoodFree.T6 : Bool × List (List Nat × List Nat) := (true, [([], []), ([], []), ([1], [1]), ([0, 2], [0, 2]), ([3], [3]), ([4, 3], [4]), ([5], [5]), ([6, 5], [5, 6]), ([7, 5, 5], [5, 7]), ([8], [8]), ([9, 8], [8, 9]), ([8], [8]), ([11, 8], [8, 11]), ([8], [8]), ([13, 8], [8, 13]), ([12, 14, 8], [8, 12, 14]), ([15, 8], [8, 15]), ([16, 8], [8, 16]), ([8], [8]), ([18, 8], [8, 18]), ([8], [8]), ([20, 8], [8, 20]), ([19, 21, 8], [8, 19, 21]), ([22, 8], [8, 22]), ([23, 8], [8, 23]), ([17, 24, 8], [8, 17, 24]), ([10, 25, 8], [8, 10, 25]), ([8, 26, 5], [5, 8, 26]), ([5, 27], [5, 27])])
def impl_GoodFree.B6 : List Nat := [0, 0, 2, 7, 15, 31, 63, 127, 255, 511, 1023, 511, 2559, 511, 8703, 31231, 63999, 129535, 511, 262655, 511, 1049087, 3932671, 8126975, 16515583, 33552895, 67108863, 134217727, 268435455]
theorem impl_GoodFree.tab6 : rtab .any (opsOf Try.f48 6) = impl_GoodFree.T6 := by kernel_rfl
theorem impl_GoodFree.bits6 : waitsOk impl_GoodFree.T6.2 impl_GoodFree.B6 = true := by kernel_rfl
def impl_GoodFree.T9 : Bool × List (List Nat × List Nat) := (true, [([], []), ([0], [0]), ([], []), ([2], [2]), ([1, 3], [1, 3]), ([4], [4]), ([], []), ([6], [6]), ([5, 7, 4], [5, 7]), ([8, 8, 0, 1, 2, 3, 4, 5, 6, 7, 8], [8])])
def impl_GoodFree.B9 : List Nat := [0, 1, 0, 4, 15, 31, 0, 64, 255, 511]
theorem impl_GoodFree.tab9 : rtab .any (opsOf Try.f48 9) = impl_GoodFree.T9 := by kernel_rfl
theorem impl_GoodFree.bits9 : waitsOk impl_GoodFree.T9.2 impl_GoodFree.B9 = true := by kernel_rfl
set_option maxHeartbeats 8000000 in
set_option maxRecDepth 100000 in
theorem impl_GoodFree.calls (k : Nat) (a0_0 : Int) (A0_1 : Option Addr) (c0_1 : Nat) (l0_1 : List (S40)) (A0_2 : Option Addr) (c0_2 : Nat) (l0_2 : List (S40)) (r : Bool) (w : World) (hr0_1 : Kd.C k40 w A0_1 l0_1.length l0_1) (hc0_1 : l0_1.length ≤ c0_1) (hr0_2 : Kd.C k40 w A0_2 l0_2.length l0_2) (hc0_2 : l0_2.length ≤ c0_2) (h : impl_GoodFree.f k a0_0 l0_1 l0_2 = some r) :
  Calls Try.prog 48 #[.agg #[.int .i64 a0_0, .slice A0_1 l0_1.length c0_1, .slice A0_2 l0_2.length c0_2]] w fun e w' => e = .returned (.bool r) ∧ Below w.heap.size w w' := by
 have hu33 := Try.underlying33
 have hu40 := Try.underlying40
 have HR0_1 := Ah hr0_1
 have HC0_1 := Ah hc0_1
 clear hr0_1 hc0_1
 have HR0_2 := Ah hr0_2
 have HC0_2 := Ah hc0_2
 clear hr0_2 hc0_2
 have HB := Ah (Below.refl w.heap.size w)
 have H : ((impl_within.f a0_0 1 400).bind fun t304 => (if t304 = true then (impl_GoodFree.j0 k (decide ((l0_1.length : Int) > 60)) a0_0 l0_1 l0_2) else (impl_GoodFree.j0 k true a0_0 l0_1 l0_2))) = some r := h
 clear h
 have HC2 := Ah H
 clear H
 go_enter Try.func48, Try.ntmps48
 go_upto_region 1 with (first | ((with_reducible refine gate_dst (N := 1) rfl ?_); (try (refine gate_guard (by rfl) ?_; dsimp only)); refine boxL 1 33 #[.int .i64 a0_0, .slice A0_1 l0_1.length c0_1, .slice A0_2 l0_2.length c0_2] ?_; intro gb303 hg w3 BK303 hb; have GW303 := gw hg (bs HB); have GE303 := gw hg (bs HB); replace HB := Ah (below_step (bs HB) hb); clear hb hg))
 (try simp only [Act.put, List.setIfInBounds_toArray, List.set_cons_zero, List.set_cons_succ])
 go_cut [14] (fun v14 wc => ∃ (kq : Nat) (x14_1 : Bool), v14 = .bool x14_1 ∧ Aside0 (impl_GoodFree.j0 kq x14_1 a0_0 l0_1 l0_2 = some r) ∧ Aside0 (kq ≤ k) ∧ Aside0 (wc.heap[gb303]? = some (.cells #[.int .i64 a0_0, (.slice A0_1 l0_1.length c0_1), (.slice A0_2 l0_2.length c0_2)] 33 (0, 0))) ∧ Aside0 (Below w.heap.size w wc))
 case first =>
  have H := HC2.out
  clear HC2
  replace H := Option.bind_eq_some_iff.mp H
  obtain ⟨t304, A40, H⟩ := H
  try dsimp only at H
  have A4 := Ah A40
  clear A40
  by_cases c5 : t304 = true
  ·
   subst c5
   rw [if_pos rfl] at H
   have H' := Ah H
   clear H
   obtain ⟨hcz6_0, hcz6_1, hcz6_2⟩ := cz3 BK303
   obtain ⟨hfz6_0, hfz6_1, hfz6_2⟩ := fz3 BK303
   go_wp2_with (first | ((with_reducible refine gate_callee (f := 49) rfl ?_); refine gL (some 7) rfl rfl Try.func49 (by kernel_rfl) rfl #[.int .i64 a0_0, .int .i64 1, .int .i64 400] rfl ?_; (with_reducible refine (impl_within.calls a0_0 1 400 true _ A4.out).mono ?_); rintro e w' ⟨rfl, ⟨nd, rfl⟩⟩; refine ⟨_, rfl, ?_⟩))
   go_meet
   case rel => exact ⟨_, (decide ((l0_1.length : Int) > 60)), e3, H', ⟨by first | omega | exact Nat.le_refl _⟩, ⟨bk BK303⟩, ⟨bs1 HB GE303⟩⟩
  replace c5 := Bool.eq_false_iff.mpr c5
  subst c5
  rw [if_neg fne] at H
  have H' := Ah H
  clear H
  obtain ⟨hcz7_0, hcz7_1, hcz7_2⟩ := cz3 BK303
  obtain ⟨hfz7_0, hfz7_1, hfz7_2⟩ := fz3 BK303
  go_wp2_with (first | ((with_reducible refine gate_callee (f := 49) rfl ?_); refine gL (some 7) rfl rfl Try.func49 (by kernel_rfl) rfl #[.int .i64 a0_0, .int .i64 1, .int .i64 400] rfl ?_; (with_reducible refine (impl_within.calls a0_0 1 400 false _ A4.out).mono ?_); rintro e w' ⟨rfl, ⟨nd, rfl⟩⟩; refine ⟨_, rfl, ?_⟩))
  go_meet
  case rel => exact ⟨_, (true), e3, H', ⟨by first | omega | exact Nat.le_refl _⟩, ⟨bk BK303⟩, ⟨bs1 HB GE303⟩⟩
 case rest =>
  clear HC2
  try clear p2
  try clear c4
  try clear c5
  try clear hcz6_0 hcz6_1 hcz6_2
  try clear hcz7_0 hcz7_1 hcz7_2
  try clear hfz6_0 hfz6_1 hfz6_2
  try clear hfz7_0 hfz7_1 hfz7_2
  obtain ⟨kq, x14_1, rfl, HA, HJ1, BK303, HB⟩ := hcut
  cases kq with
  | zero => exact absurd HA.out (by simp [impl_GoodFree.j0])
  | succ kj1 =>
   have H := HA.out
   clear HA
   simp only [impl_GoodFree.j0] at H
   by_cases c8 : x14_1 = true
   ·
    subst c8
    rw [if_pos rfl] at H
    obtain rfl := Option.some.inj H
    go_wp2
    go_ret
    exact ⟨er, bs1 HB GE303⟩
   replace c8 := Bool.eq_false_iff.mpr c8
   subst c8
   rw [if_neg fne] at H
   have H' := Ah H
   clear H
   obtain ⟨hcz9_0, hcz9_1, hcz9_2⟩ := cz3 BK303
   obtain ⟨hfz9_0, hfz9_1, hfz9_2⟩ := fz3 BK303
   go_wp2
   go_loopg [18] kj1 (fun kq v18 w' => ∃ (x18_2 : Int), v18 = .int .i64 x18_2 ∧ Aside0 (impl_GoodFree.l0 kq l0_1 (l0_1.length : Int) x18_2 a0_0 l0_1 l0_2 = some r) ∧ Aside0 (kq ≤ kj1) ∧ Aside0 (w'.heap[gb303]? = some (.cells #[.int .i64 a0_0, (.slice A0_1 l0_1.length c0_1), (.slice A0_2 l0_2.length c0_2)] 33 (0, 0))) ∧ Aside0 (Below w.heap.size w w'))
   case atStart => exact ⟨(0), e3, H', ⟨Nat.le_refl _⟩, ⟨bk BK303⟩, ⟨bs1 HB GE303⟩⟩
   case round =>
    clear H'
    try clear p2
    try clear c4
    try clear c5
    try clear c8
    try clear hcz6_0 hcz6_1 hcz6_2
    try clear hcz7_0 hcz7_1 hcz7_2
    try clear hcz9_0 hcz9_1 hcz9_2
    try clear hfz6_0 hfz6_1 hfz6_2
    try clear hfz7_0 hfz7_1 hfz7_2
    try clear hfz9_0 hfz9_1 hfz9_2
    try clear p2
    obtain ⟨x18_2, rfl, HA, HK2, BK303, HB⟩ := hrel
    cases gk with
    | zero => exact absurd HA.out (by simp [impl_GoodFree.l0])
    | succ k2 =>
     have H := HA.out
     clear HA
     simp only [impl_GoodFree.l0] at H
     by_cases c10 : x18_2 < (l0_1.length : Int)
     rotate_left
     ·
      rw [if_neg c10] at H
      have c10b0 : decide (x18_2 < (l0_1.length : Int)) = false := decide_eq_false c10
      clear c10
      replace H := Option.bind_eq_some_iff.mp H
      obtain ⟨⟨t310, t311, t314⟩, A440, H⟩ := H
      try dsimp only at H
      have A44 := Ah A440
      clear A440
      replace H := Option.bind_eq_some_iff.mp H
      obtain ⟨t317, A450, H⟩ := H
      try dsimp only at H
      have A45 := Ah A450
      clear A450
      obtain rfl := Option.some.inj H
      try go_wp2
      have n0_ := Ah (blk_drew BK303.out)
      have n1_ := Ah (below_drew1 HB.out)
      clear BK303 HB
      have BK303 := n0_
      have HB := n1_
      clear n0_ n1_
      refine start_ (n := 10) (S := fun w' => w'.cell? ⟨gb303, 0, none⟩ = some (.int .i64 a0_0) ∧ w'.cell? ⟨gb303, 1, none⟩ = some (.slice A0_1 l0_1.length c0_1) ∧ w'.cell? ⟨gb303, 2, none⟩ = some (.slice A0_2 l0_2.length c0_2)) (ds := []) #[false, false, false, false, false, false, false, false, false, false] (by kernel_rfl) rfl rfl ⟨(blk_cell BK303.out 0).trans rfl, (blk_cell BK303.out 1).trans rfl, (blk_cell BK303.out 2).trans rfl⟩ (fun hHeld => ?_); refine with_tabW impl_GoodFree.tab9 impl_GoodFree.bits9 (fun HT_ HW_ => ?_)
      generalize wr.drew = w46 at BK303 HB hHeld ⊢
      refine pureS 0 53 HT_.out ?_
      refine pureS 2 55 HT_.out ?_
      refine pureS 6 59 HT_.out ?_
      refine takeS 1 54 HT_.out HW_.out hHeld (hr := by rintro w' ⟨s0, s1, s2⟩; go_simp; with_reducible rfl) (h := ?_)
      refine takeS 3 56 HT_.out HW_.out hHeld (hr := by rintro w' ⟨s0, s1, s2⟩; go_simp; with_reducible rfl) (h := ?_)
      refine takeS 7 60 HT_.out HW_.out hHeld (hr := by rintro w' ⟨s0, s1, s2⟩; go_simp; with_reducible rfl) (h := ?_)
      refine one_ (i := 4) (N := some 57) #[true, true, true, true, true, false, true, true, false, false] rfl rfl (one_of HT_.out (by kernel_rfl)) (by decide) (fun K hK => ?_)
      refine goes_ Try.func64 (by kernel_rfl) rfl #[.int .i64 a0_0, .slice A0_1 l0_1.length c0_1] (by rfl) rfl rfl (by (try simp only [List.map_toArray, List.map_cons, List.map_nil]); first | done | rfl | (simp only [List.length_drop, List.length_take]; rfl)) ?_
      with_reducible refine (impl_freeOf.calls a0_0 (fun k_ => k_ < w.heap.size) _ _ l0_1 t310 t311 t314 _ ?side1 A44.out).mono ?_
      (case side1 => exact Kd.V_mk HC0_1.out (Kd.F_below (Kd.C_F k40_heap HR0_1.out) (bs1 HB GE303)))
      rintro e w47 ⟨v312, v315, rfl, ho0, ho1, hb⟩
      obtain ⟨AoV_, coV_, eoV_⟩ := Kd.V_slice ho0
      subst eoV_
      have hfd_ : ∀ (t : Int) (A A' : Option Addr) (n c n' c' : Nat) (w' : World), (Instr.field 33 (.agg #[.int .i64 t, .slice A n c, .slice A' n' c']) 2).run Try.prog w' = .ok (.slice A' n' c') w' := fun _ _ _ _ _ _ _ _ => by kernel_rfl
      refine ⟨_, rfl, ?_⟩
      have n0_ := Ah (Kd.V_lower (Kd.V_mono (ok' := fun k_ => some k_ ≠ (v315 : Value).ownBlock ∧ k_ ≠ gb303) ho0 (fun k_ hk_ => ⟨hk_.2, Or.elim hk_.1 (fun hs_ => fun e_ => Nat.not_le.2 hs_ (by rw [e_]; exact GW303.out)) (fun hn_ => (Kd.freshB (bk BK303) k_ hn_))⟩)) (below_size (bs1 HB GE303)))
      have n1_ := Ah (Kd.R_lower (Kd.R_mono (ok' := fun k_ => True) ho1 (fun _ hk_ => trivial)) (below_size (bs1 HB GE303)))
      have n2_ := Ah (bb BK303 hb)
      have n3_ := Ah (below_step (bs1 HB GE303) hb)
      clear BK303 HB
      have HO313 := n0_
      have HO316 := n1_
      have BK303 := n2_
      have HB := n3_
      clear n0_ n1_ n2_ n3_
      (try clear hb)
      (try clear hb2)
      (try clear hk)
      (try clear hi)
      (try clear ho0)
      (try clear ho1)
      obtain ⟨Ao48, co48, eo48⟩ := Kd.R_slice HO316.out
      (first | subst eo48 | (injection eo48 with f1_ f2_ f3_; have f4_ := f1_.symm; have f5_ := f3_.symm; clear f1_ f2_ f3_; subst f4_; subst f5_))
      refine hK.out _ _ ⟨(blk_cell BK303.out 0).trans rfl, (blk_cell BK303.out 1).trans rfl, (blk_cell BK303.out 2).trans rfl⟩ (fun hHeld => ?_)
      clear hK K
      refine norm_ (a' := ?_) ?_ ?_
      rotate_left
      ·
       show Act.put _ (some 57) _ = _
       simp only [Act.put, List.setIfInBounds_toArray, List.set_cons_zero, List.set_cons_succ, i64_w, i32_w]
       rfl
      refine pureS 5 58 HT_.out ?_
      refine one_ (i := 8) (N := some 61) #[true, true, true, true, true, true, true, true, true, false] rfl rfl (one_of HT_.out (by kernel_rfl)) (by decide) (fun K hK => ?_)
      refine goes_ Try.func63 (by kernel_rfl) rfl #[.slice Ao48 t314.length co48, .slice A0_2 l0_2.length c0_2] (by rfl) rfl rfl (by (try simp only [List.map_toArray, List.map_cons, List.map_nil]); first | done | rfl | (simp only [List.length_drop, List.length_take]; rfl)) ?_
      with_reducible refine (impl_Extent_63.calls k2 _ _ t314 _ _ l0_2 t317 _ ?side1 ?side2 ?side3 ?side4 A45.out).mono ?_
      (case side1 => exact rc0 HO316)
      (case side2 => exact (Kd.R_reads' HO316.out).2.1)
      (case side3 => exact cb HR0_2 HB)
      (case side4 => exact HC0_2.out)
      rintro e w' ⟨rfl, ⟨nd, rfl⟩⟩
      refine ⟨_, rfl, ?_⟩
      refine hK.out _ _ ⟨(blk_cell BK303.out 0).trans rfl, (blk_cell BK303.out 1).trans rfl, (blk_cell BK303.out 2).trans rfl⟩ (fun hHeld => ?_)
      clear hK K
      refine norm_ (a' := ?_) ?_ ?_
      rotate_left
      ·
       show Act.put _ (some 61) _ = _
       simp only [Act.put, List.setIfInBounds_toArray, List.set_cons_zero, List.set_cons_succ, i64_w, i32_w]
       rfl
      refine pureS 9 2 HT_.out ?_
      refine done_ (done_of HT_.out (by kernel_rfl)) ?_
      try go_wp2
      go_ret
      exact ⟨er, bs1 HB GE303⟩
     rw [if_pos c10] at H
     have c10b0 : decide (x18_2 < (l0_1.length : Int)) = true := decide_eq_true c10
     clear c10
     by_cases c11 : 0 ≤ x18_2
     rotate_left
     ·
      rw [if_neg c11] at H
      exact absurd H (by simp)
     rw [if_pos c11] at H
     have c11b0 : decide (0 ≤ x18_2) = true := decide_eq_true c11
     clear c11
     by_cases c12 : x18_2 < (l0_1.length : Int)
     rotate_left
     ·
      rw [if_neg c12] at H
      exact absurd H (by simp)
     rw [if_pos c12] at H
     have c12b0 : decide (x18_2 < (l0_1.length : Int)) = true := decide_eq_true c12
     clear c12
     replace H := Option.bind_eq_some_iff.mp H
     obtain ⟨t307, A130, H⟩ := H
     try dsimp only at H
     have A13 := Ah A130
     clear A130
     by_cases c14 : t307 = true
     rotate_left
     ·
      replace c14 := Bool.eq_false_iff.mpr c14
      subst c14
      rw [if_neg fne] at H
      obtain rfl := Option.some.inj H
      have p305 : 0 ≤ (x18_2 : Int) := od
      have q305 : x18_2 < (l0_1.length : Int) := od
      obtain ⟨ad305, e305, hx305_0, hx305_1⟩ := at_T40 HR0_1.out x18_2 p305 q305
      cases e305
      replace hx305_0 := (HB.out.cell (World.block_lt_of_cell? w _ hx305_0)).trans hx305_0
      replace hx305_1 := (HB.out.cell (World.block_lt_of_cell? w _ hx305_1)).trans hx305_1
      replace p305 := eq_true p305
      replace q305 := eq_true q305
      try go_wp2_with (first | ((with_reducible refine gate_dst (N := 4) rfl ?_); (try (refine gate_guard (by rfl) ?_; dsimp only)); refine boxL 4 40 #[.int .i64 0, .int .i64 0] ?_; intro gb306 hg w38 BK306 hb; have GW306 := gw hg (bs1 HB GE303); have GE306 := gw hg (bs1 HB GE303); replace HB := Ah (below_step (bs1 HB GE303) hb); have NB303_306 := nn BK303 hg; have NB306_303 := nm BK303 hg; replace BK303 := nb BK303 hb; clear hb hg; have hnb39 := NB306_303.out; have hnc39 := NB303_306.out; obtain ⟨hcz40_0, hcz40_1⟩ := cz2 BK306; obtain ⟨hfz40_0, hfz40_1⟩ := fz2 BK306))
      have n0_ : Aside0 (((w38.setCell ⟨gb306, 0, none⟩ (.int .i64 ((rd_T40 l0_1 x18_2).f0))).setCell ⟨gb306, 1, none⟩ (.int .i64 ((rd_T40 l0_1 x18_2).f1))).heap[gb303]? = some (.cells #[.int .i64 a0_0, .slice (some ad305) l0_1.length c0_1, .slice A0_2 l0_2.length c0_2] 33 (0, 0))) := ⟨bf BK303 NB303_306⟩
      have n1_ : Aside0 (((w38.setCell ⟨gb306, 0, none⟩ (.int .i64 ((rd_T40 l0_1 x18_2).f0))).setCell ⟨gb306, 1, none⟩ (.int .i64 ((rd_T40 l0_1 x18_2).f1))).heap[gb306]? = some (.cells #[.int .i64 ((rd_T40 l0_1 x18_2).f0), .int .i64 ((rd_T40 l0_1 x18_2).f1)] 40 (0, 0))) := ⟨by (with_reducible repeat (first | refine blk_drewN ?_ _ | refine blk_drew ?_ | refine blk_alloc ?_ _)); refine blk_put (cs := #[.int .i64 ((rd_T40 l0_1 x18_2).f0), .int .i64 0]) ?_ 1 _ rfl; (with_reducible repeat (first | refine blk_drewN ?_ _ | refine blk_drew ?_ | refine blk_alloc ?_ _)); refine blk_put (cs := #[.int .i64 0, .int .i64 0]) ?_ 0 _ rfl; (with_reducible repeat (first | refine blk_drewN ?_ _ | refine blk_drew ?_ | refine blk_alloc ?_ _)); exact BK306.out⟩
      have n2_ : Aside0 (Below w.heap.size w ((w38.setCell ⟨gb306, 0, none⟩ (.int .i64 ((rd_T40 l0_1 x18_2).f0))).setCell ⟨gb306, 1, none⟩ (.int .i64 ((rd_T40 l0_1 x18_2).f1)))) := ⟨bs2 HB GE303 GE306⟩
      (try clear BK303)
      (try clear BK306)
      (try clear HB)
      generalize ((w38.setCell ⟨gb306, 0, none⟩ (.int .i64 ((rd_T40 l0_1 x18_2).f0))).setCell ⟨gb306, 1, none⟩ (.int .i64 ((rd_T40 l0_1 x18_2).f1))) = w41 at n0_ n1_ n2_ ⊢
      have BK303 := n0_
      have BK306 := n1_
      have HB := n2_
      clear n0_ n1_ n2_
      have n0_ := Ah (blk_drew BK303.out)
      have n1_ := Ah (blk_drew BK306.out)
      have n2_ := Ah (below_drew1 HB.out)
      clear BK303 BK306 HB
      have BK303 := n0_
      have BK306 := n1_
      have HB := n2_
      clear n0_ n1_ n2_
      refine start_ (n := 29) (S := fun w' => w'.cell? ⟨gb306, 0, none⟩ = some (.int .i64 ((rd_T40 l0_1 x18_2).f0)) ∧ w'.cell? ⟨gb306, 1, none⟩ = some (.int .i64 ((rd_T40 l0_1 x18_2).f1)) ∧ w'.cell? ⟨gb303, 0, none⟩ = some (.int .i64 a0_0) ∧ w'.cell? ⟨gb303, 1, none⟩ = some (.slice (some ad305) l0_1.length c0_1) ∧ w'.cell? ⟨gb303, 2, none⟩ = some (.slice A0_2 l0_2.length c0_2)) (ds := []) #[false, false, false, false, false, false, false, false, false, false, false, false, false, false, false, false, false, false, false, false, false, false, false, false, false, false, false, false, false] (by kernel_rfl) rfl rfl ⟨(blk_cell BK306.out 0).trans rfl, (blk_cell BK306.out 1).trans rfl, (blk_cell BK303.out 0).trans rfl, (blk_cell BK303.out 1).trans rfl, (blk_cell BK303.out 2).trans rfl⟩ (fun hHeld => ?_); refine with_tabW impl_GoodFree.tab6 impl_GoodFree.bits6 (fun HT_ HW_ => ?_)
      generalize w41.drew = w42 at BK303 BK306 HB hHeld ⊢
      refine pureS 1 24 HT_.out ?_
      refine takeS 0 23 HT_.out HW_.out hHeld (hr := by rintro w' ⟨s0, s1, s2, s3, s4⟩; go_simp; with_reducible rfl) (h := ?_)
      refine takeS 2 25 HT_.out HW_.out hHeld (hr := by rintro w' ⟨s0, s1, s2, s3, s4⟩; go_simp; with_reducible rfl) (h := ?_)
      refine one_ (i := 3) (N := some 26) #[true, true, true, true, false, false, false, false, false, false, false, false, false, false, false, false, false, false, false, false, false, false, false, false, false, false, false, false, false] rfl rfl (one_of HT_.out (by kernel_rfl)) (by decide) (fun K hK => ?_)
      refine goes_ Try.func53 (by kernel_rfl) rfl #[.agg #[.int .i64 ((rd_T40 l0_1 x18_2).f0), .int .i64 ((rd_T40 l0_1 x18_2).f1)], .int .i64 a0_0] (by rfl) rfl rfl (by (try simp only [List.map_toArray, List.map_cons, List.map_nil]); first | done | rfl | (simp only [List.length_drop, List.length_take]; rfl)) ?_
      with_reducible refine (impl_isExtent.calls ((rd_T40 l0_1 x18_2).f0) ((rd_T40 l0_1 x18_2).f1) a0_0 false _ A13.out).mono ?_
      rintro e w43 ⟨rfl, hb⟩
      refine ⟨_, rfl, ?_⟩
      have n0_ := Ah (bb BK303 hb)
      have n1_ := Ah (bb BK306 hb)
      have n2_ := Ah (below_step (bs2 HB GE303 GE306) hb)
      clear BK303 BK306 HB
      have BK303 := n0_
      have BK306 := n1_
      have HB := n2_
      clear n0_ n1_ n2_
      (try clear hb)
      (try clear hb2)
      (try clear hk)
      (try clear hi)
      refine hK.out _ _ ⟨(blk_cell BK306.out 0).trans rfl, (blk_cell BK306.out 1).trans rfl, (blk_cell BK303.out 0).trans rfl, (blk_cell BK303.out 1).trans rfl, (blk_cell BK303.out 2).trans rfl⟩ (fun hHeld => ?_)
      clear hK K
      refine norm_ (a' := ?_) ?_ ?_
      rotate_left
      ·
       show Act.put _ (some 26) _ = _
       simp only [Act.put, List.setIfInBounds_toArray, List.set_cons_zero, List.set_cons_succ, i64_w, i32_w]
       rfl
      refine pureS 4 27 HT_.out ?_
      refine pureS 5 28 HT_.out ?_
      refine pureU 6 29 HT_.out ?_
      refine pureU 7 30 HT_.out ?_
      refine pureU 8 31 HT_.out ?_
      refine pureU 9 32 HT_.out ?_
      refine pureU 10 33 HT_.out ?_
      refine pureU 11 34 HT_.out ?_
      refine pureU 12 35 HT_.out ?_
      refine pureU 13 36 HT_.out ?_
      refine pureU 14 37 HT_.out ?_
      refine pureU 15 38 HT_.out ?_
      refine pureU 16 39 HT_.out ?_
      refine pureU 17 40 HT_.out ?_
      refine pureU 18 41 HT_.out ?_
      refine pureU 19 42 HT_.out ?_
      refine pureU 20 43 HT_.out ?_
      refine pureU 21 44 HT_.out ?_
      refine pureU 22 45 HT_.out ?_
      refine pureU 23 46 HT_.out ?_
      refine pureU 24 47 HT_.out ?_
      refine pureU 25 48 HT_.out ?_
      refine pureU 26 49 HT_.out ?_
      refine pureU 27 50 HT_.out ?_
      refine pureS 28 51 HT_.out ?_
      refine done_ (done_of HT_.out (by kernel_rfl)) ?_
      try go_wp2
      go_ret
      exact ⟨er, bs2 HB GE303 GE306⟩
     subst c14
     rw [if_pos rfl] at H
     by_cases c15 : x18_2 > 0
     rotate_left
     ·
      rw [if_neg c15] at H
      have c15b0 : decide (0 < x18_2) = false := decide_eq_false c15
      clear c15
      have H' := Ah H
      clear H
      have p305 : 0 ≤ (x18_2 : Int) := od
      have q305 : x18_2 < (l0_1.length : Int) := od
      obtain ⟨ad305, e305, hx305_0, hx305_1⟩ := at_T40 HR0_1.out x18_2 p305 q305
      cases e305
      replace hx305_0 := (HB.out.cell (World.block_lt_of_cell? w _ hx305_0)).trans hx305_0
      replace hx305_1 := (HB.out.cell (World.block_lt_of_cell? w _ hx305_1)).trans hx305_1
      replace p305 := eq_true p305
      replace q305 := eq_true q305
      try go_wp2_with (first | ((with_reducible refine gate_dst (N := 4) rfl ?_); (try (refine gate_guard (by rfl) ?_; dsimp only)); refine boxL 4 40 #[.int .i64 0, .int .i64 0] ?_; intro gb306 hg w32 BK306 hb; have GW306 := gw hg (bs1 HB GE303); have GE306 := gw hg (bs1 HB GE303); replace HB := Ah (below_step (bs1 HB GE303) hb); have NB303_306 := nn BK303 hg; have NB306_303 := nm BK303 hg; replace BK303 := nb BK303 hb; clear hb hg; have hnb33 := NB306_303.out; have hnc33 := NB303_306.out; obtain ⟨hcz34_0, hcz34_1⟩ := cz2 BK306; obtain ⟨hfz34_0, hfz34_1⟩ := fz2 BK306))
      have n0_ : Aside0 (((w32.setCell ⟨gb306, 0, none⟩ (.int .i64 ((rd_T40 l0_1 x18_2).f0))).setCell ⟨gb306, 1, none⟩ (.int .i64 ((rd_T40 l0_1 x18_2).f1))).heap[gb303]? = some (.cells #[.int .i64 a0_0, .slice (some ad305) l0_1.length c0_1, .slice A0_2 l0_2.length c0_2] 33 (0, 0))) := ⟨bf BK303 NB303_306⟩
      have n1_ : Aside0 (((w32.setCell ⟨gb306, 0, none⟩ (.int .i64 ((rd_T40 l0_1 x18_2).f0))).setCell ⟨gb306, 1, none⟩ (.int .i64 ((rd_T40 l0_1 x18_2).f1))).heap[gb306]? = some (.cells #[.int .i64 ((rd_T40 l0_1 x18_2).f0), .int .i64 ((rd_T40 l0_1 x18_2).f1)] 40 (0, 0))) := ⟨by (with_reducible repeat (first | refine blk_drewN ?_ _ | refine blk_drew ?_ | refine blk_alloc ?_ _)); refine blk_put (cs := #[.int .i64 ((rd_T40 l0_1 x18_2).f0), .int .i64 0]) ?_ 1 _ rfl; (with_reducible repeat (first | refine blk_drewN ?_ _ | refine blk_drew ?_ | refine blk_alloc ?_ _)); refine blk_put (cs := #[.int .i64 0, .int .i64 0]) ?_ 0 _ rfl; (with_reducible repeat (first | refine blk_drewN ?_ _ | refine blk_drew ?_ | refine blk_alloc ?_ _)); exact BK306.out⟩
      have n2_ : Aside0 (Below w.heap.size w ((w32.setCell ⟨gb306, 0, none⟩ (.int .i64 ((rd_T40 l0_1 x18_2).f0))).setCell ⟨gb306, 1, none⟩ (.int .i64 ((rd_T40 l0_1 x18_2).f1)))) := ⟨bs2 HB GE303 GE306⟩
      (try clear BK303)
      (try clear BK306)
      (try clear HB)
      generalize ((w32.setCell ⟨gb306, 0, none⟩ (.int .i64 ((rd_T40 l0_1 x18_2).f0))).setCell ⟨gb306, 1, none⟩ (.int .i64 ((rd_T40 l0_1 x18_2).f1))) = w35 at n0_ n1_ n2_ ⊢
      have BK303 := n0_
      have BK306 := n1_
      have HB := n2_
      clear n0_ n1_ n2_
      have n0_ := Ah (blk_drew BK303.out)
      have n1_ := Ah (blk_drew BK306.out)
      have n2_ := Ah (below_drew1 HB.out)
      clear BK303 BK306 HB
      have BK303 := n0_
      have BK306 := n1_
      have HB := n2_
      clear n0_ n1_ n2_
      refine start_ (n := 29) (S := fun w' => w'.cell? ⟨gb306, 0, none⟩ = some (.int .i64 ((rd_T40 l0_1 x18_2).f0)) ∧ w'.cell? ⟨gb306, 1, none⟩ = some (.int .i64 ((rd_T40 l0_1 x18_2).f1)) ∧ w'.cell? ⟨gb303, 0, none⟩ = some (.int .i64 a0_0) ∧ w'.cell? ⟨gb303, 1, none⟩ = some (.slice (some ad305) l0_1.length c0_1) ∧ w'.cell? ⟨gb303, 2, none⟩ = some (.slice A0_2 l0_2.length c0_2)) (ds := []) #[false, false, false, false, false, false, false, false, false, false, false, false, false, false, false, false, false, false, false, false, false, false, false, false, false, false, false, false, false] (by kernel_rfl) rfl rfl ⟨(blk_cell BK306.out 0).trans rfl, (blk_cell BK306.out 1).trans rfl, (blk_cell BK303.out 0).trans rfl, (blk_cell BK303.out 1).trans rfl, (blk_cell BK303.out 2).trans rfl⟩ (fun hHeld => ?_); refine with_tabW impl_GoodFree.tab6 impl_GoodFree.bits6 (fun HT_ HW_ => ?_)
      generalize w35.drew = w36 at BK303 BK306 HB hHeld ⊢
      refine pureS 1 24 HT_.out ?_
      refine takeS 0 23 HT_.out HW_.out hHeld (hr := by rintro w' ⟨s0, s1, s2, s3, s4⟩; go_simp; with_reducible rfl) (h := ?_)
      refine takeS 2 25 HT_.out HW_.out hHeld (hr := by rintro w' ⟨s0, s1, s2, s3, s4⟩; go_simp; with_reducible rfl) (h := ?_)
      refine one_ (i := 3) (N := some 26) #[true, true, true, true, false, false, false, false, false, false, false, false, false, false, false, false, false, false, false, false, false, false, false, false, false, false, false, false, false] rfl rfl (one_of HT_.out (by kernel_rfl)) (by decide) (fun K hK => ?_)
      refine goes_ Try.func53 (by kernel_rfl) rfl #[.agg #[.int .i64 ((rd_T40 l0_1 x18_2).f0), .int .i64 ((rd_T40 l0_1 x18_2).f1)], .int .i64 a0_0] (by rfl) rfl rfl (by (try simp only [List.map_toArray, List.map_cons, List.map_nil]); first | done | rfl | (simp only [List.length_drop, List.length_take]; rfl)) ?_
      with_reducible refine (impl_isExtent.calls ((rd_T40 l0_1 x18_2).f0) ((rd_T40 l0_1 x18_2).f1) a0_0 true _ A13.out).mono ?_
      rintro e w37 ⟨rfl, hb⟩
      refine ⟨_, rfl, ?_⟩
      have n0_ := Ah (bb BK303 hb)
      have n1_ := Ah (bb BK306 hb)
      have n2_ := Ah (below_step (bs2 HB GE303 GE306) hb)
      clear BK303 BK306 HB
      have BK303 := n0_
      have BK306 := n1_
      have HB := n2_
      clear n0_ n1_ n2_
      (try clear hb)
      (try clear hb2)
      (try clear hk)
      (try clear hi)
      refine hK.out _ _ ⟨(blk_cell BK306.out 0).trans rfl, (blk_cell BK306.out 1).trans rfl, (blk_cell BK303.out 0).trans rfl, (blk_cell BK303.out 1).trans rfl, (blk_cell BK303.out 2).trans rfl⟩ (fun hHeld => ?_)
      clear hK K
      refine norm_ (a' := ?_) ?_ ?_
      rotate_left
      ·
       show Act.put _ (some 26) _ = _
       simp only [Act.put, List.setIfInBounds_toArray, List.set_cons_zero, List.set_cons_succ, i64_w, i32_w]
       rfl
      refine pureS 4 27 HT_.out ?_
      refine pureS 5 28 HT_.out ?_
      refine pureS 6 29 HT_.out ?_
      refine pureS 7 30 HT_.out ?_
      refine pureS 8 31 HT_.out ?_
      refine pureU 9 32 HT_.out ?_
      refine pureU 10 33 HT_.out ?_
      refine pureU 11 34 HT_.out ?_
      refine pureU 12 35 HT_.out ?_
      refine pureU 13 36 HT_.out ?_
      refine pureU 14 37 HT_.out ?_
      refine pureU 15 38 HT_.out ?_
      refine pureU 16 39 HT_.out ?_
      refine pureU 17 40 HT_.out ?_
      refine pureU 18 41 HT_.out ?_
      refine pureU 19 42 HT_.out ?_
      refine pureU 20 43 HT_.out ?_
      refine pureU 21 44 HT_.out ?_
      refine pureU 22 45 HT_.out ?_
      refine pureU 23 46 HT_.out ?_
      refine pureU 24 47 HT_.out ?_
      refine pureU 25 48 HT_.out ?_
      refine pureU 26 49 HT_.out ?_
      refine pureS 27 50 HT_.out ?_
      refine pureS 28 51 HT_.out ?_
      refine done_ (done_of HT_.out (by kernel_rfl)) ?_
      try go_wp2
      go_roundg k2
      case measure => have := HJ1.out; have := HK2.out; omega
      case rel => exact ⟨(wrap64 (x18_2 + 1)), e3, H', ⟨by have := HJ1.out; have := HK2.out; omega⟩, ⟨bk BK303⟩, ⟨bs2 HB GE303 GE306⟩⟩
     rw [if_pos c15] at H
     have c15b0 : decide (0 < x18_2) = true := decide_eq_true c15
     clear c15
     obtain ⟨ji16, hji16⟩ : ∃ j_ : Int, (wrap64 (x18_2 - 1)) = j_ := ⟨_, rfl⟩
     replace H : (if 0 ≤ (ji16) then (if (ji16) < (l0_1.length : Int) then (if ((rd_T40 l0_1 x18_2).f0) ≤ (wrap64 (((rd_T40 l0_1 (ji16)).f0) + ((rd_T40 l0_1 (ji16)).f1))) then (some false) else (impl_GoodFree.l0 k2 l0_1 (l0_1.length : Int) (wrap64 (x18_2 + 1)) a0_0 l0_1 l0_2)) else (none)) else (none)) = some r := by first | (rw [hji16] at H; exact H) | (simp only [hji16] at H ⊢; exact H)
     (try rw [hji16] at A13)
     have hji16w : (IntKind.i64.wrap (x18_2 - 1)) = ji16 := (i64_w _).trans hji16
     by_cases c17 : 0 ≤ (ji16)
     rotate_left
     ·
      rw [if_neg c17] at H
      exact absurd H (by simp)
     rw [if_pos c17] at H
     have c17b0 : decide (0 ≤ (ji16)) = true := decide_eq_true c17
     clear c17
     by_cases c18 : (ji16) < (l0_1.length : Int)
     rotate_left
     ·
      rw [if_neg c18] at H
      exact absurd H (by simp)
     rw [if_pos c18] at H
     have c18b0 : decide ((ji16) < (l0_1.length : Int)) = true := decide_eq_true c18
     clear c18
     by_cases c19 : ((rd_T40 l0_1 x18_2).f0) ≤ (wrap64 (((rd_T40 l0_1 (ji16)).f0) + ((rd_T40 l0_1 (ji16)).f1)))
     ·
      rw [if_pos c19] at H
      have c19b0 : decide (((rd_T40 l0_1 x18_2).f0) ≤ (wrap64 (((rd_T40 l0_1 (ji16)).f0) + ((rd_T40 l0_1 (ji16)).f1)))) = true := decide_eq_true c19
      clear c19
      obtain rfl := Option.some.inj H
      have p305 : 0 ≤ (x18_2 : Int) := od
      have q305 : x18_2 < (l0_1.length : Int) := od
      obtain ⟨ad305, e305, hx305_0, hx305_1⟩ := at_T40 HR0_1.out x18_2 p305 q305
      cases e305
      replace hx305_0 := (HB.out.cell (World.block_lt_of_cell? w _ hx305_0)).trans hx305_0
      replace hx305_1 := (HB.out.cell (World.block_lt_of_cell? w _ hx305_1)).trans hx305_1
      replace p305 := eq_true p305
      replace q305 := eq_true q305
      try go_wp2_with (first | ((with_reducible refine gate_dst (N := 4) rfl ?_); (try (refine gate_guard (by rfl) ?_; dsimp only)); refine boxL 4 40 #[.int .i64 0, .int .i64 0] ?_; intro gb306 hg w20 BK306 hb; have GW306 := gw hg (bs1 HB GE303); have GE306 := gw hg (bs1 HB GE303); replace HB := Ah (below_step (bs1 HB GE303) hb); have NB303_306 := nn BK303 hg; have NB306_303 := nm BK303 hg; replace BK303 := nb BK303 hb; clear hb hg; have hnb21 := NB306_303.out; have hnc21 := NB303_306.out; obtain ⟨hcz22_0, hcz22_1⟩ := cz2 BK306; obtain ⟨hfz22_0, hfz22_1⟩ := fz2 BK306))
      have n0_ : Aside0 (((w20.setCell ⟨gb306, 0, none⟩ (.int .i64 ((rd_T40 l0_1 x18_2).f0))).setCell ⟨gb306, 1, none⟩ (.int .i64 ((rd_T40 l0_1 x18_2).f1))).heap[gb303]? = some (.cells #[.int .i64 a0_0, .slice (some ad305) l0_1.length c0_1, .slice A0_2 l0_2.length c0_2] 33 (0, 0))) := ⟨bf BK303 NB303_306⟩
      have n1_ : Aside0 (((w20.setCell ⟨gb306, 0, none⟩ (.int .i64 ((rd_T40 l0_1 x18_2).f0))).setCell ⟨gb306, 1, none⟩ (.int .i64 ((rd_T40 l0_1 x18_2).f1))).heap[gb306]? = some (.cells #[.int .i64 ((rd_T40 l0_1 x18_2).f0), .int .i64 ((rd_T40 l0_1 x18_2).f1)] 40 (0, 0))) := ⟨by (with_reducible repeat (first | refine blk_drewN ?_ _ | refine blk_drew ?_ | refine blk_alloc ?_ _)); refine blk_put (cs := #[.int .i64 ((rd_T40 l0_1 x18_2).f0), .int .i64 0]) ?_ 1 _ rfl; (with_reducible repeat (first | refine blk_drewN ?_ _ | refine blk_drew ?_ | refine blk_alloc ?_ _)); refine blk_put (cs := #[.int .i64 0, .int .i64 0]) ?_ 0 _ rfl; (with_reducible repeat (first | refine blk_drewN ?_ _ | refine blk_drew ?_ | refine blk_alloc ?_ _)); exact BK306.out⟩
      have n2_ : Aside0 (Below w.heap.size w ((w20.setCell ⟨gb306, 0, none⟩ (.int .i64 ((rd_T40 l0_1 x18_2).f0))).setCell ⟨gb306, 1, none⟩ (.int .i64 ((rd_T40 l0_1 x18_2).f1)))) := ⟨bs2 HB GE303 GE306⟩
      (try clear BK303)
      (try clear BK306)
      (try clear HB)
      generalize ((w20.setCell ⟨gb306, 0, none⟩ (.int .i64 ((rd_T40 l0_1 x18_2).f0))).setCell ⟨gb306, 1, none⟩ (.int .i64 ((rd_T40 l0_1 x18_2).f1))) = w23 at n0_ n1_ n2_ ⊢
      have BK303 := n0_
      have BK306 := n1_
      have HB := n2_
      clear n0_ n1_ n2_
      have n0_ := Ah (blk_drew BK303.out)
      have n1_ := Ah (blk_drew BK306.out)
      have n2_ := Ah (below_drew1 HB.out)
      clear BK303 BK306 HB
      have BK303 := n0_
      have BK306 := n1_
      have HB := n2_
      clear n0_ n1_ n2_
      have p308 : 0 ≤ ((ji16) : Int) := od
      have q308 : (ji16) < (l0_1.length : Int) := od
      obtain ⟨ad308, e308, hx308_0, hx308_1⟩ := at_T40 HR0_1.out (ji16) p308 q308
      have hw308_1 := hx308_1
      have hw308_0 := hx308_0
      obtain rfl : ad305 = ad308 := (by injection e308)
      replace hx308_0 := (HB.out.cell (World.block_lt_of_cell? w _ hx308_0)).trans hx308_0
      replace hx308_1 := (HB.out.cell (World.block_lt_of_cell? w _ hx308_1)).trans hx308_1
      replace p308 := eq_true p308
      replace q308 := eq_true q308
      have p309 : 0 ≤ ((ji16) : Int) := od
      have q309 : (ji16) < (l0_1.length : Int) := od
      obtain ⟨ad309, e309, hx309_0, hx309_1⟩ := at_T40 HR0_1.out (ji16) p309 q309
      have hw309_1 := hx309_1
      have hw309_0 := hx309_0
      obtain rfl : ad305 = ad309 := (by injection e309)
      replace hx309_0 := (HB.out.cell (World.block_lt_of_cell? w _ hx309_0)).trans hx309_0
      replace hx309_1 := (HB.out.cell (World.block_lt_of_cell? w _ hx309_1)).trans hx309_1
      replace p309 := eq_true p309
      replace q309 := eq_true q309
      refine start_ (n := 29) (S := fun w' => w'.cell? ⟨gb306, 0, none⟩ = some (.int .i64 ((rd_T40 l0_1 x18_2).f0)) ∧ w'.cell? ⟨gb306, 1, none⟩ = some (.int .i64 ((rd_T40 l0_1 x18_2).f1)) ∧ w'.cell? ⟨gb303, 0, none⟩ = some (.int .i64 a0_0) ∧ w'.cell? ⟨gb303, 1, none⟩ = some (.slice (some ad305) l0_1.length c0_1) ∧ w'.cell? ⟨gb303, 2, none⟩ = some (.slice A0_2 l0_2.length c0_2) ∧ w'.cell? (ad305.add (((ji16)).toNat * 2)) = some (.int .i64 ((rd_T40 l0_1 (ji16)).f0)) ∧ w'.cell? ⟨(ad305.add (((ji16)).toNat * 2)).block, (ad305.add (((ji16)).toNat * 2)).off + 1, none⟩ = some (.int .i64 ((rd_T40 l0_1 (ji16)).f1)) ∧ w'.cell? (ad305.add (((ji16)).toNat * 2)) = some (.int .i64 ((rd_T40 l0_1 (ji16)).f0)) ∧ w'.cell? ⟨(ad305.add (((ji16)).toNat * 2)).block, (ad305.add (((ji16)).toNat * 2)).off + 1, none⟩ = some (.int .i64 ((rd_T40 l0_1 (ji16)).f1))) (ds := []) #[false, false, false, false, false, false, false, false, false, false, false, false, false, false, false, false, false, false, false, false, false, false, false, false, false, false, false, false, false] (by kernel_rfl) rfl rfl ⟨(blk_cell BK306.out 0).trans rfl, (blk_cell BK306.out 1).trans rfl, (blk_cell BK303.out 0).trans rfl, (blk_cell BK303.out 1).trans rfl, (blk_cell BK303.out 2).trans rfl, ((HB.out.cell (World.block_lt_of_cell? w _ hw308_0)).trans hw308_0), ((HB.out.cell (World.block_lt_of_cell? w _ hw308_1)).trans hw308_1), ((HB.out.cell (World.block_lt_of_cell? w _ hw309_0)).trans hw309_0), ((HB.out.cell (World.block_lt_of_cell? w _ hw309_1)).trans hw309_1)⟩ (fun hHeld => ?_); refine with_tabW impl_GoodFree.tab6 impl_GoodFree.bits6 (fun HT_ HW_ => ?_)
      generalize w23.drew = w24 at BK303 BK306 HB hx308_0 hx308_1 hx309_0 hx309_1 hHeld ⊢
      refine pureS 1 24 HT_.out ?_
      refine takeS 0 23 HT_.out HW_.out hHeld (hr := by rintro w' ⟨s0, s1, s2, s3, s4, s5, s6, s7, s8⟩; go_simp; with_reducible rfl) (h := ?_)
      refine takeS 2 25 HT_.out HW_.out hHeld (hr := by rintro w' ⟨s0, s1, s2, s3, s4, s5, s6, s7, s8⟩; go_simp; with_reducible rfl) (h := ?_)
      refine one_ (i := 3) (N := some 26) #[true, true, true, true, false, false, false, false, false, false, false, false, false, false, false, false, false, false, false, false, false, false, false, false, false, false, false, false, false] rfl rfl (one_of HT_.out (by kernel_rfl)) (by decide) (fun K hK => ?_)
      refine goes_ Try.func53 (by kernel_rfl) rfl #[.agg #[.int .i64 ((rd_T40 l0_1 x18_2).f0), .int .i64 ((rd_T40 l0_1 x18_2).f1)], .int .i64 a0_0] (by rfl) rfl rfl (by (try simp only [List.map_toArray, List.map_cons, List.map_nil]); first | done | rfl | (simp only [List.length_drop, List.length_take]; rfl)) ?_
      with_reducible refine (impl_isExtent.calls ((rd_T40 l0_1 x18_2).f0) ((rd_T40 l0_1 x18_2).f1) a0_0 true _ A13.out).mono ?_
      rintro e w25 ⟨rfl, hb⟩
      refine ⟨_, rfl, ?_⟩
      have n0_ := Ah (bb BK303 hb)
      have n1_ := Ah (bb BK306 hb)
      have n2_ := Ah (below_step (bs2 HB GE303 GE306) hb)
      clear BK303 BK306 HB
      have BK303 := n0_
      have BK306 := n1_
      have HB := n2_
      clear n0_ n1_ n2_
      (try clear hb)
      (try clear hb2)
      (try clear hk)
      (try clear hi)
      refine hK.out _ _ ⟨(blk_cell BK306.out 0).trans rfl, (blk_cell BK306.out 1).trans rfl, (blk_cell BK303.out 0).trans rfl, (blk_cell BK303.out 1).trans rfl, (blk_cell BK303.out 2).trans rfl, ((HB.out.cell (World.block_lt_of_cell? w _ hw308_0)).trans hw308_0), ((HB.out.cell (World.block_lt_of_cell? w _ hw308_1)).trans hw308_1), ((HB.out.cell (World.block_lt_of_cell? w _ hw309_0)).trans hw309_0), ((HB.out.cell (World.block_lt_of_cell? w _ hw309_1)).trans hw309_1)⟩ (fun hHeld => ?_)
      clear hK K
      refine norm_ (a' := ?_) ?_ ?_
      rotate_left
      ·
       show Act.put _ (some 26) _ = _
       simp only [Act.put, List.setIfInBounds_toArray, List.set_cons_zero, List.set_cons_succ, i64_w, i32_w]
       rfl
      refine pureS 4 27 HT_.out ?_
      refine pureS 5 28 HT_.out ?_
      refine pureS 6 29 HT_.out ?_
      refine pureS 7 30 HT_.out ?_
      refine pureS 8 31 HT_.out ?_
      refine pureS 9 32 HT_.out ?_
      refine pureS 11 34 HT_.out ?_
      refine pureS 13 36 HT_.out ?_
      refine pureS 14 37 HT_.out ?_
      refine pureS 18 41 HT_.out ?_
      refine pureS 20 43 HT_.out ?_
      refine pureS 21 44 HT_.out ?_
      refine takeS 10 33 HT_.out HW_.out hHeld (hr := by rintro w' ⟨s0, s1, s2, s3, s4, s5, s6, s7, s8⟩; go_simp; with_reducible rfl) (h := ?_)
      refine takeS 12 35 HT_.out HW_.out hHeld (hr := by rintro w' ⟨s0, s1, s2, s3, s4, s5, s6, s7, s8⟩; go_simp; with_reducible rfl) (h := ?_)
      refine pureS 15 38 HT_.out ?_
      refine pureS 16 39 HT_.out ?_
      refine takeS 17 40 HT_.out HW_.out hHeld (hr := by rintro w' ⟨s0, s1, s2, s3, s4, s5, s6, s7, s8⟩; go_simp; with_reducible rfl) (h := ?_)
      refine takeS 19 42 HT_.out HW_.out hHeld (hr := by rintro w' ⟨s0, s1, s2, s3, s4, s5, s6, s7, s8⟩; go_simp; with_reducible rfl) (h := ?_)
      refine pureS 22 45 HT_.out ?_
      refine pureS 23 46 HT_.out ?_
      refine takeS 24 47 HT_.out HW_.out hHeld (hr := by rintro w' ⟨s0, s1, s2, s3, s4, s5, s6, s7, s8⟩; go_simp; with_reducible rfl) (h := ?_)
      refine pureS 25 48 HT_.out ?_
      refine pureS 26 49 HT_.out ?_
      refine pureS 27 50 HT_.out ?_
      refine pureS 28 51 HT_.out ?_
      refine done_ (done_of HT_.out (by kernel_rfl)) ?_
      try go_wp2
      go_ret
      exact ⟨by first | rfl | (simp [errW_none, errW_some] <;> rfl) | (simp only [← hji16]; first | rfl | (simp [errW_none, errW_some] <;> rfl)) | (simp [*, errW_none, errW_some] <;> rfl), bs2 HB GE303 GE306⟩
     rw [if_neg c19] at H
     have c19b0 : decide (((rd_T40 l0_1 x18_2).f0) ≤ (wrap64 (((rd_T40 l0_1 (ji16)).f0) + ((rd_T40 l0_1 (ji16)).f1)))) = false := decide_eq_false c19
     clear c19
     have H' := Ah H
     clear H
     have p305 : 0 ≤ (x18_2 : Int) := od
     have q305 : x18_2 < (l0_1.length : Int) := od
     obtain ⟨ad305, e305, hx305_0, hx305_1⟩ := at_T40 HR0_1.out x18_2 p305 q305
     cases e305
     replace hx305_0 := (HB.out.cell (World.block_lt_of_cell? w _ hx305_0)).trans hx305_0
     replace hx305_1 := (HB.out.cell (World.block_lt_of_cell? w _ hx305_1)).trans hx305_1
     replace p305 := eq_true p305
     replace q305 := eq_true q305
     try go_wp2_with (first | ((with_reducible refine gate_dst (N := 4) rfl ?_); (try (refine gate_guard (by rfl) ?_; dsimp only)); refine boxL 4 40 #[.int .i64 0, .int .i64 0] ?_; intro gb306 hg w26 BK306 hb; have GW306 := gw hg (bs1 HB GE303); have GE306 := gw hg (bs1 HB GE303); replace HB := Ah (below_step (bs1 HB GE303) hb); have NB303_306 := nn BK303 hg; have NB306_303 := nm BK303 hg; replace BK303 := nb BK303 hb; clear hb hg; have hnb27 := NB306_303.out; have hnc27 := NB303_306.out; obtain ⟨hcz28_0, hcz28_1⟩ := cz2 BK306; obtain ⟨hfz28_0, hfz28_1⟩ := fz2 BK306))
     have n0_ : Aside0 (((w26.setCell ⟨gb306, 0, none⟩ (.int .i64 ((rd_T40 l0_1 x18_2).f0))).setCell ⟨gb306, 1, none⟩ (.int .i64 ((rd_T40 l0_1 x18_2).f1))).heap[gb303]? = some (.cells #[.int .i64 a0_0, .slice (some ad305) l0_1.length c0_1, .slice A0_2 l0_2.length c0_2] 33 (0, 0))) := ⟨bf BK303 NB303_306⟩
     have n1_ : Aside0 (((w26.setCell ⟨gb306, 0, none⟩ (.int .i64 ((rd_T40 l0_1 x18_2).f0))).setCell ⟨gb306, 1, none⟩ (.int .i64 ((rd_T40 l0_1 x18_2).f1))).heap[gb306]? = some (.cells #[.int .i64 ((rd_T40 l0_1 x18_2).f0), .int .i64 ((rd_T40 l0_1 x18_2).f1)] 40 (0, 0))) := ⟨by (with_reducible repeat (first | refine blk_drewN ?_ _ | refine blk_drew ?_ | refine blk_alloc ?_ _)); refine blk_put (cs := #[.int .i64 ((rd_T40 l0_1 x18_2).f0), .int .i64 0]) ?_ 1 _ rfl; (with_reducible repeat (first | refine blk_drewN ?_ _ | refine blk_drew ?_ | refine blk_alloc ?_ _)); refine blk_put (cs := #[.int .i64 0, .int .i64 0]) ?_ 0 _ rfl; (with_reducible repeat (first | refine blk_drewN ?_ _ | refine blk_drew ?_ | refine blk_alloc ?_ _)); exact BK306.out⟩
     have n2_ : Aside0 (Below w.heap.size w ((w26.setCell ⟨gb306, 0, none⟩ (.int .i64 ((rd_T40 l0_1 x18_2).f0))).setCell ⟨gb306, 1, none⟩ (.int .i64 ((rd_T40 l0_1 x18_2).f1)))) := ⟨bs2 HB GE303 GE306⟩
     (try clear BK303)
     (try clear BK306)
     (try clear HB)
     generalize ((w26.setCell ⟨gb306, 0, none⟩ (.int .i64 ((rd_T40 l0_1 x18_2).f0))).setCell ⟨gb306, 1, none⟩ (.int .i64 ((rd_T40 l0_1 x18_2).f1))) = w29 at n0_ n1_ n2_ ⊢
     have BK303 := n0_
     have BK306 := n1_
     have HB := n2_
     clear n0_ n1_ n2_
     have n0_ := Ah (blk_drew BK303.out)
     have n1_ := Ah (blk_drew BK306.out)
     have n2_ := Ah (below_drew1 HB.out)
     clear BK303 BK306 HB
     have BK303 := n0_
     have BK306 := n1_
     have HB := n2_
     clear n0_ n1_ n2_
     have p308 : 0 ≤ ((ji16) : Int) := od
     have q308 : (ji16) < (l0_1.length : Int) := od
     obtain ⟨ad308, e308, hx308_0, hx308_1⟩ := at_T40 HR0_1.out (ji16) p308 q308
     have hw308_1 := hx308_1
     have hw308_0 := hx308_0
     obtain rfl : ad305 = ad308 := (by injection e308)
     replace hx308_0 := (HB.out.cell (World.block_lt_of_cell? w _ hx308_0)).trans hx308_0
     replace hx308_1 := (HB.out.cell (World.block_lt_of_cell? w _ hx308_1)).trans hx308_1
     replace p308 := eq_true p308
     replace q308 := eq_true q308
     have p309 : 0 ≤ ((ji16) : Int) := od
     have q309 : (ji16) < (l0_1.length : Int) := od
     obtain ⟨ad309, e309, hx309_0, hx309_1⟩ := at_T40 HR0_1.out (ji16) p309 q309
     have hw309_1 := hx309_1
     have hw309_0 := hx309_0
     obtain rfl : ad305 = ad309 := (by injection e309)
     replace hx309_0 := (HB.out.cell (World.block_lt_of_cell? w _ hx309_0)).trans hx309_0
     replace hx309_1 := (HB.out.cell (World.block_lt_of_cell? w _ hx309_1)).trans hx309_1
     replace p309 := eq_true p309
     replace q309 := eq_true q309
     refine start_ (n := 29) (S := fun w' => w'.cell? ⟨gb306, 0, none⟩ = some (.int .i64 ((rd_T40 l0_1 x18_2).f0)) ∧ w'.cell? ⟨gb306, 1, none⟩ = some (.int .i64 ((rd_T40 l0_1 x18_2).f1)) ∧ w'.cell? ⟨gb303, 0, none⟩ = some (.int .i64 a0_0) ∧ w'.cell? ⟨gb303, 1, none⟩ = some (.slice (some ad305) l0_1.length c0_1) ∧ w'.cell? ⟨gb303, 2, none⟩ = some (.slice A0_2 l0_2.length c0_2) ∧ w'.cell? (ad305.add (((ji16)).toNat * 2)) = some (.int .i64 ((rd_T40 l0_1 (ji16)).f0)) ∧ w'.cell? ⟨(ad305.add (((ji16)).toNat * 2)).block, (ad305.add (((ji16)).toNat * 2)).off + 1, none⟩ = some (.int .i64 ((rd_T40 l0_1 (ji16)).f1)) ∧ w'.cell? (ad305.add (((ji16)).toNat * 2)) = some (.int .i64 ((rd_T40 l0_1 (ji16)).f0)) ∧ w'.cell? ⟨(ad305.add (((ji16)).toNat * 2)).block, (ad305.add (((ji16)).toNat * 2)).off + 1, none⟩ = some (.int .i64 ((rd_T40 l0_1 (ji16)).f1))) (ds := []) #[false, false, false, false, false, false, false, false, false, false, false, false, false, false, false, false, false, false, false, false, false, false, false, false, false, false, false, false, false] (by kernel_rfl) rfl rfl ⟨(blk_cell BK306.out 0).trans rfl, (blk_cell BK306.out 1).trans rfl, (blk_cell BK303.out 0).trans rfl, (blk_cell BK303.out 1).trans rfl, (blk_cell BK303.out 2).trans rfl, ((HB.out.cell (World.block_lt_of_cell? w _ hw308_0)).trans hw308_0), ((HB.out.cell (World.block_lt_of_cell? w _ hw308_1)).trans hw308_1), ((HB.out.cell (World.block_lt_of_cell? w _ hw309_0)).trans hw309_0), ((HB.out.cell (World.block_lt_of_cell? w _ hw309_1)).trans hw309_1)⟩ (fun hHeld => ?_); refine with_tabW impl_GoodFree.tab6 impl_GoodFree.bits6 (fun HT_ HW_ => ?_)
     generalize w29.drew = w30 at BK303 BK306 HB hx308_0 hx308_1 hx309_0 hx309_1 hHeld ⊢
     refine pureS 1 24 HT_.out ?_
     refine takeS 0 23 HT_.out HW_.out hHeld (hr := by rintro w' ⟨s0, s1, s2, s3, s4, s5, s6, s7, s8⟩; go_simp; with_reducible rfl) (h := ?_)
     refine takeS 2 25 HT_.out HW_.out hHeld (hr := by rintro w' ⟨s0, s1, s2, s3, s4, s5, s6, s7, s8⟩; go_simp; with_reducible rfl) (h := ?_)
     refine one_ (i := 3) (N := some 26) #[true, true, true, true, false, false, false, false, false, false, false, false, false, false, false, false, false, false, false, false, false, false, false, false, false, false, false, false, false] rfl rfl (one_of HT_.out (by kernel_rfl)) (by decide) (fun K hK => ?_)
     refine goes_ Try.func53 (by kernel_rfl) rfl #[.agg #[.int .i64 ((rd_T40 l0_1 x18_2).f0), .int .i64 ((rd_T40 l0_1 x18_2).f1)], .int .i64 a0_0] (by rfl) rfl rfl (by (try simp only [List.map_toArray, List.map_cons, List.map_nil]); first | done | rfl | (simp only [List.length_drop, List.length_take]; rfl)) ?_
     with_reducible refine (impl_isExtent.calls ((rd_T40 l0_1 x18_2).f0) ((rd_T40 l0_1 x18_2).f1) a0_0 true _ A13.out).mono ?_
     rintro e w31 ⟨rfl, hb⟩
     refine ⟨_, rfl, ?_⟩
     have n0_ := Ah (bb BK303 hb)
     have n1_ := Ah (bb BK306 hb)
     have n2_ := Ah (below_step (bs2 HB GE303 GE306) hb)
     clear BK303 BK306 HB
     have BK303 := n0_
     have BK306 := n1_
     have HB := n2_
     clear n0_ n1_ n2_
     (try clear hb)
     (try clear hb2)
     (try clear hk)
     (try clear hi)
     refine hK.out _ _ ⟨(blk_cell BK306.out 0).trans rfl, (blk_cell BK306.out 1).trans rfl, (blk_cell BK303.out 0).trans rfl, (blk_cell BK303.out 1).trans rfl, (blk_cell BK303.out 2).trans rfl, ((HB.out.cell (World.block_lt_of_cell? w _ hw308_0)).trans hw308_0), ((HB.out.cell (World.block_lt_of_cell? w _ hw308_1)).trans hw308_1), ((HB.out.cell (World.block_lt_of_cell? w _ hw309_0)).trans hw309_0), ((HB.out.cell (World.block_lt_of_cell? w _ hw309_1)).trans hw309_1)⟩ (fun hHeld => ?_)
     clear hK K
     refine norm_ (a' := ?_) ?_ ?_
     rotate_left
     ·
      show Act.put _ (some 26) _ = _
      simp only [Act.put, List.setIfInBounds_toArray, List.set_cons_zero, List.set_cons_succ, i64_w, i32_w]
      rfl
     refine pureS 4 27 HT_.out ?_
     refine pureS 5 28 HT_.out ?_
     refine pureS 6 29 HT_.out ?_
     refine pureS 7 30 HT_.out ?_
     refine pureS 8 31 HT_.out ?_
     refine pureS 9 32 HT_.out ?_
     refine pureS 11 34 HT_.out ?_
     refine pureS 13 36 HT_.out ?_
     refine pureS 14 37 HT_.out ?_
     refine pureS 18 41 HT_.out ?_
     refine pureS 20 43 HT_.out ?_
     refine pureS 21 44 HT_.out ?_
     refine takeS 10 33 HT_.out HW_.out hHeld (hr := by rintro w' ⟨s0, s1, s2, s3, s4, s5, s6, s7, s8⟩; go_simp; with_reducible rfl) (h := ?_)
     refine takeS 12 35 HT_.out HW_.out hHeld (hr := by rintro w' ⟨s0, s1, s2, s3, s4, s5, s6, s7, s8⟩; go_simp; with_reducible rfl) (h := ?_)
     refine pureS 15 38 HT_.out ?_
     refine pureS 16 39 HT_.out ?_
     refine takeS 17 40 HT_.out HW_.out hHeld (hr := by rintro w' ⟨s0, s1, s2, s3, s4, s5, s6, s7, s8⟩; go_simp; with_reducible rfl) (h := ?_)
     refine takeS 19 42 HT_.out HW_.out hHeld (hr := by rintro w' ⟨s0, s1, s2, s3, s4, s5, s6, s7, s8⟩; go_simp; with_reducible rfl) (h := ?_)
     refine pureS 22 45 HT_.out ?_
     refine pureS 23 46 HT_.out ?_
     refine takeS 24 47 HT_.out HW_.out hHeld (hr := by rintro w' ⟨s0, s1, s2, s3, s4, s5, s6, s7, s8⟩; go_simp; with_reducible rfl) (h := ?_)
     refine pureS 25 48 HT_.out ?_
     refine pureS 26 49 HT_.out ?_
     refine pureS 27 50 HT_.out ?_
     refine pureS 28 51 HT_.out ?_
     refine done_ (done_of HT_.out (by kernel_rfl)) ?_
     try go_wp2
     go_roundg k2
     case measure => have := HJ1.out; have := HK2.out; omega
     case rel => exact ⟨(wrap64 (x18_2 + 1)), e3, H', ⟨by have := HJ1.out; have := HK2.out; omega⟩, ⟨bk BK303⟩, ⟨bs2 HB GE303 GE306⟩⟩
def impl_overlap.f (a0_0 : Int) (a0_1 : Int) (a1_0 : Int) (a1_1 : Int) : Option (Bool) := if a0_0 < (wrap64 (a1_0 + a1_1)) then (some (decide (a1_0 < (wrap64 (a0_0 + a0_1))))) else (some false)
set_option maxHeartbeats 8000000 in
set_option maxRecDepth 100000 in
theorem impl_overlap.calls (a0_0 : Int) (a0_1 : Int) (a1_0 : Int) (a1_1 : Int) (r : Bool) (w : World) (h : impl_overlap.f a0_0 a0_1 a1_0 a1_1 = some r) :
  Calls Try.prog 51 #[.agg #[.int .i64 a0_0, .int .i64 a0_1], .agg #[.int .i64 a1_0, .int .i64 a1_1]] w fun e w' => e = .returned (.bool r) ∧ Below w.heap.size w w' := by
 have hu40 := Try.underlying40
 have HB := Ah (Below.refl w.heap.size w)
 have H : (if a0_0 < (wrap64 (a1_0 + a1_1)) then (some (decide (a1_0 < (wrap64 (a0_0 + a0_1))))) else (some false)) = some r := h
 clear h
 by_cases c3 : a0_0 < (wrap64 (a1_0 + a1_1))
 ·
  rw [if_pos c3] at H
  have c3b0 : decide (a0_0 < (wrap64 (a1_0 + a1_1))) = true := decide_eq_true c3
  clear c3
  obtain rfl := Option.some.inj H
  go_enter Try.func51, Try.ntmps51
  go_wp2_with (first | ((with_reducible refine gate_dst (N := 2) rfl ?_); refine boxL 2 40 #[.int .i64 a0_0, .int .i64 a0_1] ?_; intro gb318 hg w4 BK318 hb; have GW318 := gw hg (bs HB); have GE318 := gw hg (bs HB); replace HB := Ah (below_step (bs HB) hb); clear hb hg) | ((with_reducible refine gate_dst (N := 3) rfl ?_); refine boxL 3 40 #[.int .i64 a1_0, .int .i64 a1_1] ?_; intro gb319 hg w5 BK319 hb; have GW319 := gw hg (bs1 HB GE318); have GE319 := gw hg (bs1 HB GE318); replace HB := Ah (below_step (bs1 HB GE318) hb); have NB318_319 := nn BK318 hg; have NB319_318 := nm BK318 hg; replace BK318 := nb BK318 hb; clear hb hg; have hnb6 := NB318_319.out; have hnc6 := NB319_318.out; obtain ⟨hcz7_0, hcz7_1⟩ := cz2 BK318; obtain ⟨hfz7_0, hfz7_1⟩ := fz2 BK318; obtain ⟨hcz8_0, hcz8_1⟩ := cz2 BK319; obtain ⟨hfz8_0, hfz8_1⟩ := fz2 BK319))
  go_ret
  exact ⟨er, bs2 HB GE318 GE319⟩
 rw [if_neg c3] at H
 have c3b0 : decide (a0_0 < (wrap64 (a1_0 + a1_1))) = false := decide_eq_false c3
 clear c3
 obtain rfl := Option.some.inj H
 go_enter Try.func51, Try.ntmps51
 go_wp2_with (first | ((with_reducible refine gate_dst (N := 2) rfl ?_); refine boxL 2 40 #[.int .i64 a0_0, .int .i64 a0_1] ?_; intro gb318 hg w9 BK318 hb; have GW318 := gw hg (bs HB); have GE318 := gw hg (bs HB); replace HB := Ah (below_step (bs HB) hb); clear hb hg) | ((with_reducible refine gate_dst (N := 3) rfl ?_); refine boxL 3 40 #[.int .i64 a1_0, .int .i64 a1_1] ?_; intro gb319 hg w10 BK319 hb; have GW319 := gw hg (bs1 HB GE318); have GE319 := gw hg (bs1 HB GE318); replace HB := Ah (below_step (bs1 HB GE318) hb); have NB318_319 := nn BK318 hg; have NB319_318 := nm BK318 hg; replace BK318 := nb BK318 hb; clear hb hg; have hnb11 := NB318_319.out; have hnc11 := NB319_318.out; obtain ⟨hcz12_0, hcz12_1⟩ := cz2 BK318; obtain ⟨hfz12_0, hfz12_1⟩ := fz2 BK318; obtain ⟨hcz13_0, hcz13_1⟩ := cz2 BK319; obtain ⟨hfz13_0, hfz13_1⟩ := fz2 BK319))
 go_ret
 exact ⟨er, bs2 HB GE318 GE319⟩
def impl_intentsOf_1.f (a0_0 : Int) (a0_1 : Int) (a0_2 : Int) (a0_3 : Int) (a0_4 : Int) (a1_0 : Int) (a1_1 : Int) (a1_2 : Int) (a1_3 : Int) (a1_4 : Int) : Option (Bool) := (impl_overlap.f a1_2 a1_3 a0_2 a0_3).bind fun t322 => (some t322)
set_option maxHeartbeats 8000000 in
set_option maxRecDepth 100000 in
theorem impl_intentsOf_1.calls (a0_0 : Int) (a0_1 : Int) (a0_2 : Int) (a0_3 : Int) (a0_4 : Int) (gx1_0 : Nat) (a1_0 : Int) (a1_1 : Int) (a1_2 : Int) (a1_3 : Int) (a1_4 : Int) (r : Bool) (w : World) (hx1_0 : w.heap[gx1_0]? = some (.cells #[.int .i64 a1_0, .int .i64 a1_1, .int .i64 a1_2, .int .i64 a1_3, .int .i64 a1_4] 56 (0, 0))) (h : impl_intentsOf_1.f a0_0 a0_1 a0_2 a0_3 a0_4 a1_0 a1_1 a1_2 a1_3 a1_4 = some r) :
  Calls Try.prog 50 #[.agg #[.int .i64 a0_0, .int .i64 a0_1, .int .i64 a0_2, .int .i64 a0_3, .int .i64 a0_4], .pointer (some ⟨gx1_0, 0, none⟩)] w fun e w' => e = .returned (.bool r) ∧ Below w.heap.size w w' := by
 have hu56 := Try.underlying56
 have hu40 := Try.underlying40
 have BK320 := Ah hx1_0
 clear hx1_0
 have HB := Ah (Below.refl w.heap.size w)
 have H : ((impl_overlap.f a1_2 a1_3 a0_2 a0_3).bind fun t322 => (some t322)) = some r := h
 clear h
 replace H := Option.bind_eq_some_iff.mp H
 obtain ⟨t322, A30, H⟩ := H
 try dsimp only at H
 have A3 := Ah A30
 clear A30
 obtain rfl := Option.some.inj H
 go_enter Try.func50, Try.ntmps50
 go_wp2_with (first | ((with_reducible refine gate_dst (N := 2) rfl ?_); refine boxL 2 56 #[.int .i64 a0_0, .int .i64 a0_1, .int .i64 a0_2, .int .i64 a0_3, .int .i64 a0_4] ?_; intro gb321 hg w4 BK321 hb; have GW321 := gw hg (bs HB); have GE321 := gw hg (bs HB); replace HB := Ah (below_step (bs HB) hb); have NB320_321 := Ah ((by rw [hg]; exact Nat.ne_of_lt (blk_lt (g := gx1_0) (o := .cells #[.int .i64 a1_0, .int .i64 a1_1, .int .i64 a1_2, .int .i64 a1_3, .int .i64 a1_4] 56 (0, 0)) (bk BK320)) : gx1_0 ≠ gb321)); have NB321_320 := Ah ((by rw [hg]; exact Nat.ne_of_gt (blk_lt (g := gx1_0) (o := .cells #[.int .i64 a1_0, .int .i64 a1_1, .int .i64 a1_2, .int .i64 a1_3, .int .i64 a1_4] 56 (0, 0)) (bk BK320)) : gb321 ≠ gx1_0)); replace BK320 := Ah (blk_below (g := gx1_0) (o := .cells #[.int .i64 a1_0, .int .i64 a1_1, .int .i64 a1_2, .int .i64 a1_3, .int .i64 a1_4] 56 (0, 0)) (bk BK320) hb); clear hb hg; have hnb5 := NB320_321.out; have hnc5 := NB321_320.out; have hcz6_0 : w4.cell? ⟨gx1_0, 0, none⟩ = some (.int .i64 a1_0) := (blk_cell BK320.out 0).trans rfl; have hcz6_1 : w4.cell? ⟨gx1_0, 1, none⟩ = some (.int .i64 a1_1) := (blk_cell BK320.out 1).trans rfl; have hcz6_2 : w4.cell? ⟨gx1_0, 2, none⟩ = some (.int .i64 a1_2) := (blk_cell BK320.out 2).trans rfl; have hcz6_3 : w4.cell? ⟨gx1_0, 3, none⟩ = some (.int .i64 a1_3) := (blk_cell BK320.out 3).trans rfl; have hcz6_4 : w4.cell? ⟨gx1_0, 4, none⟩ = some (.int .i64 a1_4) := (blk_cell BK320.out 4).trans rfl; obtain ⟨hfz6_0, hfz6_1, hfz6_2, hfz6_3, hfz6_4⟩ := fz5 BK320; obtain ⟨hcz7_0, hcz7_1, hcz7_2, hcz7_3, hcz7_4⟩ := cz5 BK321; obtain ⟨hfz7_0, hfz7_1, hfz7_2, hfz7_3, hfz7_4⟩ := fz5 BK321) | ((with_reducible refine gate_callee (f := 51) rfl ?_); refine gL (some 8) rfl rfl Try.func51 (by kernel_rfl) rfl #[.agg #[.int .i64 a1_2, .int .i64 a1_3], .agg #[.int .i64 a0_2, .int .i64 a0_3]] rfl ?_; (with_reducible refine (impl_overlap.calls a1_2 a1_3 a0_2 a0_3 t322 _ A3.out).mono ?_); rintro e w8 ⟨rfl, hb⟩; refine ⟨_, rfl, ?_⟩; replace BK320 := Ah (blk_below (g := gx1_0) (o := .cells #[.int .i64 a1_0, .int .i64 a1_1, .int .i64 a1_2, .int .i64 a1_3, .int .i64 a1_4] 56 (0, 0)) (bk BK320) hb); replace BK321 := nb BK321 hb; replace HB := Ah (below_step (bs1 HB GE321) hb); (try clear hb)))
 go_ret
 exact ⟨er, bs1 HB GE321⟩
def slices_IndexFunc_impl_Item_at_impl_intentsOf_1.l0 : Nat → List (S56) → Int → Int → Int → Int → Int → Int → Int → Option (Int)
 | 0, _, _, _, _, _, _, _, _ => none
 | k + 1, x0, x7, x8, x324000, x324001, x324002, x324003, x324004 => if x8 < x7 then (if 0 ≤ x8 then (if x8 < (x0.length : Int) then ((impl_intentsOf_1.f ((rd_T56 x0 x8).f0) ((rd_T56 x0 x8).f1) ((rd_T56 x0 x8).f2.f0) ((rd_T56 x0 x8).f2.f1) ((rd_T56 x0 x8).f3) x324000 x324001 x324002 x324003 x324004).bind fun t325 => (if t325 = true then (some x8) else (slices_IndexFunc_impl_Item_at_impl_intentsOf_1.l0 k x0 x7 (wrap64 (x8 + 1)) x324000 x324001 x324002 x324003 x324004))) else (none)) else (none)) else (some (-1))
def slices_IndexFunc_impl_Item_at_impl_intentsOf_1.f (k : Nat) (l0 : List (S56)) (a1_0 : Int) (a1_1 : Int) (a1_2 : Int) (a1_3 : Int) (a1_4 : Int) : Option (Int) := slices_IndexFunc_impl_Item_at_impl_intentsOf_1.l0 k l0 (l0.length : Int) 0 a1_0 a1_1 a1_2 a1_3 a1_4
theorem slices_IndexFunc_impl_Item_at_impl_intentsOf_1.mono_l : ∀ k, (∀ y0 y1 y2 y3 y4 y5 y6 y7, LeO (slices_IndexFunc_impl_Item_at_impl_intentsOf_1.l0 k y0 y1 y2 y3 y4 y5 y6 y7) (slices_IndexFunc_impl_Item_at_impl_intentsOf_1.l0 (k + 1) y0 y1 y2 y3 y4 y5 y6 y7))
 | 0 => fun _ _ _ _ _ _ _ _ r h => by simp [slices_IndexFunc_impl_Item_at_impl_intentsOf_1.l0] at h
 | k + 1 => by
  have ih0 := slices_IndexFunc_impl_Item_at_impl_intentsOf_1.mono_l k
  ·
   intro y0 y1 y2 y3 y4 y5 y6 y7
   unfold slices_IndexFunc_impl_Item_at_impl_intentsOf_1.l0
   repeat' first
   | (with_reducible exact ih0 _ _ _ _ _ _ _ _)
   | (with_reducible exact LeO.refl _)
   | (with_reducible exact LeO.none _)
   | (with_reducible refine LeO.ite ?_ ?_)
   | (with_reducible refine LeO.bind ?_ (fun _ => ?_))
   | exact ih0 _ _ _ _ _ _ _ _
   | exact LeO.none _
   | refine LeO.ite ?_ ?_
   | refine LeO.bind ?_ (fun _ => ?_)
theorem slices_IndexFunc_impl_Item_at_impl_intentsOf_1.mono : ∀ a0 a1 a2 a3 a4 a5 k, LeO (slices_IndexFunc_impl_Item_at_impl_intentsOf_1.f k a0 a1 a2 a3 a4 a5) (slices_IndexFunc_impl_Item_at_impl_intentsOf_1.f (k + 1) a0 a1 a2 a3 a4 a5) := by
 intro a0 a1 a2 a3 a4 a5 k
 have ih0 := slices_IndexFunc_impl_Item_at_impl_intentsOf_1.mono_l k
 unfold slices_IndexFunc_impl_Item_at_impl_intentsOf_1.f
 repeat' first
   | (with_reducible exact ih0 _ _ _ _ _ _ _ _)
   | (with_reducible exact LeO.refl _)
   | (with_reducible exact LeO.none _)
   | (with_reducible refine LeO.ite ?_ ?_)
   | (with_reducible refine LeO.bind ?_ (fun _ => ?_))
   | exact ih0 _ _ _ _ _ _ _ _
   | exact LeO.none _
   | refine LeO.ite ?_ ?_
   | refine LeO.bind ?_ (fun _ => ?_)
set_option maxHeartbeats 8000000 in
set_option maxRecDepth 100000 in
theorem slices_IndexFunc_impl_Item_at_impl_intentsOf_1.calls (k : Nat) (A0 : Option Addr) (c0 : Nat) (l0 : List (S56)) (gx1_0 : Nat) (a1_0 : Int) (a1_1 : Int) (a1_2 : Int) (a1_3 : Int) (a1_4 : Int) (r : Int) (w : World) (hr0 : Kd.C k56 w A0 l0.length l0) (hc0 : l0.length ≤ c0) (hx1_0 : w.heap[gx1_0]? = some (.cells #[.int .i64 a1_0, .int .i64 a1_1, .int .i64 a1_2, .int .i64 a1_3, .int .i64 a1_4] 56 (0, 0))) (h : slices_IndexFunc_impl_Item_at_impl_intentsOf_1.f k l0 a1_0 a1_1 a1_2 a1_3 a1_4 = some r) :
  Calls Try.prog 65 #[.slice A0 l0.length c0, .func (.func 50) #[] #[.pointer (some ⟨gx1_0, 0, none⟩)]] w fun e w' => e = .returned (.int .i64 r) ∧ Below w.heap.size w w' := by
 have hu56 := Try.underlying56
 have HR0 := Ah hr0
 have HC0 := Ah hc0
 clear hr0 hc0
 have BK323 := Ah hx1_0
 clear hx1_0
 have HB := Ah (Below.refl w.heap.size w)
 have H : (slices_IndexFunc_impl_Item_at_impl_intentsOf_1.l0 k l0 (l0.length : Int) 0 a1_0 a1_1 a1_2 a1_3 a1_4) = some r := h
 clear h
 have H' := Ah H
 clear H
 go_enter Try.func65, Try.ntmps65
 go_wp2
 go_loopg [8] k (fun kq v8 w' => ∃ (x8_1 : Int), v8 = .int .i64 x8_1 ∧ Aside0 (slices_IndexFunc_impl_Item_at_impl_intentsOf_1.l0 kq l0 (l0.length : Int) x8_1 a1_0 a1_1 a1_2 a1_3 a1_4 = some r) ∧ Aside0 (kq ≤ k) ∧ Aside0 (w'.heap[gx1_0]? = some (.cells #[.int .i64 a1_0, .int .i64 a1_1, .int .i64 a1_2, .int .i64 a1_3, .int .i64 a1_4] 56 (0, 0))) ∧ Aside0 (Below w.heap.size w w'))
 case atStart => exact ⟨(0), e3, H', ⟨Nat.le_refl _⟩, ⟨bk BK323⟩, ⟨bs HB⟩⟩
 case round =>
  clear H'
  try clear hx1
  try clear p2
  try clear hx1_0
  obtain ⟨x8_1, rfl, HA, HK1, BK323, HB⟩ := hrel
  cases gk with
  | zero => exact absurd HA.out (by simp [slices_IndexFunc_impl_Item_at_impl_intentsOf_1.l0])
  | succ k1 =>
   have H := HA.out
   clear HA
   simp only [slices_IndexFunc_impl_Item_at_impl_intentsOf_1.l0] at H
   by_cases c3 : x8_1 < (l0.length : Int)
   rotate_left
   ·
    rw [if_neg c3] at H
    have c3b0 : decide (x8_1 < (l0.length : Int)) = false := decide_eq_false c3
    clear c3
    obtain rfl := Option.some.inj H
    go_wp2
    go_ret
    exact ⟨er, bs HB⟩
   rw [if_pos c3] at H
   have c3b0 : decide (x8_1 < (l0.length : Int)) = true := decide_eq_true c3
   clear c3
   by_cases c4 : 0 ≤ x8_1
   rotate_left
   ·
    rw [if_neg c4] at H
    exact absurd H (by simp)
   rw [if_pos c4] at H
   have c4b0 : decide (0 ≤ x8_1) = true := decide_eq_true c4
   clear c4
   by_cases c5 : x8_1 < (l0.length : Int)
   rotate_left
   ·
    rw [if_neg c5] at H
    exact absurd H (by simp)
   rw [if_pos c5] at H
   have c5b0 : decide (x8_1 < (l0.length : Int)) = true := decide_eq_true c5
   clear c5
   replace H := Option.bind_eq_some_iff.mp H
   obtain ⟨t325, A60, H⟩ := H
   try dsimp only at H
   have A6 := Ah A60
   clear A60
   by_cases c7 : t325 = true
   ·
    subst c7
    rw [if_pos rfl] at H
    obtain rfl := Option.some.inj H
    have p324 : 0 ≤ (x8_1 : Int) := od
    have q324 : x8_1 < (l0.length : Int) := od
    obtain ⟨ad324, e324, hx324_0, hx324_1, hx324_2, hx324_3, hx324_4⟩ := at_T56 HR0.out x8_1 p324 q324
    cases e324
    replace hx324_0 := (HB.out.cell (World.block_lt_of_cell? w _ hx324_0)).trans hx324_0
    replace hx324_1 := (HB.out.cell (World.block_lt_of_cell? w _ hx324_1)).trans hx324_1
    replace hx324_2 := (HB.out.cell (World.block_lt_of_cell? w _ hx324_2)).trans hx324_2
    replace hx324_3 := (HB.out.cell (World.block_lt_of_cell? w _ hx324_3)).trans hx324_3
    replace hx324_4 := (HB.out.cell (World.block_lt_of_cell? w _ hx324_4)).trans hx324_4
    replace p324 := eq_true p324
    replace q324 := eq_true q324
    go_wp2_with (first | ((with_reducible refine gate_value (t := 11) rfl ?_); refine goesV_ (some 16) rfl rfl Try.func50 (by kernel_rfl) rfl #[.agg #[.int .i64 ((rd_T56 l0 x8_1).f0), .int .i64 ((rd_T56 l0 x8_1).f1), .int .i64 ((rd_T56 l0 x8_1).f2.f0), .int .i64 ((rd_T56 l0 x8_1).f2.f1), .int .i64 ((rd_T56 l0 x8_1).f3)], .pointer (some ⟨gx1_0, 0, none⟩)] rfl rfl (by (try simp only [List.map_toArray, List.map_cons, List.map_nil]); first | done | rfl | (simp only [List.length_drop, List.length_take]; rfl)) ?_; (with_reducible refine (impl_intentsOf_1.calls ((rd_T56 l0 x8_1).f0) ((rd_T56 l0 x8_1).f1) ((rd_T56 l0 x8_1).f2.f0) ((rd_T56 l0 x8_1).f2.f1) ((rd_T56 l0 x8_1).f3) gx1_0 a1_0 a1_1 a1_2 a1_3 a1_4 true _ ?side1 A6.out).mono ?_); (case side1 => (with_reducible repeat (first | refine blk_drewN ?_ _ | refine blk_drew ?_ | refine blk_alloc ?_ _)); exact BK323.out); rintro e w8 ⟨rfl, hb⟩; refine ⟨_, rfl, ?_⟩; replace BK323 := Ah (blk_below (g := gx1_0) (o := .cells #[.int .i64 a1_0, .int .i64 a1_1, .int .i64 a1_2, .int .i64 a1_3, .int .i64 a1_4] 56 (0, 0)) (bk BK323) hb); replace HB := Ah (below_step (bs HB) hb); (try clear hb)))
    go_ret
    exact ⟨er, bs HB⟩
   replace c7 := Bool.eq_false_iff.mpr c7
   subst c7
   rw [if_neg fne] at H
   have H' := Ah H
   clear H
   have p324 : 0 ≤ (x8_1 : Int) := od
   have q324 : x8_1 < (l0.length : Int) := od
   obtain ⟨ad324, e324, hx324_0, hx324_1, hx324_2, hx324_3, hx324_4⟩ := at_T56 HR0.out x8_1 p324 q324
   cases e324
   replace hx324_0 := (HB.out.cell (World.block_lt_of_cell? w _ hx324_0)).trans hx324_0
   replace hx324_1 := (HB.out.cell (World.block_lt_of_cell? w _ hx324_1)).trans hx324_1
   replace hx324_2 := (HB.out.cell (World.block_lt_of_cell? w _ hx324_2)).trans hx324_2
   replace hx324_3 := (HB.out.cell (World.block_lt_of_cell? w _ hx324_3)).trans hx324_3
   replace hx324_4 := (HB.out.cell (World.block_lt_of_cell? w _ hx324_4)).trans hx324_4
   replace p324 := eq_true p324
   replace q324 := eq_true q324
   go_wp2_with (first | ((with_reducible refine gate_value (t := 11) rfl ?_); refine goesV_ (some 16) rfl rfl Try.func50 (by kernel_rfl) rfl #[.agg #[.int .i64 ((rd_T56 l0 x8_1).f0), .int .i64 ((rd_T56 l0 x8_1).f1), .int .i64 ((rd_T56 l0 x8_1).f2.f0), .int .i64 ((rd_T56 l0 x8_1).f2.f1), .int .i64 ((rd_T56 l0 x8_1).f3)], .pointer (some ⟨gx1_0, 0, none⟩)] rfl rfl (by (try simp only [List.map_toArray, List.map_cons, List.map_nil]); first | done | rfl | (simp only [List.length_drop, List.length_take]; rfl)) ?_; (with_reducible refine (impl_intentsOf_1.calls ((rd_T56 l0 x8_1).f0) ((rd_T56 l0 x8_1).f1) ((rd_T56 l0 x8_1).f2.f0) ((rd_T56 l0 x8_1).f2.f1) ((rd_T56 l0 x8_1).f3) gx1_0 a1_0 a1_1 a1_2 a1_3 a1_4 false _ ?side1 A6.out).mono ?_); (case side1 => (with_reducible repeat (first | refine blk_drewN ?_ _ | refine blk_drew ?_ | refine blk_alloc ?_ _)); exact BK323.out); rintro e w9 ⟨rfl, hb⟩; refine ⟨_, rfl, ?_⟩; replace BK323 := Ah (blk_below (g := gx1_0) (o := .cells #[.int .i64 a1_0, .int .i64 a1_1, .int .i64 a1_2, .int .i64 a1_3, .int .i64 a1_4] 56 (0, 0)) (bk BK323) hb); replace HB := Ah (below_step (bs HB) hb); (try clear hb)))
   go_roundg k1
   case measure => have := HK1.out; omega
   case rel => exact ⟨(wrap64 (x8_1 + 1)), e3, H', ⟨by have := HK1.out; omega⟩, ⟨bk BK323⟩, ⟨bs HB⟩⟩
def slices_ContainsFunc_impl_Item_at_impl_intentsOf_1.f (k : Nat) (l0 : List (S56)) (a1_0 : Int) (a1_1 : Int) (a1_2 : Int) (a1_3 : Int) (a1_4 : Int) : Option (Bool) := (slices_IndexFunc_impl_Item_at_impl_intentsOf_1.f k l0 a1_0 a1_1 a1_2 a1_3 a1_4).bind fun t327 => (some (decide (t327 ≥ 0)))
theorem slices_ContainsFunc_impl_Item_at_impl_intentsOf_1.mono : ∀ a0 a1 a2 a3 a4 a5 k, LeO (slices_ContainsFunc_impl_Item_at_impl_intentsOf_1.f k a0 a1 a2 a3 a4 a5) (slices_ContainsFunc_impl_Item_at_impl_intentsOf_1.f (k + 1) a0 a1 a2 a3 a4 a5) := by
 intro a0 a1 a2 a3 a4 a5 k
 unfold slices_ContainsFunc_impl_Item_at_impl_intentsOf_1.f
 repeat' first
   | (with_reducible exact slices_IndexFunc_impl_Item_at_impl_intentsOf_1.mono _ _ _ _ _ _ _)
   | (with_reducible exact LeO.refl _)
   | (with_reducible exact LeO.none _)
   | (with_reducible refine LeO.ite ?_ ?_)
   | (with_reducible refine LeO.bind ?_ (fun _ => ?_))
   | exact slices_IndexFunc_impl_Item_at_impl_intentsOf_1.mono _ _ _ _ _ _ _
   | exact LeO.none _
   | refine LeO.ite ?_ ?_
   | refine LeO.bind ?_ (fun _ => ?_)
set_option maxHeartbeats 8000000 in
set_option maxRecDepth 100000 in
theorem slices_ContainsFunc_impl_Item_at_impl_intentsOf_1.calls (k : Nat) (A0 : Option Addr) (c0 : Nat) (l0 : List (S56)) (gx1_0 : Nat) (a1_0 : Int) (a1_1 : Int) (a1_2 : Int) (a1_3 : Int) (a1_4 : Int) (r : Bool) (w : World) (hr0 : Kd.C k56 w A0 l0.length l0) (hc0 : l0.length ≤ c0) (hx1_0 : w.heap[gx1_0]? = some (.cells #[.int .i64 a1_0, .int .i64 a1_1, .int .i64 a1_2, .int .i64 a1_3, .int .i64 a1_4] 56 (0, 0))) (h : slices_ContainsFunc_impl_Item_at_impl_intentsOf_1.f k l0 a1_0 a1_1 a1_2 a1_3 a1_4 = some r) :
  Calls Try.prog 54 #[.slice A0 l0.length c0, .func (.func 50) #[] #[.pointer (some ⟨gx1_0, 0, none⟩)]] w fun e w' => e = .returned (.bool r) ∧ Below w.heap.size w w' := by
 have HR0 := Ah hr0
 have HC0 := Ah hc0
 clear hr0 hc0
 have BK326 := Ah hx1_0
 clear hx1_0
 have HB := Ah (Below.refl w.heap.size w)
 have H : ((slices_IndexFunc_impl_Item_at_impl_intentsOf_1.f k l0 a1_0 a1_1 a1_2 a1_3 a1_4).bind fun t327 => (some (decide (t327 ≥ 0)))) = some r := h
 clear h
 replace H := Option.bind_eq_some_iff.mp H
 obtain ⟨t327, A30, H⟩ := H
 try dsimp only at H
 have A3 := Ah A30
 clear A30
 obtain rfl := Option.some.inj H
 go_enter Try.func54, Try.ntmps54
 go_wp2_with (first | ((with_reducible refine gate_callee (f := 65) rfl ?_); refine gL (some 7) rfl rfl Try.func65 (by kernel_rfl) rfl #[.slice A0 l0.length c0, .func (.func 50) #[] #[.pointer (some ⟨gx1_0, 0, none⟩)]] rfl ?_; (with_reducible refine (slices_IndexFunc_impl_Item_at_impl_intentsOf_1.calls k _ _ l0 gx1_0 a1_0 a1_1 a1_2 a1_3 a1_4 t327 _ ?side1 ?side2 ?side3 A3.out).mono ?_); (case side1 => repeat (first | exact HR0.out | (with_reducible refine Kd.C_alloc ?_ _) | (with_reducible refine Kd.C_drewN ?_ _) | (with_reducible refine Kd.C_drew ?_))); (case side2 => exact HC0.out); (case side3 => (with_reducible repeat (first | refine blk_drewN ?_ _ | refine blk_drew ?_ | refine blk_alloc ?_ _)); exact BK326.out); rintro e w4 ⟨rfl, hb⟩; refine ⟨_, rfl, ?_⟩; replace BK326 := Ah (blk_below (g := gx1_0) (o := .cells #[.int .i64 a1_0, .int .i64 a1_1, .int .i64 a1_2, .int .i64 a1_3, .int .i64 a1_4] 56 (0, 0)) (bk BK326) hb); replace HB := Ah (below_step (bs HB) hb); (try clear hb)))
 go_ret
 exact ⟨er, bs HB⟩
def impl_intentsOf_2.f (a0_0 : Int) (a0_1 : Int) (a1_0 : Int) (a1_1 : Int) (a1_2 : Int) (a1_3 : Int) (a1_4 : Int) : Option (Bool) := (impl_overlap.f a1_2 a1_3 a0_0 a0_1).bind fun t322 => (some t322)
set_option maxHeartbeats 8000000 in
set_option maxRecDepth 100000 in
theorem impl_intentsOf_2.calls (a0_0 : Int) (a0_1 : Int) (gx1_0 : Nat) (a1_0 : Int) (a1_1 : Int) (a1_2 : Int) (a1_3 : Int) (a1_4 : Int) (r : Bool) (w : World) (hx1_0 : w.heap[gx1_0]? = some (.cells #[.int .i64 a1_0, .int .i64 a1_1, .int .i64 a1_2, .int .i64 a1_3, .int .i64 a1_4] 56 (0, 0))) (h : impl_intentsOf_2.f a0_0 a0_1 a1_0 a1_1 a1_2 a1_3 a1_4 = some r) :
  Calls Try.prog 52 #[.agg #[.int .i64 a0_0, .int .i64 a0_1], .pointer (some ⟨gx1_0, 0, none⟩)] w fun e w' => e = .returned (.bool r) ∧ Below w.heap.size w w' := by
 have hu40 := Try.underlying40
 have BK320 := Ah hx1_0
 clear hx1_0
 have HB := Ah (Below.refl w.heap.size w)
 have H : ((impl_overlap.f a1_2 a1_3 a0_0 a0_1).bind fun t322 => (some t322)) = some r := h
 clear h
 replace H := Option.bind_eq_some_iff.mp H
 obtain ⟨t322, A30, H⟩ := H
 try dsimp only at H
 have A3 := Ah A30
 clear A30
 obtain rfl := Option.some.inj H
 go_enter Try.func52, Try.ntmps52
 go_wp2_with (first | ((with_reducible refine gate_dst (N := 2) rfl ?_); refine boxL 2 40 #[.int .i64 a0_0, .int .i64 a0_1] ?_; intro gb321 hg w4 BK321 hb; have GW321 := gw hg (bs HB); have GE321 := gw hg (bs HB); replace HB := Ah (below_step (bs HB) hb); have NB320_321 := Ah ((by rw [hg]; exact Nat.ne_of_lt (blk_lt (g := gx1_0) (o := .cells #[.int .i64 a1_0, .int .i64 a1_1, .int .i64 a1_2, .int .i64 a1_3, .int .i64 a1_4] 56 (0, 0)) (bk BK320)) : gx1_0 ≠ gb321)); have NB321_320 := Ah ((by rw [hg]; exact Nat.ne_of_gt (blk_lt (g := gx1_0) (o := .cells #[.int .i64 a1_0, .int .i64 a1_1, .int .i64 a1_2, .int .i64 a1_3, .int .i64 a1_4] 56 (0, 0)) (bk BK320)) : gb321 ≠ gx1_0)); replace BK320 := Ah (blk_below (g := gx1_0) (o := .cells #[.int .i64 a1_0, .int .i64 a1_1, .int .i64 a1_2, .int .i64 a1_3, .int .i64 a1_4] 56 (0, 0)) (bk BK320) hb); clear hb hg; have hnb5 := NB320_321.out; have hnc5 := NB321_320.out; have hcz6_0 : w4.cell? ⟨gx1_0, 0, none⟩ = some (.int .i64 a1_0) := (blk_cell BK320.out 0).trans rfl; have hcz6_1 : w4.cell? ⟨gx1_0, 1, none⟩ = some (.int .i64 a1_1) := (blk_cell BK320.out 1).trans rfl; have hcz6_2 : w4.cell? ⟨gx1_0, 2, none⟩ = some (.int .i64 a1_2) := (blk_cell BK320.out 2).trans rfl; have hcz6_3 : w4.cell? ⟨gx1_0, 3, none⟩ = some (.int .i64 a1_3) := (blk_cell BK320.out 3).trans rfl; have hcz6_4 : w4.cell? ⟨gx1_0, 4, none⟩ = some (.int .i64 a1_4) := (blk_cell BK320.out 4).trans rfl; obtain ⟨hfz6_0, hfz6_1, hfz6_2, hfz6_3, hfz6_4⟩ := fz5 BK320; obtain ⟨hcz7_0, hcz7_1⟩ := cz2 BK321; obtain ⟨hfz7_0, hfz7_1⟩ := fz2 BK321) | ((with_reducible refine gate_callee (f := 51) rfl ?_); refine gL (some 7) rfl rfl Try.func51 (by kernel_rfl) rfl #[.agg #[.int .i64 a1_2, .int .i64 a1_3], .agg #[.int .i64 a0_0, .int .i64 a0_1]] rfl ?_; (with_reducible refine (impl_overlap.calls a1_2 a1_3 a0_0 a0_1 t322 _ A3.out).mono ?_); rintro e w8 ⟨rfl, hb⟩; refine ⟨_, rfl, ?_⟩; replace BK320 := Ah (blk_below (g := gx1_0) (o := .cells #[.int .i64 a1_0, .int .i64 a1_1, .int .i64 a1_2, .int .i64 a1_3, .int .i64 a1_4] 56 (0, 0)) (bk BK320) hb); replace BK321 := nb BK321 hb; replace HB := Ah (below_step (bs1 HB GE321) hb); (try clear hb)))
 go_ret
 exact ⟨er, bs1 HB GE321⟩
def slices_IndexFunc_impl_Extent_at_impl_intentsOf_2.l0 : Nat → List (S40) → Int → Int → Int → Int → Int → Int → Int → Option (Int)
 | 0, _, _, _, _, _, _, _, _ => none
 | k + 1, x0, x7, x8, x324000, x324001, x324002, x324003, x324004 => if x8 < x7 then (if 0 ≤ x8 then (if x8 < (x0.length : Int) then ((impl_intentsOf_2.f ((rd_T40 x0 x8).f0) ((rd_T40 x0 x8).f1) x324000 x324001 x324002 x324003 x324004).bind fun t325 => (if t325 = true then (some x8) else (slices_IndexFunc_impl_Extent_at_impl_intentsOf_2.l0 k x0 x7 (wrap64 (x8 + 1)) x324000 x324001 x324002 x324003 x324004))) else (none)) else (none)) else (some (-1))
def slices_IndexFunc_impl_Extent_at_impl_intentsOf_2.f (k : Nat) (l0 : List (S40)) (a1_0 : Int) (a1_1 : Int) (a1_2 : Int) (a1_3 : Int) (a1_4 : Int) : Option (Int) := slices_IndexFunc_impl_Extent_at_impl_intentsOf_2.l0 k l0 (l0.length : Int) 0 a1_0 a1_1 a1_2 a1_3 a1_4
theorem slices_IndexFunc_impl_Extent_at_impl_intentsOf_2.mono_l : ∀ k, (∀ y0 y1 y2 y3 y4 y5 y6 y7, LeO (slices_IndexFunc_impl_Extent_at_impl_intentsOf_2.l0 k y0 y1 y2 y3 y4 y5 y6 y7) (slices_IndexFunc_impl_Extent_at_impl_intentsOf_2.l0 (k + 1) y0 y1 y2 y3 y4 y5 y6 y7))
 | 0 => fun _ _ _ _ _ _ _ _ r h => by simp [slices_IndexFunc_impl_Extent_at_impl_intentsOf_2.l0] at h
 | k + 1 => by
  have ih0 := slices_IndexFunc_impl_Extent_at_impl_intentsOf_2.mono_l k
  ·
   intro y0 y1 y2 y3 y4 y5 y6 y7
   unfold slices_IndexFunc_impl_Extent_at_impl_intentsOf_2.l0
   repeat' first
   | (with_reducible exact ih0 _ _ _ _ _ _ _ _)
   | (with_reducible exact LeO.refl _)
   | (with_reducible exact LeO.none _)
   | (with_reducible refine LeO.ite ?_ ?_)
   | (with_reducible refine LeO.bind ?_ (fun _ => ?_))
   | exact ih0 _ _ _ _ _ _ _ _
   | exact LeO.none _
   | refine LeO.ite ?_ ?_
   | refine LeO.bind ?_ (fun _ => ?_)
theorem slices_IndexFunc_impl_Extent_at_impl_intentsOf_2.mono : ∀ a0 a1 a2 a3 a4 a5 k, LeO (slices_IndexFunc_impl_Extent_at_impl_intentsOf_2.f k a0 a1 a2 a3 a4 a5) (slices_IndexFunc_impl_Extent_at_impl_intentsOf_2.f (k + 1) a0 a1 a2 a3 a4 a5) := by
 intro a0 a1 a2 a3 a4 a5 k
 have ih0 := slices_IndexFunc_impl_Extent_at_impl_intentsOf_2.mono_l k
 unfold slices_IndexFunc_impl_Extent_at_impl_intentsOf_2.f
 repeat' first
   | (with_reducible exact ih0 _ _ _ _ _ _ _ _)
   | (with_reducible exact LeO.refl _)
   | (with_reducible exact LeO.none _)
   | (with_reducible refine LeO.ite ?_ ?_)
   | (with_reducible refine LeO.bind ?_ (fun _ => ?_))
   | exact ih0 _ _ _ _ _ _ _ _
   | exact LeO.none _
   | refine LeO.ite ?_ ?_
   | refine LeO.bind ?_ (fun _ => ?_)
set_option maxHeartbeats 8000000 in
set_option maxRecDepth 100000 in
theorem slices_IndexFunc_impl_Extent_at_impl_intentsOf_2.calls (k : Nat) (A0 : Option Addr) (c0 : Nat) (l0 : List (S40)) (gx1_0 : Nat) (a1_0 : Int) (a1_1 : Int) (a1_2 : Int) (a1_3 : Int) (a1_4 : Int) (r : Int) (w : World) (hr0 : Kd.C k40 w A0 l0.length l0) (hc0 : l0.length ≤ c0) (hx1_0 : w.heap[gx1_0]? = some (.cells #[.int .i64 a1_0, .int .i64 a1_1, .int .i64 a1_2, .int .i64 a1_3, .int .i64 a1_4] 56 (0, 0))) (h : slices_IndexFunc_impl_Extent_at_impl_intentsOf_2.f k l0 a1_0 a1_1 a1_2 a1_3 a1_4 = some r) :
  Calls Try.prog 66 #[.slice A0 l0.length c0, .func (.func 52) #[] #[.pointer (some ⟨gx1_0, 0, none⟩)]] w fun e w' => e = .returned (.int .i64 r) ∧ Below w.heap.size w w' := by
 have hu40 := Try.underlying40
 have HR0 := Ah hr0
 have HC0 := Ah hc0
 clear hr0 hc0
 have BK323 := Ah hx1_0
 clear hx1_0
 have HB := Ah (Below.refl w.heap.size w)
 have H : (slices_IndexFunc_impl_Extent_at_impl_intentsOf_2.l0 k l0 (l0.length : Int) 0 a1_0 a1_1 a1_2 a1_3 a1_4) = some r := h
 clear h
 have H' := Ah H
 clear H
 go_enter Try.func66, Try.ntmps66
 go_wp2
 go_loopg [8] k (fun kq v8 w' => ∃ (x8_1 : Int), v8 = .int .i64 x8_1 ∧ Aside0 (slices_IndexFunc_impl_Extent_at_impl_intentsOf_2.l0 kq l0 (l0.length : Int) x8_1 a1_0 a1_1 a1_2 a1_3 a1_4 = some r) ∧ Aside0 (kq ≤ k) ∧ Aside0 (w'.heap[gx1_0]? = some (.cells #[.int .i64 a1_0, .int .i64 a1_1, .int .i64 a1_2, .int .i64 a1_3, .int .i64 a1_4] 56 (0, 0))) ∧ Aside0 (Below w.heap.size w w'))
 case atStart => exact ⟨(0), e3, H', ⟨Nat.le_refl _⟩, ⟨bk BK323⟩, ⟨bs HB⟩⟩
 case round =>
  clear H'
  try clear hx1
  try clear p2
  try clear hx1_0
  obtain ⟨x8_1, rfl, HA, HK1, BK323, HB⟩ := hrel
  cases gk with
  | zero => exact absurd HA.out (by simp [slices_IndexFunc_impl_Extent_at_impl_intentsOf_2.l0])
  | succ k1 =>
   have H := HA.out
   clear HA
   simp only [slices_IndexFunc_impl_Extent_at_impl_intentsOf_2.l0] at H
   by_cases c3 : x8_1 < (l0.length : Int)
   rotate_left
   ·
    rw [if_neg c3] at H
    have c3b0 : decide (x8_1 < (l0.length : Int)) = false := decide_eq_false c3
    clear c3
    obtain rfl := Option.some.inj H
    go_wp2
    go_ret
    exact ⟨er, bs HB⟩
   rw [if_pos c3] at H
   have c3b0 : decide (x8_1 < (l0.length : Int)) = true := decide_eq_true c3
   clear c3
   by_cases c4 : 0 ≤ x8_1
   rotate_left
   ·
    rw [if_neg c4] at H
    exact absurd H (by simp)
   rw [if_pos c4] at H
   have c4b0 : decide (0 ≤ x8_1) = true := decide_eq_true c4
   clear c4
   by_cases c5 : x8_1 < (l0.length : Int)
   rotate_left
   ·
    rw [if_neg c5] at H
    exact absurd H (by simp)
   rw [if_pos c5] at H
   have c5b0 : decide (x8_1 < (l0.length : Int)) = true := decide_eq_true c5
   clear c5
   replace H := Option.bind_eq_some_iff.mp H
   obtain ⟨t325, A60, H⟩ := H
   try dsimp only at H
   have A6 := Ah A60
   clear A60
   by_cases c7 : t325 = true
   ·
    subst c7
    rw [if_pos rfl] at H
    obtain rfl := Option.some.inj H
    have p324 : 0 ≤ (x8_1 : Int) := od
    have q324 : x8_1 < (l0.length : Int) := od
    obtain ⟨ad324, e324, hx324_0, hx324_1⟩ := at_T40 HR0.out x8_1 p324 q324
    cases e324
    replace hx324_0 := (HB.out.cell (World.block_lt_of_cell? w _ hx324_0)).trans hx324_0
    replace hx324_1 := (HB.out.cell (World.block_lt_of_cell? w _ hx324_1)).trans hx324_1
    replace p324 := eq_true p324
    replace q324 := eq_true q324
    go_wp2_with (first | ((with_reducible refine gate_value (t := 11) rfl ?_); refine goesV_ (some 16) rfl rfl Try.func52 (by kernel_rfl) rfl #[.agg #[.int .i64 ((rd_T40 l0 x8_1).f0), .int .i64 ((rd_T40 l0 x8_1).f1)], .pointer (some ⟨gx1_0, 0, none⟩)] rfl rfl (by (try simp only [List.map_toArray, List.map_cons, List.map_nil]); first | done | rfl | (simp only [List.length_drop, List.length_take]; rfl)) ?_; (with_reducible refine (impl_intentsOf_2.calls ((rd_T40 l0 x8_1).f0) ((rd_T40 l0 x8_1).f1) gx1_0 a1_0 a1_1 a1_2 a1_3 a1_4 true _ ?side1 A6.out).mono ?_); (case side1 => (with_reducible repeat (first | refine blk_drewN ?_ _ | refine blk_drew ?_ | refine blk_alloc ?_ _)); exact BK323.out); rintro e w8 ⟨rfl, hb⟩; refine ⟨_, rfl, ?_⟩; replace BK323 := Ah (blk_below (g := gx1_0) (o := .cells #[.int .i64 a1_0, .int .i64 a1_1, .int .i64 a1_2, .int .i64 a1_3, .int .i64 a1_4] 56 (0, 0)) (bk BK323) hb); replace HB := Ah (below_step (bs HB) hb); (try clear hb)))
    go_ret
    exact ⟨er, bs HB⟩
   replace c7 := Bool.eq_false_iff.mpr c7
   subst c7
   rw [if_neg fne] at H
   have H' := Ah H
   clear H
   have p324 : 0 ≤ (x8_1 : Int) := od
   have q324 : x8_1 < (l0.length : Int) := od
   obtain ⟨ad324, e324, hx324_0, hx324_1⟩ := at_T40 HR0.out x8_1 p324 q324
   cases e324
   replace hx324_0 := (HB.out.cell (World.block_lt_of_cell? w _ hx324_0)).trans hx324_0
   replace hx324_1 := (HB.out.cell (World.block_lt_of_cell? w _ hx324_1)).trans hx324_1
   replace p324 := eq_true p324
   replace q324 := eq_true q324
   go_wp2_with (first | ((with_reducible refine gate_value (t := 11) rfl ?_); refine goesV_ (some 16) rfl rfl Try.func52 (by kernel_rfl) rfl #[.agg #[.int .i64 ((rd_T40 l0 x8_1).f0), .int .i64 ((rd_T40 l0 x8_1).f1)], .pointer (some ⟨gx1_0, 0, none⟩)] rfl rfl (by (try simp only [List.map_toArray, List.map_cons, List.map_nil]); first | done | rfl | (simp only [List.length_drop, List.length_take]; rfl)) ?_; (with_reducible refine (impl_intentsOf_2.calls ((rd_T40 l0 x8_1).f0) ((rd_T40 l0 x8_1).f1) gx1_0 a1_0 a1_1 a1_2 a1_3 a1_4 false _ ?side1 A6.out).mono ?_); (case side1 => (with_reducible repeat (first | refine blk_drewN ?_ _ | refine blk_drew ?_ | refine blk_alloc ?_ _)); exact BK323.out); rintro e w9 ⟨rfl, hb⟩; refine ⟨_, rfl, ?_⟩; replace BK323 := Ah (blk_below (g := gx1_0) (o := .cells #[.int .i64 a1_0, .int .i64 a1_1, .int .i64 a1_2, .int .i64 a1_3, .int .i64 a1_4] 56 (0, 0)) (bk BK323) hb); replace HB := Ah (below_step (bs HB) hb); (try clear hb)))
   go_roundg k1
   case measure => have := HK1.out; omega
   case rel => exact ⟨(wrap64 (x8_1 + 1)), e3, H', ⟨by have := HK1.out; omega⟩, ⟨bk BK323⟩, ⟨bs HB⟩⟩
def slices_ContainsFunc_impl_Extent_at_impl_intentsOf_2.f (k : Nat) (l0 : List (S40)) (a1_0 : Int) (a1_1 : Int) (a1_2 : Int) (a1_3 : Int) (a1_4 : Int) : Option (Bool) := (slices_IndexFunc_impl_Extent_at_impl_intentsOf_2.f k l0 a1_0 a1_1 a1_2 a1_3 a1_4).bind fun t327 => (some (decide (t327 ≥ 0)))
theorem slices_ContainsFunc_impl_Extent_at_impl_intentsOf_2.mono : ∀ a0 a1 a2 a3 a4 a5 k, LeO (slices_ContainsFunc_impl_Extent_at_impl_intentsOf_2.f k a0 a1 a2 a3 a4 a5) (slices_ContainsFunc_impl_Extent_at_impl_intentsOf_2.f (k + 1) a0 a1 a2 a3 a4 a5) := by
 intro a0 a1 a2 a3 a4 a5 k
 unfold slices_ContainsFunc_impl_Extent_at_impl_intentsOf_2.f
 repeat' first
   | (with_reducible exact slices_IndexFunc_impl_Extent_at_impl_intentsOf_2.mono _ _ _ _ _ _ _)
   | (with_reducible exact LeO.refl _)
   | (with_reducible exact LeO.none _)
   | (with_reducible refine LeO.ite ?_ ?_)
   | (with_reducible refine LeO.bind ?_ (fun _ => ?_))
   | exact slices_IndexFunc_impl_Extent_at_impl_intentsOf_2.mono _ _ _ _ _ _ _
   | exact LeO.none _
   | refine LeO.ite ?_ ?_
   | refine LeO.bind ?_ (fun _ => ?_)
set_option maxHeartbeats 8000000 in
set_option maxRecDepth 100000 in
theorem slices_ContainsFunc_impl_Extent_at_impl_intentsOf_2.calls (k : Nat) (A0 : Option Addr) (c0 : Nat) (l0 : List (S40)) (gx1_0 : Nat) (a1_0 : Int) (a1_1 : Int) (a1_2 : Int) (a1_3 : Int) (a1_4 : Int) (r : Bool) (w : World) (hr0 : Kd.C k40 w A0 l0.length l0) (hc0 : l0.length ≤ c0) (hx1_0 : w.heap[gx1_0]? = some (.cells #[.int .i64 a1_0, .int .i64 a1_1, .int .i64 a1_2, .int .i64 a1_3, .int .i64 a1_4] 56 (0, 0))) (h : slices_ContainsFunc_impl_Extent_at_impl_intentsOf_2.f k l0 a1_0 a1_1 a1_2 a1_3 a1_4 = some r) :
  Calls Try.prog 55 #[.slice A0 l0.length c0, .func (.func 52) #[] #[.pointer (some ⟨gx1_0, 0, none⟩)]] w fun e w' => e = .returned (.bool r) ∧ Below w.heap.size w w' := by
 have HR0 := Ah hr0
 have HC0 := Ah hc0
 clear hr0 hc0
 have BK326 := Ah hx1_0
 clear hx1_0
 have HB := Ah (Below.refl w.heap.size w)
 have H : ((slices_IndexFunc_impl_Extent_at_impl_intentsOf_2.f k l0 a1_0 a1_1 a1_2 a1_3 a1_4).bind fun t327 => (some (decide (t327 ≥ 0)))) = some r := h
 clear h
 replace H := Option.bind_eq_some_iff.mp H
 obtain ⟨t327, A30, H⟩ := H
 try dsimp only at H
 have A3 := Ah A30
 clear A30
 obtain rfl := Option.some.inj H
 go_enter Try.func55, Try.ntmps55
 go_wp2_with (first | ((with_reducible refine gate_callee (f := 66) rfl ?_); refine gL (some 7) rfl rfl Try.func66 (by kernel_rfl) rfl #[.slice A0 l0.length c0, .func (.func 52) #[] #[.pointer (some ⟨gx1_0, 0, none⟩)]] rfl ?_; (with_reducible refine (slices_IndexFunc_impl_Extent_at_impl_intentsOf_2.calls k _ _ l0 gx1_0 a1_0 a1_1 a1_2 a1_3 a1_4 t327 _ ?side1 ?side2 ?side3 A3.out).mono ?_); (case side1 => repeat (first | exact HR0.out | (with_reducible refine Kd.C_alloc ?_ _) | (with_reducible refine Kd.C_drewN ?_ _) | (with_reducible refine Kd.C_drew ?_))); (case side2 => exact HC0.out); (case side3 => (with_reducible repeat (first | refine blk_drewN ?_ _ | refine blk_drew ?_ | refine blk_alloc ?_ _)); exact BK326.out); rintro e w4 ⟨rfl, hb⟩; refine ⟨_, rfl, ?_⟩; replace BK326 := Ah (blk_below (g := gx1_0) (o := .cells #[.int .i64 a1_0, .int .i64 a1_1, .int .i64 a1_2, .int .i64 a1_3, .int .i64 a1_4] 56 (0, 0)) (bk BK326) hb); replace HB := Ah (below_step (bs HB) hb); (try clear hb)))
 go_ret
 exact ⟨er, bs HB⟩
mutual
def impl_intentsOf.j0 : Nat → List (S56) → Bool → Int → List (S40) → List (S40) → Option ((List (S56)) × Bool)
 | 0, _, _, _, _, _ => none
 | k + 1, x1, x18, x321000, x321001, x321002 => if x18 = true then (some (([] : List (S56)), false)) else (impl_intentsOf.l0 k (([] : List (S56))) x1 (x1.length : Int) 0 x321000 x321001 x321002)
def impl_intentsOf.l0 : Nat → List (S56) → List (S56) → Int → Int → Int → List (S40) → List (S40) → Option ((List (S56)) × Bool)
 | 0, _, _, _, _, _, _, _ => none
 | k + 1, x6, x20, x21, x22, x321000, x321001, x321002 => if x22 < x21 then (if 0 ≤ x22 then (if x22 < (x20.length : Int) then (if ((rd_T56 x20 x22).f0) = 2 then ((impl_within.f ((rd_T56 x20 x22).f1) 1 (x6.length : Int)).bind fun t327 => (if t327 = true then (if (!(((rd_T56 x20 x22).f2.f0) == 0) || (!(((rd_T56 x20 x22).f2.f1) == 0))) = true then (some (([] : List (S56)), false)) else (if 0 ≤ (wrap64 (((rd_T56 x20 x22).f1) - 1)) then (if (wrap64 (((rd_T56 x20 x22).f1) - 1)) < (x6.length : Int) then ((impl_within.f ((rd_T56 x20 x22).f3) (wrap64 (((rd_T56 x6 (wrap64 (((rd_T56 x20 x22).f1) - 1))).f3) + 1)) ((rd_T56 x6 (wrap64 (((rd_T56 x20 x22).f1) - 1))).f2.f1)).bind fun t330 => (if t330 = true then (impl_intentsOf.l0 k (x6.set ((wrap64 (((rd_T56 x20 x22).f1) - 1)) : Int).toNat (⟨(rd_T56 x6 (wrap64 (((rd_T56 x20 x22).f1) - 1))).f0, (rd_T56 x6 (wrap64 (((rd_T56 x20 x22).f1) - 1))).f1, (⟨(rd_T56 x6 (wrap64 (((rd_T56 x20 x22).f1) - 1))).f2.f0, (rd_T56 x6 (wrap64 (((rd_T56 x20 x22).f1) - 1))).f2.f1⟩ : S40), (rd_T56 x20 x22).f3⟩ : S56)) x20 x21 (wrap64 (x22 + 1)) x321000 x321001 x321002) else (some (([] : List (S56)), false)))) else (none)) else (none))) else (some (([] : List (S56)), false)))) else (if ((rd_T56 x20 x22).f0) = 1 then (if ((rd_T56 x20 x22).f1) = (wrap64 ((x6.length : Int) + 1)) then (if ((rd_T56 x20 x22).f3) = 0 then ((impl_isExtent.f ((rd_T56 x20 x22).f2.f0) ((rd_T56 x20 x22).f2.f1) x321000).bind fun t332 => (if t332 = true then ((slices_ContainsFunc_impl_Item_at_impl_intentsOf_1.f k x6 ((rd_T56 x20 x22).f0) ((rd_T56 x20 x22).f1) ((rd_T56 x20 x22).f2.f0) ((rd_T56 x20 x22).f2.f1) ((rd_T56 x20 x22).f3)).bind fun t333 => (if t333 = true then (some (([] : List (S56)), false)) else ((slices_ContainsFunc_impl_Extent_at_impl_intentsOf_2.f k x321001 ((rd_T56 x20 x22).f0) ((rd_T56 x20 x22).f1) ((rd_T56 x20 x22).f2.f0) ((rd_T56 x20 x22).f2.f1) ((rd_T56 x20 x22).f3)).bind fun t334 => (if t334 = true then (some (([] : List (S56)), false)) else (if x6.length < 3518437208883 then (impl_intentsOf.l0 k (x6 ++ [(⟨(rd_T56 x20 x22).f0, (rd_T56 x20 x22).f1, (⟨(rd_T56 x20 x22).f2.f0, (rd_T56 x20 x22).f2.f1⟩ : S40), (rd_T56 x20 x22).f3⟩ : S56)]) x20 x21 (wrap64 (x22 + 1)) x321000 x321001 x321002) else (none)))))) else (some (([] : List (S56)), false)))) else (some (([] : List (S56)), false))) else (some (([] : List (S56)), false))) else (some (([] : List (S56)), false)))) else (none)) else (none)) else (some (x6, true))
end
def impl_intentsOf.f (k : Nat) (a0_0 : Int) (l0_1 : List (S40)) (l0_2 : List (S40)) (l1 : List (S56)) : Option ((List (S56)) × Bool) := (impl_GoodFree.f k a0_0 l0_1 l0_2).bind fun t321 => (if t321 = true then (impl_intentsOf.j0 k l1 (decide ((l1.length : Int) > 30)) a0_0 l0_1 l0_2) else (impl_intentsOf.j0 k l1 true a0_0 l0_1 l0_2))
theorem impl_intentsOf.mono_l : ∀ k, (∀ y0 y1 y2 y3 y4, LeO (impl_intentsOf.j0 k y0 y1 y2 y3 y4) (impl_intentsOf.j0 (k + 1) y0 y1 y2 y3 y4)) ∧ (∀ y0 y1 y2 y3 y4 y5 y6, LeO (impl_intentsOf.l0 k y0 y1 y2 y3 y4 y5 y6) (impl_intentsOf.l0 (k + 1) y0 y1 y2 y3 y4 y5 y6))
 | 0 => ⟨fun _ _ _ _ _ r h => by simp [impl_intentsOf.j0] at h, fun _ _ _ _ _ _ _ r h => by simp [impl_intentsOf.l0] at h⟩
 | k + 1 => by
  obtain ⟨ih0, ih1⟩ := impl_intentsOf.mono_l k
  refine ⟨?_, ?_⟩ <;> intros <;> first | unfold impl_intentsOf.j0 | unfold impl_intentsOf.l0
  all_goals repeat' first
   | (with_reducible exact ih0 _ _ _ _ _)
   | (with_reducible exact ih1 _ _ _ _ _ _ _)
   | (with_reducible exact impl_GoodFree.mono _ _ _ _)
   | (with_reducible exact slices_ContainsFunc_impl_Extent_at_impl_intentsOf_2.mono _ _ _ _ _ _ _)
   | (with_reducible exact slices_ContainsFunc_impl_Item_at_impl_intentsOf_1.mono _ _ _ _ _ _ _)
   | (with_reducible exact LeO.refl _)
   | (with_reducible exact LeO.none _)
   | (with_reducible refine LeO.ite ?_ ?_)
   | (with_reducible refine LeO.bind ?_ (fun _ => ?_))
   | exact ih0 _ _ _ _ _
   | exact ih1 _ _ _ _ _ _ _
   | exact impl_GoodFree.mono _ _ _ _
   | exact slices_ContainsFunc_impl_Extent_at_impl_intentsOf_2.mono _ _ _ _ _ _ _
   | exact slices_ContainsFunc_impl_Item_at_impl_intentsOf_1.mono _ _ _ _ _ _ _
   | exact LeO.none _
   | refine LeO.ite ?_ ?_
   | refine LeO.bind ?_ (fun _ => ?_)
theorem impl_intentsOf.mono : ∀ a0 a1 a2 a3 k, LeO (impl_intentsOf.f k a0 a1 a2 a3) (impl_intentsOf.f (k + 1) a0 a1 a2 a3) := by
 intro a0 a1 a2 a3 k
 obtain ⟨ih0, ih1⟩ := impl_intentsOf.mono_l k
 unfold impl_intentsOf.f
 repeat' first
   | (with_reducible exact ih0 _ _ _ _ _)
   | (with_reducible exact ih1 _ _ _ _ _ _ _)
   | (with_reducible exact impl_GoodFree.mono _ _ _ _)
   | (with_reducible exact slices_ContainsFunc_impl_Extent_at_impl_intentsOf_2.mono _ _ _ _ _ _ _)
   | (with_reducible exact slices_ContainsFunc_impl_Item_at_impl_intentsOf_1.mono _ _ _ _ _ _ _)
   | (with_reducible exact LeO.refl _)
   | (with_reducible exact LeO.none _)
   | (with_reducible refine LeO.ite ?_ ?_)
   | (with_reducible refine LeO.bind ?_ (fun _ => ?_))
   | exact ih0 _ _ _ _ _
   | exact ih1 _ _ _ _ _ _ _
   | exact impl_GoodFree.mono _ _ _ _
   | exact slices_ContainsFunc_impl_Extent_at_impl_intentsOf_2.mono _ _ _ _ _ _ _
   | exact slices_ContainsFunc_impl_Item_at_impl_intentsOf_1.mono _ _ _ _ _ _ _
   | exact LeO.none _
   | refine LeO.ite ?_ ?_
   | refine LeO.bind ?_ (fun _ => ?_)
def impl_intentsOf.T8 : Bool × List (List Nat × List Nat) := (true, [([], []), ([0], [0]), ([], []), ([2], [2]), ([1, 3], [1, 3]), ([4], [4]), ([5, 4], [5]), ([6], [6]), ([7, 6], [6, 7]), ([6], [6]), ([8, 9, 6], [6, 8, 9]), ([6, 10], [6, 10]), ([11, 6], [11]), ([12], [12]), ([13, 12], [12, 13]), ([12], [12]), ([12], [12]), ([16, 12], [12, 16]), ([17, 12], [12, 17]), ([15, 18, 12], [12, 15, 18]), ([19, 12], [12, 19]), ([20, 12], [12, 20]), ([21, 12], [12, 21]), ([12], [12]), ([12], [12]), ([24, 12], [12, 24]), ([25, 12], [12, 25]), ([23, 26, 12], [12, 23, 26]), ([27, 12], [12, 27]), ([28, 12], [12, 28]), ([29, 12], [12, 29]), ([14, 22, 30, 12, 12], [12, 14, 22, 30]), ([31, 12], [12, 31]), ([12, 32], [12, 32])])
def impl_intentsOf.B8 : List Nat := [0, 1, 0, 4, 15, 31, 63, 127, 255, 127, 1023, 2047, 4095, 8191, 16383, 8191, 8191, 73727, 204799, 499711, 1023999, 2072575, 4169727, 8191, 8191, 16785407, 50339839, 125837311, 260055039, 528490495, 1065361407, 2147483647, 4294967295, 8589934591]
theorem impl_intentsOf.tab8 : rtab .any (opsOf Try.f32 8) = impl_intentsOf.T8 := by kernel_rfl
theorem impl_intentsOf.bits8 : waitsOk impl_intentsOf.T8.2 impl_intentsOf.B8 = true := by kernel_rfl
set_option maxHeartbeats 8000000 in
set_option maxRecDepth 100000 in
theorem impl_intentsOf.calls (k : Nat) (a0_0 : Int) (A0_1 : Option Addr) (c0_1 : Nat) (l0_1 : List (S40)) (A0_2 : Option Addr) (c0_2 : Nat) (l0_2 : List (S40)) (A1 : Option Addr) (c1 : Nat) (l1 : List (S56)) (r1 : List (S56)) (r2 : Bool) (w : World) (hr0_1 : Kd.C k40 w A0_1 l0_1.length l0_1) (hc0_1 : l0_1.length ≤ c0_1) (hr0_2 : Kd.C k40 w A0_2 l0_2.length l0_2) (hc0_2 : l0_2.length ≤ c0_2) (hr1 : Kd.C k56 w A1 l1.length l1) (hc1 : l1.length ≤ c1) (h : impl_intentsOf.f k a0_0 l0_1 l0_2 l1 = some (r1, r2)) :
  Calls Try.prog 32 #[.agg #[.int .i64 a0_0, .slice A0_1 l0_1.length c0_1, .slice A0_2 l0_2.length c0_2], .slice A1 l1.length c1] w fun e w' => ∃ v0_ : Value, e = .returned (.tuple #[v0_, .bool r2]) ∧ Kd.R k56 56 w' w.heap.size (fun _ => True) v0_ r1 ∧ Below w.heap.size w w' := by
 have hu33 := Try.underlying33
 have hu56 := Try.underlying56
 have hu40 := Try.underlying40
 have HR0_1 := Ah hr0_1
 have HC0_1 := Ah hc0_1
 clear hr0_1 hc0_1
 have HR0_2 := Ah hr0_2
 have HC0_2 := Ah hc0_2
 clear hr0_2 hc0_2
 have HR1 := Ah hr1
 have HC1 := Ah hc1
 clear hr1 hc1
 have HB := Ah (Below.refl w.heap.size w)
 have H : ((impl_GoodFree.f k a0_0 l0_1 l0_2).bind fun t321 => (if t321 = true then (impl_intentsOf.j0 k l1 (decide ((l1.length : Int) > 30)) a0_0 l0_1 l0_2) else (impl_intentsOf.j0 k l1 true a0_0 l0_1 l0_2))) = some (r1, r2) := h
 clear h
 have HC3 := Ah H
 clear H
 go_enter Try.func32, Try.ntmps32
 go_upto_region 1 with (first | ((with_reducible refine gate_dst (N := 2) rfl ?_); (try (refine gate_guard (by rfl) ?_; dsimp only)); refine boxL 2 33 #[.int .i64 a0_0, .slice A0_1 l0_1.length c0_1, .slice A0_2 l0_2.length c0_2] ?_; intro gb320 hg w4 BK320 hb; have GW320 := gw hg (bs HB); have GE320 := gw hg (bs HB); replace HB := Ah (below_step (bs HB) hb); clear hb hg))
 (try simp only [Act.put, List.setIfInBounds_toArray, List.set_cons_zero, List.set_cons_succ])
 go_cut [18] (fun v18 wc => ∃ (kq : Nat) (x18_2 : Bool), v18 = .bool x18_2 ∧ Aside0 (impl_intentsOf.j0 kq l1 x18_2 a0_0 l0_1 l0_2 = some (r1, r2)) ∧ Aside0 (kq ≤ k) ∧ Aside0 (wc.heap[gb320]? = some (.cells #[.int .i64 a0_0, (.slice A0_1 l0_1.length c0_1), (.slice A0_2 l0_2.length c0_2)] 33 (0, 0))) ∧ Aside0 (Below w.heap.size w wc))
 case first =>
  have H := HC3.out
  clear HC3
  replace H := Option.bind_eq_some_iff.mp H
  obtain ⟨t321, A50, H⟩ := H
  try dsimp only at H
  have A5 := Ah A50
  clear A50
  by_cases c6 : t321 = true
  ·
   subst c6
   rw [if_pos rfl] at H
   have H' := Ah H
   clear H
   obtain ⟨hcz7_0, hcz7_1, hcz7_2⟩ := cz3 BK320
   obtain ⟨hfz7_0, hfz7_1, hfz7_2⟩ := fz3 BK320
   go_wp2_with (first | ((with_reducible refine gate_callee (f := 48) rfl ?_); refine gL (some 12) rfl rfl Try.func48 (by kernel_rfl) rfl #[.agg #[.int .i64 a0_0, .slice A0_1 l0_1.length c0_1, .slice A0_2 l0_2.length c0_2]] rfl ?_; (with_reducible refine (impl_GoodFree.calls k a0_0 _ _ l0_1 _ _ l0_2 true _ ?side1 ?side2 ?side3 ?side4 A5.out).mono ?_); (case side1 => exact cb HR0_1 HB); (case side2 => exact HC0_1.out); (case side3 => exact cb HR0_2 HB); (case side4 => exact HC0_2.out); rintro e w8 ⟨rfl, hb⟩; refine ⟨_, rfl, ?_⟩; replace BK320 := nb BK320 hb; replace HB := Ah (below_step (bs1 HB GE320) hb); (try clear hb)))
   go_meet
   case rel => exact ⟨_, (decide ((l1.length : Int) > 30)), e3, H', ⟨by first | omega | exact Nat.le_refl _⟩, ⟨bk BK320⟩, ⟨bs1 HB GE320⟩⟩
  replace c6 := Bool.eq_false_iff.mpr c6
  subst c6
  rw [if_neg fne] at H
  have H' := Ah H
  clear H
  obtain ⟨hcz9_0, hcz9_1, hcz9_2⟩ := cz3 BK320
  obtain ⟨hfz9_0, hfz9_1, hfz9_2⟩ := fz3 BK320
  go_wp2_with (first | ((with_reducible refine gate_callee (f := 48) rfl ?_); refine gL (some 12) rfl rfl Try.func48 (by kernel_rfl) rfl #[.agg #[.int .i64 a0_0, .slice A0_1 l0_1.length c0_1, .slice A0_2 l0_2.length c0_2]] rfl ?_; (with_reducible refine (impl_GoodFree.calls k a0_0 _ _ l0_1 _ _ l0_2 false _ ?side1 ?side2 ?side3 ?side4 A5.out).mono ?_); (case side1 => exact cb HR0_1 HB); (case side2 => exact HC0_1.out); (case side3 => exact cb HR0_2 HB); (case side4 => exact HC0_2.out); rintro e w10 ⟨rfl, hb⟩; refine ⟨_, rfl, ?_⟩; replace BK320 := nb BK320 hb; replace HB := Ah (below_step (bs1 HB GE320) hb); (try clear hb)))
  go_meet
  case rel => exact ⟨_, (true), e3, H', ⟨by first | omega | exact Nat.le_refl _⟩, ⟨bk BK320⟩, ⟨bs1 HB GE320⟩⟩
 case rest =>
  clear HC3
  try clear c1
  try clear p2
  try clear c3
  try clear c4
  try clear c6
  try clear hcz7_0 hcz7_1 hcz7_2
  try clear hcz9_0 hcz9_1 hcz9_2
  try clear hfz7_0 hfz7_1 hfz7_2
  try clear hfz9_0 hfz9_1 hfz9_2
  obtain ⟨kq, x18_2, rfl, HA, HJ2, BK320, HB⟩ := hcut
  cases kq with
  | zero => exact absurd HA.out (by simp [impl_intentsOf.j0])
  | succ kj2 =>
   have H := HA.out
   clear HA
   simp only [impl_intentsOf.j0] at H
   by_cases c11 : x18_2 = true
   ·
    subst c11
    rw [if_pos rfl] at H
    simp only [Option.some.injEq, Prod.mk.injEq] at H
    obtain ⟨rfl, rfl⟩ := H
    go_wp2
    go_ret2
    exact ⟨_, er, by first | exact Kd.R_nil _ _ _ _ _ | exact Kd.N_nil _ _ _ _ _ | exact Kd.V_nil _ _ _ _ _ | exact Kd.Q_nil _ _ _ _ _ | exact Kd.S_nil _ _ _ _ _, bs1 HB GE320⟩
   replace c11 := Bool.eq_false_iff.mpr c11
   subst c11
   rw [if_neg fne] at H
   obtain ⟨y322, hy322⟩ : ∃ y_ : List (S56), y_ = (([] : List (S56))) := ⟨_, rfl⟩
   replace H : (impl_intentsOf.l0 kj2 y322 l1 (l1.length : Int) 0 a0_0 l0_1 l0_2) = some (r1, r2) := by first | (rw [hy322]; with_reducible exact H) | (have H2_ := (Option.bind_some _ _).symm.trans H; rw [hy322]; with_reducible exact H2_) | (have H2_ := (Option.bind_some _ _).symm.trans H; with_reducible exact H2_) | with_reducible exact H | (rw [hy322]; exact H) | exact H
   have Ny322 := Ah hy322
   clear hy322
   have H' := Ah H
   clear H
   go_wp2_with (first | ((with_reducible refine gate_dst (N := 19) rfl ?_); (try (refine gate_guard (by rfl) ?_; dsimp only)); refine Kd.R_lit k56 _ 56 ?hg (N := 19) ?hd (xs := ([] : List (S56))) (inner := []) (ok := fun _ => True) (okp := fun _ => True) ?hr ?hp (fun _ hk => hk) trivial (Below.refl _ _) (Nat.le_refl _) (by simp) ?_; (case hd => rfl); (case hg => rfl); (case hr => first | (go_simp; done) | (go_simp; rfl)); (case hp => exact (Reps.none _ _)); intro v323 w12 ho13 hb hg_ hnew_; clear hg_ hnew_; (first | rw [← Ny322.out] at ho13 | (simp only [Int.reduceToNat] at ho13; rw [← Ny322.out] at ho13)); have HO324 := Ah (Kd.R_lower ho13 (below_size (bs1 HB GE320))); replace BK320 := nb BK320 hb; replace HB := Ah (below_step (bs1 HB GE320) hb); clear hb ho13))
   go_loopg [6, 22] kj2 (fun kq v6 v22 w' => ∃ (x6_2 : List (S56)) (x22_2 : Int), v22 = .int .i64 x22_2 ∧ Aside0 (impl_intentsOf.l0 kq x6_2 l1 (l1.length : Int) x22_2 a0_0 l0_1 l0_2 = some (r1, r2)) ∧ Aside0 (kq ≤ kj2) ∧ Aside0 (Kd.R k56 56 w' w.heap.size (fun _ => True) v6 x6_2) ∧ Aside0 (w'.heap[gb320]? = some (.cells #[.int .i64 a0_0, (.slice A0_1 l0_1.length c0_1), (.slice A0_2 l0_2.length c0_2)] 33 (0, 0))) ∧ Aside0 (Below w.heap.size w w'))
   case atStart => exact ⟨(y322), (0), e3, H', ⟨Nat.le_refl _⟩, ⟨rr HO324.out⟩, ⟨bk BK320⟩, ⟨bs1 HB GE320⟩⟩
   case round =>
    clear H'
    try clear c1
    try clear p2
    try clear c3
    try clear c4
    try clear c6
    try clear c11
    try clear hcz7_0 hcz7_1 hcz7_2
    try clear hcz9_0 hcz9_1 hcz9_2
    try clear hfz7_0 hfz7_1 hfz7_2
    try clear hfz9_0 hfz9_1 hfz9_2
    try clear p2
    obtain ⟨x6_2, x22_2, rfl, HA, HK2, HO_6, BK320, HB⟩ := hrel
    cases gk with
    | zero => exact absurd HA.out (by simp [impl_intentsOf.l0])
    | succ k2 =>
     have H := HA.out
     clear HA
     simp only [impl_intentsOf.l0] at H
     by_cases c14 : x22_2 < (l1.length : Int)
     rotate_left
     ·
      rw [if_neg c14] at H
      have c14b0 : decide (x22_2 < (l1.length : Int)) = false := decide_eq_false c14
      clear c14
      simp only [Option.some.injEq, Prod.mk.injEq] at H
      obtain ⟨rfl, rfl⟩ := H
      go_wp2
      go_ret2
      exact ⟨_, er, by (with_reducible repeat (first | apply Kd.R_alloc | apply Kd.R_drewN | apply Kd.R_drew)); exact HO_6.out, bs1 HB GE320⟩
     rw [if_pos c14] at H
     have c14b0 : decide (x22_2 < (l1.length : Int)) = true := decide_eq_true c14
     clear c14
     by_cases c15 : 0 ≤ x22_2
     rotate_left
     ·
      rw [if_neg c15] at H
      exact absurd H (by simp)
     rw [if_pos c15] at H
     have c15b0 : decide (0 ≤ x22_2) = true := decide_eq_true c15
     clear c15
     by_cases c16 : x22_2 < (l1.length : Int)
     rotate_left
     ·
      rw [if_neg c16] at H
      exact absurd H (by simp)
     rw [if_pos c16] at H
     have c16b0 : decide (x22_2 < (l1.length : Int)) = true := decide_eq_true c16
     clear c16
     by_cases c17 : ((rd_T56 l1 x22_2).f0) = 2
     rotate_left
     ·
      rw [if_neg c17] at H
      have c17b0 : (((rd_T56 l1 x22_2).f0) == 2) = false := beq_eq_false_iff_ne.mpr c17
      have c17b1 : (((rd_T56 l1 x22_2).f0) != 2) = true := bne_iff_ne.mpr c17
      by_cases c54 : ((rd_T56 l1 x22_2).f0) = 1
      rotate_left
      ·
       rw [if_neg c54] at H
       have c54b0 : (((rd_T56 l1 x22_2).f0) == 1) = false := beq_eq_false_iff_ne.mpr c54
       have c54b1 : (((rd_T56 l1 x22_2).f0) != 1) = true := bne_iff_ne.mpr c54
       simp only [Option.some.injEq, Prod.mk.injEq] at H
       obtain ⟨rfl, rfl⟩ := H
       have p325 : 0 ≤ (x22_2 : Int) := od
       have q325 : x22_2 < (l1.length : Int) := od
       obtain ⟨ad325, e325, hx325_0, hx325_1, hx325_2, hx325_3, hx325_4⟩ := at_T56 HR1.out x22_2 p325 q325
       cases e325
       replace hx325_0 := (HB.out.cell (World.block_lt_of_cell? w _ hx325_0)).trans hx325_0
       replace hx325_1 := (HB.out.cell (World.block_lt_of_cell? w _ hx325_1)).trans hx325_1
       replace hx325_2 := (HB.out.cell (World.block_lt_of_cell? w _ hx325_2)).trans hx325_2
       replace hx325_3 := (HB.out.cell (World.block_lt_of_cell? w _ hx325_3)).trans hx325_3
       replace hx325_4 := (HB.out.cell (World.block_lt_of_cell? w _ hx325_4)).trans hx325_4
       replace p325 := eq_true p325
       replace q325 := eq_true q325
       go_wp2_with (first | ((with_reducible refine gate_dst (N := 8) rfl ?_); (try (refine gate_guard (by rfl) ?_; dsimp only)); refine boxL 8 56 #[.int .i64 0, .int .i64 0, .int .i64 0, .int .i64 0, .int .i64 0] ?_; intro gb326 hg w105 BK326 hb; replace HO_6 := Ah (Kd.R_below (Kd.R_elderB (rr HO_6.out) gb326 (Nat.le_of_eq hg.symm)) hb); have GW326 := gw hg (bs1 HB GE320); have GE326 := gw hg (bs1 HB GE320); replace HB := Ah (below_step (bs1 HB GE320) hb); have NB320_326 := nn BK320 hg; have NB326_320 := nm BK320 hg; replace BK320 := nb BK320 hb; clear hb hg; have hnb106 := NB326_320.out; have hnc106 := NB320_326.out; obtain ⟨hcz107_0, hcz107_1, hcz107_2, hcz107_3, hcz107_4⟩ := cz5 BK326; obtain ⟨hfz107_0, hfz107_1, hfz107_2, hfz107_3, hfz107_4⟩ := fz5 BK326))
       go_ret2
       exact ⟨_, er, by first | exact Kd.R_nil _ _ _ _ _ | exact Kd.N_nil _ _ _ _ _ | exact Kd.V_nil _ _ _ _ _ | exact Kd.Q_nil _ _ _ _ _ | exact Kd.S_nil _ _ _ _ _, bs2 HB GE320 GE326⟩
      rw [if_pos c54] at H
      have c54b0 : (((rd_T56 l1 x22_2).f0) == 1) = true := beq_iff_eq.mpr c54
      have c54b1 : (((rd_T56 l1 x22_2).f0) != 1) = false := bne_eq_false_iff_eq.mpr c54
      clear c54
      by_cases c55 : ((rd_T56 l1 x22_2).f1) = (wrap64 ((x6_2.length : Int) + 1))
      rotate_left
      ·
       rw [if_neg c55] at H
       have c55b0 : (((rd_T56 l1 x22_2).f1) == (wrap64 ((x6_2.length : Int) + 1))) = false := beq_eq_false_iff_ne.mpr c55
       have c55b1 : (((rd_T56 l1 x22_2).f1) != (wrap64 ((x6_2.length : Int) + 1))) = true := bne_iff_ne.mpr c55
       simp only [Option.some.injEq, Prod.mk.injEq] at H
       obtain ⟨rfl, rfl⟩ := H
       have p325 : 0 ≤ (x22_2 : Int) := od
       have q325 : x22_2 < (l1.length : Int) := od
       obtain ⟨ad325, e325, hx325_0, hx325_1, hx325_2, hx325_3, hx325_4⟩ := at_T56 HR1.out x22_2 p325 q325
       cases e325
       replace hx325_0 := (HB.out.cell (World.block_lt_of_cell? w _ hx325_0)).trans hx325_0
       replace hx325_1 := (HB.out.cell (World.block_lt_of_cell? w _ hx325_1)).trans hx325_1
       replace hx325_2 := (HB.out.cell (World.block_lt_of_cell? w _ hx325_2)).trans hx325_2
       replace hx325_3 := (HB.out.cell (World.block_lt_of_cell? w _ hx325_3)).trans hx325_3
       replace hx325_4 := (HB.out.cell (World.block_lt_of_cell? w _ hx325_4)).trans hx325_4
       replace p325 := eq_true p325
       replace q325 := eq_true q325
       go_wp2_with (first | ((with_reducible refine gate_dst (N := 8) rfl ?_); (try (refine gate_guard (by rfl) ?_; dsimp only)); refine boxL 8 56 #[.int .i64 0, .int .i64 0, .int .i64 0, .int .i64 0, .int .i64 0] ?_; intro gb326 hg w101 BK326 hb; replace HO_6 := Ah (Kd.R_below (Kd.R_elderB (rr HO_6.out) gb326 (Nat.le_of_eq hg.symm)) hb); have GW326 := gw hg (bs1 HB GE320); have GE326 := gw hg (bs1 HB GE320); replace HB := Ah (below_step (bs1 HB GE320) hb); have NB320_326 := nn BK320 hg; have NB326_320 := nm BK320 hg; replace BK320 := nb BK320 hb; clear hb hg; have hnb102 := NB326_320.out; have hnc102 := NB320_326.out; obtain ⟨hcz103_0, hcz103_1, hcz103_2, hcz103_3, hcz103_4⟩ := cz5 BK326; obtain ⟨hfz103_0, hfz103_1, hfz103_2, hfz103_3, hfz103_4⟩ := fz5 BK326; obtain ⟨Ao104, co104, eo104⟩ := Kd.R_slice HO_6.out; subst eo104))
       go_ret2
       exact ⟨_, er, by first | exact Kd.R_nil _ _ _ _ _ | exact Kd.N_nil _ _ _ _ _ | exact Kd.V_nil _ _ _ _ _ | exact Kd.Q_nil _ _ _ _ _ | exact Kd.S_nil _ _ _ _ _, bs2 HB GE320 GE326⟩
      rw [if_pos c55] at H
      have c55b0 : (((rd_T56 l1 x22_2).f1) == (wrap64 ((x6_2.length : Int) + 1))) = true := beq_iff_eq.mpr c55
      have c55b1 : (((rd_T56 l1 x22_2).f1) != (wrap64 ((x6_2.length : Int) + 1))) = false := bne_eq_false_iff_eq.mpr c55
      clear c55
      by_cases c56 : ((rd_T56 l1 x22_2).f3) = 0
      rotate_left
      ·
       rw [if_neg c56] at H
       have c56b0 : (((rd_T56 l1 x22_2).f3) == 0) = false := beq_eq_false_iff_ne.mpr c56
       have c56b1 : (((rd_T56 l1 x22_2).f3) != 0) = true := bne_iff_ne.mpr c56
       simp only [Option.some.injEq, Prod.mk.injEq] at H
       obtain ⟨rfl, rfl⟩ := H
       have p325 : 0 ≤ (x22_2 : Int) := od
       have q325 : x22_2 < (l1.length : Int) := od
       obtain ⟨ad325, e325, hx325_0, hx325_1, hx325_2, hx325_3, hx325_4⟩ := at_T56 HR1.out x22_2 p325 q325
       cases e325
       replace hx325_0 := (HB.out.cell (World.block_lt_of_cell? w _ hx325_0)).trans hx325_0
       replace hx325_1 := (HB.out.cell (World.block_lt_of_cell? w _ hx325_1)).trans hx325_1
       replace hx325_2 := (HB.out.cell (World.block_lt_of_cell? w _ hx325_2)).trans hx325_2
       replace hx325_3 := (HB.out.cell (World.block_lt_of_cell? w _ hx325_3)).trans hx325_3
       replace hx325_4 := (HB.out.cell (World.block_lt_of_cell? w _ hx325_4)).trans hx325_4
       replace p325 := eq_true p325
       replace q325 := eq_true q325
       go_wp2_with (first | ((with_reducible refine gate_dst (N := 8) rfl ?_); (try (refine gate_guard (by rfl) ?_; dsimp only)); refine boxL 8 56 #[.int .i64 0, .int .i64 0, .int .i64 0, .int .i64 0, .int .i64 0] ?_; intro gb326 hg w97 BK326 hb; replace HO_6 := Ah (Kd.R_below (Kd.R_elderB (rr HO_6.out) gb326 (Nat.le_of_eq hg.symm)) hb); have GW326 := gw hg (bs1 HB GE320); have GE326 := gw hg (bs1 HB GE320); replace HB := Ah (below_step (bs1 HB GE320) hb); have NB320_326 := nn BK320 hg; have NB326_320 := nm BK320 hg; replace BK320 := nb BK320 hb; clear hb hg; have hnb98 := NB326_320.out; have hnc98 := NB320_326.out; obtain ⟨hcz99_0, hcz99_1, hcz99_2, hcz99_3, hcz99_4⟩ := cz5 BK326; obtain ⟨hfz99_0, hfz99_1, hfz99_2, hfz99_3, hfz99_4⟩ := fz5 BK326; obtain ⟨Ao100, co100, eo100⟩ := Kd.R_slice HO_6.out; subst eo100))
       go_ret2
       exact ⟨_, er, by first | exact Kd.R_nil _ _ _ _ _ | exact Kd.N_nil _ _ _ _ _ | exact Kd.V_nil _ _ _ _ _ | exact Kd.Q_nil _ _ _ _ _ | exact Kd.S_nil _ _ _ _ _, bs2 HB GE320 GE326⟩
      rw [if_pos c56] at H
      have c56b0 : (((rd_T56 l1 x22_2).f3) == 0) = true := beq_iff_eq.mpr c56
      have c56b1 : (((rd_T56 l1 x22_2).f3) != 0) = false := bne_eq_false_iff_eq.mpr c56
      clear c56
      replace H := Option.bind_eq_some_iff.mp H
      obtain ⟨t332, A570, H⟩ := H
      try dsimp only at H
      have A57 := Ah A570
      clear A570
      by_cases c58 : t332 = true
      rotate_left
      ·
       replace c58 := Bool.eq_false_iff.mpr c58
       subst c58
       rw [if_neg fne] at H
       simp only [Option.some.injEq, Prod.mk.injEq] at H
       obtain ⟨rfl, rfl⟩ := H
       have p325 : 0 ≤ (x22_2 : Int) := od
       have q325 : x22_2 < (l1.length : Int) := od
       obtain ⟨ad325, e325, hx325_0, hx325_1, hx325_2, hx325_3, hx325_4⟩ := at_T56 HR1.out x22_2 p325 q325
       cases e325
       replace hx325_0 := (HB.out.cell (World.block_lt_of_cell? w _ hx325_0)).trans hx325_0
       replace hx325_1 := (HB.out.cell (World.block_lt_of_cell? w _ hx325_1)).trans hx325_1
       replace hx325_2 := (HB.out.cell (World.block_lt_of_cell? w _ hx325_2)).trans hx325_2
       replace hx325_3 := (HB.out.cell (World.block_lt_of_cell? w _ hx325_3)).trans hx325_3
       replace hx325_4 := (HB.out.cell (World.block_lt_of_cell? w _ hx325_4)).trans hx325_4
       replace p325 := eq_true p325
       replace q325 := eq_true q325
       go_wp2_with (first | ((with_reducible refine gate_dst (N := 8) rfl ?_); (try (refine gate_guard (by rfl) ?_; dsimp only)); refine boxL 8 56 #[.int .i64 0, .int .i64 0, .int .i64 0, .int .i64 0, .int .i64 0] ?_; intro gb326 hg w91 BK326 hb; replace HO_6 := Ah (Kd.R_below (Kd.R_elderB (rr HO_6.out) gb326 (Nat.le_of_eq hg.symm)) hb); have GW326 := gw hg (bs1 HB GE320); have GE326 := gw hg (bs1 HB GE320); replace HB := Ah (below_step (bs1 HB GE320) hb); have NB320_326 := nn BK320 hg; have NB326_320 := nm BK320 hg; replace BK320 := nb BK320 hb; clear hb hg; have hnb92 := NB326_320.out; have hnc92 := NB320_326.out; obtain ⟨hcz93_0, hcz93_1, hcz93_2, hcz93_3, hcz93_4⟩ := cz5 BK326; obtain ⟨hfz93_0, hfz93_1, hfz93_2, hfz93_3, hfz93_4⟩ := fz5 BK326; obtain ⟨Ao94, co94, eo94⟩ := Kd.R_slice HO_6.out; subst eo94; obtain ⟨hcz95_0, hcz95_1, hcz95_2⟩ := cz3 BK320; obtain ⟨hfz95_0, hfz95_1, hfz95_2⟩ := fz3 BK320) | (go_at_call 53; (with_reducible refine (impl_isExtent.calls ((rd_T56 l1 x22_2).f2.f0) ((rd_T56 l1 x22_2).f2.f1) a0_0 false _ A57.out).mono ?_); rintro e w96 ⟨rfl, hb⟩; replace HO_6 := Ah (Kd.R_below (by (with_reducible repeat (first | apply Kd.R_alloc | apply Kd.R_drewN | apply Kd.R_drew)); exact (Kd.R_mono (Kd.R_far (p := ⟨gb326, 4, none⟩) (Kd.R_far (p := ⟨gb326, 3, none⟩) (Kd.R_far (p := ⟨gb326, 2, none⟩) (Kd.R_far (p := ⟨gb326, 1, none⟩) (Kd.R_far (p := ⟨gb326, 0, none⟩) (Kd.R_mono HO_6.out (fun k_ hk => (⟨hk, hk.2⟩ : _ ∧ k_ ≠ gb326))) (fun _ hk => hk.2) (.int .i64 ((rd_T56 l1 x22_2).f0))) (fun _ hk => hk.2) (.int .i64 ((rd_T56 l1 x22_2).f1))) (fun _ hk => hk.2) (.int .i64 ((rd_T56 l1 x22_2).f2.f0))) (fun _ hk => hk.2) (.int .i64 ((rd_T56 l1 x22_2).f2.f1))) (fun _ hk => hk.2) (.int .i64 ((rd_T56 l1 x22_2).f3))) (fun _ h_ => h_.1))) hb); replace BK320 := Ah (blk_below (bf BK320 NB320_326) hb); replace BK326 := Ah (blk_below (g := gb326) (o := .cells #[.int .i64 ((rd_T56 l1 x22_2).f0), .int .i64 ((rd_T56 l1 x22_2).f1), .int .i64 ((rd_T56 l1 x22_2).f2.f0), .int .i64 ((rd_T56 l1 x22_2).f2.f1), .int .i64 ((rd_T56 l1 x22_2).f3)] 56 (0, 0)) (by (with_reducible repeat (first | refine blk_drewN ?_ _ | refine blk_drew ?_ | refine blk_alloc ?_ _)); refine blk_put (cs := #[.int .i64 ((rd_T56 l1 x22_2).f0), .int .i64 ((rd_T56 l1 x22_2).f1), .int .i64 ((rd_T56 l1 x22_2).f2.f0), .int .i64 ((rd_T56 l1 x22_2).f2.f1), .int .i64 0]) ?_ 4 _ rfl; (with_reducible repeat (first | refine blk_drewN ?_ _ | refine blk_drew ?_ | refine blk_alloc ?_ _)); refine blk_put (cs := #[.int .i64 ((rd_T56 l1 x22_2).f0), .int .i64 ((rd_T56 l1 x22_2).f1), .int .i64 ((rd_T56 l1 x22_2).f2.f0), .int .i64 0, .int .i64 0]) ?_ 3 _ rfl; (with_reducible repeat (first | refine blk_drewN ?_ _ | refine blk_drew ?_ | refine blk_alloc ?_ _)); refine blk_put (cs := #[.int .i64 ((rd_T56 l1 x22_2).f0), .int .i64 ((rd_T56 l1 x22_2).f1), .int .i64 0, .int .i64 0, .int .i64 0]) ?_ 2 _ rfl; (with_reducible repeat (first | refine blk_drewN ?_ _ | refine blk_drew ?_ | refine blk_alloc ?_ _)); refine blk_put (cs := #[.int .i64 ((rd_T56 l1 x22_2).f0), .int .i64 0, .int .i64 0, .int .i64 0, .int .i64 0]) ?_ 1 _ rfl; (with_reducible repeat (first | refine blk_drewN ?_ _ | refine blk_drew ?_ | refine blk_alloc ?_ _)); refine blk_put (cs := #[.int .i64 0, .int .i64 0, .int .i64 0, .int .i64 0, .int .i64 0]) ?_ 0 _ rfl; (with_reducible repeat (first | refine blk_drewN ?_ _ | refine blk_drew ?_ | refine blk_alloc ?_ _)); exact BK326.out) hb); replace HB := Ah (below_step (bs2 HB GE320 GE326) hb); (try clear hb hk)))
       go_ret2
       exact ⟨_, er, by first | exact Kd.R_nil _ _ _ _ _ | exact Kd.N_nil _ _ _ _ _ | exact Kd.V_nil _ _ _ _ _ | exact Kd.Q_nil _ _ _ _ _ | exact Kd.S_nil _ _ _ _ _, bs2 HB GE320 GE326⟩
      subst c58
      rw [if_pos rfl] at H
      replace H := Option.bind_eq_some_iff.mp H
      obtain ⟨t333, A590, H⟩ := H
      try dsimp only at H
      have A59 := Ah A590
      clear A590
      by_cases c60 : t333 = true
      ·
       subst c60
       rw [if_pos rfl] at H
       simp only [Option.some.injEq, Prod.mk.injEq] at H
       obtain ⟨rfl, rfl⟩ := H
       have p325 : 0 ≤ (x22_2 : Int) := od
       have q325 : x22_2 < (l1.length : Int) := od
       obtain ⟨ad325, e325, hx325_0, hx325_1, hx325_2, hx325_3, hx325_4⟩ := at_T56 HR1.out x22_2 p325 q325
       cases e325
       replace hx325_0 := (HB.out.cell (World.block_lt_of_cell? w _ hx325_0)).trans hx325_0
       replace hx325_1 := (HB.out.cell (World.block_lt_of_cell? w _ hx325_1)).trans hx325_1
       replace hx325_2 := (HB.out.cell (World.block_lt_of_cell? w _ hx325_2)).trans hx325_2
       replace hx325_3 := (HB.out.cell (World.block_lt_of_cell? w _ hx325_3)).trans hx325_3
       replace hx325_4 := (HB.out.cell (World.block_lt_of_cell? w _ hx325_4)).trans hx325_4
       replace p325 := eq_true p325
       replace q325 := eq_true q325
       go_wp2_with (first | ((with_reducible refine gate_dst (N := 8) rfl ?_); (try (refine gate_guard (by rfl) ?_; dsimp only)); refine boxL 8 56 #[.int .i64 0, .int .i64 0, .int .i64 0, .int .i64 0, .int .i64 0] ?_; intro gb326 hg w61 BK326 hb; replace HO_6 := Ah (Kd.R_below (Kd.R_elderB (rr HO_6.out) gb326 (Nat.le_of_eq hg.symm)) hb); have GW326 := gw hg (bs1 HB GE320); have GE326 := gw hg (bs1 HB GE320); replace HB := Ah (below_step (bs1 HB GE320) hb); have NB320_326 := nn BK320 hg; have NB326_320 := nm BK320 hg; replace BK320 := nb BK320 hb; clear hb hg; have hnb62 := NB326_320.out; have hnc62 := NB320_326.out; obtain ⟨hcz63_0, hcz63_1, hcz63_2, hcz63_3, hcz63_4⟩ := cz5 BK326; obtain ⟨hfz63_0, hfz63_1, hfz63_2, hfz63_3, hfz63_4⟩ := fz5 BK326; obtain ⟨Ao64, co64, eo64⟩ := Kd.R_slice HO_6.out; subst eo64; obtain ⟨hcz65_0, hcz65_1, hcz65_2⟩ := cz3 BK320; obtain ⟨hfz65_0, hfz65_1, hfz65_2⟩ := fz3 BK320) | (go_at_call 53; (with_reducible refine (impl_isExtent.calls ((rd_T56 l1 x22_2).f2.f0) ((rd_T56 l1 x22_2).f2.f1) a0_0 true _ A57.out).mono ?_); rintro e w66 ⟨rfl, hb⟩; replace HO_6 := Ah (Kd.R_below (by (with_reducible repeat (first | apply Kd.R_alloc | apply Kd.R_drewN | apply Kd.R_drew)); exact (Kd.R_mono (Kd.R_far (p := ⟨gb326, 4, none⟩) (Kd.R_far (p := ⟨gb326, 3, none⟩) (Kd.R_far (p := ⟨gb326, 2, none⟩) (Kd.R_far (p := ⟨gb326, 1, none⟩) (Kd.R_far (p := ⟨gb326, 0, none⟩) (Kd.R_mono HO_6.out (fun k_ hk => (⟨hk, hk.2⟩ : _ ∧ k_ ≠ gb326))) (fun _ hk => hk.2) (.int .i64 ((rd_T56 l1 x22_2).f0))) (fun _ hk => hk.2) (.int .i64 ((rd_T56 l1 x22_2).f1))) (fun _ hk => hk.2) (.int .i64 ((rd_T56 l1 x22_2).f2.f0))) (fun _ hk => hk.2) (.int .i64 ((rd_T56 l1 x22_2).f2.f1))) (fun _ hk => hk.2) (.int .i64 ((rd_T56 l1 x22_2).f3))) (fun _ h_ => h_.1))) hb); replace BK320 := Ah (blk_below (bf BK320 NB320_326) hb); replace BK326 := Ah (blk_below (g := gb326) (o := .cells #[.int .i64 ((rd_T56 l1 x22_2).f0), .int .i64 ((rd_T56 l1 x22_2).f1), .int .i64 ((rd_T56 l1 x22_2).f2.f0), .int .i64 ((rd_T56 l1 x22_2).f2.f1), .int .i64 ((rd_T56 l1 x22_2).f3)] 56 (0, 0)) (by (with_reducible repeat (first | refine blk_drewN ?_ _ | refine blk_drew ?_ | refine blk_alloc ?_ _)); refine blk_put (cs := #[.int .i64 ((rd_T56 l1 x22_2).f0), .int .i64 ((rd_T56 l1 x22_2).f1), .int .i64 ((rd_T56 l1 x22_2).f2.f0), .int .i64 ((rd_T56 l1 x22_2).f2.f1), .int .i64 0]) ?_ 4 _ rfl; (with_reducible repeat (first | refine blk_drewN ?_ _ | refine blk_drew ?_ | refine blk_alloc ?_ _)); refine blk_put (cs := #[.int .i64 ((rd_T56 l1 x22_2).f0), .int .i64 ((rd_T56 l1 x22_2).f1), .int .i64 ((rd_T56 l1 x22_2).f2.f0), .int .i64 0, .int .i64 0]) ?_ 3 _ rfl; (with_reducible repeat (first | refine blk_drewN ?_ _ | refine blk_drew ?_ | refine blk_alloc ?_ _)); refine blk_put (cs := #[.int .i64 ((rd_T56 l1 x22_2).f0), .int .i64 ((rd_T56 l1 x22_2).f1), .int .i64 0, .int .i64 0, .int .i64 0]) ?_ 2 _ rfl; (with_reducible repeat (first | refine blk_drewN ?_ _ | refine blk_drew ?_ | refine blk_alloc ?_ _)); refine blk_put (cs := #[.int .i64 ((rd_T56 l1 x22_2).f0), .int .i64 0, .int .i64 0, .int .i64 0, .int .i64 0]) ?_ 1 _ rfl; (with_reducible repeat (first | refine blk_drewN ?_ _ | refine blk_drew ?_ | refine blk_alloc ?_ _)); refine blk_put (cs := #[.int .i64 0, .int .i64 0, .int .i64 0, .int .i64 0, .int .i64 0]) ?_ 0 _ rfl; (with_reducible repeat (first | refine blk_drewN ?_ _ | refine blk_drew ?_ | refine blk_alloc ?_ _)); exact BK326.out) hb); replace HB := Ah (below_step (bs2 HB GE320 GE326) hb); (try clear hb hk)) | (go_at_call 54; (with_reducible refine (slices_ContainsFunc_impl_Item_at_impl_intentsOf_1.calls k2 _ _ x6_2 gb326 ((rd_T56 l1 x22_2).f0) ((rd_T56 l1 x22_2).f1) ((rd_T56 l1 x22_2).f2.f0) ((rd_T56 l1 x22_2).f2.f1) ((rd_T56 l1 x22_2).f3) true _ ?side1 ?side2 ?side3 A59.out).mono ?_); (case side1 => exact rc0 HO_6); (case side2 => exact (Kd.R_reads' HO_6.out).2.1); (case side3 => (with_reducible repeat (first | refine blk_drewN ?_ _ | refine blk_drew ?_ | refine blk_alloc ?_ _)); exact BK326.out); rintro e w67 ⟨rfl, hb⟩; replace HO_6 := nr HO_6 hb; replace BK320 := nb BK320 hb; replace BK326 := nb BK326 hb; replace HB := Ah (below_step (bs2 HB GE320 GE326) hb); (try clear hb)))
       go_ret2
       exact ⟨_, er, by first | exact Kd.R_nil _ _ _ _ _ | exact Kd.N_nil _ _ _ _ _ | exact Kd.V_nil _ _ _ _ _ | exact Kd.Q_nil _ _ _ _ _ | exact Kd.S_nil _ _ _ _ _, bs2 HB GE320 GE326⟩
      replace c60 := Bool.eq_false_iff.mpr c60
      subst c60
      rw [if_neg fne] at H
      replace H := Option.bind_eq_some_iff.mp H
      obtain ⟨t334, A680, H⟩ := H
      try dsimp only at H
      have A68 := Ah A680
      clear A680
      by_cases c69 : t334 = true
      ·
       subst c69
       rw [if_pos rfl] at H
       simp only [Option.some.injEq, Prod.mk.injEq] at H
       obtain ⟨rfl, rfl⟩ := H
       have p325 : 0 ≤ (x22_2 : Int) := od
       have q325 : x22_2 < (l1.length : Int) := od
       obtain ⟨ad325, e325, hx325_0, hx325_1, hx325_2, hx325_3, hx325_4⟩ := at_T56 HR1.out x22_2 p325 q325
       cases e325
       replace hx325_0 := (HB.out.cell (World.block_lt_of_cell? w _ hx325_0)).trans hx325_0
       replace hx325_1 := (HB.out.cell (World.block_lt_of_cell? w _ hx325_1)).trans hx325_1
       replace hx325_2 := (HB.out.cell (World.block_lt_of_cell? w _ hx325_2)).trans hx325_2
       replace hx325_3 := (HB.out.cell (World.block_lt_of_cell? w _ hx325_3)).trans hx325_3
       replace hx325_4 := (HB.out.cell (World.block_lt_of_cell? w _ hx325_4)).trans hx325_4
       replace p325 := eq_true p325
       replace q325 := eq_true q325
       go_wp2_with (first | ((with_reducible refine gate_dst (N := 8) rfl ?_); (try (refine gate_guard (by rfl) ?_; dsimp only)); refine boxL 8 56 #[.int .i64 0, .int .i64 0, .int .i64 0, .int .i64 0, .int .i64 0] ?_; intro gb326 hg w70 BK326 hb; replace HO_6 := Ah (Kd.R_below (Kd.R_elderB (rr HO_6.out) gb326 (Nat.le_of_eq hg.symm)) hb); have GW326 := gw hg (bs1 HB GE320); have GE326 := gw hg (bs1 HB GE320); replace HB := Ah (below_step (bs1 HB GE320) hb); have NB320_326 := nn BK320 hg; have NB326_320 := nm BK320 hg; replace BK320 := nb BK320 hb; clear hb hg; have hnb71 := NB326_320.out; have hnc71 := NB320_326.out; obtain ⟨hcz72_0, hcz72_1, hcz72_2, hcz72_3, hcz72_4⟩ := cz5 BK326; obtain ⟨hfz72_0, hfz72_1, hfz72_2, hfz72_3, hfz72_4⟩ := fz5 BK326; obtain ⟨Ao73, co73, eo73⟩ := Kd.R_slice HO_6.out; subst eo73; obtain ⟨hcz74_0, hcz74_1, hcz74_2⟩ := cz3 BK320; obtain ⟨hfz74_0, hfz74_1, hfz74_2⟩ := fz3 BK320) | (go_at_call 53; (with_reducible refine (impl_isExtent.calls ((rd_T56 l1 x22_2).f2.f0) ((rd_T56 l1 x22_2).f2.f1) a0_0 true _ A57.out).mono ?_); rintro e w75 ⟨rfl, hb⟩; replace HO_6 := Ah (Kd.R_below (by (with_reducible repeat (first | apply Kd.R_alloc | apply Kd.R_drewN | apply Kd.R_drew)); exact (Kd.R_mono (Kd.R_far (p := ⟨gb326, 4, none⟩) (Kd.R_far (p := ⟨gb326, 3, none⟩) (Kd.R_far (p := ⟨gb326, 2, none⟩) (Kd.R_far (p := ⟨gb326, 1, none⟩) (Kd.R_far (p := ⟨gb326, 0, none⟩) (Kd.R_mono HO_6.out (fun k_ hk => (⟨hk, hk.2⟩ : _ ∧ k_ ≠ gb326))) (fun _ hk => hk.2) (.int .i64 ((rd_T56 l1 x22_2).f0))) (fun _ hk => hk.2) (.int .i64 ((rd_T56 l1 x22_2).f1))) (fun _ hk => hk.2) (.int .i64 ((rd_T56 l1 x22_2).f2.f0))) (fun _ hk => hk.2) (.int .i64 ((rd_T56 l1 x22_2).f2.f1))) (fun _ hk => hk.2) (.int .i64 ((rd_T56 l1 x22_2).f3))) (fun _ h_ => h_.1))) hb); replace BK320 := Ah (blk_below (bf BK320 NB320_326) hb); replace BK326 := Ah (blk_below (g := gb326) (o := .cells #[.int .i64 ((rd_T56 l1 x22_2).f0), .int .i64 ((rd_T56 l1 x22_2).f1), .int .i64 ((rd_T56 l1 x22_2).f2.f0), .int .i64 ((rd_T56 l1 x22_2).f2.f1), .int .i64 ((rd_T56 l1 x22_2).f3)] 56 (0, 0)) (by (with_reducible repeat (first | refine blk_drewN ?_ _ | refine blk_drew ?_ | refine blk_alloc ?_ _)); refine blk_put (cs := #[.int .i64 ((rd_T56 l1 x22_2).f0), .int .i64 ((rd_T56 l1 x22_2).f1), .int .i64 ((rd_T56 l1 x22_2).f2.f0), .int .i64 ((rd_T56 l1 x22_2).f2.f1), .int .i64 0]) ?_ 4 _ rfl; (with_reducible repeat (first | refine blk_drewN ?_ _ | refine blk_drew ?_ | refine blk_alloc ?_ _)); refine blk_put (cs := #[.int .i64 ((rd_T56 l1 x22_2).f0), .int .i64 ((rd_T56 l1 x22_2).f1), .int .i64 ((rd_T56 l1 x22_2).f2.f0), .int .i64 0, .int .i64 0]) ?_ 3 _ rfl; (with_reducible repeat (first | refine blk_drewN ?_ _ | refine blk_drew ?_ | refine blk_alloc ?_ _)); refine blk_put (cs := #[.int .i64 ((rd_T56 l1 x22_2).f0), .int .i64 ((rd_T56 l1 x22_2).f1), .int .i64 0, .int .i64 0, .int .i64 0]) ?_ 2 _ rfl; (with_reducible repeat (first | refine blk_drewN ?_ _ | refine blk_drew ?_ | refine blk_alloc ?_ _)); refine blk_put (cs := #[.int .i64 ((rd_T56 l1 x22_2).f0), .int .i64 0, .int .i64 0, .int .i64 0, .int .i64 0]) ?_ 1 _ rfl; (with_reducible repeat (first | refine blk_drewN ?_ _ | refine blk_drew ?_ | refine blk_alloc ?_ _)); refine blk_put (cs := #[.int .i64 0, .int .i64 0, .int .i64 0, .int .i64 0, .int .i64 0]) ?_ 0 _ rfl; (with_reducible repeat (first | refine blk_drewN ?_ _ | refine blk_drew ?_ | refine blk_alloc ?_ _)); exact BK326.out) hb); replace HB := Ah (below_step (bs2 HB GE320 GE326) hb); (try clear hb hk)) | (go_at_call 54; (with_reducible refine (slices_ContainsFunc_impl_Item_at_impl_intentsOf_1.calls k2 _ _ x6_2 gb326 ((rd_T56 l1 x22_2).f0) ((rd_T56 l1 x22_2).f1) ((rd_T56 l1 x22_2).f2.f0) ((rd_T56 l1 x22_2).f2.f1) ((rd_T56 l1 x22_2).f3) false _ ?side1 ?side2 ?side3 A59.out).mono ?_); (case side1 => exact rc0 HO_6); (case side2 => exact (Kd.R_reads' HO_6.out).2.1); (case side3 => (with_reducible repeat (first | refine blk_drewN ?_ _ | refine blk_drew ?_ | refine blk_alloc ?_ _)); exact BK326.out); rintro e w76 ⟨rfl, hb⟩; replace HO_6 := nr HO_6 hb; replace BK320 := nb BK320 hb; replace BK326 := nb BK326 hb; replace HB := Ah (below_step (bs2 HB GE320 GE326) hb); (try clear hb); obtain ⟨hcz77_0, hcz77_1, hcz77_2⟩ := cz3 BK320; obtain ⟨hfz77_0, hfz77_1, hfz77_2⟩ := fz3 BK320) | (go_at_call 55; (with_reducible refine (slices_ContainsFunc_impl_Extent_at_impl_intentsOf_2.calls k2 _ _ l0_1 gb326 ((rd_T56 l1 x22_2).f0) ((rd_T56 l1 x22_2).f1) ((rd_T56 l1 x22_2).f2.f0) ((rd_T56 l1 x22_2).f2.f1) ((rd_T56 l1 x22_2).f3) true _ ?side1 ?side2 ?side3 A68.out).mono ?_); (case side1 => exact cb HR0_1 HB); (case side2 => exact HC0_1.out); (case side3 => (with_reducible repeat (first | refine blk_drewN ?_ _ | refine blk_drew ?_ | refine blk_alloc ?_ _)); exact BK326.out); rintro e w78 ⟨rfl, hb⟩; replace HO_6 := nr HO_6 hb; replace BK320 := nb BK320 hb; replace BK326 := nb BK326 hb; replace HB := Ah (below_step (bs2 HB GE320 GE326) hb); (try clear hb)))
       go_ret2
       exact ⟨_, er, by first | exact Kd.R_nil _ _ _ _ _ | exact Kd.N_nil _ _ _ _ _ | exact Kd.V_nil _ _ _ _ _ | exact Kd.Q_nil _ _ _ _ _ | exact Kd.S_nil _ _ _ _ _, bs2 HB GE320 GE326⟩
      replace c69 := Bool.eq_false_iff.mpr c69
      subst c69
      rw [if_neg fne] at H
      by_cases c79 : x6_2.length < 3518437208883
      rotate_left
      ·
       rw [if_neg c79] at H
       exact absurd H (by simp)
      rw [if_pos c79] at H
      have LMc79 := Ah c79
      clear c79
      obtain ⟨y335, hy335⟩ : ∃ y_ : List (S56), y_ = (x6_2 ++ [(⟨(rd_T56 l1 x22_2).f0, (rd_T56 l1 x22_2).f1, (⟨(rd_T56 l1 x22_2).f2.f0, (rd_T56 l1 x22_2).f2.f1⟩ : S40), (rd_T56 l1 x22_2).f3⟩ : S56)]) := ⟨_, rfl⟩
      replace H : (impl_intentsOf.l0 k2 y335 l1 (l1.length : Int) (wrap64 (x22_2 + 1)) a0_0 l0_1 l0_2) = some (r1, r2) := by first | (rw [hy335]; with_reducible exact H) | (have H2_ := (Option.bind_some _ _).symm.trans H; rw [hy335]; with_reducible exact H2_) | (have H2_ := (Option.bind_some _ _).symm.trans H; with_reducible exact H2_) | with_reducible exact H | (rw [hy335]; exact H) | exact H
      have Ny335 := Ah hy335
      clear hy335
      have H' := Ah H
      clear H
      have p325 : 0 ≤ (x22_2 : Int) := od
      have q325 : x22_2 < (l1.length : Int) := od
      obtain ⟨ad325, e325, hx325_0, hx325_1, hx325_2, hx325_3, hx325_4⟩ := at_T56 HR1.out x22_2 p325 q325
      cases e325
      replace hx325_0 := (HB.out.cell (World.block_lt_of_cell? w _ hx325_0)).trans hx325_0
      replace hx325_1 := (HB.out.cell (World.block_lt_of_cell? w _ hx325_1)).trans hx325_1
      replace hx325_2 := (HB.out.cell (World.block_lt_of_cell? w _ hx325_2)).trans hx325_2
      replace hx325_3 := (HB.out.cell (World.block_lt_of_cell? w _ hx325_3)).trans hx325_3
      replace hx325_4 := (HB.out.cell (World.block_lt_of_cell? w _ hx325_4)).trans hx325_4
      replace p325 := eq_true p325
      replace q325 := eq_true q325
      go_wp2_with (first | ((with_reducible refine gate_dst (N := 8) rfl ?_); (try (refine gate_guard (by rfl) ?_; dsimp only)); refine boxL 8 56 #[.int .i64 0, .int .i64 0, .int .i64 0, .int .i64 0, .int .i64 0] ?_; intro gb326 hg w80 BK326 hb; replace HO_6 := Ah (Kd.R_below (Kd.R_elderB (rr HO_6.out) gb326 (Nat.le_of_eq hg.symm)) hb); have GW326 := gw hg (bs1 HB GE320); have GE326 := gw hg (bs1 HB GE320); replace HB := Ah (below_step (bs1 HB GE320) hb); have NB320_326 := nn BK320 hg; have NB326_320 := nm BK320 hg; replace BK320 := nb BK320 hb; clear hb hg; have hnb81 := NB326_320.out; have hnc81 := NB320_326.out; obtain ⟨hcz82_0, hcz82_1, hcz82_2, hcz82_3, hcz82_4⟩ := cz5 BK326; obtain ⟨hfz82_0, hfz82_1, hfz82_2, hfz82_3, hfz82_4⟩ := fz5 BK326; obtain ⟨Ao83, co83, eo83⟩ := Kd.R_slice HO_6.out; subst eo83; obtain ⟨hcz84_0, hcz84_1, hcz84_2⟩ := cz3 BK320; obtain ⟨hfz84_0, hfz84_1, hfz84_2⟩ := fz3 BK320) | (go_at_call 53; (with_reducible refine (impl_isExtent.calls ((rd_T56 l1 x22_2).f2.f0) ((rd_T56 l1 x22_2).f2.f1) a0_0 true _ A57.out).mono ?_); rintro e w85 ⟨rfl, hb⟩; replace HO_6 := Ah (Kd.R_below (by (with_reducible repeat (first | apply Kd.R_alloc | apply Kd.R_drewN | apply Kd.R_drew)); exact (Kd.R_mono (Kd.R_far (p := ⟨gb326, 4, none⟩) (Kd.R_far (p := ⟨gb326, 3, none⟩) (Kd.R_far (p := ⟨gb326, 2, none⟩) (Kd.R_far (p := ⟨gb326, 1, none⟩) (Kd.R_far (p := ⟨gb326, 0, none⟩) (Kd.R_mono HO_6.out (fun k_ hk => (⟨hk, hk.2⟩ : _ ∧ k_ ≠ gb326))) (fun _ hk => hk.2) (.int .i64 ((rd_T56 l1 x22_2).f0))) (fun _ hk => hk.2) (.int .i64 ((rd_T56 l1 x22_2).f1))) (fun _ hk => hk.2) (.int .i64 ((rd_T56 l1 x22_2).f2.f0))) (fun _ hk => hk.2) (.int .i64 ((rd_T56 l1 x22_2).f2.f1))) (fun _ hk => hk.2) (.int .i64 ((rd_T56 l1 x22_2).f3))) (fun _ h_ => h_.1))) hb); replace BK320 := Ah (blk_below (bf BK320 NB320_326) hb); replace BK326 := Ah (blk_below (g := gb326) (o := .cells #[.int .i64 ((rd_T56 l1 x22_2).f0), .int .i64 ((rd_T56 l1 x22_2).f1), .int .i64 ((rd_T56 l1 x22_2).f2.f0), .int .i64 ((rd_T56 l1 x22_2).f2.f1), .int .i64 ((rd_T56 l1 x22_2).f3)] 56 (0, 0)) (by (with_reducible repeat (first | refine blk_drewN ?_ _ | refine blk_drew ?_ | refine blk_alloc ?_ _)); refine blk_put (cs := #[.int .i64 ((rd_T56 l1 x22_2).f0), .int .i64 ((rd_T56 l1 x22_2).f1), .int .i64 ((rd_T56 l1 x22_2).f2.f0), .int .i64 ((rd_T56 l1 x22_2).f2.f1), .int .i64 0]) ?_ 4 _ rfl; (with_reducible repeat (first | refine blk_drewN ?_ _ | refine blk_drew ?_ | refine blk_alloc ?_ _)); refine blk_put (cs := #[.int .i64 ((rd_T56 l1 x22_2).f0), .int .i64 ((rd_T56 l1 x22_2).f1), .int .i64 ((rd_T56 l1 x22_2).f2.f0), .int .i64 0, .int .i64 0]) ?_ 3 _ rfl; (with_reducible repeat (first | refine blk_drewN ?_ _ | refine blk_drew ?_ | refine blk_alloc ?_ _)); refine blk_put (cs := #[.int .i64 ((rd_T56 l1 x22_2).f0), .int .i64 ((rd_T56 l1 x22_2).f1), .int .i64 0, .int .i64 0, .int .i64 0]) ?_ 2 _ rfl; (with_reducible repeat (first | refine blk_drewN ?_ _ | refine blk_drew ?_ | refine blk_alloc ?_ _)); refine blk_put (cs := #[.int .i64 ((rd_T56 l1 x22_2).f0), .int .i64 0, .int .i64 0, .int .i64 0, .int .i64 0]) ?_ 1 _ rfl; (with_reducible repeat (first | refine blk_drewN ?_ _ | refine blk_drew ?_ | refine blk_alloc ?_ _)); refine blk_put (cs := #[.int .i64 0, .int .i64 0, .int .i64 0, .int .i64 0, .int .i64 0]) ?_ 0 _ rfl; (with_reducible repeat (first | refine blk_drewN ?_ _ | refine blk_drew ?_ | refine blk_alloc ?_ _)); exact BK326.out) hb); replace HB := Ah (below_step (bs2 HB GE320 GE326) hb); (try clear hb hk)) | (go_at_call 54; (with_reducible refine (slices_ContainsFunc_impl_Item_at_impl_intentsOf_1.calls k2 _ _ x6_2 gb326 ((rd_T56 l1 x22_2).f0) ((rd_T56 l1 x22_2).f1) ((rd_T56 l1 x22_2).f2.f0) ((rd_T56 l1 x22_2).f2.f1) ((rd_T56 l1 x22_2).f3) false _ ?side1 ?side2 ?side3 A59.out).mono ?_); (case side1 => exact rc0 HO_6); (case side2 => exact (Kd.R_reads' HO_6.out).2.1); (case side3 => (with_reducible repeat (first | refine blk_drewN ?_ _ | refine blk_drew ?_ | refine blk_alloc ?_ _)); exact BK326.out); rintro e w86 ⟨rfl, hb⟩; replace HO_6 := nr HO_6 hb; replace BK320 := nb BK320 hb; replace BK326 := nb BK326 hb; replace HB := Ah (below_step (bs2 HB GE320 GE326) hb); (try clear hb); obtain ⟨hcz87_0, hcz87_1, hcz87_2⟩ := cz3 BK320; obtain ⟨hfz87_0, hfz87_1, hfz87_2⟩ := fz3 BK320) | (go_at_call 55; (with_reducible refine (slices_ContainsFunc_impl_Extent_at_impl_intentsOf_2.calls k2 _ _ l0_1 gb326 ((rd_T56 l1 x22_2).f0) ((rd_T56 l1 x22_2).f1) ((rd_T56 l1 x22_2).f2.f0) ((rd_T56 l1 x22_2).f2.f1) ((rd_T56 l1 x22_2).f3) false _ ?side1 ?side2 ?side3 A68.out).mono ?_); (case side1 => exact cb HR0_1 HB); (case side2 => exact HC0_1.out); (case side3 => (with_reducible repeat (first | refine blk_drewN ?_ _ | refine blk_drew ?_ | refine blk_alloc ?_ _)); exact BK326.out); rintro e w88 ⟨rfl, hb⟩; replace HO_6 := nr HO_6 hb; replace BK320 := nb BK320 hb; replace BK326 := nb BK326 hb; replace HB := Ah (below_step (bs2 HB GE320 GE326) hb); (try clear hb); obtain ⟨hcz89_0, hcz89_1, hcz89_2, hcz89_3, hcz89_4⟩ := cz5 BK326; obtain ⟨hfz89_0, hfz89_1, hfz89_2, hfz89_3, hfz89_4⟩ := fz5 BK326) | ((with_reducible refine gate_builtin (b := .append) (xs := #[.tmp 108, .tmp 110]) rfl ?_); (try (refine gate_guard (by rfl) ?_; dsimp only)); at_builtin; refine Kd.R_append k56 (w0 := w) w.heap.size rfl (.tmp 108) (.tmp 110) 34 56 (.agg #[(.int .i64 0), (.int .i64 0), (.int .i64 0), (.int .i64 0), (.int .i64 0)]) 40 rfl Try.underlying34 info56 rfl (by decide) (by omega) (.slice Ao83 x6_2.length co83) x6_2 (⟨(rd_T56 l1 x22_2).f0, (rd_T56 l1 x22_2).f1, (⟨(rd_T56 l1 x22_2).f2.f0, (rd_T56 l1 x22_2).f2.f1⟩ : S40), (rd_T56 l1 x22_2).f3⟩ : S56) [.int .i64 ((rd_T56 l1 x22_2).f0), .int .i64 ((rd_T56 l1 x22_2).f1), .int .i64 ((rd_T56 l1 x22_2).f2.f0), .int .i64 ((rd_T56 l1 x22_2).f2.f1), .int .i64 ((rd_T56 l1 x22_2).f3)] (fun k_ => k_ ≠ gb326) (fun _ => False) rfl rfl ?aP (fun _ hk => hk.elim) ?aF ?aO ?aB ?aS ?aL ?_; (case aP => exact k56_mkM _ _ _ (⟨(rd_T56 l1 x22_2).f0, (rd_T56 l1 x22_2).f1, (⟨(rd_T56 l1 x22_2).f2.f0, (rd_T56 l1 x22_2).f2.f1⟩ : S40), (rd_T56 l1 x22_2).f3⟩ : S56)); (case aB => exact (bs2 HB GE320 GE326)); (case aF => exact (fun k_ hk => Kd.freshB (bk BK326) k_ hk)); (case aO => exact (by (with_reducible repeat (first | apply Kd.R_alloc | apply Kd.R_drewN | apply Kd.R_drew)); exact Kd.R_mono HO_6.out (fun _ hk => hk.2))); (case aS => exact (below_size (bs2 HB GE320 GE326))); (case aL => have := LMc79.out; omega); intro v336 w90 ho hb hg hat; rw [← Ny335.out] at ho; replace BK320 := Ah (blk_grown (bk BK320) hg (Kd.R_ne HO_6.out BK320.out (by decide))); replace BK326 := Ah (blk_grown (bk BK326) hg (Kd.R_away HO_6.out (fun _ hk => hk.2))); replace HB := Ah (hb); have HO337 := Ah (ho); clear HO_6; clear ho hb hg hat))
      go_roundg k2
      case measure => have := HJ2.out; have := HK2.out; omega
      case rel => exact ⟨(y335), (wrap64 (x22_2 + 1)), e3, H', ⟨by have := HJ2.out; have := HK2.out; omega⟩, rm HO337 (fun _ hk => trivial), ⟨bk BK320⟩, ⟨bs2 HB GE320 GE326⟩⟩
     rw [if_pos c17] at H
     have c17b0 : (((rd_T56 l1 x22_2).f0) == 2) = true := beq_iff_eq.mpr c17
     have c17b1 : (((rd_T56 l1 x22_2).f0) != 2) = false := bne_eq_false_iff_eq.mpr c17
     clear c17
     replace H := Option.bind_eq_some_iff.mp H
     obtain ⟨t327, A180, H⟩ := H
     try dsimp only at H
     have A18 := Ah A180
     clear A180
     by_cases c19 : t327 = true
     rotate_left
     ·
      replace c19 := Bool.eq_false_iff.mpr c19
      subst c19
      rw [if_neg fne] at H
      simp only [Option.some.injEq, Prod.mk.injEq] at H
      obtain ⟨rfl, rfl⟩ := H
      have p325 : 0 ≤ (x22_2 : Int) := od
      have q325 : x22_2 < (l1.length : Int) := od
      obtain ⟨ad325, e325, hx325_0, hx325_1, hx325_2, hx325_3, hx325_4⟩ := at_T56 HR1.out x22_2 p325 q325
      cases e325
      replace hx325_0 := (HB.out.cell (World.block_lt_of_cell? w _ hx325_0)).trans hx325_0
      replace hx325_1 := (HB.out.cell (World.block_lt_of_cell? w _ hx325_1)).trans hx325_1
      replace hx325_2 := (HB.out.cell (World.block_lt_of_cell? w _ hx325_2)).trans hx325_2
      replace hx325_3 := (HB.out.cell (World.block_lt_of_cell? w _ hx325_3)).trans hx325_3
      replace hx325_4 := (HB.out.cell (World.block_lt_of_cell? w _ hx325_4)).trans hx325_4
      replace p325 := eq_true p325
      replace q325 := eq_true q325
      try go_wp2_with (first | ((with_reducible refine gate_dst (N := 8) rfl ?_); (try (refine gate_guard (by rfl) ?_; dsimp only)); refine boxL 8 56 #[.int .i64 0, .int .i64 0, .int .i64 0, .int .i64 0, .int .i64 0] ?_; intro gb326 hg w48 BK326 hb; replace HO_6 := Ah (Kd.R_below (Kd.R_elderB (rr HO_6.out) gb326 (Nat.le_of_eq hg.symm)) hb); have GW326 := gw hg (bs1 HB GE320); have GE326 := gw hg (bs1 HB GE320); replace HB := Ah (below_step (bs1 HB GE320) hb); have NB320_326 := nn BK320 hg; have NB326_320 := nm BK320 hg; replace BK320 := nb BK320 hb; clear hb hg; have hnb49 := NB326_320.out; have hnc49 := NB320_326.out; obtain ⟨hcz50_0, hcz50_1, hcz50_2, hcz50_3, hcz50_4⟩ := cz5 BK326; obtain ⟨hfz50_0, hfz50_1, hfz50_2, hfz50_3, hfz50_4⟩ := fz5 BK326))
      have n0_ : Aside0 (Kd.R k56 56 (((((w48.setCell ⟨gb326, 0, none⟩ (.int .i64 ((rd_T56 l1 x22_2).f0))).setCell ⟨gb326, 1, none⟩ (.int .i64 ((rd_T56 l1 x22_2).f1))).setCell ⟨gb326, 2, none⟩ (.int .i64 ((rd_T56 l1 x22_2).f2.f0))).setCell ⟨gb326, 3, none⟩ (.int .i64 ((rd_T56 l1 x22_2).f2.f1))).setCell ⟨gb326, 4, none⟩ (.int .i64 ((rd_T56 l1 x22_2).f3))) w.heap.size (fun k_ => k_ ≠ gb326) u6 x6_2) := ⟨by (with_reducible repeat (first | apply Kd.R_alloc | apply Kd.R_drewN | apply Kd.R_drew)); exact Kd.R_mono (Kd.R_far (p := ⟨gb326, 4, none⟩) (Kd.R_far (p := ⟨gb326, 3, none⟩) (Kd.R_far (p := ⟨gb326, 2, none⟩) (Kd.R_far (p := ⟨gb326, 1, none⟩) (Kd.R_far (p := ⟨gb326, 0, none⟩) (Kd.R_mono HO_6.out (fun k_ hk => (⟨hk, hk.2⟩ : _ ∧ k_ ≠ gb326))) (fun _ hk => hk.2) (.int .i64 ((rd_T56 l1 x22_2).f0))) (fun _ hk => hk.2) (.int .i64 ((rd_T56 l1 x22_2).f1))) (fun _ hk => hk.2) (.int .i64 ((rd_T56 l1 x22_2).f2.f0))) (fun _ hk => hk.2) (.int .i64 ((rd_T56 l1 x22_2).f2.f1))) (fun _ hk => hk.2) (.int .i64 ((rd_T56 l1 x22_2).f3))) (fun _ hk => hk.1.2)⟩
      have n1_ : Aside0 ((((((w48.setCell ⟨gb326, 0, none⟩ (.int .i64 ((rd_T56 l1 x22_2).f0))).setCell ⟨gb326, 1, none⟩ (.int .i64 ((rd_T56 l1 x22_2).f1))).setCell ⟨gb326, 2, none⟩ (.int .i64 ((rd_T56 l1 x22_2).f2.f0))).setCell ⟨gb326, 3, none⟩ (.int .i64 ((rd_T56 l1 x22_2).f2.f1))).setCell ⟨gb326, 4, none⟩ (.int .i64 ((rd_T56 l1 x22_2).f3))).heap[gb320]? = some (.cells #[.int .i64 a0_0, .slice A0_1 l0_1.length c0_1, .slice A0_2 l0_2.length c0_2] 33 (0, 0))) := ⟨bf BK320 NB320_326⟩
      have n2_ : Aside0 ((((((w48.setCell ⟨gb326, 0, none⟩ (.int .i64 ((rd_T56 l1 x22_2).f0))).setCell ⟨gb326, 1, none⟩ (.int .i64 ((rd_T56 l1 x22_2).f1))).setCell ⟨gb326, 2, none⟩ (.int .i64 ((rd_T56 l1 x22_2).f2.f0))).setCell ⟨gb326, 3, none⟩ (.int .i64 ((rd_T56 l1 x22_2).f2.f1))).setCell ⟨gb326, 4, none⟩ (.int .i64 ((rd_T56 l1 x22_2).f3))).heap[gb326]? = some (.cells #[.int .i64 ((rd_T56 l1 x22_2).f0), .int .i64 ((rd_T56 l1 x22_2).f1), .int .i64 ((rd_T56 l1 x22_2).f2.f0), .int .i64 ((rd_T56 l1 x22_2).f2.f1), .int .i64 ((rd_T56 l1 x22_2).f3)] 56 (0, 0))) := ⟨by (with_reducible repeat (first | refine blk_drewN ?_ _ | refine blk_drew ?_ | refine blk_alloc ?_ _)); refine blk_put (cs := #[.int .i64 ((rd_T56 l1 x22_2).f0), .int .i64 ((rd_T56 l1 x22_2).f1), .int .i64 ((rd_T56 l1 x22_2).f2.f0), .int .i64 ((rd_T56 l1 x22_2).f2.f1), .int .i64 0]) ?_ 4 _ rfl; (with_reducible repeat (first | refine blk_drewN ?_ _ | refine blk_drew ?_ | refine blk_alloc ?_ _)); refine blk_put (cs := #[.int .i64 ((rd_T56 l1 x22_2).f0), .int .i64 ((rd_T56 l1 x22_2).f1), .int .i64 ((rd_T56 l1 x22_2).f2.f0), .int .i64 0, .int .i64 0]) ?_ 3 _ rfl; (with_reducible repeat (first | refine blk_drewN ?_ _ | refine blk_drew ?_ | refine blk_alloc ?_ _)); refine blk_put (cs := #[.int .i64 ((rd_T56 l1 x22_2).f0), .int .i64 ((rd_T56 l1 x22_2).f1), .int .i64 0, .int .i64 0, .int .i64 0]) ?_ 2 _ rfl; (with_reducible repeat (first | refine blk_drewN ?_ _ | refine blk_drew ?_ | refine blk_alloc ?_ _)); refine blk_put (cs := #[.int .i64 ((rd_T56 l1 x22_2).f0), .int .i64 0, .int .i64 0, .int .i64 0, .int .i64 0]) ?_ 1 _ rfl; (with_reducible repeat (first | refine blk_drewN ?_ _ | refine blk_drew ?_ | refine blk_alloc ?_ _)); refine blk_put (cs := #[.int .i64 0, .int .i64 0, .int .i64 0, .int .i64 0, .int .i64 0]) ?_ 0 _ rfl; (with_reducible repeat (first | refine blk_drewN ?_ _ | refine blk_drew ?_ | refine blk_alloc ?_ _)); exact BK326.out⟩
      have n3_ : Aside0 (Below w.heap.size w (((((w48.setCell ⟨gb326, 0, none⟩ (.int .i64 ((rd_T56 l1 x22_2).f0))).setCell ⟨gb326, 1, none⟩ (.int .i64 ((rd_T56 l1 x22_2).f1))).setCell ⟨gb326, 2, none⟩ (.int .i64 ((rd_T56 l1 x22_2).f2.f0))).setCell ⟨gb326, 3, none⟩ (.int .i64 ((rd_T56 l1 x22_2).f2.f1))).setCell ⟨gb326, 4, none⟩ (.int .i64 ((rd_T56 l1 x22_2).f3)))) := ⟨bs2 HB GE320 GE326⟩
      (try clear HO_6)
      (try clear BK320)
      (try clear BK326)
      (try clear HB)
      generalize (((((w48.setCell ⟨gb326, 0, none⟩ (.int .i64 ((rd_T56 l1 x22_2).f0))).setCell ⟨gb326, 1, none⟩ (.int .i64 ((rd_T56 l1 x22_2).f1))).setCell ⟨gb326, 2, none⟩ (.int .i64 ((rd_T56 l1 x22_2).f2.f0))).setCell ⟨gb326, 3, none⟩ (.int .i64 ((rd_T56 l1 x22_2).f2.f1))).setCell ⟨gb326, 4, none⟩ (.int .i64 ((rd_T56 l1 x22_2).f3))) = w51 at n0_ n1_ n2_ n3_ ⊢
      have HO_6 := n0_
      have BK320 := n1_
      have BK326 := n2_
      have HB := n3_
      clear n0_ n1_ n2_ n3_
      have n0_ := Ah (Kd.R_drew HO_6.out)
      have n1_ := Ah (blk_drew BK320.out)
      have n2_ := Ah (blk_drew BK326.out)
      have n3_ := Ah (below_drew1 HB.out)
      clear HO_6 BK320 BK326 HB
      have HO_6 := n0_
      have BK320 := n1_
      have BK326 := n2_
      have HB := n3_
      clear n0_ n1_ n2_ n3_
      obtain ⟨Ao53, co53, eo53⟩ := Kd.R_slice HO_6.out
      (first | subst eo53 | (injection eo53 with f1_ f2_ f3_; have f4_ := f1_.symm; have f5_ := f3_.symm; clear f1_ f2_ f3_; subst f4_; subst f5_))
      refine start_ (n := 34) (S := fun w' => w'.cell? ⟨gb326, 0, none⟩ = some (.int .i64 ((rd_T56 l1 x22_2).f0)) ∧ w'.cell? ⟨gb326, 1, none⟩ = some (.int .i64 ((rd_T56 l1 x22_2).f1)) ∧ w'.cell? ⟨gb326, 2, none⟩ = some (.int .i64 ((rd_T56 l1 x22_2).f2.f0)) ∧ w'.cell? ⟨gb326, 3, none⟩ = some (.int .i64 ((rd_T56 l1 x22_2).f2.f1)) ∧ w'.cell? ⟨gb326, 4, none⟩ = some (.int .i64 ((rd_T56 l1 x22_2).f3))) (ds := []) #[false, false, false, false, false, false, false, false, false, false, false, false, false, false, false, false, false, false, false, false, false, false, false, false, false, false, false, false, false, false, false, false, false, false] (by kernel_rfl) rfl rfl ⟨(blk_cell BK326.out 0).trans rfl, (blk_cell BK326.out 1).trans rfl, (blk_cell BK326.out 2).trans rfl, (blk_cell BK326.out 3).trans rfl, (blk_cell BK326.out 4).trans rfl⟩ (fun hHeld => ?_); refine with_tabW impl_intentsOf.tab8 impl_intentsOf.bits8 (fun HT_ HW_ => ?_)
      generalize w51.drew = w52 at HO_6 BK320 BK326 HB hHeld ⊢
      refine pureS 0 29 HT_.out ?_
      refine pureS 2 31 HT_.out ?_
      refine pureS 3 32 HT_.out ?_
      refine takeS 1 30 HT_.out HW_.out hHeld (hr := by rintro w' ⟨s0, s1, s2, s3, s4⟩; go_simp; with_reducible rfl) (h := ?_)
      refine one_ (i := 4) (N := some 33) #[true, true, true, true, true, false, false, false, false, false, false, false, false, false, false, false, false, false, false, false, false, false, false, false, false, false, false, false, false, false, false, false, false, false] rfl rfl (one_of HT_.out (by kernel_rfl)) (by decide) (fun K hK => ?_)
      refine goes_ Try.func49 (by kernel_rfl) rfl #[.int .i64 ((rd_T56 l1 x22_2).f1), .int .i64 1, .int .i64 (x6_2.length : Int)] (by rfl) rfl rfl (by (try simp only [List.map_toArray, List.map_cons, List.map_nil]); first | done | rfl | (simp only [List.length_drop, List.length_take]; rfl)) ?_
      with_reducible refine (impl_within.calls ((rd_T56 l1 x22_2).f1) 1 (x6_2.length : Int) false _ A18.out).mono ?_
      rintro e w' ⟨rfl, ⟨nd, rfl⟩⟩
      refine ⟨_, rfl, ?_⟩
      refine hK.out _ _ ⟨(blk_cell BK326.out 0).trans rfl, (blk_cell BK326.out 1).trans rfl, (blk_cell BK326.out 2).trans rfl, (blk_cell BK326.out 3).trans rfl, (blk_cell BK326.out 4).trans rfl⟩ (fun hHeld => ?_)
      clear hK K
      refine norm_ (a' := ?_) ?_ ?_
      rotate_left
      ·
       show Act.put _ (some 33) _ = _
       simp only [Act.put, List.setIfInBounds_toArray, List.set_cons_zero, List.set_cons_succ, i64_w, i32_w]
       rfl
      refine pureS 5 34 HT_.out ?_
      refine pureS 6 35 HT_.out ?_
      refine pureU 7 36 HT_.out ?_
      refine pureU 8 37 HT_.out ?_
      refine pureU 9 38 HT_.out ?_
      refine pureU 10 39 HT_.out ?_
      refine pureS 11 40 HT_.out ?_
      refine pureS 12 41 HT_.out ?_
      refine pureU 13 42 HT_.out ?_
      refine pureU 14 43 HT_.out ?_
      refine pureU 15 44 HT_.out ?_
      refine pureU 16 45 HT_.out ?_
      refine pureU 17 46 HT_.out ?_
      refine pureU 18 47 HT_.out ?_
      refine pureU 19 48 HT_.out ?_
      refine pureU 20 49 HT_.out ?_
      refine pureU 21 50 HT_.out ?_
      refine pureU 22 51 HT_.out ?_
      refine pureU 23 52 HT_.out ?_
      refine pureU 24 53 HT_.out ?_
      refine pureU 25 54 HT_.out ?_
      refine pureU 26 55 HT_.out ?_
      refine pureU 27 56 HT_.out ?_
      refine pureU 28 57 HT_.out ?_
      refine pureU 29 58 HT_.out ?_
      refine pureU 30 59 HT_.out ?_
      refine pureU 31 60 HT_.out ?_
      refine pureU 32 61 HT_.out ?_
      refine pureS 33 62 HT_.out ?_
      refine done_ (done_of HT_.out (by kernel_rfl)) ?_
      try go_wp2
      go_ret2
      exact ⟨_, er, by first | exact Kd.R_nil _ _ _ _ _ | exact Kd.N_nil _ _ _ _ _ | exact Kd.V_nil _ _ _ _ _ | exact Kd.Q_nil _ _ _ _ _ | exact Kd.S_nil _ _ _ _ _, bs2 HB GE320 GE326⟩
     subst c19
     rw [if_pos rfl] at H
     by_cases c20 : (!(((rd_T56 l1 x22_2).f2.f0) == 0) || (!(((rd_T56 l1 x22_2).f2.f1) == 0))) = true
     ·
      rw [if_pos c20] at H
      have c20b0 : (!(((rd_T56 l1 x22_2).f2.f0) == 0) || (!(((rd_T56 l1 x22_2).f2.f1) == 0))) = true := c20
      clear c20
      simp only [Option.some.injEq, Prod.mk.injEq] at H
      obtain ⟨rfl, rfl⟩ := H
      have p325 : 0 ≤ (x22_2 : Int) := od
      have q325 : x22_2 < (l1.length : Int) := od
      obtain ⟨ad325, e325, hx325_0, hx325_1, hx325_2, hx325_3, hx325_4⟩ := at_T56 HR1.out x22_2 p325 q325
      cases e325
      replace hx325_0 := (HB.out.cell (World.block_lt_of_cell? w _ hx325_0)).trans hx325_0
      replace hx325_1 := (HB.out.cell (World.block_lt_of_cell? w _ hx325_1)).trans hx325_1
      replace hx325_2 := (HB.out.cell (World.block_lt_of_cell? w _ hx325_2)).trans hx325_2
      replace hx325_3 := (HB.out.cell (World.block_lt_of_cell? w _ hx325_3)).trans hx325_3
      replace hx325_4 := (HB.out.cell (World.block_lt_of_cell? w _ hx325_4)).trans hx325_4
      replace p325 := eq_true p325
      replace q325 := eq_true q325
      try go_wp2_with (first | ((with_reducible refine gate_dst (N := 8) rfl ?_); (try (refine gate_guard (by rfl) ?_; dsimp only)); refine boxL 8 56 #[.int .i64 0, .int .i64 0, .int .i64 0, .int .i64 0, .int .i64 0] ?_; intro gb326 hg w21 BK326 hb; replace HO_6 := Ah (Kd.R_below (Kd.R_elderB (rr HO_6.out) gb326 (Nat.le_of_eq hg.symm)) hb); have GW326 := gw hg (bs1 HB GE320); have GE326 := gw hg (bs1 HB GE320); replace HB := Ah (below_step (bs1 HB GE320) hb); have NB320_326 := nn BK320 hg; have NB326_320 := nm BK320 hg; replace BK320 := nb BK320 hb; clear hb hg; have hnb22 := NB326_320.out; have hnc22 := NB320_326.out; obtain ⟨hcz23_0, hcz23_1, hcz23_2, hcz23_3, hcz23_4⟩ := cz5 BK326; obtain ⟨hfz23_0, hfz23_1, hfz23_2, hfz23_3, hfz23_4⟩ := fz5 BK326))
      have n0_ : Aside0 (Kd.R k56 56 (((((w21.setCell ⟨gb326, 0, none⟩ (.int .i64 ((rd_T56 l1 x22_2).f0))).setCell ⟨gb326, 1, none⟩ (.int .i64 ((rd_T56 l1 x22_2).f1))).setCell ⟨gb326, 2, none⟩ (.int .i64 ((rd_T56 l1 x22_2).f2.f0))).setCell ⟨gb326, 3, none⟩ (.int .i64 ((rd_T56 l1 x22_2).f2.f1))).setCell ⟨gb326, 4, none⟩ (.int .i64 ((rd_T56 l1 x22_2).f3))) w.heap.size (fun k_ => k_ ≠ gb326) u6 x6_2) := ⟨by (with_reducible repeat (first | apply Kd.R_alloc | apply Kd.R_drewN | apply Kd.R_drew)); exact Kd.R_mono (Kd.R_far (p := ⟨gb326, 4, none⟩) (Kd.R_far (p := ⟨gb326, 3, none⟩) (Kd.R_far (p := ⟨gb326, 2, none⟩) (Kd.R_far (p := ⟨gb326, 1, none⟩) (Kd.R_far (p := ⟨gb326, 0, none⟩) (Kd.R_mono HO_6.out (fun k_ hk => (⟨hk, hk.2⟩ : _ ∧ k_ ≠ gb326))) (fun _ hk => hk.2) (.int .i64 ((rd_T56 l1 x22_2).f0))) (fun _ hk => hk.2) (.int .i64 ((rd_T56 l1 x22_2).f1))) (fun _ hk => hk.2) (.int .i64 ((rd_T56 l1 x22_2).f2.f0))) (fun _ hk => hk.2) (.int .i64 ((rd_T56 l1 x22_2).f2.f1))) (fun _ hk => hk.2) (.int .i64 ((rd_T56 l1 x22_2).f3))) (fun _ hk => hk.1.2)⟩
      have n1_ : Aside0 ((((((w21.setCell ⟨gb326, 0, none⟩ (.int .i64 ((rd_T56 l1 x22_2).f0))).setCell ⟨gb326, 1, none⟩ (.int .i64 ((rd_T56 l1 x22_2).f1))).setCell ⟨gb326, 2, none⟩ (.int .i64 ((rd_T56 l1 x22_2).f2.f0))).setCell ⟨gb326, 3, none⟩ (.int .i64 ((rd_T56 l1 x22_2).f2.f1))).setCell ⟨gb326, 4, none⟩ (.int .i64 ((rd_T56 l1 x22_2).f3))).heap[gb320]? = some (.cells #[.int .i64 a0_0, .slice A0_1 l0_1.length c0_1, .slice A0_2 l0_2.length c0_2] 33 (0, 0))) := ⟨bf BK320 NB320_326⟩
      have n2_ : Aside0 ((((((w21.setCell ⟨gb326, 0, none⟩ (.int .i64 ((rd_T56 l1 x22_2).f0))).setCell ⟨gb326, 1, none⟩ (.int .i64 ((rd_T56 l1 x22_2).f1))).setCell ⟨gb326, 2, none⟩ (.int .i64 ((rd_T56 l1 x22_2).f2.f0))).setCell ⟨gb326, 3, none⟩ (.int .i64 ((rd_T56 l1 x22_2).f2.f1))).setCell ⟨gb326, 4, none⟩ (.int .i64 ((rd_T56 l1 x22_2).f3))).heap[gb326]? = some (.cells #[.int .i64 ((rd_T56 l1 x22_2).f0), .int .i64 ((rd_T56 l1 x22_2).f1), .int .i64 ((rd_T56 l1 x22_2).f2.f0), .int .i64 ((rd_T56 l1 x22_2).f2.f1), .int .i64 ((rd_T56 l1 x22_2).f3)] 56 (0, 0))) := ⟨by (with_reducible repeat (first | refine blk_drewN ?_ _ | refine blk_drew ?_ | refine blk_alloc ?_ _)); refine blk_put (cs := #[.int .i64 ((rd_T56 l1 x22_2).f0), .int .i64 ((rd_T56 l1 x22_2).f1), .int .i64 ((rd_T56 l1 x22_2).f2.f0), .int .i64 ((rd_T56 l1 x22_2).f2.f1), .int .i64 0]) ?_ 4 _ rfl; (with_reducible repeat (first | refine blk_drewN ?_ _ | refine blk_drew ?_ | refine blk_alloc ?_ _)); refine blk_put (cs := #[.int .i64 ((rd_T56 l1 x22_2).f0), .int .i64 ((rd_T56 l1 x22_2).f1), .int .i64 ((rd_T56 l1 x22_2).f2.f0), .int .i64 0, .int .i64 0]) ?_ 3 _ rfl; (with_reducible repeat (first | refine blk_drewN ?_ _ | refine blk_drew ?_ | refine blk_alloc ?_ _)); refine blk_put (cs := #[.int .i64 ((rd_T56 l1 x22_2).f0), .int .i64 ((rd_T56 l1 x22_2).f1), .int .i64 0, .int .i64 0, .int .i64 0]) ?_ 2 _ rfl; (with_reducible repeat (first | refine blk_drewN ?_ _ | refine blk_drew ?_ | refine blk_alloc ?_ _)); refine blk_put (cs := #[.int .i64 ((rd_T56 l1 x22_2).f0), .int .i64 0, .int .i64 0, .int .i64 0, .int .i64 0]) ?_ 1 _ rfl; (with_reducible repeat (first | refine blk_drewN ?_ _ | refine blk_drew ?_ | refine blk_alloc ?_ _)); refine blk_put (cs := #[.int .i64 0, .int .i64 0, .int .i64 0, .int .i64 0, .int .i64 0]) ?_ 0 _ rfl; (with_reducible repeat (first | refine blk_drewN ?_ _ | refine blk_drew ?_ | refine blk_alloc ?_ _)); exact BK326.out⟩
      have n3_ : Aside0 (Below w.heap.size w (((((w21.setCell ⟨gb326, 0, none⟩ (.int .i64 ((rd_T56 l1 x22_2).f0))).setCell ⟨gb326, 1, none⟩ (.int .i64 ((rd_T56 l1 x22_2).f1))).setCell ⟨gb326, 2, none⟩ (.int .i64 ((rd_T56 l1 x22_2).f2.f0))).setCell ⟨gb326, 3, none⟩ (.int .i64 ((rd_T56 l1 x22_2).f2.f1))).setCell ⟨gb326, 4, none⟩ (.int .i64 ((rd_T56 l1 x22_2).f3)))) := ⟨bs2 HB GE320 GE326⟩
      (try clear HO_6)
      (try clear BK320)
      (try clear BK326)
      (try clear HB)
      generalize (((((w21.setCell ⟨gb326, 0, none⟩ (.int .i64 ((rd_T56 l1 x22_2).f0))).setCell ⟨gb326, 1, none⟩ (.int .i64 ((rd_T56 l1 x22_2).f1))).setCell ⟨gb326, 2, none⟩ (.int .i64 ((rd_T56 l1 x22_2).f2.f0))).setCell ⟨gb326, 3, none⟩ (.int .i64 ((rd_T56 l1 x22_2).f2.f1))).setCell ⟨gb326, 4, none⟩ (.int .i64 ((rd_T56 l1 x22_2).f3))) = w24 at n0_ n1_ n2_ n3_ ⊢
      have HO_6 := n0_
      have BK320 := n1_
      have BK326 := n2_
      have HB := n3_
      clear n0_ n1_ n2_ n3_
      have n0_ := Ah (Kd.R_drew HO_6.out)
      have n1_ := Ah (blk_drew BK320.out)
      have n2_ := Ah (blk_drew BK326.out)
      have n3_ := Ah (below_drew1 HB.out)
      clear HO_6 BK320 BK326 HB
      have HO_6 := n0_
      have BK320 := n1_
      have BK326 := n2_
      have HB := n3_
      clear n0_ n1_ n2_ n3_
      obtain ⟨Ao26, co26, eo26⟩ := Kd.R_slice HO_6.out
      (first | subst eo26 | (injection eo26 with f1_ f2_ f3_; have f4_ := f1_.symm; have f5_ := f3_.symm; clear f1_ f2_ f3_; subst f4_; subst f5_))
      refine start_ (n := 34) (S := fun w' => w'.cell? ⟨gb326, 0, none⟩ = some (.int .i64 ((rd_T56 l1 x22_2).f0)) ∧ w'.cell? ⟨gb326, 1, none⟩ = some (.int .i64 ((rd_T56 l1 x22_2).f1)) ∧ w'.cell? ⟨gb326, 2, none⟩ = some (.int .i64 ((rd_T56 l1 x22_2).f2.f0)) ∧ w'.cell? ⟨gb326, 3, none⟩ = some (.int .i64 ((rd_T56 l1 x22_2).f2.f1)) ∧ w'.cell? ⟨gb326, 4, none⟩ = some (.int .i64 ((rd_T56 l1 x22_2).f3))) (ds := []) #[false, false, false, false, false, false, false, false, false, false, false, false, false, false, false, false, false, false, false, false, false, false, false, false, false, false, false, false, false, false, false, false, false, false] (by kernel_rfl) rfl rfl ⟨(blk_cell BK326.out 0).trans rfl, (blk_cell BK326.out 1).trans rfl, (blk_cell BK326.out 2).trans rfl, (blk_cell BK326.out 3).trans rfl, (blk_cell BK326.out 4).trans rfl⟩ (fun hHeld => ?_); refine with_tabW impl_intentsOf.tab8 impl_intentsOf.bits8 (fun HT_ HW_ => ?_)
      generalize w24.drew = w25 at HO_6 BK320 BK326 HB hHeld ⊢
      refine pureS 0 29 HT_.out ?_
      refine pureS 2 31 HT_.out ?_
      refine pureS 3 32 HT_.out ?_
      refine takeS 1 30 HT_.out HW_.out hHeld (hr := by rintro w' ⟨s0, s1, s2, s3, s4⟩; go_simp; with_reducible rfl) (h := ?_)
      refine one_ (i := 4) (N := some 33) #[true, true, true, true, true, false, false, false, false, false, false, false, false, false, false, false, false, false, false, false, false, false, false, false, false, false, false, false, false, false, false, false, false, false] rfl rfl (one_of HT_.out (by kernel_rfl)) (by decide) (fun K hK => ?_)
      refine goes_ Try.func49 (by kernel_rfl) rfl #[.int .i64 ((rd_T56 l1 x22_2).f1), .int .i64 1, .int .i64 (x6_2.length : Int)] (by rfl) rfl rfl (by (try simp only [List.map_toArray, List.map_cons, List.map_nil]); first | done | rfl | (simp only [List.length_drop, List.length_take]; rfl)) ?_
      with_reducible refine (impl_within.calls ((rd_T56 l1 x22_2).f1) 1 (x6_2.length : Int) true _ A18.out).mono ?_
      rintro e w' ⟨rfl, ⟨nd, rfl⟩⟩
      refine ⟨_, rfl, ?_⟩
      refine hK.out _ _ ⟨(blk_cell BK326.out 0).trans rfl, (blk_cell BK326.out 1).trans rfl, (blk_cell BK326.out 2).trans rfl, (blk_cell BK326.out 3).trans rfl, (blk_cell BK326.out 4).trans rfl⟩ (fun hHeld => ?_)
      clear hK K
      refine norm_ (a' := ?_) ?_ ?_
      rotate_left
      ·
       show Act.put _ (some 33) _ = _
       simp only [Act.put, List.setIfInBounds_toArray, List.set_cons_zero, List.set_cons_succ, i64_w, i32_w]
       rfl
      refine pureS 5 34 HT_.out ?_
      refine pureS 6 35 HT_.out ?_
      refine pureS 7 36 HT_.out ?_
      refine pureS 9 38 HT_.out ?_
      refine takeS 8 37 HT_.out HW_.out hHeld (hr := by rintro w' ⟨s0, s1, s2, s3, s4⟩; go_simp; with_reducible rfl) (h := ?_)
      refine pureS 10 39 HT_.out ?_
      refine pureS 11 40 HT_.out ?_
      refine pureS 12 41 HT_.out ?_
      refine pureU 13 42 HT_.out ?_
      refine pureU 14 43 HT_.out ?_
      refine pureU 15 44 HT_.out ?_
      refine pureU 16 45 HT_.out ?_
      refine pureU 17 46 HT_.out ?_
      refine pureU 18 47 HT_.out ?_
      refine pureU 19 48 HT_.out ?_
      refine pureU 20 49 HT_.out ?_
      refine pureU 21 50 HT_.out ?_
      refine pureU 22 51 HT_.out ?_
      refine pureU 23 52 HT_.out ?_
      refine pureU 24 53 HT_.out ?_
      refine pureU 25 54 HT_.out ?_
      refine pureU 26 55 HT_.out ?_
      refine pureU 27 56 HT_.out ?_
      refine pureU 28 57 HT_.out ?_
      refine pureU 29 58 HT_.out ?_
      refine pureU 30 59 HT_.out ?_
      refine pureU 31 60 HT_.out ?_
      refine pureU 32 61 HT_.out ?_
      refine pureS 33 62 HT_.out ?_
      refine done_ (done_of HT_.out (by kernel_rfl)) ?_
      try go_wp2
      go_ret2
      exact ⟨_, er, by first | exact Kd.R_nil _ _ _ _ _ | exact Kd.N_nil _ _ _ _ _ | exact Kd.V_nil _ _ _ _ _ | exact Kd.Q_nil _ _ _ _ _ | exact Kd.S_nil _ _ _ _ _, bs2 HB GE320 GE326⟩
     rw [if_neg c20] at H
     have c20b0 : (!(((rd_T56 l1 x22_2).f2.f0) == 0) || (!(((rd_T56 l1 x22_2).f2.f1) == 0))) = false := by simpa using c20
     clear c20
     obtain ⟨ji27, hji27⟩ : ∃ j_ : Int, (wrap64 (((rd_T56 l1 x22_2).f1) - 1)) = j_ := ⟨_, rfl⟩
     replace H : (if 0 ≤ (ji27) then (if (ji27) < (x6_2.length : Int) then ((impl_within.f ((rd_T56 l1 x22_2).f3) (wrap64 (((rd_T56 x6_2 (ji27)).f3) + 1)) ((rd_T56 x6_2 (ji27)).f2.f1)).bind fun t330 => (if t330 = true then (impl_intentsOf.l0 k2 (x6_2.set ((ji27) : Int).toNat (⟨(rd_T56 x6_2 (ji27)).f0, (rd_T56 x6_2 (ji27)).f1, (⟨(rd_T56 x6_2 (ji27)).f2.f0, (rd_T56 x6_2 (ji27)).f2.f1⟩ : S40), (rd_T56 l1 x22_2).f3⟩ : S56)) l1 (l1.length : Int) (wrap64 (x22_2 + 1)) a0_0 l0_1 l0_2) else (some (([] : List (S56)), false)))) else (none)) else (none)) = some (r1, r2) := by first | (rw [hji27] at H; exact H) | (simp only [hji27] at H ⊢; exact H)
     (try rw [hji27] at A18)
     have hji27w : (IntKind.i64.wrap (((rd_T56 l1 x22_2).f1) - 1)) = ji27 := (i64_w _).trans hji27
     by_cases c28 : 0 ≤ (ji27)
     rotate_left
     ·
      rw [if_neg c28] at H
      exact absurd H (by simp)
     rw [if_pos c28] at H
     have c28b0 : decide (0 ≤ (ji27)) = true := decide_eq_true c28
     clear c28
     by_cases c29 : (ji27) < (x6_2.length : Int)
     rotate_left
     ·
      rw [if_neg c29] at H
      exact absurd H (by simp)
     rw [if_pos c29] at H
     have c29b0 : decide ((ji27) < (x6_2.length : Int)) = true := decide_eq_true c29
     clear c29
     replace H := Option.bind_eq_some_iff.mp H
     obtain ⟨t330, A300, H⟩ := H
     try dsimp only at H
     have A30 := Ah A300
     clear A300
     have H_ := Ah H
     clear H
     have p325 : 0 ≤ (x22_2 : Int) := od
     have q325 : x22_2 < (l1.length : Int) := od
     obtain ⟨ad325, e325, hx325_0, hx325_1, hx325_2, hx325_3, hx325_4⟩ := at_T56 HR1.out x22_2 p325 q325
     cases e325
     replace hx325_0 := (HB.out.cell (World.block_lt_of_cell? w _ hx325_0)).trans hx325_0
     replace hx325_1 := (HB.out.cell (World.block_lt_of_cell? w _ hx325_1)).trans hx325_1
     replace hx325_2 := (HB.out.cell (World.block_lt_of_cell? w _ hx325_2)).trans hx325_2
     replace hx325_3 := (HB.out.cell (World.block_lt_of_cell? w _ hx325_3)).trans hx325_3
     replace hx325_4 := (HB.out.cell (World.block_lt_of_cell? w _ hx325_4)).trans hx325_4
     replace p325 := eq_true p325
     replace q325 := eq_true q325
     try go_wp2_with (first | ((with_reducible refine gate_dst (N := 8) rfl ?_); (try (refine gate_guard (by rfl) ?_; dsimp only)); refine boxL 8 56 #[.int .i64 0, .int .i64 0, .int .i64 0, .int .i64 0, .int .i64 0] ?_; intro gb326 hg w33 BK326 hb; replace HO_6 := Ah (Kd.R_below (Kd.R_elderB (rr HO_6.out) gb326 (Nat.le_of_eq hg.symm)) hb); have GW326 := gw hg (bs1 HB GE320); have GE326 := gw hg (bs1 HB GE320); replace HB := Ah (below_step (bs1 HB GE320) hb); have NB320_326 := nn BK320 hg; have NB326_320 := nm BK320 hg; replace BK320 := nb BK320 hb; clear hb hg; have hnb34 := NB326_320.out; have hnc34 := NB320_326.out; obtain ⟨hcz35_0, hcz35_1, hcz35_2, hcz35_3, hcz35_4⟩ := cz5 BK326; obtain ⟨hfz35_0, hfz35_1, hfz35_2, hfz35_3, hfz35_4⟩ := fz5 BK326))
     have n0_ : Aside0 (Kd.R k56 56 (((((w33.setCell ⟨gb326, 0, none⟩ (.int .i64 ((rd_T56 l1 x22_2).f0))).setCell ⟨gb326, 1, none⟩ (.int .i64 ((rd_T56 l1 x22_2).f1))).setCell ⟨gb326, 2, none⟩ (.int .i64 ((rd_T56 l1 x22_2).f2.f0))).setCell ⟨gb326, 3, none⟩ (.int .i64 ((rd_T56 l1 x22_2).f2.f1))).setCell ⟨gb326, 4, none⟩ (.int .i64 ((rd_T56 l1 x22_2).f3))) w.heap.size (fun k_ => k_ ≠ gb326) u6 x6_2) := ⟨by (with_reducible repeat (first | apply Kd.R_alloc | apply Kd.R_drewN | apply Kd.R_drew)); exact Kd.R_mono (Kd.R_far (p := ⟨gb326, 4, none⟩) (Kd.R_far (p := ⟨gb326, 3, none⟩) (Kd.R_far (p := ⟨gb326, 2, none⟩) (Kd.R_far (p := ⟨gb326, 1, none⟩) (Kd.R_far (p := ⟨gb326, 0, none⟩) (Kd.R_mono HO_6.out (fun k_ hk => (⟨hk, hk.2⟩ : _ ∧ k_ ≠ gb326))) (fun _ hk => hk.2) (.int .i64 ((rd_T56 l1 x22_2).f0))) (fun _ hk => hk.2) (.int .i64 ((rd_T56 l1 x22_2).f1))) (fun _ hk => hk.2) (.int .i64 ((rd_T56 l1 x22_2).f2.f0))) (fun _ hk => hk.2) (.int .i64 ((rd_T56 l1 x22_2).f2.f1))) (fun _ hk => hk.2) (.int .i64 ((rd_T56 l1 x22_2).f3))) (fun _ hk => hk.1.2)⟩
     have n1_ : Aside0 ((((((w33.setCell ⟨gb326, 0, none⟩ (.int .i64 ((rd_T56 l1 x22_2).f0))).setCell ⟨gb326, 1, none⟩ (.int .i64 ((rd_T56 l1 x22_2).f1))).setCell ⟨gb326, 2, none⟩ (.int .i64 ((rd_T56 l1 x22_2).f2.f0))).setCell ⟨gb326, 3, none⟩ (.int .i64 ((rd_T56 l1 x22_2).f2.f1))).setCell ⟨gb326, 4, none⟩ (.int .i64 ((rd_T56 l1 x22_2).f3))).heap[gb320]? = some (.cells #[.int .i64 a0_0, .slice A0_1 l0_1.length c0_1, .slice A0_2 l0_2.length c0_2] 33 (0, 0))) := ⟨bf BK320 NB320_326⟩
     have n2_ : Aside0 ((((((w33.setCell ⟨gb326, 0, none⟩ (.int .i64 ((rd_T56 l1 x22_2).f0))).setCell ⟨gb326, 1, none⟩ (.int .i64 ((rd_T56 l1 x22_2).f1))).setCell ⟨gb326, 2, none⟩ (.int .i64 ((rd_T56 l1 x22_2).f2.f0))).setCell ⟨gb326, 3, none⟩ (.int .i64 ((rd_T56 l1 x22_2).f2.f1))).setCell ⟨gb326, 4, none⟩ (.int .i64 ((rd_T56 l1 x22_2).f3))).heap[gb326]? = some (.cells #[.int .i64 ((rd_T56 l1 x22_2).f0), .int .i64 ((rd_T56 l1 x22_2).f1), .int .i64 ((rd_T56 l1 x22_2).f2.f0), .int .i64 ((rd_T56 l1 x22_2).f2.f1), .int .i64 ((rd_T56 l1 x22_2).f3)] 56 (0, 0))) := ⟨by (with_reducible repeat (first | refine blk_drewN ?_ _ | refine blk_drew ?_ | refine blk_alloc ?_ _)); refine blk_put (cs := #[.int .i64 ((rd_T56 l1 x22_2).f0), .int .i64 ((rd_T56 l1 x22_2).f1), .int .i64 ((rd_T56 l1 x22_2).f2.f0), .int .i64 ((rd_T56 l1 x22_2).f2.f1), .int .i64 0]) ?_ 4 _ rfl; (with_reducible repeat (first | refine blk_drewN ?_ _ | refine blk_drew ?_ | refine blk_alloc ?_ _)); refine blk_put (cs := #[.int .i64 ((rd_T56 l1 x22_2).f0), .int .i64 ((rd_T56 l1 x22_2).f1), .int .i64 ((rd_T56 l1 x22_2).f2.f0), .int .i64 0, .int .i64 0]) ?_ 3 _ rfl; (with_reducible repeat (first | refine blk_drewN ?_ _ | refine blk_drew ?_ | refine blk_alloc ?_ _)); refine blk_put (cs := #[.int .i64 ((rd_T56 l1 x22_2).f0), .int .i64 ((rd_T56 l1 x22_2).f1), .int .i64 0, .int .i64 0, .int .i64 0]) ?_ 2 _ rfl; (with_reducible repeat (first | refine blk_drewN ?_ _ | refine blk_drew ?_ | refine blk_alloc ?_ _)); refine blk_put (cs := #[.int .i64 ((rd_T56 l1 x22_2).f0), .int .i64 0, .int .i64 0, .int .i64 0, .int .i64 0]) ?_ 1 _ rfl; (with_reducible repeat (first | refine blk_drewN ?_ _ | refine blk_drew ?_ | refine blk_alloc ?_ _)); refine blk_put (cs := #[.int .i64 0, .int .i64 0, .int .i64 0, .int .i64 0, .int .i64 0]) ?_ 0 _ rfl; (with_reducible repeat (first | refine blk_drewN ?_ _ | refine blk_drew ?_ | refine blk_alloc ?_ _)); exact BK326.out⟩
     have n3_ : Aside0 (Below w.heap.size w (((((w33.setCell ⟨gb326, 0, none⟩ (.int .i64 ((rd_T56 l1 x22_2).f0))).setCell ⟨gb326, 1, none⟩ (.int .i64 ((rd_T56 l1 x22_2).f1))).setCell ⟨gb326, 2, none⟩ (.int .i64 ((rd_T56 l1 x22_2).f2.f0))).setCell ⟨gb326, 3, none⟩ (.int .i64 ((rd_T56 l1 x22_2).f2.f1))).setCell ⟨gb326, 4, none⟩ (.int .i64 ((rd_T56 l1 x22_2).f3)))) := ⟨bs2 HB GE320 GE326⟩
     (try clear HO_6)
     (try clear BK320)
     (try clear BK326)
     (try clear HB)
     generalize (((((w33.setCell ⟨gb326, 0, none⟩ (.int .i64 ((rd_T56 l1 x22_2).f0))).setCell ⟨gb326, 1, none⟩ (.int .i64 ((rd_T56 l1 x22_2).f1))).setCell ⟨gb326, 2, none⟩ (.int .i64 ((rd_T56 l1 x22_2).f2.f0))).setCell ⟨gb326, 3, none⟩ (.int .i64 ((rd_T56 l1 x22_2).f2.f1))).setCell ⟨gb326, 4, none⟩ (.int .i64 ((rd_T56 l1 x22_2).f3))) = w36 at n0_ n1_ n2_ n3_ ⊢
     have HO_6 := n0_
     have BK320 := n1_
     have BK326 := n2_
     have HB := n3_
     clear n0_ n1_ n2_ n3_
     have n0_ := Ah (Kd.R_drew HO_6.out)
     have n1_ := Ah (blk_drew BK320.out)
     have n2_ := Ah (blk_drew BK326.out)
     have n3_ := Ah (below_drew1 HB.out)
     clear HO_6 BK320 BK326 HB
     have HO_6 := n0_
     have BK320 := n1_
     have BK326 := n2_
     have HB := n3_
     clear n0_ n1_ n2_ n3_
     obtain ⟨Ao38, co38, eo38⟩ := Kd.R_slice HO_6.out
     (first | subst eo38 | (injection eo38 with f1_ f2_ f3_; have f4_ := f1_.symm; have f5_ := f3_.symm; clear f1_ f2_ f3_; subst f4_; subst f5_))
     have p328 : 0 ≤ ((ji27) : Int) := od
     have q328 : (ji27) < (x6_2.length : Int) := od
     obtain ⟨ad328, e328, hx328_0, hx328_1, hx328_2, hx328_3, hx328_4⟩ := at_T56 (Kd.R_reads' HO_6.out).2.2 (ji27) p328 q328
     cases e328
     replace p328 := eq_true p328
     replace q328 := eq_true q328
     have p329 : 0 ≤ ((ji27) : Int) := od
     have q329 : (ji27) < (x6_2.length : Int) := od
     obtain ⟨ad329, e329, hx329_0, hx329_1, hx329_2, hx329_3, hx329_4⟩ := at_T56 (Kd.R_reads' HO_6.out).2.2 (ji27) p329 q329
     obtain rfl : ad328 = ad329 := (by injection e329)
     replace p329 := eq_true p329
     replace q329 := eq_true q329
     refine start_ (n := 34) (S := fun w' => w'.cell? ⟨gb326, 0, none⟩ = some (.int .i64 ((rd_T56 l1 x22_2).f0)) ∧ w'.cell? ⟨gb326, 1, none⟩ = some (.int .i64 ((rd_T56 l1 x22_2).f1)) ∧ w'.cell? ⟨gb326, 2, none⟩ = some (.int .i64 ((rd_T56 l1 x22_2).f2.f0)) ∧ w'.cell? ⟨gb326, 3, none⟩ = some (.int .i64 ((rd_T56 l1 x22_2).f2.f1)) ∧ w'.cell? ⟨gb326, 4, none⟩ = some (.int .i64 ((rd_T56 l1 x22_2).f3)) ∧ w'.cell? (ad328.add (((ji27)).toNat * 5)) = some (.int .i64 ((rd_T56 x6_2 (ji27)).f0)) ∧ w'.cell? ⟨(ad328.add (((ji27)).toNat * 5)).block, (ad328.add (((ji27)).toNat * 5)).off + 1, none⟩ = some (.int .i64 ((rd_T56 x6_2 (ji27)).f1)) ∧ w'.cell? ⟨(ad328.add (((ji27)).toNat * 5)).block, (ad328.add (((ji27)).toNat * 5)).off + 2, none⟩ = some (.int .i64 ((rd_T56 x6_2 (ji27)).f2.f0)) ∧ w'.cell? ⟨(ad328.add (((ji27)).toNat * 5)).block, (ad328.add (((ji27)).toNat * 5)).off + 3, none⟩ = some (.int .i64 ((rd_T56 x6_2 (ji27)).f2.f1)) ∧ w'.cell? ⟨(ad328.add (((ji27)).toNat * 5)).block, (ad328.add (((ji27)).toNat * 5)).off + 4, none⟩ = some (.int .i64 ((rd_T56 x6_2 (ji27)).f3)) ∧ w'.cell? (ad328.add (((ji27)).toNat * 5)) = some (.int .i64 ((rd_T56 x6_2 (ji27)).f0)) ∧ w'.cell? ⟨(ad328.add (((ji27)).toNat * 5)).block, (ad328.add (((ji27)).toNat * 5)).off + 1, none⟩ = some (.int .i64 ((rd_T56 x6_2 (ji27)).f1)) ∧ w'.cell? ⟨(ad328.add (((ji27)).toNat * 5)).block, (ad328.add (((ji27)).toNat * 5)).off + 2, none⟩ = some (.int .i64 ((rd_T56 x6_2 (ji27)).f2.f0)) ∧ w'.cell? ⟨(ad328.add (((ji27)).toNat * 5)).block, (ad328.add (((ji27)).toNat * 5)).off + 3, none⟩ = some (.int .i64 ((rd_T56 x6_2 (ji27)).f2.f1)) ∧ w'.cell? ⟨(ad328.add (((ji27)).toNat * 5)).block, (ad328.add (((ji27)).toNat * 5)).off + 4, none⟩ = some (.int .i64 ((rd_T56 x6_2 (ji27)).f3))) (ds := []) #[false, false, false, false, false, false, false, false, false, false, false, false, false, false, false, false, false, false, false, false, false, false, false, false, false, false, false, false, false, false, false, false, false, false] (by kernel_rfl) rfl rfl ⟨(blk_cell BK326.out 0).trans rfl, (blk_cell BK326.out 1).trans rfl, (blk_cell BK326.out 2).trans rfl, (blk_cell BK326.out 3).trans rfl, (blk_cell BK326.out 4).trans rfl, hx328_0, hx328_1, hx328_2, hx328_3, hx328_4, hx329_0, hx329_1, hx329_2, hx329_3, hx329_4⟩ (fun hHeld => ?_); refine with_tabW impl_intentsOf.tab8 impl_intentsOf.bits8 (fun HT_ HW_ => ?_)
     generalize w36.drew = w37 at HO_6 BK320 BK326 HB hx328_0 hx328_1 hx328_2 hx328_3 hx328_4 hx329_0 hx329_1 hx329_2 hx329_3 hx329_4 hHeld ⊢
     refine pureS 0 29 HT_.out ?_
     refine pureS 2 31 HT_.out ?_
     refine pureS 3 32 HT_.out ?_
     refine takeS 1 30 HT_.out HW_.out hHeld (hr := by rintro w' ⟨s0, s1, s2, s3, s4, s5, s6, s7, s8, s9, s10, s11, s12, s13, s14⟩; go_simp; with_reducible rfl) (h := ?_)
     refine one_ (i := 4) (N := some 33) #[true, true, true, true, true, false, false, false, false, false, false, false, false, false, false, false, false, false, false, false, false, false, false, false, false, false, false, false, false, false, false, false, false, false] rfl rfl (one_of HT_.out (by kernel_rfl)) (by decide) (fun K hK => ?_)
     refine goes_ Try.func49 (by kernel_rfl) rfl #[.int .i64 ((rd_T56 l1 x22_2).f1), .int .i64 1, .int .i64 (x6_2.length : Int)] (by rfl) rfl rfl (by (try simp only [List.map_toArray, List.map_cons, List.map_nil]); first | done | rfl | (simp only [List.length_drop, List.length_take]; rfl)) ?_
     with_reducible refine (impl_within.calls ((rd_T56 l1 x22_2).f1) 1 (x6_2.length : Int) true _ A18.out).mono ?_
     rintro e w' ⟨rfl, ⟨nd, rfl⟩⟩
     refine ⟨_, rfl, ?_⟩
     refine hK.out _ _ ⟨(blk_cell BK326.out 0).trans rfl, (blk_cell BK326.out 1).trans rfl, (blk_cell BK326.out 2).trans rfl, (blk_cell BK326.out 3).trans rfl, (blk_cell BK326.out 4).trans rfl, hHeld.2.2.2.2.2.1, hHeld.2.2.2.2.2.2.1, hHeld.2.2.2.2.2.2.2.1, hHeld.2.2.2.2.2.2.2.2.1, hHeld.2.2.2.2.2.2.2.2.2.1, hHeld.2.2.2.2.2.2.2.2.2.2.1, hHeld.2.2.2.2.2.2.2.2.2.2.2.1, hHeld.2.2.2.2.2.2.2.2.2.2.2.2.1, hHeld.2.2.2.2.2.2.2.2.2.2.2.2.2.1, hHeld.2.2.2.2.2.2.2.2.2.2.2.2.2.2⟩ (fun hHeld => ?_)
     clear hK K
     refine norm_ (a' := ?_) ?_ ?_
     rotate_left
     ·
      show Act.put _ (some 33) _ = _
      simp only [Act.put, List.setIfInBounds_toArray, List.set_cons_zero, List.set_cons_succ, i64_w, i32_w]
      rfl
     refine pureS 5 34 HT_.out ?_
     refine pureS 6 35 HT_.out ?_
     refine pureS 7 36 HT_.out ?_
     refine pureS 9 38 HT_.out ?_
     refine takeS 8 37 HT_.out HW_.out hHeld (hr := by rintro w' ⟨s0, s1, s2, s3, s4, s5, s6, s7, s8, s9, s10, s11, s12, s13, s14⟩; go_simp; with_reducible rfl) (h := ?_)
     refine pureS 10 39 HT_.out ?_
     refine pureS 11 40 HT_.out ?_
     refine pureS 12 41 HT_.out ?_
     refine pureS 13 42 HT_.out ?_
     refine pureS 15 44 HT_.out ?_
     refine pureS 16 45 HT_.out ?_
     refine pureS 23 52 HT_.out ?_
     refine pureS 24 53 HT_.out ?_
     refine takeS 14 43 HT_.out HW_.out hHeld (hr := by rintro w' ⟨s0, s1, s2, s3, s4, s5, s6, s7, s8, s9, s10, s11, s12, s13, s14⟩; go_simp; with_reducible rfl) (h := ?_)
     refine takeS 17 46 HT_.out HW_.out hHeld (hr := by rintro w' ⟨s0, s1, s2, s3, s4, s5, s6, s7, s8, s9, s10, s11, s12, s13, s14⟩; go_simp; with_reducible rfl) (h := ?_)
     refine pureS 18 47 HT_.out ?_
     refine pureS 19 48 HT_.out ?_
     refine pureS 20 49 HT_.out ?_
     refine takeS 21 50 HT_.out HW_.out hHeld (hr := by rintro w' ⟨s0, s1, s2, s3, s4, s5, s6, s7, s8, s9, s10, s11, s12, s13, s14⟩; go_simp; with_reducible rfl) (h := ?_)
     refine pureS 22 51 HT_.out ?_
     refine takeS 25 54 HT_.out HW_.out hHeld (hr := by rintro w' ⟨s0, s1, s2, s3, s4, s5, s6, s7, s8, s9, s10, s11, s12, s13, s14⟩; go_simp; with_reducible rfl) (h := ?_)
     refine pureS 26 55 HT_.out ?_
     refine pureS 27 56 HT_.out ?_
     refine pureS 28 57 HT_.out ?_
     refine pureS 29 58 HT_.out ?_
     refine takeS 30 59 HT_.out HW_.out hHeld (hr := by rintro w' ⟨s0, s1, s2, s3, s4, s5, s6, s7, s8, s9, s10, s11, s12, s13, s14⟩; go_simp; with_reducible rfl) (h := ?_)
     refine one_ (i := 31) (N := some 60) #[true, true, true, true, true, true, true, true, true, true, true, true, true, true, true, true, true, true, true, true, true, true, true, true, true, true, true, true, true, true, true, true, false, false] rfl rfl (one_of HT_.out (by kernel_rfl)) (by decide) (fun K hK => ?_)
     refine goes_ Try.func49 (by kernel_rfl) rfl #[.int .i64 ((rd_T56 l1 x22_2).f3), .int .i64 (wrap64 (((rd_T56 x6_2 (ji27)).f3) + 1)), .int .i64 ((rd_T56 x6_2 (ji27)).f2.f1)] (by rfl) rfl rfl (by (try simp only [List.map_toArray, List.map_cons, List.map_nil]); first | done | (simp only [hji27]; rfl) | rfl | (simp only [List.length_drop, List.length_take]; rfl)) ?_
     have H := H_.out
     clear H_
     by_cases c31 : t330 = true
     rotate_left
     ·
      replace c31 := Bool.eq_false_iff.mpr c31
      subst c31
      rw [if_neg fne] at H
      simp only [Option.some.injEq, Prod.mk.injEq] at H
      obtain ⟨rfl, rfl⟩ := H
      with_reducible refine (impl_within.calls ((rd_T56 l1 x22_2).f3) (wrap64 (((rd_T56 x6_2 (ji27)).f3) + 1)) ((rd_T56 x6_2 (ji27)).f2.f1) false _ A30.out).mono ?_
      rintro e w' ⟨rfl, ⟨nd, rfl⟩⟩
      refine ⟨_, rfl, ?_⟩
      refine hK.out _ _ ⟨(blk_cell BK326.out 0).trans rfl, (blk_cell BK326.out 1).trans rfl, (blk_cell BK326.out 2).trans rfl, (blk_cell BK326.out 3).trans rfl, (blk_cell BK326.out 4).trans rfl, hHeld.2.2.2.2.2.1, hHeld.2.2.2.2.2.2.1, hHeld.2.2.2.2.2.2.2.1, hHeld.2.2.2.2.2.2.2.2.1, hHeld.2.2.2.2.2.2.2.2.2.1, hHeld.2.2.2.2.2.2.2.2.2.2.1, hHeld.2.2.2.2.2.2.2.2.2.2.2.1, hHeld.2.2.2.2.2.2.2.2.2.2.2.2.1, hHeld.2.2.2.2.2.2.2.2.2.2.2.2.2.1, hHeld.2.2.2.2.2.2.2.2.2.2.2.2.2.2⟩ (fun hHeld => ?_)
      clear hK K
      refine norm_ (a' := ?_) ?_ ?_
      rotate_left
      ·
       show Act.put _ (some 60) _ = _
       simp only [Act.put, List.setIfInBounds_toArray, List.set_cons_zero, List.set_cons_succ, i64_w, i32_w]
       rfl
      refine pureS 32 61 HT_.out ?_
      refine pureS 33 62 HT_.out ?_
      refine done_ (done_of HT_.out (by kernel_rfl)) ?_
      try go_wp2
      go_ret2
      exact ⟨_, by first | rfl | (simp [errW_none, errW_some] <;> rfl) | (simp only [← hji27]; first | rfl | (simp [errW_none, errW_some] <;> rfl)) | (simp [*, errW_none, errW_some] <;> rfl), by first | exact Kd.R_nil _ _ _ _ _ | exact Kd.N_nil _ _ _ _ _ | exact Kd.V_nil _ _ _ _ _ | exact Kd.Q_nil _ _ _ _ _ | exact Kd.S_nil _ _ _ _ _, bs2 HB GE320 GE326⟩
     subst c31
     rw [if_pos rfl] at H
     obtain ⟨y331, hy331⟩ : ∃ y_ : List (S56), y_ = (x6_2.set ((ji27) : Int).toNat (⟨(rd_T56 x6_2 (ji27)).f0, (rd_T56 x6_2 (ji27)).f1, (⟨(rd_T56 x6_2 (ji27)).f2.f0, (rd_T56 x6_2 (ji27)).f2.f1⟩ : S40), (rd_T56 l1 x22_2).f3⟩ : S56)) := ⟨_, rfl⟩
     replace H : (impl_intentsOf.l0 k2 y331 l1 (l1.length : Int) (wrap64 (x22_2 + 1)) a0_0 l0_1 l0_2) = some (r1, r2) := by first | (rw [hy331]; with_reducible exact H) | (have H2_ := (Option.bind_some _ _).symm.trans H; rw [hy331]; with_reducible exact H2_) | (have H2_ := (Option.bind_some _ _).symm.trans H; with_reducible exact H2_) | with_reducible exact H | (rw [hy331]; exact H) | exact H
     have Ny331 := Ah hy331
     clear hy331
     have H' := Ah H
     clear H
     with_reducible refine (impl_within.calls ((rd_T56 l1 x22_2).f3) (wrap64 (((rd_T56 x6_2 (ji27)).f3) + 1)) ((rd_T56 x6_2 (ji27)).f2.f1) true _ A30.out).mono ?_
     rintro e w' ⟨rfl, ⟨nd, rfl⟩⟩
     refine ⟨_, rfl, ?_⟩
     refine hK.out _ _ ⟨(blk_cell BK326.out 0).trans rfl, (blk_cell BK326.out 1).trans rfl, (blk_cell BK326.out 2).trans rfl, (blk_cell BK326.out 3).trans rfl, (blk_cell BK326.out 4).trans rfl, hHeld.2.2.2.2.2.1, hHeld.2.2.2.2.2.2.1, hHeld.2.2.2.2.2.2.2.1, hHeld.2.2.2.2.2.2.2.2.1, hHeld.2.2.2.2.2.2.2.2.2.1, hHeld.2.2.2.2.2.2.2.2.2.2.1, hHeld.2.2.2.2.2.2.2.2.2.2.2.1, hHeld.2.2.2.2.2.2.2.2.2.2.2.2.1, hHeld.2.2.2.2.2.2.2.2.2.2.2.2.2.1, hHeld.2.2.2.2.2.2.2.2.2.2.2.2.2.2⟩ (fun hHeld => ?_)
     clear hK K
     refine norm_ (a' := ?_) ?_ ?_
     rotate_left
     ·
      show Act.put _ (some 60) _ = _
      simp only [Act.put, List.setIfInBounds_toArray, List.set_cons_zero, List.set_cons_succ, i64_w, i32_w]
      rfl
     refine pureS 32 61 HT_.out ?_
     refine pureS 33 62 HT_.out ?_
     refine done_ (done_of HT_.out (by kernel_rfl)) ?_
     obtain ⟨hcz39_0, hcz39_1, hcz39_2, hcz39_3, hcz39_4⟩ := cz5 BK326
     obtain ⟨hfz39_0, hfz39_1, hfz39_2, hfz39_3, hfz39_4⟩ := fz5 BK326
     have p32 : 0 ≤ ((ji27) : Int) := od
     have q32 : ((ji27) : Int) < ((x6_2.length : Int) : Int) := od
     obtain ⟨go32, co32, eo32, gb32, gl32, cl32, HG32⟩ := Kd.R_form HO_6.out (by omega)
     (first | cases eo32 | (injection eo32 with ea_ en_ ec_; (first | subst ea_ | (injection ea_ with ea_; subst ea_)); subst ec_; clear en_))
     have GB32 := Ah gb32
     have GG32 := Ah HG32
     clear gb32 gl32 HG32
     (first | simp only [add_plain] at hx328_0 | skip)
     (first | simp only [add_plain] at hx328_1 | skip)
     (first | simp only [add_plain] at hx328_2 | skip)
     (first | simp only [add_plain] at hx328_3 | skip)
     (first | simp only [add_plain] at hx328_4 | skip)
     (first | simp only [add_plain] at hx329_0 | skip)
     (first | simp only [add_plain] at hx329_1 | skip)
     (first | simp only [add_plain] at hx329_2 | skip)
     (first | simp only [add_plain] at hx329_3 | skip)
     (first | simp only [add_plain] at hx329_4 | skip)
     obtain ⟨ce32, hcl32, hM32, hcc32, hfr32⟩ := Kd.R_elem HO_6.out z56 ((ji27) : Int) p32 q32
     obtain rfl := k56_openM hM32
     have hx32_0 : w37.cell? ⟨go32, ((ji27) : Int).toNat * 5, none⟩ = some (.int .i64 ((rd_T56 x6_2 (ji27)).f0)) := hcc32 0 _ rfl
     have hx32_1 : w37.cell? ⟨go32, ((ji27) : Int).toNat * 5 + 1, none⟩ = some (.int .i64 ((rd_T56 x6_2 (ji27)).f1)) := hcc32 1 _ rfl
     have hx32_2 : w37.cell? ⟨go32, ((ji27) : Int).toNat * 5 + 2, none⟩ = some (.int .i64 ((rd_T56 x6_2 (ji27)).f2.f0)) := hcc32 2 _ rfl
     have hx32_3 : w37.cell? ⟨go32, ((ji27) : Int).toNat * 5 + 3, none⟩ = some (.int .i64 ((rd_T56 x6_2 (ji27)).f2.f1)) := hcc32 3 _ rfl
     have hx32_4 : w37.cell? ⟨go32, ((ji27) : Int).toNat * 5 + 4, none⟩ = some (.int .i64 ((rd_T56 x6_2 (ji27)).f3)) := hcc32 4 _ rfl
     have hf32_0 : w37.frozen? ⟨go32, ((ji27) : Int).toNat * 5, none⟩ = false := hfr32 0
     have hf32_1 : w37.frozen? ⟨go32, ((ji27) : Int).toNat * 5 + 1, none⟩ = false := hfr32 1
     have hf32_2 : w37.frozen? ⟨go32, ((ji27) : Int).toNat * 5 + 2, none⟩ = false := hfr32 2
     have hf32_3 : w37.frozen? ⟨go32, ((ji27) : Int).toNat * 5 + 3, none⟩ = false := hfr32 3
     have hf32_4 : w37.frozen? ⟨go32, ((ji27) : Int).toNat * 5 + 4, none⟩ = false := hfr32 4
     clear hcl32 hcc32 hfr32 hM32
     replace p32 := eq_true p32
     replace q32 := eq_true q32
     have HX40 := Ah (show Kd.R k56 56 w37 w.heap.size (fun k_ => k_ ≠ gb326) (.slice (some ⟨go32, 0, none⟩) x6_2.length co38) x6_2 from (rr HO_6.out))
     obtain ⟨ce40, hcl40, hM40, hcc40, hfr40⟩ := Kd.R_elem HX40.out z56 ((ji27) : Int) (od) (by have h_ : ((ji27) : Int) < ((x6_2.length : Int) : Int) := od; first | exact h_ | (have e_ := (Kd.R_reads' HO_6.out).1; omega) | simpa using h_)
     obtain rfl := k56_openM hM40
     have HP40 := Kd.R_seg HX40.out ((ji27) : Int) (od) (by have h_ : ((ji27) : Int) < ((x6_2.length : Int) : Int) := od; first | exact h_ | (have e_ := (Kd.R_reads' HO_6.out).1; omega) | simpa using h_) (seg := [.int .i64 ((rd_T56 l1 x22_2).f3)]) (j := 4) hcl40 hcc40 (show 5 ≤ 5 from by decide) (x' := (⟨(rd_T56 x6_2 (ji27)).f0, (rd_T56 x6_2 (ji27)).f1, (⟨(rd_T56 x6_2 (ji27)).f2.f0, (rd_T56 x6_2 (ji27)).f2.f1⟩ : S40), (rd_T56 l1 x22_2).f3⟩ : S56)) (k56_mkM _ _ _ (⟨(rd_T56 x6_2 (ji27)).f0, (rd_T56 x6_2 (ji27)).f1, (⟨(rd_T56 x6_2 (ji27)).f2.f0, (rd_T56 x6_2 (ji27)).f2.f1⟩ : S40), (rd_T56 l1 x22_2).f3⟩ : S56) ) (fun _ hk => hk)
     have hx40_4 := hcc40 4 _ rfl
     (try simp only [show (k56).sz = 5 from rfl, Nat.mul_one, Nat.add_zero] at hx40_4)
     have hf40_4 := hfr40 4
     (try simp only [show (k56).sz = 5 from rfl, Nat.mul_one, Nat.add_zero] at hf40_4)
     clear hcl40 hcc40 hfr40 hM40
     try go_wp2_with (first | ((with_reducible refine gate_store (t := 3) (p := 70) rfl ?_); (try (rw [drewN_self w37]; generalize hq_ : World.drewN w37 _ = w37; replace HO_6 := Ah (Kd.R_at hq_ HO_6.out); replace BK320 := Ah (blk_at hq_ BK320.out); replace BK326 := Ah (blk_at hq_ BK326.out); replace HB := Ah (below_at hq_ HB.out); clear hq_; (try (have HX40 := Ah (show Kd.R k56 56 w37 w.heap.size (fun k_ => k_ ≠ gb326) (.slice (some ⟨go32, 0, none⟩) x6_2.length co38) x6_2 from (rr HO_6.out)))); (try (obtain ⟨ce40, hcl40, hM40, hcc40, hfr40⟩ := Kd.R_elem HX40.out z56 ((ji27) : Int) (od) (by have h_ : ((ji27) : Int) < ((x6_2.length : Int) : Int) := od; first | exact h_ | (have e_ := (Kd.R_reads' HO_6.out).1; omega) | simpa using h_))); (try (obtain rfl := k56_openM hM40)); (try (have HP40 := Kd.R_seg HX40.out ((ji27) : Int) (od) (by have h_ : ((ji27) : Int) < ((x6_2.length : Int) : Int) := od; first | exact h_ | (have e_ := (Kd.R_reads' HO_6.out).1; omega) | simpa using h_) (seg := [.int .i64 ((rd_T56 l1 x22_2).f3)]) (j := 4) hcl40 hcc40 (show 5 ≤ 5 from by decide) (x' := (⟨(rd_T56 x6_2 (ji27)).f0, (rd_T56 x6_2 (ji27)).f1, (⟨(rd_T56 x6_2 (ji27)).f2.f0, (rd_T56 x6_2 (ji27)).f2.f1⟩ : S40), (rd_T56 l1 x22_2).f3⟩ : S56)) (k56_mkM _ _ _ (⟨(rd_T56 x6_2 (ji27)).f0, (rd_T56 x6_2 (ji27)).f1, (⟨(rd_T56 x6_2 (ji27)).f2.f0, (rd_T56 x6_2 (ji27)).f2.f1⟩ : S40), (rd_T56 l1 x22_2).f3⟩ : S56) ) (fun _ hk => hk))); (try (have hx40_4 := hcc40 4 _ rfl)); (try (try simp only [show (k56).sz = 5 from rfl, Nat.mul_one, Nat.add_zero] at hx40_4)); (try (have hf40_4 := hfr40 4)); (try (try simp only [show (k56).sz = 5 from rfl, Nat.mul_one, Nat.add_zero] at hf40_4)); (try (clear hcl40 hcc40 hfr40 hM40)))); refine store_event (t := 3) (p := 70) (v := ?vo_w41) (w1 := (w37.setCell ⟨go32, ((ji27) : Int).toNat * 5 + 4, none⟩ (.int .i64 ((rd_T56 l1 x22_2).f3)))) ?hg ?ho ?hn ?hr ?_; (case ho => rfl); (case hg => rfl); (case hn => rfl); (case hr => first | (go_simp; done) | (go_simp; rfl)); intro w41 hw; have hg : w37.grownBy w41 (some go32) := (by rw [hw]; exact HP40.2); have hp_ : Kd.R k56 56 w41 w.heap.size (fun k_ => k_ ≠ gb326) (.slice (some ⟨go32, 0, none⟩) x6_2.length co38) y331 := (by rw [hw, Ny331.out]; exact HP40.1); clear HP40; replace BK320 := Ah (blk_grown (bk BK320) hg (Kd.R_ne HO_6.out BK320.out (by decide))); replace BK326 := Ah (blk_grown (bk BK326) hg (Kd.R_away HO_6.out (fun _ hk => hk))); replace HO_6 := Ah (hp_); replace HB := Ah ((by rw [hw]; exact below_set (HB.out) GB32.out : Below w.heap.size w w41)); clear hg hw hp_))
     go_roundg k2
     case measure => have := HJ2.out; have := HK2.out; omega
     case rel => exact ⟨(y331), (wrap64 (x22_2 + 1)), e3, H', ⟨by have := HJ2.out; have := HK2.out; omega⟩, rm HO_6 (fun _ hk => trivial), ⟨bk BK320⟩, ⟨bs2 HB GE320 GE326⟩⟩
def impl_goodIntents.f (k : Nat) (a0_0 : Int) (l0_1 : List (S40)) (l0_2 : List (S40)) (a0_3 : Int) (l0_4 : List (S56)) : Option ((List (S56)) × Bool) := (impl_intentsOf.f k a0_0 l0_1 l0_2 l0_4).bind fun bt339 => (if bt339.2 = true then (if a0_3 = (wrap64 ((bt339.1.length : Int) + 1)) then (some (bt339.1, true)) else (some (([] : List (S56)), false))) else (some (([] : List (S56)), false)))
theorem impl_goodIntents.mono : ∀ a0 a1 a2 a3 a4 k, LeO (impl_goodIntents.f k a0 a1 a2 a3 a4) (impl_goodIntents.f (k + 1) a0 a1 a2 a3 a4) := by
 intro a0 a1 a2 a3 a4 k
 unfold impl_goodIntents.f
 repeat' first
   | (with_reducible exact impl_intentsOf.mono _ _ _ _ _)
   | (with_reducible exact LeO.refl _)
   | (with_reducible exact LeO.none _)
   | (with_reducible refine LeO.ite ?_ ?_)
   | (with_reducible refine LeO.bind ?_ (fun _ => ?_))
   | exact impl_intentsOf.mono _ _ _ _ _
   | exact LeO.none _
   | refine LeO.ite ?_ ?_
   | refine LeO.bind ?_ (fun _ => ?_)
set_option maxHeartbeats 8000000 in
set_option maxRecDepth 100000 in
theorem impl_goodIntents.calls (k : Nat) (a0_0 : Int) (A0_1 : Option Addr) (c0_1 : Nat) (l0_1 : List (S40)) (A0_2 : Option Addr) (c0_2 : Nat) (l0_2 : List (S40)) (a0_3 : Int) (A0_4 : Option Addr) (c0_4 : Nat) (l0_4 : List (S56)) (r1 : List (S56)) (r2 : Bool) (w : World) (hr0_1 : Kd.C k40 w A0_1 l0_1.length l0_1) (hc0_1 : l0_1.length ≤ c0_1) (hr0_2 : Kd.C k40 w A0_2 l0_2.length l0_2) (hc0_2 : l0_2.length ≤ c0_2) (hr0_4 : Kd.C k56 w A0_4 l0_4.length l0_4) (hc0_4 : l0_4.length ≤ c0_4) (h : impl_goodIntents.f k a0_0 l0_1 l0_2 a0_3 l0_4 = some (r1, r2)) :
  Calls Try.prog 56 #[.agg #[.int .i64 a0_0, .slice A0_1 l0_1.length c0_1, .slice A0_2 l0_2.length c0_2, .int .i64 a0_3, .slice A0_4 l0_4.length c0_4]] w fun e w' => ∃ v0_ : Value, e = .returned (.tuple #[v0_, .bool r2]) ∧ Kd.R k56 56 w' w.heap.size (fun _ => True) v0_ r1 ∧ Below w.heap.size w w' := by
 have hu36 := Try.underlying36
 have hu33 := Try.underlying33
 have HR0_1 := Ah hr0_1
 have HC0_1 := Ah hc0_1
 clear hr0_1 hc0_1
 have HR0_2 := Ah hr0_2
 have HC0_2 := Ah hc0_2
 clear hr0_2 hc0_2
 have HR0_4 := Ah hr0_4
 have HC0_4 := Ah hc0_4
 clear hr0_4 hc0_4
 have HB := Ah (Below.refl w.heap.size w)
 have H : ((impl_intentsOf.f k a0_0 l0_1 l0_2 l0_4).bind fun bt339 => (if bt339.2 = true then (if a0_3 = (wrap64 ((bt339.1.length : Int) + 1)) then (some (bt339.1, true)) else (some (([] : List (S56)), false))) else (some (([] : List (S56)), false)))) = some (r1, r2) := h
 clear h
 replace H := Option.bind_eq_some_iff.mp H
 obtain ⟨⟨t339, t342⟩, A20, H⟩ := H
 try dsimp only at H
 have A2 := Ah A20
 clear A20
 by_cases c3 : t342 = true
 rotate_left
 ·
  replace c3 := Bool.eq_false_iff.mpr c3
  subst c3
  rw [if_neg fne] at H
  simp only [Option.some.injEq, Prod.mk.injEq] at H
  obtain ⟨rfl, rfl⟩ := H
  go_enter Try.func56, Try.ntmps56
  go_wp2_with (first | ((with_reducible refine gate_dst (N := 1) rfl ?_); (try (refine gate_guard (by rfl) ?_; dsimp only)); refine boxL 1 36 #[.int .i64 a0_0, .slice A0_1 l0_1.length c0_1, .slice A0_2 l0_2.length c0_2, .int .i64 a0_3, .slice A0_4 l0_4.length c0_4] ?_; intro gb338 hg w15 BK338 hb; have GW338 := gw hg (bs HB); have GE338 := gw hg (bs HB); replace HB := Ah (below_step (bs HB) hb); clear hb hg; obtain ⟨hcz16_0, hcz16_1, hcz16_2, hcz16_3, hcz16_4⟩ := cz5 BK338; obtain ⟨hfz16_0, hfz16_1, hfz16_2, hfz16_3, hfz16_4⟩ := fz5 BK338) | ((with_reducible refine gate_callee (f := 32) rfl ?_); refine gL (some 11) rfl rfl Try.func32 (by kernel_rfl) rfl #[.agg #[.int .i64 a0_0, .slice A0_1 l0_1.length c0_1, .slice A0_2 l0_2.length c0_2], .slice A0_4 l0_4.length c0_4] rfl ?_; (with_reducible refine (impl_intentsOf.calls k a0_0 _ _ l0_1 _ _ l0_2 _ _ l0_4 t339 false _ ?side1 ?side2 ?side3 ?side4 ?side5 ?side6 A2.out).mono ?_); (case side1 => exact cb HR0_1 HB); (case side2 => exact HC0_1.out); (case side3 => exact cb HR0_2 HB); (case side4 => exact HC0_2.out); (case side5 => exact cb HR0_4 HB); (case side6 => exact HC0_4.out); rintro e w17 ⟨v340, rfl, ho0, hb⟩; refine ⟨_, rfl, ?_⟩; have HO341 := Ah (Kd.R_lower ho0 (below_size (bs1 HB GE338))); replace BK338 := nb BK338 hb; replace HB := Ah (below_step (bs1 HB GE338) hb); (try clear hb ho0)))
  go_ret2
  exact ⟨_, er, by first | exact Kd.R_nil _ _ _ _ _ | exact Kd.N_nil _ _ _ _ _ | exact Kd.V_nil _ _ _ _ _ | exact Kd.Q_nil _ _ _ _ _ | exact Kd.S_nil _ _ _ _ _, bs1 HB GE338⟩
 subst c3
 rw [if_pos rfl] at H
 by_cases c4 : a0_3 = (wrap64 ((t339.length : Int) + 1))
 ·
  rw [if_pos c4] at H
  have c4b0 : (a0_3 == (wrap64 ((t339.length : Int) + 1))) = true := beq_iff_eq.mpr c4
  have c4b1 : (a0_3 != (wrap64 ((t339.length : Int) + 1))) = false := bne_eq_false_iff_eq.mpr c4
  clear c4
  simp only [Option.some.injEq, Prod.mk.injEq] at H
  obtain ⟨rfl, rfl⟩ := H
  go_enter Try.func56, Try.ntmps56
  go_wp2_with (first | ((with_reducible refine gate_dst (N := 1) rfl ?_); (try (refine gate_guard (by rfl) ?_; dsimp only)); refine boxL 1 36 #[.int .i64 a0_0, .slice A0_1 l0_1.length c0_1, .slice A0_2 l0_2.length c0_2, .int .i64 a0_3, .slice A0_4 l0_4.length c0_4] ?_; intro gb338 hg w5 BK338 hb; have GW338 := gw hg (bs HB); have GE338 := gw hg (bs HB); replace HB := Ah (below_step (bs HB) hb); clear hb hg; obtain ⟨hcz6_0, hcz6_1, hcz6_2, hcz6_3, hcz6_4⟩ := cz5 BK338; obtain ⟨hfz6_0, hfz6_1, hfz6_2, hfz6_3, hfz6_4⟩ := fz5 BK338) | ((with_reducible refine gate_callee (f := 32) rfl ?_); refine gL (some 11) rfl rfl Try.func32 (by kernel_rfl) rfl #[.agg #[.int .i64 a0_0, .slice A0_1 l0_1.length c0_1, .slice A0_2 l0_2.length c0_2], .slice A0_4 l0_4.length c0_4] rfl ?_; (with_reducible refine (impl_intentsOf.calls k a0_0 _ _ l0_1 _ _ l0_2 _ _ l0_4 t339 true _ ?side1 ?side2 ?side3 ?side4 ?side5 ?side6 A2.out).mono ?_); (case side1 => exact cb HR0_1 HB); (case side2 => exact HC0_1.out); (case side3 => exact cb HR0_2 HB); (case side4 => exact HC0_2.out); (case side5 => exact cb HR0_4 HB); (case side6 => exact HC0_4.out); rintro e w7 ⟨v340, rfl, ho0, hb⟩; refine ⟨_, rfl, ?_⟩; have HO341 := Ah (Kd.R_lower ho0 (below_size (bs1 HB GE338))); replace BK338 := nb BK338 hb; replace HB := Ah (below_step (bs1 HB GE338) hb); (try clear hb ho0); obtain ⟨hcz8_0, hcz8_1, hcz8_2, hcz8_3, hcz8_4⟩ := cz5 BK338; obtain ⟨hfz8_0, hfz8_1, hfz8_2, hfz8_3, hfz8_4⟩ := fz5 BK338; obtain ⟨Ao9, co9, eo9⟩ := Kd.R_slice HO341.out; subst eo9))
  go_ret2
  exact ⟨_, er, by (with_reducible repeat (first | apply Kd.R_alloc | apply Kd.R_drewN | apply Kd.R_drew)); exact HO341.out, bs1 HB GE338⟩
 rw [if_neg c4] at H
 have c4b0 : (a0_3 == (wrap64 ((t339.length : Int) + 1))) = false := beq_eq_false_iff_ne.mpr c4
 have c4b1 : (a0_3 != (wrap64 ((t339.length : Int) + 1))) = true := bne_iff_ne.mpr c4
 simp only [Option.some.injEq, Prod.mk.injEq] at H
 obtain ⟨rfl, rfl⟩ := H
 go_enter Try.func56, Try.ntmps56
 go_wp2_with (first | ((with_reducible refine gate_dst (N := 1) rfl ?_); (try (refine gate_guard (by rfl) ?_; dsimp only)); refine boxL 1 36 #[.int .i64 a0_0, .slice A0_1 l0_1.length c0_1, .slice A0_2 l0_2.length c0_2, .int .i64 a0_3, .slice A0_4 l0_4.length c0_4] ?_; intro gb338 hg w10 BK338 hb; have GW338 := gw hg (bs HB); have GE338 := gw hg (bs HB); replace HB := Ah (below_step (bs HB) hb); clear hb hg; obtain ⟨hcz11_0, hcz11_1, hcz11_2, hcz11_3, hcz11_4⟩ := cz5 BK338; obtain ⟨hfz11_0, hfz11_1, hfz11_2, hfz11_3, hfz11_4⟩ := fz5 BK338) | ((with_reducible refine gate_callee (f := 32) rfl ?_); refine gL (some 11) rfl rfl Try.func32 (by kernel_rfl) rfl #[.agg #[.int .i64 a0_0, .slice A0_1 l0_1.length c0_1, .slice A0_2 l0_2.length c0_2], .slice A0_4 l0_4.length c0_4] rfl ?_; (with_reducible refine (impl_intentsOf.calls k a0_0 _ _ l0_1 _ _ l0_2 _ _ l0_4 t339 true _ ?side1 ?side2 ?side3 ?side4 ?side5 ?side6 A2.out).mono ?_); (case side1 => exact cb HR0_1 HB); (case side2 => exact HC0_1.out); (case side3 => exact cb HR0_2 HB); (case side4 => exact HC0_2.out); (case side5 => exact cb HR0_4 HB); (case side6 => exact HC0_4.out); rintro e w12 ⟨v340, rfl, ho0, hb⟩; refine ⟨_, rfl, ?_⟩; have HO341 := Ah (Kd.R_lower ho0 (below_size (bs1 HB GE338))); replace BK338 := nb BK338 hb; replace HB := Ah (below_step (bs1 HB GE338) hb); (try clear hb ho0); obtain ⟨hcz13_0, hcz13_1, hcz13_2, hcz13_3, hcz13_4⟩ := cz5 BK338; obtain ⟨hfz13_0, hfz13_1, hfz13_2, hfz13_3, hfz13_4⟩ := fz5 BK338; obtain ⟨Ao14, co14, eo14⟩ := Kd.R_slice HO341.out; subst eo14))
 go_ret2
 exact ⟨_, er, by first | exact Kd.R_nil _ _ _ _ _ | exact Kd.N_nil _ _ _ _ _ | exact Kd.V_nil _ _ _ _ _ | exact Kd.Q_nil _ _ _ _ _ | exact Kd.S_nil _ _ _ _ _, bs1 HB GE338⟩
def impl_GoodWork.f (k : Nat) (a0_0 : Int) (l0_1 : List (S40)) (l0_2 : List (S40)) (a0_3 : Int) (l0_4 : List (S56)) : Option (Bool) := (impl_goodIntents.f k a0_0 l0_1 l0_2 a0_3 l0_4).bind fun bt344 => (some bt344.2)
theorem impl_GoodWork.mono : ∀ a0 a1 a2 a3 a4 k, LeO (impl_GoodWork.f k a0 a1 a2 a3 a4) (impl_GoodWork.f (k + 1) a0 a1 a2 a3 a4) := by
 intro a0 a1 a2 a3 a4 k
 unfold impl_GoodWork.f
 repeat' first
   | (with_reducible exact impl_goodIntents.mono _ _ _ _ _ _)
   | (with_reducible exact LeO.refl _)
   | (with_reducible exact LeO.none _)
   | (with_reducible refine LeO.ite ?_ ?_)
   | (with_reducible refine LeO.bind ?_ (fun _ => ?_))
   | exact impl_goodIntents.mono _ _ _ _ _ _
   | exact LeO.none _
   | refine LeO.ite ?_ ?_
   | refine LeO.bind ?_ (fun _ => ?_)
set_option maxHeartbeats 8000000 in
set_option maxRecDepth 100000 in
theorem impl_GoodWork.calls (k : Nat) (a0_0 : Int) (A0_1 : Option Addr) (c0_1 : Nat) (l0_1 : List (S40)) (A0_2 : Option Addr) (c0_2 : Nat) (l0_2 : List (S40)) (a0_3 : Int) (A0_4 : Option Addr) (c0_4 : Nat) (l0_4 : List (S56)) (r : Bool) (w : World) (hr0_1 : Kd.C k40 w A0_1 l0_1.length l0_1) (hc0_1 : l0_1.length ≤ c0_1) (hr0_2 : Kd.C k40 w A0_2 l0_2.length l0_2) (hc0_2 : l0_2.length ≤ c0_2) (hr0_4 : Kd.C k56 w A0_4 l0_4.length l0_4) (hc0_4 : l0_4.length ≤ c0_4) (h : impl_GoodWork.f k a0_0 l0_1 l0_2 a0_3 l0_4 = some r) :
  Calls Try.prog 33 #[.agg #[.int .i64 a0_0, .slice A0_1 l0_1.length c0_1, .slice A0_2 l0_2.length c0_2, .int .i64 a0_3, .slice A0_4 l0_4.length c0_4]] w fun e w' => e = .returned (.bool r) ∧ Below w.heap.size w w' := by
 have hu36 := Try.underlying36
 have HR0_1 := Ah hr0_1
 have HC0_1 := Ah hc0_1
 clear hr0_1 hc0_1
 have HR0_2 := Ah hr0_2
 have HC0_2 := Ah hc0_2
 clear hr0_2 hc0_2
 have HR0_4 := Ah hr0_4
 have HC0_4 := Ah hc0_4
 clear hr0_4 hc0_4
 have HB := Ah (Below.refl w.heap.size w)
 have H : ((impl_goodIntents.f k a0_0 l0_1 l0_2 a0_3 l0_4).bind fun bt344 => (some bt344.2)) = some r := h
 clear h
 replace H := Option.bind_eq_some_iff.mp H
 obtain ⟨⟨t344, t347⟩, A20, H⟩ := H
 try dsimp only at H
 have A2 := Ah A20
 clear A20
 obtain rfl := Option.some.inj H
 go_enter Try.func33, Try.ntmps33
 go_wp2_with (first | ((with_reducible refine gate_dst (N := 1) rfl ?_); refine boxL 1 36 #[.int .i64 a0_0, .slice A0_1 l0_1.length c0_1, .slice A0_2 l0_2.length c0_2, .int .i64 a0_3, .slice A0_4 l0_4.length c0_4] ?_; intro gb343 hg w3 BK343 hb; have GW343 := gw hg (bs HB); have GE343 := gw hg (bs HB); replace HB := Ah (below_step (bs HB) hb); clear hb hg; obtain ⟨hcz4_0, hcz4_1, hcz4_2, hcz4_3, hcz4_4⟩ := cz5 BK343; obtain ⟨hfz4_0, hfz4_1, hfz4_2, hfz4_3, hfz4_4⟩ := fz5 BK343) | ((with_reducible refine gate_callee (f := 56) rfl ?_); refine gL (some 7) rfl rfl Try.func56 (by kernel_rfl) rfl #[.agg #[.int .i64 a0_0, .slice A0_1 l0_1.length c0_1, .slice A0_2 l0_2.length c0_2, .int .i64 a0_3, .slice A0_4 l0_4.length c0_4]] rfl ?_; (with_reducible refine (impl_goodIntents.calls k a0_0 _ _ l0_1 _ _ l0_2 a0_3 _ _ l0_4 t344 t347 _ ?side1 ?side2 ?side3 ?side4 ?side5 ?side6 A2.out).mono ?_); (case side1 => exact cb HR0_1 HB); (case side2 => exact HC0_1.out); (case side3 => exact cb HR0_2 HB); (case side4 => exact HC0_2.out); (case side5 => exact cb HR0_4 HB); (case side6 => exact HC0_4.out); rintro e w5 ⟨v345, rfl, ho0, hb⟩; refine ⟨_, rfl, ?_⟩; have HO346 := Ah (Kd.R_lower ho0 (below_size (bs1 HB GE343))); replace BK343 := nb BK343 hb; replace HB := Ah (below_step (bs1 HB GE343) hb); (try clear hb ho0)))
 go_ret
 exact ⟨er, bs1 HB GE343⟩
def impl_ownFree.f (a0_0 : Int) (l0_1 : List (S40)) (l0_2 : List (S40)) : Option (Int × (List (S40)) × (List (S40))) := (impl_Extent_57.f l0_1).bind fun t350 => ((impl_Extent_57.f l0_2).bind fun t353 => (some (a0_0, t350, t353)))
def impl_ownFree.T1 : Bool × List (List Nat × List Nat) := (true, [([], []), ([0], [0]), ([], []), ([2], [2]), ([3], [3]), ([], []), ([5], [5]), ([6, 4], [6]), ([1, 4, 7], [1, 4, 7]), ([8, 7, 0, 1, 2, 3, 4, 5, 6, 7, 8], [8])])
def impl_ownFree.B1 : List Nat := [0, 1, 0, 4, 12, 0, 32, 124, 255, 511]
theorem impl_ownFree.tab1 : rtab .any (opsOf Try.f34 1) = impl_ownFree.T1 := by kernel_rfl
theorem impl_ownFree.bits1 : waitsOk impl_ownFree.T1.2 impl_ownFree.B1 = true := by kernel_rfl
set_option maxHeartbeats 8000000 in
set_option maxRecDepth 100000 in
theorem impl_ownFree.calls (a0_0 : Int) (A0_1 : Option Addr) (c0_1 : Nat) (l0_1 : List (S40)) (A0_2 : Option Addr) (c0_2 : Nat) (l0_2 : List (S40)) (r1 : Int) (r2 : List (S40)) (r3 : List (S40)) (w : World) (hr0_1 : Kd.C k40 w A0_1 l0_1.length l0_1) (hc0_1 : l0_1.length ≤ c0_1) (hr0_2 : Kd.C k40 w A0_2 l0_2.length l0_2) (hc0_2 : l0_2.length ≤ c0_2) (h : impl_ownFree.f a0_0 l0_1 l0_2 = some (r1, r2, r3)) :
  Calls Try.prog 34 #[.agg #[.int .i64 a0_0, .slice A0_1 l0_1.length c0_1, .slice A0_2 l0_2.length c0_2]] w fun e w' => ∃ v1_ v2_ : Value, e = .returned (.agg #[.int .i64 r1, v1_, v2_]) ∧ Kd.R k40 40 w' w.heap.size (fun k_ => some k_ ≠ (v2_ : Value).ownBlock) v1_ r2 ∧ Kd.R k40 40 w' w.heap.size (fun k_ => some k_ ≠ (v1_ : Value).ownBlock) v2_ r3 ∧ Below w.heap.size w w' := by
 have hu33 := Try.underlying33
 have HR0_1 := Ah hr0_1
 have HC0_1 := Ah hc0_1
 clear hr0_1 hc0_1
 have HR0_2 := Ah hr0_2
 have HC0_2 := Ah hc0_2
 clear hr0_2 hc0_2
 have HB := Ah (Below.refl w.heap.size w)
 have H : ((impl_Extent_57.f l0_1).bind fun t350 => ((impl_Extent_57.f l0_2).bind fun t353 => (some (a0_0, t350, t353)))) = some (r1, r2, r3) := h
 clear h
 replace H := Option.bind_eq_some_iff.mp H
 obtain ⟨t350, A20, H⟩ := H
 try dsimp only at H
 have A2 := Ah A20
 clear A20
 replace H := Option.bind_eq_some_iff.mp H
 obtain ⟨t353, A30, H⟩ := H
 try dsimp only at H
 have A3 := Ah A30
 clear A30
 simp only [Option.some.injEq, Prod.mk.injEq] at H
 obtain ⟨rfl, rfl, rfl⟩ := H
 go_enter Try.func34, Try.ntmps34
 try go_wp2_with (first | ((with_reducible refine gate_dst (N := 1) rfl ?_); refine boxL 1 33 #[.int .i64 a0_0, .slice A0_1 l0_1.length c0_1, .slice A0_2 l0_2.length c0_2] ?_; intro gb348 hg w4 BK348 hb; have GW348 := gw hg (bs HB); have GE348 := gw hg (bs HB); replace HB := Ah (below_step (bs HB) hb); clear hb hg) | ((with_reducible refine gate_dst (N := 2) rfl ?_); refine boxL 2 33 #[.int .i64 0, .slice none 0 0, .slice none 0 0] ?_; intro gb349 hg w5 BK349 hb; have GW349 := gw hg (bs1 HB GE348); have GE349 := gw hg (bs1 HB GE348); replace HB := Ah (below_step (bs1 HB GE348) hb); have NB348_349 := nn BK348 hg; have NB349_348 := nm BK348 hg; replace BK348 := nb BK348 hb; clear hb hg))
 have n0_ := Ah (blk_drew BK348.out)
 have n1_ := Ah (blk_drew BK349.out)
 have n2_ := Ah (below_drew1 HB.out)
 clear BK348 BK349 HB
 have BK348 := n0_
 have BK349 := n1_
 have HB := n2_
 clear n0_ n1_ n2_
 refine start_ (n := 10) (S := fun w' => w'.cell? ⟨gb348, 0, none⟩ = some (.int .i64 a0_0) ∧ w'.cell? ⟨gb348, 1, none⟩ = some (.slice A0_1 l0_1.length c0_1) ∧ w'.cell? ⟨gb348, 2, none⟩ = some (.slice A0_2 l0_2.length c0_2)) (ds := []) #[false, false, false, false, false, false, false, false, false, false] (by kernel_rfl) rfl rfl ⟨(blk_cell BK348.out 0).trans rfl, (blk_cell BK348.out 1).trans rfl, (blk_cell BK348.out 2).trans rfl⟩ (fun hHeld => ?_); refine with_tabW impl_ownFree.tab1 impl_ownFree.bits1 (fun HT_ HW_ => ?_)
 generalize w5.drew = w6 at BK348 BK349 HB hHeld ⊢
 refine pureS 0 3 HT_.out ?_
 refine pureS 2 5 HT_.out ?_
 refine pureS 5 8 HT_.out ?_
 refine takeS 1 4 HT_.out HW_.out hHeld (hr := by rintro w' ⟨s0, s1, s2⟩; go_simp; with_reducible rfl) (h := ?_)
 refine takeS 3 6 HT_.out HW_.out hHeld (hr := by rintro w' ⟨s0, s1, s2⟩; go_simp; with_reducible rfl) (h := ?_)
 refine takeS 6 9 HT_.out HW_.out hHeld (hr := by rintro w' ⟨s0, s1, s2⟩; go_simp; with_reducible rfl) (h := ?_)
 refine one_ (i := 4) (N := some 7) #[true, true, true, true, true, true, true, false, false, false] rfl rfl (one_of HT_.out (by kernel_rfl)) (by decide) (fun K hK => ?_)
 refine goes_ Try.func57 (by kernel_rfl) rfl #[.slice A0_1 l0_1.length c0_1] (by rfl) rfl rfl (by (try simp only [List.map_toArray, List.map_cons, List.map_nil]); first | done | rfl | (simp only [List.length_drop, List.length_take]; rfl)) ?_
 with_reducible refine (impl_Extent_57.calls _ _ l0_1 t350 _ ?side1 ?side2 A2.out).mono ?_
 (case side1 => exact cb HR0_1 HB)
 (case side2 => exact HC0_1.out)
 rintro e w7 ⟨v351, rfl, ho0, hb⟩
 refine ⟨_, rfl, ?_⟩
 have n0_ := Ah (Kd.R_lower ho0 (below_size (bs2 HB GE348 GE349)))
 have n1_ := Ah (bb BK348 hb)
 have n2_ := Ah (bb BK349 hb)
 have n3_ := Ah (below_step (bs2 HB GE348 GE349) hb)
 clear BK348 BK349 HB
 have HO352 := n0_
 have BK348 := n1_
 have BK349 := n2_
 have HB := n3_
 clear n0_ n1_ n2_ n3_
 (try clear hb)
 (try clear hb2)
 (try clear hk)
 (try clear hi)
 (try clear ho0)
 refine hK.out _ _ ⟨(blk_cell BK348.out 0).trans rfl, (blk_cell BK348.out 1).trans rfl, (blk_cell BK348.out 2).trans rfl⟩ (fun hHeld => ?_)
 clear hK K
 refine norm_ (a' := ?_) ?_ ?_
 rotate_left
 ·
  show Act.put _ (some 7) _ = _
  simp only [Act.put, List.setIfInBounds_toArray, List.set_cons_zero, List.set_cons_succ, i64_w, i32_w]
  rfl
 refine one_ (i := 7) (N := some 10) #[true, true, true, true, true, true, true, true, false, false] rfl rfl (one_of HT_.out (by kernel_rfl)) (by decide) (fun K hK => ?_)
 refine goes_ Try.func57 (by kernel_rfl) rfl #[.slice A0_2 l0_2.length c0_2] (by rfl) rfl rfl (by (try simp only [List.map_toArray, List.map_cons, List.map_nil]); first | done | rfl | (simp only [List.length_drop, List.length_take]; rfl)) ?_
 with_reducible refine (impl_Extent_57.calls _ _ l0_2 t353 _ ?side1 ?side2 A3.out).mono ?_
 (case side1 => exact cb HR0_2 HB)
 (case side2 => exact HC0_2.out)
 rintro e w8 ⟨v354, rfl, ho0, hb⟩
 refine ⟨_, rfl, ?_⟩
 have n0_ := Ah (Kd.R_elder' (rr HO352.out) (Kd.R_base ho0) hb)
 have n1_ := Ah (Kd.R_lower (Kd.R_new' ho0 (Kd.R_lt (rr HO352.out))) (below_size (bs2 HB GE348 GE349)))
 have n2_ := Ah (bb BK348 hb)
 have n3_ := Ah (bb BK349 hb)
 have n4_ := Ah (below_step (bs2 HB GE348 GE349) hb)
 clear HO352 BK348 BK349 HB
 have HO352 := n0_
 have HO355 := n1_
 have BK348 := n2_
 have BK349 := n3_
 have HB := n4_
 clear n0_ n1_ n2_ n3_ n4_
 (try clear hb)
 (try clear hb2)
 (try clear hk)
 (try clear hi)
 (try clear ho0)
 obtain ⟨Ao9, co9, eo9⟩ := Kd.R_slice HO355.out
 (first | subst eo9 | (injection eo9 with f1_ f2_ f3_; have f4_ := f1_.symm; have f5_ := f3_.symm; clear f1_ f2_ f3_; subst f4_; subst f5_))
 obtain ⟨Ao10, co10, eo10⟩ := Kd.R_slice HO352.out
 (first | subst eo10 | (injection eo10 with f1_ f2_ f3_; have f4_ := f1_.symm; have f5_ := f3_.symm; clear f1_ f2_ f3_; subst f4_; subst f5_))
 refine hK.out _ _ ⟨(blk_cell BK348.out 0).trans rfl, (blk_cell BK348.out 1).trans rfl, (blk_cell BK348.out 2).trans rfl⟩ (fun hHeld => ?_)
 clear hK K
 refine norm_ (a' := ?_) ?_ ?_
 rotate_left
 ·
  show Act.put _ (some 10) _ = _
  simp only [Act.put, List.setIfInBounds_toArray, List.set_cons_zero, List.set_cons_succ, i64_w, i32_w]
  rfl
 refine pureS 8 11 HT_.out ?_
 refine one_ (i := 9) (N := none) #[true, true, true, true, true, true, true, true, true, true] rfl rfl (one_of HT_.out (by kernel_rfl)) (by decide) (fun K hK => ?_)
 have hs11 : w8.cell? ⟨gb349, 0, none⟩ = some (.int .i64 0) := (blk_cell BK349.out 0).trans rfl
 have hfs11 := blk_frozen BK349.out 0
 have hns11_0 := NB348_349.out
 have hms11_0 := NB349_348.out
 have hs12 : w8.cell? ⟨gb349, 1, none⟩ = some (.slice none 0 0) := (blk_cell BK349.out 1).trans rfl
 have hfs12 := blk_frozen BK349.out 1
 have hns12_0 := NB348_349.out
 have hms12_0 := NB349_348.out
 have hs13 : w8.cell? ⟨gb349, 2, none⟩ = some (.slice none 0 0) := (blk_cell BK349.out 2).trans rfl
 have hfs13 := blk_frozen BK349.out 2
 have hns13_0 := NB348_349.out
 have hms13_0 := NB349_348.out
 refine skip_ (w1 := ?_) (by rfl) rfl ?_ ?_
 rotate_left
 ·
  go_simp
  rfl
 refine hK.out _ _ ⟨((cell_far (p := ⟨gb349, _, none⟩) NB348_349.out _).trans (((cell_far (p := ⟨gb349, _, none⟩) NB348_349.out _).trans (((cell_far (p := ⟨gb349, _, none⟩) NB348_349.out _).trans (hHeld.1)))))), ((cell_far (p := ⟨gb349, _, none⟩) NB348_349.out _).trans (((cell_far (p := ⟨gb349, _, none⟩) NB348_349.out _).trans (((cell_far (p := ⟨gb349, _, none⟩) NB348_349.out _).trans (hHeld.2.1)))))), ((cell_far (p := ⟨gb349, _, none⟩) NB348_349.out _).trans (((cell_far (p := ⟨gb349, _, none⟩) NB348_349.out _).trans (((cell_far (p := ⟨gb349, _, none⟩) NB348_349.out _).trans (hHeld.2.2))))))⟩ (fun hHeld => ?_)
 clear hK K
 refine done_ (done_of HT_.out (by kernel_rfl)) ?_
 try go_wp2
 refine bodyPost_ret (results_cell_row rfl _ _ gb349 33 #[.int .i64 a0_0, .slice Ao10 t350.length co10, .slice Ao9 t353.length co9] (0, 0) _ rfl (by (with_reducible repeat (first | refine blk_drewN ?_ _ | refine blk_drew ?_ | refine blk_alloc ?_ _)); refine blk_put (cs := #[.int .i64 a0_0, .slice Ao10 t350.length co10, .slice none 0 0]) ?_ 2 _ rfl; (with_reducible repeat (first | refine blk_drewN ?_ _ | refine blk_drew ?_ | refine blk_alloc ?_ _)); refine blk_put (cs := #[.int .i64 a0_0, .slice none 0 0, .slice none 0 0]) ?_ 1 _ rfl; (with_reducible repeat (first | refine blk_drewN ?_ _ | refine blk_drew ?_ | refine blk_alloc ?_ _)); refine blk_put (cs := #[.int .i64 0, .slice none 0 0, .slice none 0 0]) ?_ 0 _ rfl; (with_reducible repeat (first | refine blk_drewN ?_ _ | refine blk_drew ?_ | refine blk_alloc ?_ _)); exact BK349.out) Try.underlying33 rfl (by kernel_rfl)) rfl ?_
 exact ⟨_, _, er, by (with_reducible repeat (first | apply Kd.R_alloc | apply Kd.R_drewN | apply Kd.R_drew)); exact Kd.R_mono (Kd.R_far (p := ⟨gb349, 2, none⟩) (Kd.R_far (p := ⟨gb349, 1, none⟩) (Kd.R_far (p := ⟨gb349, 0, none⟩) (Kd.R_types HO352.out BK349.out (by decide)) (fun _ hk => hk.2) (.int .i64 a0_0)) (fun _ hk => hk.2) (.slice Ao10 t350.length co10)) (fun _ hk => hk.2) (.slice Ao9 t353.length co9)) (fun _ hk => hk.1.2), by (with_reducible repeat (first | apply Kd.R_alloc | apply Kd.R_drewN | apply Kd.R_drew)); exact Kd.R_mono (Kd.R_far (p := ⟨gb349, 2, none⟩) (Kd.R_far (p := ⟨gb349, 1, none⟩) (Kd.R_far (p := ⟨gb349, 0, none⟩) (Kd.R_types HO355.out BK349.out (by decide)) (fun _ hk => hk.2) (.int .i64 a0_0)) (fun _ hk => hk.2) (.slice Ao10 t350.length co10)) (fun _ hk => hk.2) (.slice Ao9 t353.length co9)) (fun _ hk => hk.1.2), bs2 HB GE348 GE349⟩
def impl_Item_40.f (l0 : List (S56)) : Option (List (S56)) := if l0.length * 40 ≤ 140737488355328 then some l0 else none
set_option maxRecDepth 100000 in
theorem impl_Item_40.calls (A0 : Option Addr) (c0 : Nat) (l0 : List (S56)) (r : List (S56)) (w : World) (hr0 : Kd.C k56 w A0 l0.length l0) (hc0 : l0.length ≤ c0) (h : impl_Item_40.f l0 = some r) :
    Calls Try.prog 40 #[.slice A0 l0.length c0] w fun e w' => ∃ v0_ : Value, e = .returned (v0_) ∧ Kd.R k56 56 w' w.heap.size (fun _ => True) v0_ r ∧ Below w.heap.size w w' := by
  have hus := Try.underlying34
  have huu : ∀ w, Sem.run Try.prog (underlying 34) w = .ok (TypeDesc.slice 56) w := run_underlying hus
  have hee : ∀ (w : World) (a : Option Addr) (n c n' c' : Nat), (binOp .eql 34 (.slice a n c) (.slice none n' c')).run Try.prog w = .ok (.bool a.isNone) w := fun w a n c n' c' => Lib.run_eql_slice_nil w _ _ a n c n' c' hus
  unfold impl_Item_40.f at h
  by_cases hl : l0.length * 40 ≤ 140737488355328
  · rw [if_pos hl] at h
    obtain rfl := Option.some.inj h
    have hR := Aside0.mk hr0
    have hL := Aside0.mk hl
    clear hr0 h hl
    rcases A0 with _ | ad
    · have h0 : l0 = [] := by
        rcases Nat.eq_zero_or_pos l0.length with h0 | h0
        · exact List.eq_nil_of_length_eq_zero h0
        · obtain ⟨ad, h, _⟩ := hR.out.2.2 h0
          cases h
      subst h0
      go_enter Try.func40, Try.ntmps40
      go_wp2
      go_ret
      exact ⟨_, rfl, Kd.R_nil _ _ _ _ _, Below.refl _ _⟩
    · go_enter Try.func40, Try.ntmps40
      go_wp2_with (first
        | ((with_reducible refine gate_dst (N := 5) rfl ?_); refine Kd.R_lit k56 _ 56 ?hg (N := 5) ?hd (xs := ([] : List (S56))) (inner := []) (ok := fun _ => True) (okp := fun _ => True) ?hr ?hp (fun _ hk => hk) trivial (Below.refl _ _) (Nat.le_refl _) (by simp) ?_; (case hd => rfl); (case hg => rfl); (case hr => first | (go_simp; done) | (go_simp; rfl)); (case hp => exact (Reps.none _ _)); intro v391 w4 ho5 hb hg_ hnew_; clear hg_ hnew_; have n0_ := Aside0.mk (Kd.R_lower ho5 (Nat.le_refl _)); have n1_ := Aside0.mk hb; clear ho5 hb)
        | ((with_reducible refine gate_builtin (b := .append) (xs := #[.tmp 5, .tmp 6]) rfl ?_); at_builtin; refine Kd.R_append_rows k56 (w0 := w) w.heap.size rfl (.tmp 5) (.tmp 6) 34 56 (.agg #[(.int .i64 0), (.int .i64 0), (.int .i64 0), (.int .i64 0), (.int .i64 0)]) 40 rfl hus info56 rfl (by decide) (by omega) v391 ([] : List (S56)) l0 _ _ _ (fun _ => True) (fun _ => False) rfl rfl ?aO ?aR (fun _ _ h => h) (fun _ h => h.elim) ?aF ?aB ?aS ?aL ?_; (case aR => exact Kd.C_below hR.out n1_.out); (case aB => exact n1_.out); (case aF => exact (fun _ _ => trivial)); (case aO => exact n0_.out); (case aS => exact n1_.out.size); (case aL => have := hL.out; simp only [List.length_nil, Nat.zero_add]; omega); intro v394 w6 ho hb hg hat; rw [List.nil_append] at ho; have m0_ := Aside0.mk ho; have m1_ := Aside0.mk hb; clear n0_ n1_ ho hb hg hat))
      go_ret
      exact ⟨_, rfl, m0_.out, m1_.out⟩
  · rw [if_neg hl] at h
    cases h
end Go.Proofs.Ytpfimjgfojdhhaa.G
