-- Printed by a program of this session (drive.py, by way of the kit's print). Not trusted: Lean checks it.
import Derived.Test.YtoneooblgdoooaaDoorG0
import Derived.Test.YtoneooblgdoooaaDoorG1
import Derived.Test.YtoneooblgdoooaaDoorG2
namespace Go.Proofs.YtoneooblgdoooaaDoor.G
open Go.RowKit Go.Proofs.YtoneooblgdoooaaDoorW.PrintWords Go.Proofs.YtoneooblgdoooaaDoorW.PrintLast Go.Proofs.YtoneooblgdoooaaDoorW.PrintMore
attribute [local go_sem] max2_int min2_int max_two min_two max_three min_three max_four min_four   -- for this text's walks alone
set_option linter.unusedVariables false
set_option linter.unusedSimpArgs false

/-! ### laws_eqInodeS: function 20 -/
def laws_eqInodeS.l0 : Nat → List (S40) → List (S40) → Int → Option (Bool)
 | 0, _, _, _ => none
 | k + 1, x0, x1, x5 => if x5 < (x0.length : Int) then (if 0 ≤ x5 then (if x5 < (x1.length : Int) then ((laws_eqInode.f k ((rd_T40 x0 x5).f0) ((rd_T40 x0 x5).f1) ((rd_T40 x0 x5).f2) ((rd_T40 x1 x5).f0) ((rd_T40 x1 x5).f1) ((rd_T40 x1 x5).f2)).bind fun t230 => (if t230 = true then (laws_eqInodeS.l0 k x0 x1 (wrap64 (x5 + 1))) else (some false))) else (none)) else (none)) else (some true)
def laws_eqInodeS.f (k : Nat) (l0 : List (S40)) (l1 : List (S40)) : Option (Bool) := if (l0.length : Int) = (l1.length : Int) then (laws_eqInodeS.l0 k l0 l1 0) else (some false)
theorem laws_eqInodeS.mono_l : ∀ k, (∀ y0 y1 y2, LeO (laws_eqInodeS.l0 k y0 y1 y2) (laws_eqInodeS.l0 (k + 1) y0 y1 y2))
 | 0 => fun _ _ _ r h => by simp [laws_eqInodeS.l0] at h
 | k + 1 => by
  have ih0 := laws_eqInodeS.mono_l k
  ·
   intro y0 y1 y2
   unfold laws_eqInodeS.l0
   repeat' first
   | (with_reducible exact ih0 _ _ _)
   | (with_reducible exact laws_eqInode.mono _ _ _ _ _ _ _)
   | (with_reducible exact LeO.refl _)
   | (with_reducible exact LeO.none _)
   | (with_reducible refine LeO.ite ?_ ?_)
   | (with_reducible refine LeO.bind ?_ (fun _ => ?_))
   | exact ih0 _ _ _
   | exact laws_eqInode.mono _ _ _ _ _ _ _
   | exact LeO.none _
   | refine LeO.ite ?_ ?_
   | refine LeO.bind ?_ (fun _ => ?_)
theorem laws_eqInodeS.mono : ∀ a0 a1 k, LeO (laws_eqInodeS.f k a0 a1) (laws_eqInodeS.f (k + 1) a0 a1) := by
 intro a0 a1 k
 have ih0 := laws_eqInodeS.mono_l k
 unfold laws_eqInodeS.f
 repeat' first
   | (with_reducible exact ih0 _ _ _)
   | (with_reducible exact laws_eqInode.mono _ _ _ _ _ _ _)
   | (with_reducible exact LeO.refl _)
   | (with_reducible exact LeO.none _)
   | (with_reducible refine LeO.ite ?_ ?_)
   | (with_reducible refine LeO.bind ?_ (fun _ => ?_))
   | exact ih0 _ _ _
   | exact laws_eqInode.mono _ _ _ _ _ _ _
   | exact LeO.none _
   | refine LeO.ite ?_ ?_
   | refine LeO.bind ?_ (fun _ => ?_)
def laws_eqInodeS.T6 : Bool × List (List Nat × List Nat) := (true, [([], []), ([], []), ([0, 1], [0, 1]), ([2], [2]), ([], []), ([], []), ([4, 5], [4, 5]), ([6], [6]), ([3, 7], [3, 7]), ([8], [8])])
def laws_eqInodeS.B6 : List Nat := [0, 0, 3, 7, 0, 0, 48, 112, 255, 511]
theorem laws_eqInodeS.tab6 : rtab .any (opsOf Tryd.f20 6) = laws_eqInodeS.T6 := by kernel_rfl
theorem laws_eqInodeS.bits6 : waitsOk laws_eqInodeS.T6.2 laws_eqInodeS.B6 = true := by kernel_rfl
set_option maxHeartbeats 8000000 in
set_option maxRecDepth 100000 in
theorem laws_eqInodeS.calls (k : Nat) (A0 : Option Addr) (c0 : Nat) (l0 : List (S40)) (A1 : Option Addr) (c1 : Nat) (l1 : List (S40)) (r : Bool) (w : World) (hr0 : Kd.C k40 w A0 l0.length l0) (hc0 : l0.length ≤ c0) (hr1 : Kd.C k40 w A1 l1.length l1) (hc1 : l1.length ≤ c1) (h : laws_eqInodeS.f k l0 l1 = some r) :
  Calls Tryd.prog 20 #[.slice A0 l0.length c0, .slice A1 l1.length c1] w fun e w' => e = .returned (.bool r) ∧ Below w.heap.size w w' := by
 have hu40 := Tryd.underlying40
 have HR0 := Ah hr0
 have HC0 := Ah hc0
 clear hr0 hc0
 have HR1 := Ah hr1
 have HC1 := Ah hc1
 clear hr1 hc1
 have HB := Ah (Below.refl w.heap.size w)
 have H : (if (l0.length : Int) = (l1.length : Int) then (laws_eqInodeS.l0 k l0 l1 0) else (some false)) = some r := h
 clear h
 by_cases c3 : (l0.length : Int) = (l1.length : Int)
 rotate_left
 ·
  rw [if_neg c3] at H
  have c3b0 : ((l0.length : Int) == (l1.length : Int)) = false := beq_eq_false_iff_ne.mpr c3
  have c3b1 : ((l0.length : Int) != (l1.length : Int)) = true := bne_iff_ne.mpr c3
  have c3b2 : (l0.length == l1.length) = false := by first | simpa using c3 | (simp at c3 ⊢; omega)
  obtain rfl := Option.some.inj H
  go_enter Tryd.func20, Tryd.ntmps20
  go_wp2
  go_ret
  exact ⟨er, bs HB⟩
 rw [if_pos c3] at H
 have c3b0 : ((l0.length : Int) == (l1.length : Int)) = true := beq_iff_eq.mpr c3
 have c3b1 : ((l0.length : Int) != (l1.length : Int)) = false := bne_eq_false_iff_eq.mpr c3
 have c3b2 : (l0.length == l1.length) = true := by first | simpa using c3 | (simp at c3 ⊢; omega)
 clear c3
 have H' := Ah H
 clear H
 go_enter Tryd.func20, Tryd.ntmps20
 go_wp2
 go_loopg [5] k (fun kq v5 w' => ∃ (x5_1 : Int), v5 = .int .i64 x5_1 ∧ Aside0 (laws_eqInodeS.l0 kq l0 l1 x5_1 = some r) ∧ Aside0 (kq ≤ k) ∧ Aside0 (Below w.heap.size w w'))
 case atStart => exact ⟨(0), e3, H', ⟨Nat.le_refl _⟩, ⟨bs HB⟩⟩
 case round =>
  clear H'
  try clear c1
  try clear c2
  try clear p2
  try clear c3
  try clear c3b0
  try clear c3b1
  try clear c3b2
  obtain ⟨x5_1, rfl, HA, HK1, HB⟩ := hrel
  cases gk with
  | zero => exact absurd HA.out (by simp [laws_eqInodeS.l0])
  | succ k1 =>
   have H := HA.out
   clear HA
   simp only [laws_eqInodeS.l0] at H
   by_cases c4 : x5_1 < (l0.length : Int)
   rotate_left
   ·
    rw [if_neg c4] at H
    have c4b0 : decide (x5_1 < (l0.length : Int)) = false := decide_eq_false c4
    clear c4
    obtain rfl := Option.some.inj H
    go_wp2
    go_ret
    exact ⟨er, bs HB⟩
   rw [if_pos c4] at H
   have c4b0 : decide (x5_1 < (l0.length : Int)) = true := decide_eq_true c4
   clear c4
   by_cases c5 : 0 ≤ x5_1
   rotate_left
   ·
    rw [if_neg c5] at H
    exact absurd H (by simp)
   rw [if_pos c5] at H
   have c5b0 : decide (0 ≤ x5_1) = true := decide_eq_true c5
   clear c5
   by_cases c6 : x5_1 < (l1.length : Int)
   rotate_left
   ·
    rw [if_neg c6] at H
    exact absurd H (by simp)
   rw [if_pos c6] at H
   have c6b0 : decide (x5_1 < (l1.length : Int)) = true := decide_eq_true c6
   clear c6
   replace H := Option.bind_eq_some_iff.mp H
   obtain ⟨t230, A70, H⟩ := H
   try dsimp only at H
   have A7 := Ah A70
   clear A70
   have H_ := Ah H
   clear H
   try go_wp2
   have n0_ := Ah (below_drew1 HB.out)
   clear HB
   have HB := n0_
   clear n0_
   have p228 : 0 ≤ (x5_1 : Int) := od
   have q228 : x5_1 < (l0.length : Int) := od
   obtain ⟨ad228, A228_2, c228_2, e228, hx228_0, hx228_1, hx228_2, hl228_2, hi228_2⟩ := at_T40 HR0.out x5_1 p228 q228
   have hw228_2 := hx228_2
   have hw228_1 := hx228_1
   have hw228_0 := hx228_0
   cases e228
   replace hx228_0 := (HB.out.cell (World.block_lt_of_cell? w _ hx228_0)).trans hx228_0
   replace hx228_1 := (HB.out.cell (World.block_lt_of_cell? w _ hx228_1)).trans hx228_1
   replace hx228_2 := (HB.out.cell (World.block_lt_of_cell? w _ hx228_2)).trans hx228_2
   have HR228_2 := Ah hi228_2
   have HC228_2 := Ah hl228_2
   clear hi228_2 hl228_2
   replace p228 := eq_true p228
   replace q228 := eq_true q228
   have p229 : 0 ≤ (x5_1 : Int) := od
   have q229 : x5_1 < (l1.length : Int) := od
   obtain ⟨ad229, A229_2, c229_2, e229, hx229_0, hx229_1, hx229_2, hl229_2, hi229_2⟩ := at_T40 HR1.out x5_1 p229 q229
   have hw229_2 := hx229_2
   have hw229_1 := hx229_1
   have hw229_0 := hx229_0
   cases e229
   replace hx229_0 := (HB.out.cell (World.block_lt_of_cell? w _ hx229_0)).trans hx229_0
   replace hx229_1 := (HB.out.cell (World.block_lt_of_cell? w _ hx229_1)).trans hx229_1
   replace hx229_2 := (HB.out.cell (World.block_lt_of_cell? w _ hx229_2)).trans hx229_2
   have HR229_2 := Ah hi229_2
   have HC229_2 := Ah hl229_2
   clear hi229_2 hl229_2
   replace p229 := eq_true p229
   replace q229 := eq_true q229
   refine start_ (n := 10) (S := fun w' => w'.cell? (ad228.add ((x5_1).toNat * 3)) = some (.bool ((rd_T40 l0 x5_1).f0)) ∧ w'.cell? ⟨(ad228.add ((x5_1).toNat * 3)).block, (ad228.add ((x5_1).toNat * 3)).off + 1, none⟩ = some (.int .i64 ((rd_T40 l0 x5_1).f1)) ∧ w'.cell? ⟨(ad228.add ((x5_1).toNat * 3)).block, (ad228.add ((x5_1).toNat * 3)).off + 2, none⟩ = some (.slice A228_2 ((rd_T40 l0 x5_1).f2).length c228_2) ∧ w'.cell? (ad229.add ((x5_1).toNat * 3)) = some (.bool ((rd_T40 l1 x5_1).f0)) ∧ w'.cell? ⟨(ad229.add ((x5_1).toNat * 3)).block, (ad229.add ((x5_1).toNat * 3)).off + 1, none⟩ = some (.int .i64 ((rd_T40 l1 x5_1).f1)) ∧ w'.cell? ⟨(ad229.add ((x5_1).toNat * 3)).block, (ad229.add ((x5_1).toNat * 3)).off + 2, none⟩ = some (.slice A229_2 ((rd_T40 l1 x5_1).f2).length c229_2)) (ds := []) #[false, false, false, false, false, false, false, false, false, false] (by kernel_rfl) rfl rfl ⟨((HB.out.cell (World.block_lt_of_cell? w _ hw228_0)).trans hw228_0), ((HB.out.cell (World.block_lt_of_cell? w _ hw228_1)).trans hw228_1), ((HB.out.cell (World.block_lt_of_cell? w _ hw228_2)).trans hw228_2), ((HB.out.cell (World.block_lt_of_cell? w _ hw229_0)).trans hw229_0), ((HB.out.cell (World.block_lt_of_cell? w _ hw229_1)).trans hw229_1), ((HB.out.cell (World.block_lt_of_cell? w _ hw229_2)).trans hw229_2)⟩ (fun hHeld => ?_); refine with_tabW laws_eqInodeS.tab6 laws_eqInodeS.bits6 (fun HT_ HW_ => ?_)
   generalize wr.drew = w9 at HB HR228_2 HR229_2 hx228_0 hx228_1 hx228_2 hx229_0 hx229_1 hx229_2 hHeld ⊢
   refine pureS 0 17 HT_.out ?_
   refine pureS 1 18 HT_.out ?_
   refine pureS 2 19 HT_.out ?_
   refine pureS 4 21 HT_.out ?_
   refine pureS 5 22 HT_.out ?_
   refine pureS 6 23 HT_.out ?_
   refine takeS 3 20 HT_.out HW_.out hHeld (hr := by rintro w' ⟨s0, s1, s2, s3, s4, s5⟩; go_simp; with_reducible rfl) (h := ?_)
   refine takeS 7 24 HT_.out HW_.out hHeld (hr := by rintro w' ⟨s0, s1, s2, s3, s4, s5⟩; go_simp; with_reducible rfl) (h := ?_)
   refine one_ (i := 8) (N := some 25) #[true, true, true, true, true, true, true, true, true, false] rfl rfl (one_of HT_.out (by kernel_rfl)) (by decide) (fun K hK => ?_)
   refine goes_ Tryd.func28 (by kernel_rfl) rfl #[.agg #[.bool ((rd_T40 l0 x5_1).f0), .int .i64 ((rd_T40 l0 x5_1).f1), .slice A228_2 ((rd_T40 l0 x5_1).f2).length c228_2], .agg #[.bool ((rd_T40 l1 x5_1).f0), .int .i64 ((rd_T40 l1 x5_1).f1), .slice A229_2 ((rd_T40 l1 x5_1).f2).length c229_2]] (by rfl) rfl rfl (by (try simp only [List.map_toArray, List.map_cons, List.map_nil]); first | done | rfl | (simp only [List.length_drop, List.length_take]; rfl)) ?_
   have H := H_.out
   clear H_
   by_cases c8 : t230 = true
   rotate_left
   ·
    replace c8 := Bool.eq_false_iff.mpr c8
    subst c8
    rw [if_neg fne] at H
    obtain rfl := Option.some.inj H
    with_reducible refine (laws_eqInode.calls k1 ((rd_T40 l0 x5_1).f0) ((rd_T40 l0 x5_1).f1) _ _ ((rd_T40 l0 x5_1).f2) ((rd_T40 l1 x5_1).f0) ((rd_T40 l1 x5_1).f1) _ _ ((rd_T40 l1 x5_1).f2) false _ ?side1 ?side2 ?side3 ?side4 A7.out).mono ?_
    (case side1 => exact cb HR228_2 HB)
    (case side2 => exact HC228_2.out)
    (case side3 => exact cb HR229_2 HB)
    (case side4 => exact HC229_2.out)
    rintro e w12 ⟨rfl, hb⟩
    refine ⟨_, rfl, ?_⟩
    have n0_ := Ah (below_step (bs HB) hb)
    clear HB
    have HB := n0_
    clear n0_
    (try clear hb)
    (try clear hb2)
    (try clear hk)
    (try clear hi)
    refine hK.out _ _ ⟨((HB.out.cell (World.block_lt_of_cell? w _ hw228_0)).trans hw228_0), ((HB.out.cell (World.block_lt_of_cell? w _ hw228_1)).trans hw228_1), ((HB.out.cell (World.block_lt_of_cell? w _ hw228_2)).trans hw228_2), ((HB.out.cell (World.block_lt_of_cell? w _ hw229_0)).trans hw229_0), ((HB.out.cell (World.block_lt_of_cell? w _ hw229_1)).trans hw229_1), ((HB.out.cell (World.block_lt_of_cell? w _ hw229_2)).trans hw229_2)⟩ (fun hHeld => ?_)
    clear hK K
    refine norm_ (a' := ?_) ?_ ?_
    rotate_left
    ·
     show Act.put _ (some 25) _ = _
     simp only [Act.put, List.setIfInBounds_toArray, List.set_cons_zero, List.set_cons_succ, i64_w, i32_w]
     rfl
    refine pureS 9 26 HT_.out ?_
    refine done_ (done_of HT_.out (by kernel_rfl)) ?_
    try go_wp2
    go_ret
    exact ⟨er, bs HB⟩
   subst c8
   rw [if_pos rfl] at H
   have H' := Ah H
   clear H
   with_reducible refine (laws_eqInode.calls k1 ((rd_T40 l0 x5_1).f0) ((rd_T40 l0 x5_1).f1) _ _ ((rd_T40 l0 x5_1).f2) ((rd_T40 l1 x5_1).f0) ((rd_T40 l1 x5_1).f1) _ _ ((rd_T40 l1 x5_1).f2) true _ ?side1 ?side2 ?side3 ?side4 A7.out).mono ?_
   (case side1 => exact cb HR228_2 HB)
   (case side2 => exact HC228_2.out)
   (case side3 => exact cb HR229_2 HB)
   (case side4 => exact HC229_2.out)
   rintro e w10 ⟨rfl, hb⟩
   refine ⟨_, rfl, ?_⟩
   have n0_ := Ah (below_step (bs HB) hb)
   clear HB
   have HB := n0_
   clear n0_
   (try clear hb)
   (try clear hb2)
   (try clear hk)
   (try clear hi)
   refine hK.out _ _ ⟨((HB.out.cell (World.block_lt_of_cell? w _ hw228_0)).trans hw228_0), ((HB.out.cell (World.block_lt_of_cell? w _ hw228_1)).trans hw228_1), ((HB.out.cell (World.block_lt_of_cell? w _ hw228_2)).trans hw228_2), ((HB.out.cell (World.block_lt_of_cell? w _ hw229_0)).trans hw229_0), ((HB.out.cell (World.block_lt_of_cell? w _ hw229_1)).trans hw229_1), ((HB.out.cell (World.block_lt_of_cell? w _ hw229_2)).trans hw229_2)⟩ (fun hHeld => ?_)
   clear hK K
   refine norm_ (a' := ?_) ?_ ?_
   rotate_left
   ·
    show Act.put _ (some 25) _ = _
    simp only [Act.put, List.setIfInBounds_toArray, List.set_cons_zero, List.set_cons_succ, i64_w, i32_w]
    rfl
   refine pureS 9 26 HT_.out ?_
   refine done_ (done_of HT_.out (by kernel_rfl)) ?_
   try go_wp2
   go_roundg k1
   case measure => have := HK1.out; omega
   case rel => exact ⟨(wrap64 (x5_1 + 1)), e3, H', ⟨by have := HK1.out; omega⟩, ⟨bs HB⟩⟩

/-! ### laws_eqNames: function 9 -/
def laws_eqNames.f (k : Nat) (l0_0 : List (S40)) (l1_0 : List (S40)) : Option (Bool) := (laws_eqInodeS.f k l0_0 l1_0).bind fun t233 => (if t233 = true then (some true) else (some false))
theorem laws_eqNames.mono : ∀ a0 a1 k, LeO (laws_eqNames.f k a0 a1) (laws_eqNames.f (k + 1) a0 a1) := by
 intro a0 a1 k
 unfold laws_eqNames.f
 repeat' first
   | (with_reducible exact laws_eqInodeS.mono _ _ _)
   | (with_reducible exact LeO.refl _)
   | (with_reducible exact LeO.none _)
   | (with_reducible refine LeO.ite ?_ ?_)
   | (with_reducible refine LeO.bind ?_ (fun _ => ?_))
   | exact laws_eqInodeS.mono _ _ _
   | exact LeO.none _
   | refine LeO.ite ?_ ?_
   | refine LeO.bind ?_ (fun _ => ?_)
set_option maxHeartbeats 8000000 in
set_option maxRecDepth 100000 in
theorem laws_eqNames.calls (k : Nat) (A0_0 : Option Addr) (c0_0 : Nat) (l0_0 : List (S40)) (A1_0 : Option Addr) (c1_0 : Nat) (l1_0 : List (S40)) (r : Bool) (w : World) (hr0_0 : Kd.C k40 w A0_0 l0_0.length l0_0) (hc0_0 : l0_0.length ≤ c0_0) (hr1_0 : Kd.C k40 w A1_0 l1_0.length l1_0) (hc1_0 : l1_0.length ≤ c1_0) (h : laws_eqNames.f k l0_0 l1_0 = some r) :
  Calls Tryd.prog 9 #[.agg #[.slice A0_0 l0_0.length c0_0], .agg #[.slice A1_0 l1_0.length c1_0]] w fun e w' => e = .returned (.bool r) ∧ Below w.heap.size w w' := by
 have hu29 := Tryd.underlying29
 have HR0_0 := Ah hr0_0
 have HC0_0 := Ah hc0_0
 clear hr0_0 hc0_0
 have HR1_0 := Ah hr1_0
 have HC1_0 := Ah hc1_0
 clear hr1_0 hc1_0
 have HB := Ah (Below.refl w.heap.size w)
 have H : ((laws_eqInodeS.f k l0_0 l1_0).bind fun t233 => (if t233 = true then (some true) else (some false))) = some r := h
 clear h
 replace H := Option.bind_eq_some_iff.mp H
 obtain ⟨t233, A30, H⟩ := H
 try dsimp only at H
 have A3 := Ah A30
 clear A30
 by_cases c4 : t233 = true
 ·
  subst c4
  rw [if_pos rfl] at H
  obtain rfl := Option.some.inj H
  go_enter Tryd.func9, Tryd.ntmps9
  go_wp2_with (first | ((with_reducible refine gate_dst (N := 2) rfl ?_); refine boxL 2 29 #[.slice A0_0 l0_0.length c0_0] ?_; intro gb231 hg w5 BK231 hb; have GW231 := gw hg (bs HB); have GE231 := gw hg (bs HB); replace HB := Ah (below_step (bs HB) hb); clear hb hg) | ((with_reducible refine gate_dst (N := 3) rfl ?_); refine boxL 3 29 #[.slice A1_0 l1_0.length c1_0] ?_; intro gb232 hg w6 BK232 hb; have GW232 := gw hg (bs1 HB GE231); have GE232 := gw hg (bs1 HB GE231); replace HB := Ah (below_step (bs1 HB GE231) hb); have NB231_232 := nn BK231 hg; have NB232_231 := nm BK231 hg; replace BK231 := nb BK231 hb; clear hb hg; have hnb7 := NB231_232.out; have hnc7 := NB232_231.out; have hcz8_0 := cz1 BK231; have hfz8_0 := fz1 BK231; have hcz9_0 := cz1 BK232; have hfz9_0 := fz1 BK232) | ((with_reducible refine gate_callee (f := 20) rfl ?_); refine gL (some 9) rfl rfl Tryd.func20 (by kernel_rfl) rfl #[.slice A0_0 l0_0.length c0_0, .slice A1_0 l1_0.length c1_0] rfl ?_; (with_reducible refine (laws_eqInodeS.calls k _ _ l0_0 _ _ l1_0 true _ ?side1 ?side2 ?side3 ?side4 A3.out).mono ?_); (case side1 => exact cb HR0_0 HB); (case side2 => exact HC0_0.out); (case side3 => exact cb HR1_0 HB); (case side4 => exact HC1_0.out); rintro e w10 ⟨rfl, hb⟩; refine ⟨_, rfl, ?_⟩; replace BK231 := nb BK231 hb; replace BK232 := nb BK232 hb; replace HB := Ah (below_step (bs2 HB GE231 GE232) hb); (try clear hb)))
  go_ret
  exact ⟨er, bs2 HB GE231 GE232⟩
 replace c4 := Bool.eq_false_iff.mpr c4
 subst c4
 rw [if_neg fne] at H
 obtain rfl := Option.some.inj H
 go_enter Tryd.func9, Tryd.ntmps9
 go_wp2_with (first | ((with_reducible refine gate_dst (N := 2) rfl ?_); refine boxL 2 29 #[.slice A0_0 l0_0.length c0_0] ?_; intro gb231 hg w11 BK231 hb; have GW231 := gw hg (bs HB); have GE231 := gw hg (bs HB); replace HB := Ah (below_step (bs HB) hb); clear hb hg) | ((with_reducible refine gate_dst (N := 3) rfl ?_); refine boxL 3 29 #[.slice A1_0 l1_0.length c1_0] ?_; intro gb232 hg w12 BK232 hb; have GW232 := gw hg (bs1 HB GE231); have GE232 := gw hg (bs1 HB GE231); replace HB := Ah (below_step (bs1 HB GE231) hb); have NB231_232 := nn BK231 hg; have NB232_231 := nm BK231 hg; replace BK231 := nb BK231 hb; clear hb hg; have hnb13 := NB231_232.out; have hnc13 := NB232_231.out; have hcz14_0 := cz1 BK231; have hfz14_0 := fz1 BK231; have hcz15_0 := cz1 BK232; have hfz15_0 := fz1 BK232) | ((with_reducible refine gate_callee (f := 20) rfl ?_); refine gL (some 9) rfl rfl Tryd.func20 (by kernel_rfl) rfl #[.slice A0_0 l0_0.length c0_0, .slice A1_0 l1_0.length c1_0] rfl ?_; (with_reducible refine (laws_eqInodeS.calls k _ _ l0_0 _ _ l1_0 false _ ?side1 ?side2 ?side3 ?side4 A3.out).mono ?_); (case side1 => exact cb HR0_0 HB); (case side2 => exact HC0_0.out); (case side3 => exact cb HR1_0 HB); (case side4 => exact HC1_0.out); rintro e w16 ⟨rfl, hb⟩; refine ⟨_, rfl, ?_⟩; replace BK231 := nb BK231 hb; replace BK232 := nb BK232 hb; replace HB := Ah (below_step (bs2 HB GE231 GE232) hb); (try clear hb)))
 go_ret
 exact ⟨er, bs2 HB GE231 GE232⟩

/-! ### laws_FnExactGoodNames: function 3 -/
def laws_FnExactGoodNames.f (k : Nat) (l0_0 : List (S59)) : Option (Bool) := (laws_szNames.f k l0_0 1048576).bind fun t235 => (if t235 < 0 then (some true) else ((laws_toNames.f k l0_0).bind fun t236 => ((spec_GoodNames.f k t236).bind fun t239 => ((laws_toNames.f k l0_0).bind fun t240 => ((impl_GoodNames.f k t240).bind fun t244 => (if (t244 != t239) = true then (some false) else ((laws_toNames.f k l0_0).bind fun t245 => ((laws_eqNames.f k t240 t245).bind fun t248 => (if t248 = true then (some true) else (some false))))))))))
theorem laws_FnExactGoodNames.mono : ∀ a0 k, LeO (laws_FnExactGoodNames.f k a0) (laws_FnExactGoodNames.f (k + 1) a0) := by
 intro a0 k
 unfold laws_FnExactGoodNames.f
 repeat' first
   | (with_reducible exact impl_GoodNames.mono _ _)
   | (with_reducible exact laws_eqNames.mono _ _ _)
   | (with_reducible exact laws_szNames.mono _ _ _)
   | (with_reducible exact laws_toNames.mono _ _)
   | (with_reducible exact spec_GoodNames.mono _ _)
   | (with_reducible exact LeO.refl _)
   | (with_reducible exact LeO.none _)
   | (with_reducible refine LeO.ite ?_ ?_)
   | (with_reducible refine LeO.bind ?_ (fun _ => ?_))
   | exact impl_GoodNames.mono _ _
   | exact laws_eqNames.mono _ _ _
   | exact laws_szNames.mono _ _ _
   | exact laws_toNames.mono _ _
   | exact spec_GoodNames.mono _ _
   | exact LeO.none _
   | refine LeO.ite ?_ ?_
   | refine LeO.bind ?_ (fun _ => ?_)
set_option maxHeartbeats 8000000 in
set_option maxRecDepth 100000 in
theorem laws_FnExactGoodNames.calls (k : Nat) (A0_0 : Option Addr) (c0_0 : Nat) (l0_0 : List (S59)) (r : Bool) (w : World) (hr0_0 : Kd.C k59 w A0_0 l0_0.length l0_0) (hc0_0 : l0_0.length ≤ c0_0) (h : laws_FnExactGoodNames.f k l0_0 = some r) :
  Calls Tryd.prog 3 #[.agg #[.slice A0_0 l0_0.length c0_0]] w fun e w' => e = .returned (.bool r) ∧ Below w.heap.size w w' := by
 have hu24 := Tryd.underlying24
 have hu29 := Tryd.underlying29
 have HR0_0 := Ah hr0_0
 have HC0_0 := Ah hc0_0
 clear hr0_0 hc0_0
 have HB := Ah (Below.refl w.heap.size w)
 have H : ((laws_szNames.f k l0_0 1048576).bind fun t235 => (if t235 < 0 then (some true) else ((laws_toNames.f k l0_0).bind fun t236 => ((spec_GoodNames.f k t236).bind fun t239 => ((laws_toNames.f k l0_0).bind fun t240 => ((impl_GoodNames.f k t240).bind fun t244 => (if (t244 != t239) = true then (some false) else ((laws_toNames.f k l0_0).bind fun t245 => ((laws_eqNames.f k t240 t245).bind fun t248 => (if t248 = true then (some true) else (some false))))))))))) = some r := h
 clear h
 replace H := Option.bind_eq_some_iff.mp H
 obtain ⟨t235, A20, H⟩ := H
 try dsimp only at H
 have A2 := Ah A20
 clear A20
 by_cases c3 : t235 < 0
 ·
  rw [if_pos c3] at H
  have c3b0 : decide (t235 < 0) = true := decide_eq_true c3
  clear c3
  obtain rfl := Option.some.inj H
  go_enter Tryd.func3, Tryd.ntmps3
  go_wp2_with (first | ((with_reducible refine gate_dst (N := 1) rfl ?_); refine boxL 1 24 #[.slice A0_0 l0_0.length c0_0] ?_; intro gb234 hg w4 BK234 hb; have GW234 := gw hg (bs HB); have GE234 := gw hg (bs HB); replace HB := Ah (below_step (bs HB) hb); clear hb hg; have hcz5_0 := cz1 BK234; have hfz5_0 := fz1 BK234) | ((with_reducible refine gate_callee (f := 5) rfl ?_); refine gL (some 9) rfl rfl Tryd.func5 (by kernel_rfl) rfl #[.agg #[.slice A0_0 l0_0.length c0_0], .int .i64 1048576] rfl ?_; (with_reducible refine (laws_szNames.calls k _ _ l0_0 1048576 t235 _ ?side1 ?side2 A2.out).mono ?_); (case side1 => exact cb HR0_0 HB); (case side2 => exact HC0_0.out); rintro e w6 ⟨rfl, hb⟩; refine ⟨_, rfl, ?_⟩; replace BK234 := nb BK234 hb; replace HB := Ah (below_step (bs1 HB GE234) hb); (try clear hb)))
  go_ret
  exact ⟨er, bs1 HB GE234⟩
 rw [if_neg c3] at H
 have c3b0 : decide (t235 < 0) = false := decide_eq_false c3
 clear c3
 replace H := Option.bind_eq_some_iff.mp H
 obtain ⟨t236, A70, H⟩ := H
 try dsimp only at H
 have A7 := Ah A70
 clear A70
 replace H := Option.bind_eq_some_iff.mp H
 obtain ⟨t239, A80, H⟩ := H
 try dsimp only at H
 have A8 := Ah A80
 clear A80
 replace H := Option.bind_eq_some_iff.mp H
 obtain ⟨t240, A90, H⟩ := H
 try dsimp only at H
 have A9 := Ah A90
 clear A90
 replace H := Option.bind_eq_some_iff.mp H
 obtain ⟨t244, A100, H⟩ := H
 try dsimp only at H
 have A10 := Ah A100
 clear A100
 by_cases c11 : (t244 != t239) = true
 ·
  rw [if_pos c11] at H
  have c11b0 : (t244 != t239) = true := c11
  (try (have c11b1 : decide (t244 = t239) = false := by simpa using c11))
  (try (have c11b2 : (t244 == t239) = false := by simpa using c11))
  (try (have c11b3 : ¬ (t244 = t239) := by simpa using c11))
  clear c11
  obtain rfl := Option.some.inj H
  go_enter Tryd.func3, Tryd.ntmps3
  go_wp2_with (first | ((with_reducible refine gate_dst (N := 1) rfl ?_); refine boxL 1 24 #[.slice A0_0 l0_0.length c0_0] ?_; intro gb234 hg w12 BK234 hb; have GW234 := gw hg (bs HB); have GE234 := gw hg (bs HB); replace HB := Ah (below_step (bs HB) hb); clear hb hg; have hcz13_0 := cz1 BK234; have hfz13_0 := fz1 BK234) | ((with_reducible refine gate_callee (f := 5) rfl ?_); refine gL (some 9) rfl rfl Tryd.func5 (by kernel_rfl) rfl #[.agg #[.slice A0_0 l0_0.length c0_0], .int .i64 1048576] rfl ?_; (with_reducible refine (laws_szNames.calls k _ _ l0_0 1048576 t235 _ ?side1 ?side2 A2.out).mono ?_); (case side1 => exact cb HR0_0 HB); (case side2 => exact HC0_0.out); rintro e w14 ⟨rfl, hb⟩; refine ⟨_, rfl, ?_⟩; replace BK234 := nb BK234 hb; replace HB := Ah (below_step (bs1 HB GE234) hb); (try clear hb); have hcz15_0 := cz1 BK234; have hfz15_0 := fz1 BK234) | ((with_reducible refine gate_callee (f := 7) rfl ?_); refine gL (some 13) rfl rfl Tryd.func7 (by kernel_rfl) rfl #[.agg #[.slice A0_0 l0_0.length c0_0]] rfl ?_; (with_reducible refine (laws_toNames.calls k _ _ l0_0 t236 _ ?side1 ?side2 A7.out).mono ?_); (case side1 => exact cb HR0_0 HB); (case side2 => exact HC0_0.out); rintro e w16 ⟨v237, rfl, ho0, hb⟩; refine ⟨_, rfl, ?_⟩; have HO238 := Ah (Kd.S_lower ho0 (below_size (bs1 HB GE234))); replace BK234 := nb BK234 hb; replace HB := Ah (below_step (bs1 HB GE234) hb); (try clear hb ho0); obtain ⟨Ao17, co17, eo17⟩ := Kd.S_slice HO238.out; subst eo17) | ((with_reducible refine gate_callee (f := 6) rfl ?_); refine gL (some 14) rfl rfl Tryd.func6 (by kernel_rfl) rfl #[.agg #[.slice Ao17 t236.length co17]] rfl ?_; (with_reducible refine (spec_GoodNames.calls k _ _ t236 t239 _ ?side1 ?side2 A8.out).mono ?_); (case side1 => repeat (first | exact (Kd.S_reads' HO238.out).2.2 | (with_reducible refine Kd.C_alloc ?_ _) | (with_reducible refine Kd.C_drewN ?_ _) | (with_reducible refine Kd.C_drew ?_))); (case side2 => exact (Kd.S_reads' HO238.out).2.1); rintro e w18 ⟨rfl, hb⟩; refine ⟨_, rfl, ?_⟩; replace HO238 := Ah (Kd.S_below (by (with_reducible repeat (first | apply Kd.S_alloc | apply Kd.S_drewN | apply Kd.S_drew)); exact HO238.out) hb); replace BK234 := nb BK234 hb; replace HB := Ah (below_step (bs1 HB GE234) hb); (try clear hb); have hcz19_0 := cz1 BK234; have hfz19_0 := fz1 BK234) | ((with_reducible refine gate_callee (f := 7) rfl ?_); refine gL (some 16) rfl rfl Tryd.func7 (by kernel_rfl) rfl #[.agg #[.slice A0_0 l0_0.length c0_0]] rfl ?_; (with_reducible refine (laws_toNames.calls k _ _ l0_0 t240 _ ?side1 ?side2 A9.out).mono ?_); (case side1 => exact cb HR0_0 HB); (case side2 => exact HC0_0.out); rintro e w20 ⟨v241, rfl, ho0, hb⟩; refine ⟨_, rfl, ?_⟩; have HO242 := Ah (Kd.S_lower (Kd.S_new' ho0 (Kd.S_lt (by (with_reducible repeat (first | apply Kd.S_alloc | apply Kd.S_drewN | apply Kd.S_drew)); exact HO238.out))) (below_size (bs1 HB GE234))); replace HO238 := Ah (Kd.S_elder' (by (with_reducible repeat (first | apply Kd.S_alloc | apply Kd.S_drewN | apply Kd.S_drew)); exact HO238.out) (Kd.S_base ho0) hb); replace BK234 := nb BK234 hb; replace HB := Ah (below_step (bs1 HB GE234) hb); (try clear hb ho0)) | ((with_reducible refine gate_dst (N := 5) rfl ?_); refine boxL 5 29 #[.slice none 0 0] ?_; intro gb243 hg w21 BK243 hb; replace HO238 := Ah (Kd.S_below (by (with_reducible repeat (first | apply Kd.S_alloc | apply Kd.S_drewN | apply Kd.S_drew)); exact HO238.out) hb); replace HO242 := Ah (Kd.S_below (by (with_reducible repeat (first | apply Kd.S_alloc | apply Kd.S_drewN | apply Kd.S_drew)); exact HO242.out) hb); have GW243 := gw hg (bs1 HB GE234); have GE243 := gw hg (bs1 HB GE234); replace HB := Ah (below_step (bs1 HB GE234) hb); have NB234_243 := nn BK234 hg; have NB243_234 := nm BK234 hg; replace BK234 := nb BK234 hb; clear hb hg; obtain ⟨Ao22, co22, eo22⟩ := Kd.S_slice HO242.out; subst eo22; have hnb23 := NB243_234.out; have hnc23 := NB234_243.out; have hcz24_0 := cz1 BK243; have hfz24_0 := fz1 BK243) | ((with_reducible refine gate_callee (f := 8) rfl ?_); refine gL (some 18) rfl rfl Tryd.func8 (by kernel_rfl) rfl #[.agg #[.slice Ao22 t240.length co22]] rfl ?_; (with_reducible refine (impl_GoodNames.calls k _ _ t240 t244 _ ?side1 ?side2 A10.out).mono ?_); (case side1 => refine (Kd.S_reads' (e := 40) (base := w.heap.size) (ok := fun k_ => (True ∧ some k_ ≠ (.slice Ao17 t236.length co17 : Value).ownBlock)) (n := t240.length) (c := co22) ?_).2.2; exact (by (with_reducible repeat (first | apply Kd.S_alloc | apply Kd.S_drewN | apply Kd.S_drew)); exact (Kd.S_mono (Kd.S_far (p := ⟨gb243, 0, none⟩) (Kd.S_types HO242.out BK243.out (by decide)) (fun _ hk => hk.2) (.slice Ao22 t240.length co22)) (fun _ h_ => h_.1)))); (case side2 => exact (Kd.S_reads' HO242.out).2.1); rintro e w25 ⟨rfl, hb⟩; refine ⟨_, rfl, ?_⟩; replace HO238 := Ah (Kd.S_below (by (with_reducible repeat (first | apply Kd.S_alloc | apply Kd.S_drewN | apply Kd.S_drew)); exact (Kd.S_mono (Kd.S_far (p := ⟨gb243, 0, none⟩) (Kd.S_types HO238.out BK243.out (by decide)) (fun _ hk => hk.2) (.slice Ao22 t240.length co22)) (fun _ h_ => h_.1))) hb); replace HO242 := Ah (Kd.S_below (by (with_reducible repeat (first | apply Kd.S_alloc | apply Kd.S_drewN | apply Kd.S_drew)); exact (Kd.S_mono (Kd.S_far (p := ⟨gb243, 0, none⟩) (Kd.S_types HO242.out BK243.out (by decide)) (fun _ hk => hk.2) (.slice Ao22 t240.length co22)) (fun _ h_ => h_.1))) hb); replace BK234 := Ah (blk_below (bf BK234 NB234_243) hb); replace BK243 := Ah (blk_below (g := gb243) (o := .cells #[.slice Ao22 t240.length co22] 29 (0, 0)) (by (with_reducible repeat (first | refine blk_drewN ?_ _ | refine blk_drew ?_ | refine blk_alloc ?_ _)); refine blk_put (cs := #[.slice none 0 0]) ?_ 0 _ rfl; (with_reducible repeat (first | refine blk_drewN ?_ _ | refine blk_drew ?_ | refine blk_alloc ?_ _)); exact BK243.out) hb); replace HB := Ah (below_step (bs2 HB GE234 GE243) hb); (try clear hb hk)))
  go_ret
  exact ⟨er, bs2 HB GE234 GE243⟩
 rw [if_neg c11] at H
 have c11b0 : (t244 != t239) = false := by simpa using c11
 (try (have c11b1 : decide (t244 = t239) = true := by simpa using c11))
 (try (have c11b2 : (t244 == t239) = true := by simpa using c11))
 clear c11
 replace H := Option.bind_eq_some_iff.mp H
 obtain ⟨t245, A260, H⟩ := H
 try dsimp only at H
 have A26 := Ah A260
 clear A260
 replace H := Option.bind_eq_some_iff.mp H
 obtain ⟨t248, A270, H⟩ := H
 try dsimp only at H
 have A27 := Ah A270
 clear A270
 have H_ := Ah H
 clear H
 go_enter Tryd.func3, Tryd.ntmps3
 try go_wp2_with (first | ((with_reducible refine gate_dst (N := 1) rfl ?_); refine boxL 1 24 #[.slice A0_0 l0_0.length c0_0] ?_; intro gb234 hg w29 BK234 hb; have GW234 := gw hg (bs HB); have GE234 := gw hg (bs HB); replace HB := Ah (below_step (bs HB) hb); clear hb hg; have hcz30_0 := cz1 BK234; have hfz30_0 := fz1 BK234) | ((with_reducible refine gate_callee (f := 5) rfl ?_); refine gL (some 9) rfl rfl Tryd.func5 (by kernel_rfl) rfl #[.agg #[.slice A0_0 l0_0.length c0_0], .int .i64 1048576] rfl ?_; (with_reducible refine (laws_szNames.calls k _ _ l0_0 1048576 t235 _ ?side1 ?side2 A2.out).mono ?_); (case side1 => exact cb HR0_0 HB); (case side2 => exact HC0_0.out); rintro e w31 ⟨rfl, hb⟩; refine ⟨_, rfl, ?_⟩; replace BK234 := nb BK234 hb; replace HB := Ah (below_step (bs1 HB GE234) hb); (try clear hb); have hcz32_0 := cz1 BK234; have hfz32_0 := fz1 BK234) | ((with_reducible refine gate_callee (f := 7) rfl ?_); refine gL (some 13) rfl rfl Tryd.func7 (by kernel_rfl) rfl #[.agg #[.slice A0_0 l0_0.length c0_0]] rfl ?_; (with_reducible refine (laws_toNames.calls k _ _ l0_0 t236 _ ?side1 ?side2 A7.out).mono ?_); (case side1 => exact cb HR0_0 HB); (case side2 => exact HC0_0.out); rintro e w33 ⟨v237, rfl, ho0, hb⟩; refine ⟨_, rfl, ?_⟩; have HO238 := Ah (Kd.S_lower ho0 (below_size (bs1 HB GE234))); replace BK234 := nb BK234 hb; replace HB := Ah (below_step (bs1 HB GE234) hb); (try clear hb ho0); obtain ⟨Ao34, co34, eo34⟩ := Kd.S_slice HO238.out; subst eo34) | ((with_reducible refine gate_callee (f := 6) rfl ?_); refine gL (some 14) rfl rfl Tryd.func6 (by kernel_rfl) rfl #[.agg #[.slice Ao34 t236.length co34]] rfl ?_; (with_reducible refine (spec_GoodNames.calls k _ _ t236 t239 _ ?side1 ?side2 A8.out).mono ?_); (case side1 => repeat (first | exact (Kd.S_reads' HO238.out).2.2 | (with_reducible refine Kd.C_alloc ?_ _) | (with_reducible refine Kd.C_drewN ?_ _) | (with_reducible refine Kd.C_drew ?_))); (case side2 => exact (Kd.S_reads' HO238.out).2.1); rintro e w35 ⟨rfl, hb⟩; refine ⟨_, rfl, ?_⟩; replace HO238 := Ah (Kd.S_below (by (with_reducible repeat (first | apply Kd.S_alloc | apply Kd.S_drewN | apply Kd.S_drew)); exact HO238.out) hb); replace BK234 := nb BK234 hb; replace HB := Ah (below_step (bs1 HB GE234) hb); (try clear hb); have hcz36_0 := cz1 BK234; have hfz36_0 := fz1 BK234) | ((with_reducible refine gate_callee (f := 7) rfl ?_); refine gL (some 16) rfl rfl Tryd.func7 (by kernel_rfl) rfl #[.agg #[.slice A0_0 l0_0.length c0_0]] rfl ?_; (with_reducible refine (laws_toNames.calls k _ _ l0_0 t240 _ ?side1 ?side2 A9.out).mono ?_); (case side1 => exact cb HR0_0 HB); (case side2 => exact HC0_0.out); rintro e w37 ⟨v241, rfl, ho0, hb⟩; refine ⟨_, rfl, ?_⟩; have HO242 := Ah (Kd.S_lower (Kd.S_new' ho0 (Kd.S_lt (by (with_reducible repeat (first | apply Kd.S_alloc | apply Kd.S_drewN | apply Kd.S_drew)); exact HO238.out))) (below_size (bs1 HB GE234))); replace HO238 := Ah (Kd.S_elder' (by (with_reducible repeat (first | apply Kd.S_alloc | apply Kd.S_drewN | apply Kd.S_drew)); exact HO238.out) (Kd.S_base ho0) hb); replace BK234 := nb BK234 hb; replace HB := Ah (below_step (bs1 HB GE234) hb); (try clear hb ho0)) | ((with_reducible refine gate_dst (N := 5) rfl ?_); refine boxL 5 29 #[.slice none 0 0] ?_; intro gb243 hg w38 BK243 hb; replace HO238 := Ah (Kd.S_below (by (with_reducible repeat (first | apply Kd.S_alloc | apply Kd.S_drewN | apply Kd.S_drew)); exact HO238.out) hb); replace HO242 := Ah (Kd.S_below (by (with_reducible repeat (first | apply Kd.S_alloc | apply Kd.S_drewN | apply Kd.S_drew)); exact HO242.out) hb); have GW243 := gw hg (bs1 HB GE234); have GE243 := gw hg (bs1 HB GE234); replace HB := Ah (below_step (bs1 HB GE234) hb); have NB234_243 := nn BK234 hg; have NB243_234 := nm BK234 hg; replace BK234 := nb BK234 hb; clear hb hg; obtain ⟨Ao39, co39, eo39⟩ := Kd.S_slice HO242.out; subst eo39; have hnb40 := NB243_234.out; have hnc40 := NB234_243.out; have hcz41_0 := cz1 BK243; have hfz41_0 := fz1 BK243) | ((with_reducible refine gate_callee (f := 8) rfl ?_); refine gL (some 18) rfl rfl Tryd.func8 (by kernel_rfl) rfl #[.agg #[.slice Ao39 t240.length co39]] rfl ?_; (with_reducible refine (impl_GoodNames.calls k _ _ t240 t244 _ ?side1 ?side2 A10.out).mono ?_); (case side1 => refine (Kd.S_reads' (e := 40) (base := w.heap.size) (ok := fun k_ => (True ∧ some k_ ≠ (.slice Ao34 t236.length co34 : Value).ownBlock)) (n := t240.length) (c := co39) ?_).2.2; exact (by (with_reducible repeat (first | apply Kd.S_alloc | apply Kd.S_drewN | apply Kd.S_drew)); exact (Kd.S_mono (Kd.S_far (p := ⟨gb243, 0, none⟩) (Kd.S_types HO242.out BK243.out (by decide)) (fun _ hk => hk.2) (.slice Ao39 t240.length co39)) (fun _ h_ => h_.1)))); (case side2 => exact (Kd.S_reads' HO242.out).2.1); rintro e w42 ⟨rfl, hb⟩; refine ⟨_, rfl, ?_⟩; replace HO238 := Ah (Kd.S_below (by (with_reducible repeat (first | apply Kd.S_alloc | apply Kd.S_drewN | apply Kd.S_drew)); exact (Kd.S_mono (Kd.S_far (p := ⟨gb243, 0, none⟩) (Kd.S_types HO238.out BK243.out (by decide)) (fun _ hk => hk.2) (.slice Ao39 t240.length co39)) (fun _ h_ => h_.1))) hb); replace HO242 := Ah (Kd.S_below (by (with_reducible repeat (first | apply Kd.S_alloc | apply Kd.S_drewN | apply Kd.S_drew)); exact (Kd.S_mono (Kd.S_far (p := ⟨gb243, 0, none⟩) (Kd.S_types HO242.out BK243.out (by decide)) (fun _ hk => hk.2) (.slice Ao39 t240.length co39)) (fun _ h_ => h_.1))) hb); replace BK234 := Ah (blk_below (bf BK234 NB234_243) hb); replace BK243 := Ah (blk_below (g := gb243) (o := .cells #[.slice Ao39 t240.length co39] 29 (0, 0)) (by (with_reducible repeat (first | refine blk_drewN ?_ _ | refine blk_drew ?_ | refine blk_alloc ?_ _)); refine blk_put (cs := #[.slice none 0 0]) ?_ 0 _ rfl; (with_reducible repeat (first | refine blk_drewN ?_ _ | refine blk_drew ?_ | refine blk_alloc ?_ _)); exact BK243.out) hb); replace HB := Ah (below_step (bs2 HB GE234 GE243) hb); (try clear hb hk)))
 have n0_ := Ah (Kd.S_drew HO238.out)
 have n1_ := Ah (Kd.S_drew HO242.out)
 have n2_ := Ah (blk_drew BK234.out)
 have n3_ := Ah (blk_drew BK243.out)
 have n4_ := Ah (below_drew1 HB.out)
 clear HO238 HO242 BK234 BK243 HB
 have HO238 := n0_
 have HO242 := n1_
 have BK234 := n2_
 have BK243 := n3_
 have HB := n4_
 clear n0_ n1_ n2_ n3_ n4_
 refine start_ (n := 5) (S := fun w' => w'.cell? ⟨gb243, 0, none⟩ = some (.slice Ao39 t240.length co39) ∧ w'.cell? ⟨gb234, 0, none⟩ = some (.slice A0_0 l0_0.length c0_0)) (ds := []) #[false, false, false, false, false] (by kernel_rfl) rfl rfl ⟨(blk_cell BK243.out 0).trans rfl, (blk_cell BK234.out 0).trans rfl⟩ (fun hHeld => ?_)
 generalize w42.drew = w43 at HO238 HO242 BK234 BK243 HB hHeld ⊢
 have H := H_.out
 clear H_
 by_cases c28 : t248 = true
 ·
  subst c28
  rw [if_pos rfl] at H
  obtain rfl := Option.some.inj H
  refine take_ (i := 0) (N := some 22) (v := ?_) (a' := ?_) #[true, false, false, false, false] rfl rfl (by kernel_rfl) (fun _ _ _ h => h) (Or.inl ⟨by rfl, ?_⟩) hHeld ?_ ?_
  rotate_left
  ·
   rintro w' ⟨s0, s1⟩
   go_simp
   with_reducible rfl
  rotate_left
  ·
   simp only [Act.put, List.setIfInBounds_toArray, List.set_cons_zero, List.set_cons_succ, i64_w, i32_w]
   rfl
  refine take_ (i := 1) (N := some 23) (v := ?_) (a' := ?_) #[true, true, false, false, false] rfl rfl (by kernel_rfl) (fun _ _ _ h => h) (Or.inl ⟨by rfl, ?_⟩) hHeld ?_ ?_
  rotate_left
  ·
   rintro w' ⟨s0, s1⟩
   go_simp
   with_reducible rfl
  rotate_left
  ·
   simp only [Act.put, List.setIfInBounds_toArray, List.set_cons_zero, List.set_cons_succ, i64_w, i32_w]
   rfl
  refine one_ (i := 2) (N := some 24) #[true, true, true, false, false] rfl rfl (by kernel_rfl) (by decide) (fun K hK => ?_)
  refine goes_ Tryd.func7 (by kernel_rfl) rfl #[.agg #[.slice A0_0 l0_0.length c0_0]] (by rfl) rfl rfl (by (try simp only [List.map_toArray, List.map_cons, List.map_nil]); first | done | rfl | (simp only [List.length_drop, List.length_take]; rfl)) ?_
  with_reducible refine (laws_toNames.calls k _ _ l0_0 t245 _ ?side1 ?side2 A26.out).mono ?_
  (case side1 => exact cb HR0_0 HB)
  (case side2 => exact HC0_0.out)
  rintro e w44 ⟨v246, rfl, ho0, hb⟩
  refine ⟨_, rfl, ?_⟩
  have n0_ := Ah (Kd.S_elder' (by (with_reducible repeat (first | apply Kd.S_alloc | apply Kd.S_drewN | apply Kd.S_drew)); exact HO238.out) (Kd.S_base ho0) hb)
  have n1_ := Ah (Kd.S_elder' (by (with_reducible repeat (first | apply Kd.S_alloc | apply Kd.S_drewN | apply Kd.S_drew)); exact HO242.out) (Kd.S_base ho0) hb)
  have n2_ := Ah (Kd.S_lower (Kd.S_new' (Kd.S_new' ho0 (Kd.S_lt (by (with_reducible repeat (first | apply Kd.S_alloc | apply Kd.S_drewN | apply Kd.S_drew)); exact HO238.out))) (Kd.S_lt (by (with_reducible repeat (first | apply Kd.S_alloc | apply Kd.S_drewN | apply Kd.S_drew)); exact HO242.out))) (below_size (bs2 HB GE234 GE243)))
  have n3_ := Ah (bb BK234 hb)
  have n4_ := Ah (bb BK243 hb)
  have n5_ := Ah (below_step (bs2 HB GE234 GE243) hb)
  clear HO238 HO242 BK234 BK243 HB
  have HO238 := n0_
  have HO242 := n1_
  have HO247 := n2_
  have BK234 := n3_
  have BK243 := n4_
  have HB := n5_
  clear n0_ n1_ n2_ n3_ n4_ n5_
  (try clear hb)
  (try clear hb2)
  (try clear hk)
  (try clear hi)
  (try clear ho0)
  obtain ⟨Ao45, co45, eo45⟩ := Kd.S_slice HO247.out
  (first | subst eo45 | (injection eo45 with f1_ f2_ f3_; have f4_ := f1_.symm; have f5_ := f3_.symm; clear f1_ f2_ f3_; subst f4_; subst f5_))
  refine hK.out _ _ ⟨(blk_cell BK243.out 0).trans rfl, (blk_cell BK234.out 0).trans rfl⟩ (fun hHeld => ?_)
  clear hK K
  refine norm_ (a' := ?_) ?_ ?_
  rotate_left
  ·
   show Act.put _ (some 24) _ = _
   simp only [Act.put, List.setIfInBounds_toArray, List.set_cons_zero, List.set_cons_succ, i64_w, i32_w]
   rfl
  refine one_ (i := 3) (N := some 25) #[true, true, true, true, false] rfl rfl (by kernel_rfl) (by decide) (fun K hK => ?_)
  refine goes_ Tryd.func9 (by kernel_rfl) rfl #[.agg #[.slice Ao39 t240.length co39], .agg #[.slice Ao45 t245.length co45]] (by rfl) rfl rfl (by (try simp only [List.map_toArray, List.map_cons, List.map_nil]); first | done | rfl | (simp only [List.length_drop, List.length_take]; rfl)) ?_
  with_reducible refine (laws_eqNames.calls k _ _ t240 _ _ t245 true _ ?side1 ?side2 ?side3 ?side4 A27.out).mono ?_
  (case side1 => repeat (first | exact (Kd.S_reads' HO242.out).2.2 | (with_reducible refine Kd.C_alloc ?_ _) | (with_reducible refine Kd.C_drewN ?_ _) | (with_reducible refine Kd.C_drew ?_)))
  (case side2 => exact (Kd.S_reads' HO242.out).2.1)
  (case side3 => repeat (first | exact (Kd.S_reads' HO247.out).2.2 | (with_reducible refine Kd.C_alloc ?_ _) | (with_reducible refine Kd.C_drewN ?_ _) | (with_reducible refine Kd.C_drew ?_)))
  (case side4 => exact (Kd.S_reads' HO247.out).2.1)
  rintro e w46 ⟨rfl, hb⟩
  refine ⟨_, rfl, ?_⟩
  have n0_ := Ah (Kd.S_below (by (with_reducible repeat (first | apply Kd.S_alloc | apply Kd.S_drewN | apply Kd.S_drew)); exact HO238.out) hb)
  have n1_ := Ah (Kd.S_below (by (with_reducible repeat (first | apply Kd.S_alloc | apply Kd.S_drewN | apply Kd.S_drew)); exact HO242.out) hb)
  have n2_ := Ah (Kd.S_below (by (with_reducible repeat (first | apply Kd.S_alloc | apply Kd.S_drewN | apply Kd.S_drew)); exact HO247.out) hb)
  have n3_ := Ah (bb BK234 hb)
  have n4_ := Ah (bb BK243 hb)
  have n5_ := Ah (below_step (bs2 HB GE234 GE243) hb)
  clear HO238 HO242 HO247 BK234 BK243 HB
  have HO238 := n0_
  have HO242 := n1_
  have HO247 := n2_
  have BK234 := n3_
  have BK243 := n4_
  have HB := n5_
  clear n0_ n1_ n2_ n3_ n4_ n5_
  (try clear hb)
  (try clear hb2)
  (try clear hk)
  (try clear hi)
  refine hK.out _ _ ⟨(blk_cell BK243.out 0).trans rfl, (blk_cell BK234.out 0).trans rfl⟩ (fun hHeld => ?_)
  clear hK K
  refine norm_ (a' := ?_) ?_ ?_
  rotate_left
  ·
   show Act.put _ (some 25) _ = _
   simp only [Act.put, List.setIfInBounds_toArray, List.set_cons_zero, List.set_cons_succ, i64_w, i32_w]
   rfl
  refine pure_ (i := 4) (N := some 26) (v := ?_) (a' := ?_) #[true, true, true, true, true] rfl rfl (by kernel_rfl) (fun _ _ _ h => h) (Or.inl ⟨by rfl, ?_⟩) ?_ ?_
  rotate_left
  ·
   intro w'
   go_simp
   with_reducible rfl
  rotate_left
  ·
   simp only [Act.put, List.setIfInBounds_toArray, List.set_cons_zero, List.set_cons_succ, i64_w, i32_w]
   rfl
  refine done_ (by kernel_rfl) ?_
  try go_wp2
  go_ret
  exact ⟨er, bs2 HB GE234 GE243⟩
 replace c28 := Bool.eq_false_iff.mpr c28
 subst c28
 rw [if_neg fne] at H
 obtain rfl := Option.some.inj H
 refine take_ (i := 0) (N := some 22) (v := ?_) (a' := ?_) #[true, false, false, false, false] rfl rfl (by kernel_rfl) (fun _ _ _ h => h) (Or.inl ⟨by rfl, ?_⟩) hHeld ?_ ?_
 rotate_left
 ·
  rintro w' ⟨s0, s1⟩
  go_simp
  with_reducible rfl
 rotate_left
 ·
  simp only [Act.put, List.setIfInBounds_toArray, List.set_cons_zero, List.set_cons_succ, i64_w, i32_w]
  rfl
 refine take_ (i := 1) (N := some 23) (v := ?_) (a' := ?_) #[true, true, false, false, false] rfl rfl (by kernel_rfl) (fun _ _ _ h => h) (Or.inl ⟨by rfl, ?_⟩) hHeld ?_ ?_
 rotate_left
 ·
  rintro w' ⟨s0, s1⟩
  go_simp
  with_reducible rfl
 rotate_left
 ·
  simp only [Act.put, List.setIfInBounds_toArray, List.set_cons_zero, List.set_cons_succ, i64_w, i32_w]
  rfl
 refine one_ (i := 2) (N := some 24) #[true, true, true, false, false] rfl rfl (by kernel_rfl) (by decide) (fun K hK => ?_)
 refine goes_ Tryd.func7 (by kernel_rfl) rfl #[.agg #[.slice A0_0 l0_0.length c0_0]] (by rfl) rfl rfl (by (try simp only [List.map_toArray, List.map_cons, List.map_nil]); first | done | rfl | (simp only [List.length_drop, List.length_take]; rfl)) ?_
 with_reducible refine (laws_toNames.calls k _ _ l0_0 t245 _ ?side1 ?side2 A26.out).mono ?_
 (case side1 => exact cb HR0_0 HB)
 (case side2 => exact HC0_0.out)
 rintro e w62 ⟨v246, rfl, ho0, hb⟩
 refine ⟨_, rfl, ?_⟩
 have n0_ := Ah (Kd.S_elder' (by (with_reducible repeat (first | apply Kd.S_alloc | apply Kd.S_drewN | apply Kd.S_drew)); exact HO238.out) (Kd.S_base ho0) hb)
 have n1_ := Ah (Kd.S_elder' (by (with_reducible repeat (first | apply Kd.S_alloc | apply Kd.S_drewN | apply Kd.S_drew)); exact HO242.out) (Kd.S_base ho0) hb)
 have n2_ := Ah (Kd.S_lower (Kd.S_new' (Kd.S_new' ho0 (Kd.S_lt (by (with_reducible repeat (first | apply Kd.S_alloc | apply Kd.S_drewN | apply Kd.S_drew)); exact HO238.out))) (Kd.S_lt (by (with_reducible repeat (first | apply Kd.S_alloc | apply Kd.S_drewN | apply Kd.S_drew)); exact HO242.out))) (below_size (bs2 HB GE234 GE243)))
 have n3_ := Ah (bb BK234 hb)
 have n4_ := Ah (bb BK243 hb)
 have n5_ := Ah (below_step (bs2 HB GE234 GE243) hb)
 clear HO238 HO242 BK234 BK243 HB
 have HO238 := n0_
 have HO242 := n1_
 have HO247 := n2_
 have BK234 := n3_
 have BK243 := n4_
 have HB := n5_
 clear n0_ n1_ n2_ n3_ n4_ n5_
 (try clear hb)
 (try clear hb2)
 (try clear hk)
 (try clear hi)
 (try clear ho0)
 obtain ⟨Ao63, co63, eo63⟩ := Kd.S_slice HO247.out
 (first | subst eo63 | (injection eo63 with f1_ f2_ f3_; have f4_ := f1_.symm; have f5_ := f3_.symm; clear f1_ f2_ f3_; subst f4_; subst f5_))
 refine hK.out _ _ ⟨(blk_cell BK243.out 0).trans rfl, (blk_cell BK234.out 0).trans rfl⟩ (fun hHeld => ?_)
 clear hK K
 refine norm_ (a' := ?_) ?_ ?_
 rotate_left
 ·
  show Act.put _ (some 24) _ = _
  simp only [Act.put, List.setIfInBounds_toArray, List.set_cons_zero, List.set_cons_succ, i64_w, i32_w]
  rfl
 refine one_ (i := 3) (N := some 25) #[true, true, true, true, false] rfl rfl (by kernel_rfl) (by decide) (fun K hK => ?_)
 refine goes_ Tryd.func9 (by kernel_rfl) rfl #[.agg #[.slice Ao39 t240.length co39], .agg #[.slice Ao63 t245.length co63]] (by rfl) rfl rfl (by (try simp only [List.map_toArray, List.map_cons, List.map_nil]); first | done | rfl | (simp only [List.length_drop, List.length_take]; rfl)) ?_
 with_reducible refine (laws_eqNames.calls k _ _ t240 _ _ t245 false _ ?side1 ?side2 ?side3 ?side4 A27.out).mono ?_
 (case side1 => repeat (first | exact (Kd.S_reads' HO242.out).2.2 | (with_reducible refine Kd.C_alloc ?_ _) | (with_reducible refine Kd.C_drewN ?_ _) | (with_reducible refine Kd.C_drew ?_)))
 (case side2 => exact (Kd.S_reads' HO242.out).2.1)
 (case side3 => repeat (first | exact (Kd.S_reads' HO247.out).2.2 | (with_reducible refine Kd.C_alloc ?_ _) | (with_reducible refine Kd.C_drewN ?_ _) | (with_reducible refine Kd.C_drew ?_)))
 (case side4 => exact (Kd.S_reads' HO247.out).2.1)
 rintro e w64 ⟨rfl, hb⟩
 refine ⟨_, rfl, ?_⟩
 have n0_ := Ah (Kd.S_below (by (with_reducible repeat (first | apply Kd.S_alloc | apply Kd.S_drewN | apply Kd.S_drew)); exact HO238.out) hb)
 have n1_ := Ah (Kd.S_below (by (with_reducible repeat (first | apply Kd.S_alloc | apply Kd.S_drewN | apply Kd.S_drew)); exact HO242.out) hb)
 have n2_ := Ah (Kd.S_below (by (with_reducible repeat (first | apply Kd.S_alloc | apply Kd.S_drewN | apply Kd.S_drew)); exact HO247.out) hb)
 have n3_ := Ah (bb BK234 hb)
 have n4_ := Ah (bb BK243 hb)
 have n5_ := Ah (below_step (bs2 HB GE234 GE243) hb)
 clear HO238 HO242 HO247 BK234 BK243 HB
 have HO238 := n0_
 have HO242 := n1_
 have HO247 := n2_
 have BK234 := n3_
 have BK243 := n4_
 have HB := n5_
 clear n0_ n1_ n2_ n3_ n4_ n5_
 (try clear hb)
 (try clear hb2)
 (try clear hk)
 (try clear hi)
 refine hK.out _ _ ⟨(blk_cell BK243.out 0).trans rfl, (blk_cell BK234.out 0).trans rfl⟩ (fun hHeld => ?_)
 clear hK K
 refine norm_ (a' := ?_) ?_ ?_
 rotate_left
 ·
  show Act.put _ (some 25) _ = _
  simp only [Act.put, List.setIfInBounds_toArray, List.set_cons_zero, List.set_cons_succ, i64_w, i32_w]
  rfl
 refine pure_ (i := 4) (N := some 26) (v := ?_) (a' := ?_) #[true, true, true, true, true] rfl rfl (by kernel_rfl) (fun _ _ _ h => h) (Or.inl ⟨by rfl, ?_⟩) ?_ ?_
 rotate_left
 ·
  intro w'
  go_simp
  with_reducible rfl
 rotate_left
 ·
  simp only [Act.put, List.setIfInBounds_toArray, List.set_cons_zero, List.set_cons_succ, i64_w, i32_w]
  rfl
 refine done_ (by kernel_rfl) ?_
 try go_wp2
 go_ret
 exact ⟨er, bs2 HB GE234 GE243⟩

/-- THE ONE PURE STATEMENT of laws_FnExactGoodNames. -/
def laws_FnExactGoodNames.Pure : Prop := ∀ (l0_0 : List (S59)), ok24 (⟨l0_0⟩ : S24) → ∃ k, laws_FnExactGoodNames.f k l0_0 = some true

end Go.Proofs.YtoneooblgdoooaaDoor.G
