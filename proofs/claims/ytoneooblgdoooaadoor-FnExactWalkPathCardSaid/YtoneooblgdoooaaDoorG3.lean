-- Printed by a program of this session (drive.py, by way of the kit's print). Not trusted: Lean checks it.
import Derived.Test.YtoneooblgdoooaaDoorG0
import Derived.Test.YtoneooblgdoooaaDoorG1
import Derived.Test.YtoneooblgdoooaaDoorG2
namespace Go.Proofs.YtoneooblgdoooaaDoor.G
open Go.RowKit Go.Proofs.YtoneooblgdoooaaDoorW.PrintWords Go.Proofs.YtoneooblgdoooaaDoorW.PrintLast Go.Proofs.YtoneooblgdoooaaDoorW.PrintMore
attribute [local go_sem] max2_int min2_int max_two min_two max_three min_three max_four min_four   -- for this text's walks alone
set_option linter.unusedVariables false
set_option linter.unusedSimpArgs false

/-! ### laws_eqInodeS: function 20 -/
def laws_eqInodeS.l0 : Nat → List (S40) → List (S40) → Int → Option (Bool)
 | 0, _, _, _ => none
 | k + 1, x0, x1, x5 => if x5 < (x0.length : Int) then (if 0 ≤ x5 then (if x5 < (x1.length : Int) then ((laws_eqInode.f k ((rd_T40 x0 x5).f0) ((rd_T40 x0 x5).f1) ((rd_T40 x0 x5).f2) ((rd_T40 x1 x5).f0) ((rd_T40 x1 x5).f1) ((rd_T40 x1 x5).f2)).bind fun t230 => (if t230 = true then (laws_eqInodeS.l0 k x0 x1 (wrap64 (x5 + 1))) else (some false))) else (none)) else (none)) else (some true)
def laws_eqInodeS.f (k : Nat) (l0 : List (S40)) (l1 : List (S40)) : Option (Bool) := if (l0.length : Int) = (l1.length : Int) then (laws_eqInodeS.l0 k l0 l1 0) else (some false)
theorem laws_eqInodeS.mono_l : ∀ k, (∀ y0 y1 y2, LeO (laws_eqInodeS.l0 k y0 y1 y2) (laws_eqInodeS.l0 (k + 1) y0 y1 y2))
 | 0 => fun _ _ _ r h => by simp [laws_eqInodeS.l0] at h
 | k + 1 => by
  have ih0 := laws_eqInodeS.mono_l k
  ·
   intro y0 y1 y2
   unfold laws_eqInodeS.l0
   repeat' first
   | (with_reducible exact ih0 _ _ _)
   | (with_reducible exact laws_eqInode.mono _ _ _ _ _ _ _)
   | (with_reducible exact LeO.refl _)
   | (with_reducible exact LeO.none _)
   | (with_reducible refine LeO.ite ?_ ?_)
   | (with_reducible refine LeO.bind ?_ (fun _ => ?_))
   | exact ih0 _ _ _
   | exact laws_eqInode.mono _ _ _ _ _ _ _
   | exact LeO.none _
   | refine LeO.ite ?_ ?_
   | refine LeO.bind ?_ (fun _ => ?_)
theorem laws_eqInodeS.mono : ∀ a0 a1 k, LeO (laws_eqInodeS.f k a0 a1) (laws_eqInodeS.f (k + 1) a0 a1) := by
 intro a0 a1 k
 have ih0 := laws_eqInodeS.mono_l k
 unfold laws_eqInodeS.f
 repeat' first
   | (with_reducible exact ih0 _ _ _)
   | (with_reducible exact laws_eqInode.mono _ _ _ _ _ _ _)
   | (with_reducible exact LeO.refl _)
   | (with_reducible exact LeO.none _)
   | (with_reducible refine LeO.ite ?_ ?_)
   | (with_reducible refine LeO.bind ?_ (fun _ => ?_))
   | exact ih0 _ _ _
   | exact laws_eqInode.mono _ _ _ _ _ _ _
   | exact LeO.none _
   | refine LeO.ite ?_ ?_
   | refine LeO.bind ?_ (fun _ => ?_)
def laws_eqInodeS.T6 : Bool × List (List Nat × List Nat) := (true, [([], []), ([], []), ([0, 1], [0, 1]), ([2], [2]), ([], []), ([], []), ([4, 5], [4, 5]), ([6], [6]), ([3, 7], [3, 7]), ([8], [8])])
def laws_eqInodeS.B6 : List Nat := [0, 0, 3, 7, 0, 0, 48, 112, 255, 511]
theorem laws_eqInodeS.tab6 : rtab .any (opsOf Tryd.f20 6) = laws_eqInodeS.T6 := by kernel_rfl
theorem laws_eqInodeS.bits6 : waitsOk laws_eqInodeS.T6.2 laws_eqInodeS.B6 = true := by kernel_rfl
set_option maxHeartbeats 8000000 in
set_option maxRecDepth 100000 in
theorem laws_eqInodeS.calls (k : Nat) (A0 : Option Addr) (c0 : Nat) (l0 : List (S40)) (A1 : Option Addr) (c1 : Nat) (l1 : List (S40)) (r : Bool) (w : World) (hr0 : Kd.C k40 w A0 l0.length l0) (hc0 : l0.length ≤ c0) (hr1 : Kd.C k40 w A1 l1.length l1) (hc1 : l1.length ≤ c1) (h : laws_eqInodeS.f k l0 l1 = some r) :
  Calls Tryd.prog 20 #[.slice A0 l0.length c0, .slice A1 l1.length c1] w fun e w' => e = .returned (.bool r) ∧ Below w.heap.size w w' := by
 have hu40 := Tryd.underlying40
 have HR0 := Ah hr0
 have HC0 := Ah hc0
 clear hr0 hc0
 have HR1 := Ah hr1
 have HC1 := Ah hc1
 clear hr1 hc1
 have HB := Ah (Below.refl w.heap.size w)
 have H : (if (l0.length : Int) = (l1.length : Int) then (laws_eqInodeS.l0 k l0 l1 0) else (some false)) = some r := h
 clear h
 by_cases c3 : (l0.length : Int) = (l1.length : Int)
 rotate_left
 ·
  rw [if_neg c3] at H
  have c3b0 : ((l0.length : Int) == (l1.length : Int)) = false := beq_eq_false_iff_ne.mpr c3
  have c3b1 : ((l0.length : Int) != (l1.length : Int)) = true := bne_iff_ne.mpr c3
  have c3b2 : (l0.length == l1.length) = false := by first | simpa using c3 | (simp at c3 ⊢; omega)
  obtain rfl := Option.some.inj H
  go_enter Tryd.func20, Tryd.ntmps20
  go_wp2
  go_ret
  exact ⟨er, bs HB⟩
 rw [if_pos c3] at H
 have c3b0 : ((l0.length : Int) == (l1.length : Int)) = true := beq_iff_eq.mpr c3
 have c3b1 : ((l0.length : Int) != (l1.length : Int)) = false := bne_eq_false_iff_eq.mpr c3
 have c3b2 : (l0.length == l1.length) = true := by first | simpa using c3 | (simp at c3 ⊢; omega)
 clear c3
 have H' := Ah H
 clear H
 go_enter Tryd.func20, Tryd.ntmps20
 go_wp2
 go_loopg [5] k (fun kq v5 w' => ∃ (x5_1 : Int), v5 = .int .i64 x5_1 ∧ Aside0 (laws_eqInodeS.l0 kq l0 l1 x5_1 = some r) ∧ Aside0 (kq ≤ k) ∧ Aside0 (Below w.heap.size w w'))
 case atStart => exact ⟨(0), e3, H', ⟨Nat.le_refl _⟩, ⟨bs HB⟩⟩
 case round =>
  clear H'
  try clear c1
  try clear c2
  try clear p2
  try clear c3
  try clear c3b0
  try clear c3b1
  try clear c3b2
  obtain ⟨x5_1, rfl, HA, HK1, HB⟩ := hrel
  cases gk with
  | zero => exact absurd HA.out (by simp [laws_eqInodeS.l0])
  | succ k1 =>
   have H := HA.out
   clear HA
   simp only [laws_eqInodeS.l0] at H
   by_cases c4 : x5_1 < (l0.length : Int)
   rotate_left
   ·
    rw [if_neg c4] at H
    have c4b0 : decide (x5_1 < (l0.length : Int)) = false := decide_eq_false c4
    clear c4
    obtain rfl := Option.some.inj H
    go_wp2
    go_ret
    exact ⟨er, bs HB⟩
   rw [if_pos c4] at H
   have c4b0 : decide (x5_1 < (l0.length : Int)) = true := decide_eq_true c4
   clear c4
   by_cases c5 : 0 ≤ x5_1
   rotate_left
   ·
    rw [if_neg c5] at H
    exact absurd H (by simp)
   rw [if_pos c5] at H
   have c5b0 : decide (0 ≤ x5_1) = true := decide_eq_true c5
   clear c5
   by_cases c6 : x5_1 < (l1.length : Int)
   rotate_left
   ·
    rw [if_neg c6] at H
    exact absurd H (by simp)
   rw [if_pos c6] at H
   have c6b0 : decide (x5_1 < (l1.length : Int)) = true := decide_eq_true c6
   clear c6
   replace H := Option.bind_eq_some_iff.mp H
   obtain ⟨t230, A70, H⟩ := H
   try dsimp only at H
   have A7 := Ah A70
   clear A70
   have H_ := Ah H
   clear H
   try go_wp2
   have n0_ := Ah (below_drew1 HB.out)
   clear HB
   have HB := n0_
   clear n0_
   have p228 : 0 ≤ (x5_1 : Int) := od
   have q228 : x5_1 < (l0.length : Int) := od
   obtain ⟨ad228, A228_2, c228_2, e228, hx228_0, hx228_1, hx228_2, hl228_2, hi228_2⟩ := at_T40 HR0.out x5_1 p228 q228
   have hw228_2 := hx228_2
   have hw228_1 := hx228_1
   have hw228_0 := hx228_0
   cases e228
   replace hx228_0 := (HB.out.cell (World.block_lt_of_cell? w _ hx228_0)).trans hx228_0
   replace hx228_1 := (HB.out.cell (World.block_lt_of_cell? w _ hx228_1)).trans hx228_1
   replace hx228_2 := (HB.out.cell (World.block_lt_of_cell? w _ hx228_2)).trans hx228_2
   have HR228_2 := Ah hi228_2
   have HC228_2 := Ah hl228_2
   clear hi228_2 hl228_2
   replace p228 := eq_true p228
   replace q228 := eq_true q228
   have p229 : 0 ≤ (x5_1 : Int) := od
   have q229 : x5_1 < (l1.length : Int) := od
   obtain ⟨ad229, A229_2, c229_2, e229, hx229_0, hx229_1, hx229_2, hl229_2, hi229_2⟩ := at_T40 HR1.out x5_1 p229 q229
   have hw229_2 := hx229_2
   have hw229_1 := hx229_1
   have hw229_0 := hx229_0
   cases e229
   replace hx229_0 := (HB.out.cell (World.block_lt_of_cell? w _ hx229_0)).trans hx229_0
   replace hx229_1 := (HB.out.cell (World.block_lt_of_cell? w _ hx229_1)).trans hx229_1
   replace hx229_2 := (HB.out.cell (World.block_lt_of_cell? w _ hx229_2)).trans hx229_2
   have HR229_2 := Ah hi229_2
   have HC229_2 := Ah hl229_2
   clear hi229_2 hl229_2
   replace p229 := eq_true p229
   replace q229 := eq_true q229
   refine start_ (n := 10) (S := fun w' => w'.cell? (ad228.add ((x5_1).toNat * 3)) = some (.bool ((rd_T40 l0 x5_1).f0)) ∧ w'.cell? ⟨(ad228.add ((x5_1).toNat * 3)).block, (ad228.add ((x5_1).toNat * 3)).off + 1, none⟩ = some (.int .i64 ((rd_T40 l0 x5_1).f1)) ∧ w'.cell? ⟨(ad228.add ((x5_1).toNat * 3)).block, (ad228.add ((x5_1).toNat * 3)).off + 2, none⟩ = some (.slice A228_2 ((rd_T40 l0 x5_1).f2).length c228_2) ∧ w'.cell? (ad229.add ((x5_1).toNat * 3)) = some (.bool ((rd_T40 l1 x5_1).f0)) ∧ w'.cell? ⟨(ad229.add ((x5_1).toNat * 3)).block, (ad229.add ((x5_1).toNat * 3)).off + 1, none⟩ = some (.int .i64 ((rd_T40 l1 x5_1).f1)) ∧ w'.cell? ⟨(ad229.add ((x5_1).toNat * 3)).block, (ad229.add ((x5_1).toNat * 3)).off + 2, none⟩ = some (.slice A229_2 ((rd_T40 l1 x5_1).f2).length c229_2)) (ds := []) #[false, false, false, false, false, false, false, false, false, false] (by kernel_rfl) rfl rfl ⟨((HB.out.cell (World.block_lt_of_cell? w _ hw228_0)).trans hw228_0), ((HB.out.cell (World.block_lt_of_cell? w _ hw228_1)).trans hw228_1), ((HB.out.cell (World.block_lt_of_cell? w _ hw228_2)).trans hw228_2), ((HB.out.cell (World.block_lt_of_cell? w _ hw229_0)).trans hw229_0), ((HB.out.cell (World.block_lt_of_cell? w _ hw229_1)).trans hw229_1), ((HB.out.cell (World.block_lt_of_cell? w _ hw229_2)).trans hw229_2)⟩ (fun hHeld => ?_); refine with_tabW laws_eqInodeS.tab6 laws_eqInodeS.bits6 (fun HT_ HW_ => ?_)
   generalize wr.drew = w9 at HB HR228_2 HR229_2 hx228_0 hx228_1 hx228_2 hx229_0 hx229_1 hx229_2 hHeld ⊢
   refine pureS 0 17 HT_.out ?_
   refine pureS 1 18 HT_.out ?_
   refine pureS 2 19 HT_.out ?_
   refine pureS 4 21 HT_.out ?_
   refine pureS 5 22 HT_.out ?_
   refine pureS 6 23 HT_.out ?_
   refine takeS 3 20 HT_.out HW_.out hHeld (hr := by rintro w' ⟨s0, s1, s2, s3, s4, s5⟩; go_simp; with_reducible rfl) (h := ?_)
   refine takeS 7 24 HT_.out HW_.out hHeld (hr := by rintro w' ⟨s0, s1, s2, s3, s4, s5⟩; go_simp; with_reducible rfl) (h := ?_)
   refine one_ (i := 8) (N := some 25) #[true, true, true, true, true, true, true, true, true, false] rfl rfl (one_of HT_.out (by kernel_rfl)) (by decide) (fun K hK => ?_)
   refine goes_ Tryd.func28 (by kernel_rfl) rfl #[.agg #[.bool ((rd_T40 l0 x5_1).f0), .int .i64 ((rd_T40 l0 x5_1).f1), .slice A228_2 ((rd_T40 l0 x5_1).f2).length c228_2], .agg #[.bool ((rd_T40 l1 x5_1).f0), .int .i64 ((rd_T40 l1 x5_1).f1), .slice A229_2 ((rd_T40 l1 x5_1).f2).length c229_2]] (by rfl) rfl rfl (by (try simp only [List.map_toArray, List.map_cons, List.map_nil]); first | done | rfl | (simp only [List.length_drop, List.length_take]; rfl)) ?_
   have H := H_.out
   clear H_
   by_cases c8 : t230 = true
   rotate_left
   ·
    replace c8 := Bool.eq_false_iff.mpr c8
    subst c8
    rw [if_neg fne] at H
    obtain rfl := Option.some.inj H
    with_reducible refine (laws_eqInode.calls k1 ((rd_T40 l0 x5_1).f0) ((rd_T40 l0 x5_1).f1) _ _ ((rd_T40 l0 x5_1).f2) ((rd_T40 l1 x5_1).f0) ((rd_T40 l1 x5_1).f1) _ _ ((rd_T40 l1 x5_1).f2) false _ ?side1 ?side2 ?side3 ?side4 A7.out).mono ?_
    (case side1 => exact cb HR228_2 HB)
    (case side2 => exact HC228_2.out)
    (case side3 => exact cb HR229_2 HB)
    (case side4 => exact HC229_2.out)
    rintro e w12 ⟨rfl, hb⟩
    refine ⟨_, rfl, ?_⟩
    have n0_ := Ah (below_step (bs HB) hb)
    clear HB
    have HB := n0_
    clear n0_
    (try clear hb)
    (try clear hb2)
    (try clear hk)
    (try clear hi)
    refine hK.out _ _ ⟨((HB.out.cell (World.block_lt_of_cell? w _ hw228_0)).trans hw228_0), ((HB.out.cell (World.block_lt_of_cell? w _ hw228_1)).trans hw228_1), ((HB.out.cell (World.block_lt_of_cell? w _ hw228_2)).trans hw228_2), ((HB.out.cell (World.block_lt_of_cell? w _ hw229_0)).trans hw229_0), ((HB.out.cell (World.block_lt_of_cell? w _ hw229_1)).trans hw229_1), ((HB.out.cell (World.block_lt_of_cell? w _ hw229_2)).trans hw229_2)⟩ (fun hHeld => ?_)
    clear hK K
    refine norm_ (a' := ?_) ?_ ?_
    rotate_left
    ·
     show Act.put _ (some 25) _ = _
     simp only [Act.put, List.setIfInBounds_toArray, List.set_cons_zero, List.set_cons_succ, i64_w, i32_w]
     rfl
    refine pureS 9 26 HT_.out ?_
    refine done_ (done_of HT_.out (by kernel_rfl)) ?_
    try go_wp2
    go_ret
    exact ⟨er, bs HB⟩
   subst c8
   rw [if_pos rfl] at H
   have H' := Ah H
   clear H
   with_reducible refine (laws_eqInode.calls k1 ((rd_T40 l0 x5_1).f0) ((rd_T40 l0 x5_1).f1) _ _ ((rd_T40 l0 x5_1).f2) ((rd_T40 l1 x5_1).f0) ((rd_T40 l1 x5_1).f1) _ _ ((rd_T40 l1 x5_1).f2) true _ ?side1 ?side2 ?side3 ?side4 A7.out).mono ?_
   (case side1 => exact cb HR228_2 HB)
   (case side2 => exact HC228_2.out)
   (case side3 => exact cb HR229_2 HB)
   (case side4 => exact HC229_2.out)
   rintro e w10 ⟨rfl, hb⟩
   refine ⟨_, rfl, ?_⟩
   have n0_ := Ah (below_step (bs HB) hb)
   clear HB
   have HB := n0_
   clear n0_
   (try clear hb)
   (try clear hb2)
   (try clear hk)
   (try clear hi)
   refine hK.out _ _ ⟨((HB.out.cell (World.block_lt_of_cell? w _ hw228_0)).trans hw228_0), ((HB.out.cell (World.block_lt_of_cell? w _ hw228_1)).trans hw228_1), ((HB.out.cell (World.block_lt_of_cell? w _ hw228_2)).trans hw228_2), ((HB.out.cell (World.block_lt_of_cell? w _ hw229_0)).trans hw229_0), ((HB.out.cell (World.block_lt_of_cell? w _ hw229_1)).trans hw229_1), ((HB.out.cell (World.block_lt_of_cell? w _ hw229_2)).trans hw229_2)⟩ (fun hHeld => ?_)
   clear hK K
   refine norm_ (a' := ?_) ?_ ?_
   rotate_left
   ·
    show Act.put _ (some 25) _ = _
    simp only [Act.put, List.setIfInBounds_toArray, List.set_cons_zero, List.set_cons_succ, i64_w, i32_w]
    rfl
   refine pureS 9 26 HT_.out ?_
   refine done_ (done_of HT_.out (by kernel_rfl)) ?_
   try go_wp2
   go_roundg k1
   case measure => have := HK1.out; omega
   case rel => exact ⟨(wrap64 (x5_1 + 1)), e3, H', ⟨by have := HK1.out; omega⟩, ⟨bs HB⟩⟩

/-! ### laws_eqNames: function 9 -/
def laws_eqNames.f (k : Nat) (l0_0 : List (S40)) (l1_0 : List (S40)) : Option (Bool) := (laws_eqInodeS.f k l0_0 l1_0).bind fun t233 => (if t233 = true then (some true) else (some false))
theorem laws_eqNames.mono : ∀ a0 a1 k, LeO (laws_eqNames.f k a0 a1) (laws_eqNames.f (k + 1) a0 a1) := by
 intro a0 a1 k
 unfold laws_eqNames.f
 repeat' first
   | (with_reducible exact laws_eqInodeS.mono _ _ _)
   | (with_reducible exact LeO.refl _)
   | (with_reducible exact LeO.none _)
   | (with_reducible refine LeO.ite ?_ ?_)
   | (with_reducible refine LeO.bind ?_ (fun _ => ?_))
   | exact laws_eqInodeS.mono _ _ _
   | exact LeO.none _
   | refine LeO.ite ?_ ?_
   | refine LeO.bind ?_ (fun _ => ?_)
set_option maxHeartbeats 8000000 in
set_option maxRecDepth 100000 in
theorem laws_eqNames.calls (k : Nat) (A0_0 : Option Addr) (c0_0 : Nat) (l0_0 : List (S40)) (A1_0 : Option Addr) (c1_0 : Nat) (l1_0 : List (S40)) (r : Bool) (w : World) (hr0_0 : Kd.C k40 w A0_0 l0_0.length l0_0) (hc0_0 : l0_0.length ≤ c0_0) (hr1_0 : Kd.C k40 w A1_0 l1_0.length l1_0) (hc1_0 : l1_0.length ≤ c1_0) (h : laws_eqNames.f k l0_0 l1_0 = some r) :
  Calls Tryd.prog 9 #[.agg #[.slice A0_0 l0_0.length c0_0], .agg #[.slice A1_0 l1_0.length c1_0]] w fun e w' => e = .returned (.bool r) ∧ Below w.heap.size w w' := by
 have hu29 := Tryd.underlying29
 have HR0_0 := Ah hr0_0
 have HC0_0 := Ah hc0_0
 clear hr0_0 hc0_0
 have HR1_0 := Ah hr1_0
 have HC1_0 := Ah hc1_0
 clear hr1_0 hc1_0
 have HB := Ah (Below.refl w.heap.size w)
 have H : ((laws_eqInodeS.f k l0_0 l1_0).bind fun t233 => (if t233 = true then (some true) else (some false))) = some r := h
 clear h
 replace H := Option.bind_eq_some_iff.mp H
 obtain ⟨t233, A30, H⟩ := H
 try dsimp only at H
 have A3 := Ah A30
 clear A30
 by_cases c4 : t233 = true
 ·
  subst c4
  rw [if_pos rfl] at H
  obtain rfl := Option.some.inj H
  go_enter Tryd.func9, Tryd.ntmps9
  go_wp2_with (first | ((with_reducible refine gate_dst (N := 2) rfl ?_); refine boxL 2 29 #[.slice A0_0 l0_0.length c0_0] ?_; intro gb231 hg w5 BK231 hb; have GW231 := gw hg (bs HB); have GE231 := gw hg (bs HB); replace HB := Ah (below_step (bs HB) hb); clear hb hg) | ((with_reducible refine gate_dst (N := 3) rfl ?_); refine boxL 3 29 #[.slice A1_0 l1_0.length c1_0] ?_; intro gb232 hg w6 BK232 hb; have GW232 := gw hg (bs1 HB GE231); have GE232 := gw hg (bs1 HB GE231); replace HB := Ah (below_step (bs1 HB GE231) hb); have NB231_232 := nn BK231 hg; have NB232_231 := nm BK231 hg; replace BK231 := nb BK231 hb; clear hb hg; have hnb7 := NB231_232.out; have hnc7 := NB232_231.out; have hcz8_0 := cz1 BK231; have hfz8_0 := fz1 BK231; have hcz9_0 := cz1 BK232; have hfz9_0 := fz1 BK232) | ((with_reducible refine gate_callee (f := 20) rfl ?_); refine gL (some 9) rfl rfl Tryd.func20 (by kernel_rfl) rfl #[.slice A0_0 l0_0.length c0_0, .slice A1_0 l1_0.length c1_0] rfl ?_; (with_reducible refine (laws_eqInodeS.calls k _ _ l0_0 _ _ l1_0 true _ ?side1 ?side2 ?side3 ?side4 A3.out).mono ?_); (case side1 => exact cb HR0_0 HB); (case side2 => exact HC0_0.out); (case side3 => exact cb HR1_0 HB); (case side4 => exact HC1_0.out); rintro e w10 ⟨rfl, hb⟩; refine ⟨_, rfl, ?_⟩; replace BK231 := nb BK231 hb; replace BK232 := nb BK232 hb; replace HB := Ah (below_step (bs2 HB GE231 GE232) hb); (try clear hb)))
  go_ret
  exact ⟨er, bs2 HB GE231 GE232⟩
 replace c4 := Bool.eq_false_iff.mpr c4
 subst c4
 rw [if_neg fne] at H
 obtain rfl := Option.some.inj H
 go_enter Tryd.func9, Tryd.ntmps9
 go_wp2_with (first | ((with_reducible refine gate_dst (N := 2) rfl ?_); refine boxL 2 29 #[.slice A0_0 l0_0.length c0_0] ?_; intro gb231 hg w11 BK231 hb; have GW231 := gw hg (bs HB); have GE231 := gw hg (bs HB); replace HB := Ah (below_step (bs HB) hb); clear hb hg) | ((with_reducible refine gate_dst (N := 3) rfl ?_); refine boxL 3 29 #[.slice A1_0 l1_0.length c1_0] ?_; intro gb232 hg w12 BK232 hb; have GW232 := gw hg (bs1 HB GE231); have GE232 := gw hg (bs1 HB GE231); replace HB := Ah (below_step (bs1 HB GE231) hb); have NB231_232 := nn BK231 hg; have NB232_231 := nm BK231 hg; replace BK231 := nb BK231 hb; clear hb hg; have hnb13 := NB231_232.out; have hnc13 := NB232_231.out; have hcz14_0 := cz1 BK231; have hfz14_0 := fz1 BK231; have hcz15_0 := cz1 BK232; have hfz15_0 := fz1 BK232) | ((with_reducible refine gate_callee (f := 20) rfl ?_); refine gL (some 9) rfl rfl Tryd.func20 (by kernel_rfl) rfl #[.slice A0_0 l0_0.length c0_0, .slice A1_0 l1_0.length c1_0] rfl ?_; (with_reducible refine (laws_eqInodeS.calls k _ _ l0_0 _ _ l1_0 false _ ?side1 ?side2 ?side3 ?side4 A3.out).mono ?_); (case side1 => exact cb HR0_0 HB); (case side2 => exact HC0_0.out); (case side3 => exact cb HR1_0 HB); (case side4 => exact HC1_0.out); rintro e w16 ⟨rfl, hb⟩; refine ⟨_, rfl, ?_⟩; replace BK231 := nb BK231 hb; replace BK232 := nb BK232 hb; replace HB := Ah (below_step (bs2 HB GE231 GE232) hb); (try clear hb)))
 go_ret
 exact ⟨er, bs2 HB GE231 GE232⟩

/-! ### spec_l13Path: function 21 -/
mutual
def spec_l13Path.l0 : Nat → ByteArray → List ByteArray → Option (List ByteArray × Bool)
 | 0, _, _ => none
 | k + 1, x0, x4 => if x0.toList = ([] : List UInt8) then (some (x4, decide ((x4.length : Int) > 0))) else (if 0 < (x0.size : Int) then (if (bt x0 0) = 47 then (spec_l13Path.j1 k x0 x4 ((x4.length : Int) == 8)) else (spec_l13Path.j1 k x0 x4 true)) else (none))
def spec_l13Path.j1 : Nat → ByteArray → List ByteArray → Bool → Option (List ByteArray × Bool)
 | 0, _, _, _ => none
 | k + 1, x0, x4, x17 => if x17 = true then (some (([] : List ByteArray), false)) else (spec_l13Path.l1 k x0 x4 1)
def spec_l13Path.l1 : Nat → ByteArray → List ByteArray → Int → Option (List ByteArray × Bool)
 | 0, _, _, _ => none
 | k + 1, x0, x4, x5 => if x5 < (x0.size : Int) then (if 0 ≤ x5 then (if (bt x0 x5) = 47 then (if 1 ≤ x5 then (if x5 ≤ (x0.size : Int) then ((spec_l8Name.f k (x0.extract 1 (x5 : Int).toNat)).bind fun t234 => (if t234 = true then (if x4.length < 8796093022208 then (spec_l13Path.l0 k (x0.extract (x5 : Int).toNat x0.size) (x4 ++ [x0.extract 1 (x5 : Int).toNat])) else (none)) else (some (([] : List ByteArray), false)))) else (none)) else (none)) else (spec_l13Path.l1 k x0 x4 (wrap64 (x5 + 1)))) else (none)) else (if 1 ≤ x5 then (if x5 ≤ (x0.size : Int) then ((spec_l8Name.f k (x0.extract 1 (x5 : Int).toNat)).bind fun t238 => (if t238 = true then (if x4.length < 8796093022208 then (if 0 ≤ x5 then (spec_l13Path.l0 k (x0.extract (x5 : Int).toNat x0.size) (x4 ++ [x0.extract 1 (x5 : Int).toNat])) else (none)) else (none)) else (some (([] : List ByteArray), false)))) else (none)) else (none))
end
def spec_l13Path.f (k : Nat) (a0 : ByteArray) : Option (List ByteArray × Bool) := if a0.toList = ([47] : List UInt8) then (some (([] : List ByteArray), true)) else (spec_l13Path.l0 k a0 ([] : List ByteArray))
theorem spec_l13Path.mono_l : ∀ k, (∀ y0 y1, LeO (spec_l13Path.l0 k y0 y1) (spec_l13Path.l0 (k + 1) y0 y1)) ∧ (∀ y0 y1 y2, LeO (spec_l13Path.j1 k y0 y1 y2) (spec_l13Path.j1 (k + 1) y0 y1 y2)) ∧ (∀ y0 y1 y2, LeO (spec_l13Path.l1 k y0 y1 y2) (spec_l13Path.l1 (k + 1) y0 y1 y2))
 | 0 => ⟨fun _ _ r h => by simp [spec_l13Path.l0] at h, fun _ _ _ r h => by simp [spec_l13Path.j1] at h, fun _ _ _ r h => by simp [spec_l13Path.l1] at h⟩
 | k + 1 => by
  obtain ⟨ih0, ih1, ih2⟩ := spec_l13Path.mono_l k
  refine ⟨?_, ?_, ?_⟩ <;> intros <;> first | unfold spec_l13Path.l0 | unfold spec_l13Path.j1 | unfold spec_l13Path.l1
  all_goals repeat' first
   | (with_reducible exact ih0 _ _)
   | (with_reducible exact ih1 _ _ _)
   | (with_reducible exact ih2 _ _ _)
   | (with_reducible exact spec_l8Name.mono _ _)
   | (with_reducible exact LeO.refl _)
   | (with_reducible exact LeO.none _)
   | (with_reducible refine LeO.ite ?_ ?_)
   | (with_reducible refine LeO.bind ?_ (fun _ => ?_))
   | exact ih0 _ _
   | exact ih1 _ _ _
   | exact ih2 _ _ _
   | exact spec_l8Name.mono _ _
   | exact LeO.none _
   | refine LeO.ite ?_ ?_
   | refine LeO.bind ?_ (fun _ => ?_)
theorem spec_l13Path.mono : ∀ a0 k, LeO (spec_l13Path.f k a0) (spec_l13Path.f (k + 1) a0) := by
 intro a0 k
 obtain ⟨ih0, ih1, ih2⟩ := spec_l13Path.mono_l k
 unfold spec_l13Path.f
 repeat' first
   | (with_reducible exact ih0 _ _)
   | (with_reducible exact ih1 _ _ _)
   | (with_reducible exact ih2 _ _ _)
   | (with_reducible exact spec_l8Name.mono _ _)
   | (with_reducible exact LeO.refl _)
   | (with_reducible exact LeO.none _)
   | (with_reducible refine LeO.ite ?_ ?_)
   | (with_reducible refine LeO.bind ?_ (fun _ => ?_))
   | exact ih0 _ _
   | exact ih1 _ _ _
   | exact ih2 _ _ _
   | exact spec_l8Name.mono _ _
   | exact LeO.none _
   | refine LeO.ite ?_ ?_
   | refine LeO.bind ?_ (fun _ => ?_)
set_option maxHeartbeats 8000000 in
set_option maxRecDepth 100000 in
theorem spec_l13Path.calls (k : Nat) (a0 : ByteArray) (r1 : List ByteArray) (r2 : Bool) (w : World) (h : spec_l13Path.f k a0 = some (r1, r2)) :
  Calls Tryd.prog 21 #[.string a0] w fun e w' => ∃ v0_ : Value, e = .returned (.tuple #[v0_, .bool r2]) ∧ Kd.R Kd.string 9 w' w.heap.size (fun _ => True) v0_ r1 ∧ Below w.heap.size w w' := by
 have HB := Ah (Below.refl w.heap.size w)
 have H : (if a0.toList = ([47] : List UInt8) then (some (([] : List ByteArray), true)) else (spec_l13Path.l0 k a0 ([] : List ByteArray))) = some (r1, r2) := h
 clear h
 by_cases c2 : a0.toList = ([47] : List UInt8)
 ·
  rw [if_pos c2] at H
  have c2b0 : (a0.toList == ([47] : List UInt8)) = true := beq_iff_eq.mpr c2
  have c2b1 : (a0.toList != ([47] : List UInt8)) = false := bne_eq_false_iff_eq.mpr c2
  clear c2
  simp only [Option.some.injEq, Prod.mk.injEq] at H
  obtain ⟨rfl, rfl⟩ := H
  go_enter Tryd.func21, Tryd.ntmps21
  go_wp2
  go_ret2
  exact ⟨_, er, by first | exact Kd.R_nil _ _ _ _ _ | exact Kd.N_nil _ _ _ _ _ | exact Kd.V_nil _ _ _ _ _ | exact Kd.Q_nil _ _ _ _ _ | exact Kd.S_nil _ _ _ _ _, bs HB⟩
 rw [if_neg c2] at H
 have c2b0 : (a0.toList == ([47] : List UInt8)) = false := beq_eq_false_iff_ne.mpr c2
 have c2b1 : (a0.toList != ([47] : List UInt8)) = true := bne_iff_ne.mpr c2
 have H' := Ah H
 clear H
 go_enter Tryd.func21, Tryd.ntmps21
 go_wp2
 go_loopg [0, 4] k (fun kq v0 v4 w' => ∃ (x0_1 : ByteArray) (x4_1 : List ByteArray), v0 = .string x0_1 ∧ Aside0 (spec_l13Path.l0 kq x0_1 x4_1 = some (r1, r2)) ∧ Aside0 (kq ≤ k) ∧ Aside0 (Kd.R Kd.string 9 w' w.heap.size (fun _ => True) v4 x4_1) ∧ Aside0 (Below w.heap.size w w'))
 case atStart => exact ⟨(a0), (([] : List ByteArray)), e3, H', ⟨Nat.le_refl _⟩, ⟨by first | exact Kd.R_nil _ _ _ _ _ | exact Kd.N_nil _ _ _ _ _ | exact Kd.V_nil _ _ _ _ _ | exact Kd.Q_nil _ _ _ _ _ | exact Kd.S_nil _ _ _ _ _⟩, ⟨bs HB⟩⟩
 case round =>
  clear H'
  try clear c2
  try clear c2b0
  try clear c2b1
  try clear p2
  obtain ⟨x0_1, x4_1, rfl, HA, HK1, HO_4, HB⟩ := hrel
  cases gk with
  | zero => exact absurd HA.out (by simp [spec_l13Path.l0])
  | succ k1 =>
   have H := HA.out
   clear HA
   simp only [spec_l13Path.l0] at H
   by_cases c3 : x0_1.toList = ([] : List UInt8)
   ·
    rw [if_pos c3] at H
    have c3b0 : (x0_1.toList == ([] : List UInt8)) = true := beq_iff_eq.mpr c3
    have c3b1 : (x0_1.toList != ([] : List UInt8)) = false := bne_eq_false_iff_eq.mpr c3
    clear c3
    simp only [Option.some.injEq, Prod.mk.injEq] at H
    obtain ⟨rfl, rfl⟩ := H
    obtain ⟨Ao4, co4, eo4⟩ := Kd.R_slice HO_4.out
    subst eo4
    go_wp2
    go_ret2
    exact ⟨_, er, by (with_reducible repeat (first | apply Kd.R_alloc | apply Kd.R_drewN | apply Kd.R_drew)); exact HO_4.out, bs HB⟩
   rw [if_neg c3] at H
   have c3b0 : (x0_1.toList == ([] : List UInt8)) = false := beq_eq_false_iff_ne.mpr c3
   have c3b1 : (x0_1.toList != ([] : List UInt8)) = true := bne_iff_ne.mpr c3
   have HC5 := Ah H
   clear H
   go_upto_region 5 with (fail)
   go_cut [17] (fun v17 wc => ∃ (kq : Nat) (x17_4 : Bool), v17 = .bool x17_4 ∧ Aside0 (spec_l13Path.j1 kq x0_1 x4_1 x17_4 = some (r1, r2)) ∧ Aside0 (kq ≤ k1) ∧ Aside0 (Kd.R Kd.string 9 wc w.heap.size (fun _ => True) u4 x4_1) ∧ Aside0 (Below w.heap.size w wc))
   case first =>
    have H := HC5.out
    clear HC5
    by_cases c6 : 0 < (x0_1.size : Int)
    rotate_left
    ·
     rw [if_neg c6] at H
     exact absurd H (by simp)
    rw [if_pos c6] at H
    have c6b0 : decide (0 < (x0_1.size : Int)) = true := decide_eq_true c6
    have c6b1 : decide (0 < x0_1.size) = true := decide_eq_true (by omega)
    clear c6
    (first | rw [c6b0] | (simp only [i64_w, i32_w]; rw [c6b0]) | (simp only [c6b2, Bool.not_false, Bool.not_true]) | skip)
    by_cases c8 : (bt x0_1 0) = 47
    rotate_left
    ·
     rw [if_neg c8] at H
     have c8b0 : ((bt x0_1 0) == 47) = false := beq_eq_false_iff_ne.mpr c8
     have c8b1 : ((bt x0_1 0) != 47) = true := bne_iff_ne.mpr c8
     have H' := Ah H
     clear H
     have p7 : 0 ≤ (0 : Int) := (by omega)
     have q7 : 0 < x0_1.size := (by have : (0 : Int) < (x0_1.size : Int) := od; omega)
     have hx7 : ∀ h : 0 < x0_1.size, ((x0_1[0]'h).toNat : Int) = bt x0_1 0 := bt_at x0_1 0
     clear p7
     have qi7 : (0 < (x0_1.size : Int)) = True := eq_true (od)
     replace q7 := eq_true q7
     go_wp2
     go_meet
     case rel => exact ⟨_, (true), e3, H', ⟨by have := HK1.out; first | omega | exact Nat.le_refl _⟩, ⟨rr HO_4.out⟩, ⟨bs HB⟩⟩
    rw [if_pos c8] at H
    have c8b0 : ((bt x0_1 0) == 47) = true := beq_iff_eq.mpr c8
    have c8b1 : ((bt x0_1 0) != 47) = false := bne_eq_false_iff_eq.mpr c8
    clear c8
    have H' := Ah H
    clear H
    have p7 : 0 ≤ (0 : Int) := (by omega)
    have q7 : 0 < x0_1.size := (by have : (0 : Int) < (x0_1.size : Int) := od; omega)
    have hx7 : ∀ h : 0 < x0_1.size, ((x0_1[0]'h).toNat : Int) = bt x0_1 0 := bt_at x0_1 0
    clear p7
    have qi7 : (0 < (x0_1.size : Int)) = True := eq_true (od)
    replace q7 := eq_true q7
    obtain ⟨Ao9, co9, eo9⟩ := Kd.R_slice HO_4.out
    subst eo9
    go_wp2
    go_meet
    case rel => exact ⟨_, (((x4_1.length : Int) == 8)), e3, H', ⟨by have := HK1.out; first | omega | exact Nat.le_refl _⟩, ⟨rr HO_4.out⟩, ⟨bs HB⟩⟩
   case rest =>
    clear HC5
    try clear c2
    try clear c2b0
    try clear c2b1
    try clear p2
    try clear c3
    try clear c3b0
    try clear c3b1
    try clear c6
    try clear c6b0
    try clear c6b1
    try clear p7
    try clear q7
    try clear hx7
    try clear qi7
    try clear c8
    try clear c8b0
    try clear c8b1
    try clear p2
    try clear p7
    try clear q7
    obtain ⟨kq, x17_4, rfl, HA, HJ4, HO_4, HB⟩ := hcut
    cases kq with
    | zero => exact absurd HA.out (by simp [spec_l13Path.j1])
    | succ kj4 =>
     have H := HA.out
     clear HA
     simp only [spec_l13Path.j1] at H
     by_cases c10 : x17_4 = true
     ·
      subst c10
      rw [if_pos rfl] at H
      simp only [Option.some.injEq, Prod.mk.injEq] at H
      obtain ⟨rfl, rfl⟩ := H
      go_wp2
      go_ret2
      exact ⟨_, er, by first | exact Kd.R_nil _ _ _ _ _ | exact Kd.N_nil _ _ _ _ _ | exact Kd.V_nil _ _ _ _ _ | exact Kd.Q_nil _ _ _ _ _ | exact Kd.S_nil _ _ _ _ _, bs HB⟩
     replace c10 := Bool.eq_false_iff.mpr c10
     subst c10
     rw [if_neg fne] at H
     have H' := Ah H
     clear H
     go_wp2
     go_loopg [5] kj4 (fun kq v5 w' => ∃ (x5_3 : Int), v5 = .int .i64 x5_3 ∧ Aside0 (spec_l13Path.l1 kq x0_1 x4_1 x5_3 = some (r1, r2)) ∧ Aside0 (kq ≤ kj4) ∧ Aside0 (Kd.R Kd.string 9 w' w.heap.size (fun _ => True) u4 x4_1) ∧ Aside0 (Below w.heap.size w w'))
     case atStart => exact ⟨(1), e3, H', ⟨Nat.le_refl _⟩, ⟨rr HO_4.out⟩, ⟨bs HB⟩⟩
     case round =>
      clear H'
      try clear c1
      try clear c2
      try clear c2b0
      try clear c2b1
      try clear p2
      try clear c3
      try clear c3b0
      try clear c3b1
      try clear c6
      try clear c6b0
      try clear c6b1
      try clear p7
      try clear q7
      try clear hx7
      try clear qi7
      try clear c8
      try clear c8b0
      try clear c8b1
      try clear c10
      try clear p2
      try clear p7
      try clear q7
      obtain ⟨x5_3, rfl, HA, HK3, HO_4, HB⟩ := hrel
      cases gk with
      | zero => exact absurd HA.out (by simp [spec_l13Path.l1])
      | succ k3 =>
       have H := HA.out
       clear HA
       simp only [spec_l13Path.l1] at H
       by_cases c11 : x5_3 < (x0_1.size : Int)
       rotate_left
       ·
        rw [if_neg c11] at H
        have c11b0 : decide (x5_3 < (x0_1.size : Int)) = false := decide_eq_false c11
        clear c11
        by_cases c25 : 1 ≤ x5_3
        rotate_left
        ·
         rw [if_neg c25] at H
         exact absurd H (by simp)
        rw [if_pos c25] at H
        have c25b0 := eq_true c25
        have c25b1 : decide (1 ≤ x5_3) = true := decide_eq_true c25
        clear c25
        by_cases c26 : x5_3 ≤ (x0_1.size : Int)
        rotate_left
        ·
         rw [if_neg c26] at H
         exact absurd H (by simp)
        rw [if_pos c26] at H
        have c26b0 := eq_true c26
        have c26b1 : decide (x5_3 ≤ (x0_1.size : Int)) = true := decide_eq_true c26
        clear c26
        replace H := Option.bind_eq_some_iff.mp H
        obtain ⟨t238, A270, H⟩ := H
        try dsimp only at H
        have A27 := Ah A270
        clear A270
        by_cases c28 : t238 = true
        rotate_left
        ·
         replace c28 := Bool.eq_false_iff.mpr c28
         subst c28
         rw [if_neg fne] at H
         simp only [Option.some.injEq, Prod.mk.injEq] at H
         obtain ⟨rfl, rfl⟩ := H
         go_wp2_with (first | ((with_reducible refine gate_callee (f := 14) rfl ?_); refine gL (some 33) rfl rfl Tryd.func14 (by kernel_rfl) rfl #[.string (x0_1.extract 1 (x5_3 : Int).toNat)] rfl ?_; (with_reducible refine (spec_l8Name.calls k3 (x0_1.extract 1 (x5_3 : Int).toNat) false _ A27.out).mono ?_); rintro e w' ⟨rfl, ⟨nd, rfl⟩⟩; refine ⟨_, rfl, ?_⟩))
         go_ret2
         exact ⟨_, er, by first | exact Kd.R_nil _ _ _ _ _ | exact Kd.N_nil _ _ _ _ _ | exact Kd.V_nil _ _ _ _ _ | exact Kd.Q_nil _ _ _ _ _ | exact Kd.S_nil _ _ _ _ _, bs HB⟩
        subst c28
        rw [if_pos rfl] at H
        have c29b0 := eq_true (od : 1 ≤ x5_3)
        have c30b0 := eq_true (od : x5_3 ≤ (x0_1.size : Int))
        by_cases c31 : x4_1.length < 8796093022208
        rotate_left
        ·
         rw [if_neg c31] at H
         exact absurd H (by simp)
        rw [if_pos c31] at H
        have LMc31 := Ah c31
        clear c31
        obtain ⟨y239, hy239⟩ : ∃ y_ : List ByteArray, y_ = (x4_1 ++ [x0_1.extract 1 (x5_3 : Int).toNat]) := ⟨_, rfl⟩
        replace H : (if 0 ≤ x5_3 then (spec_l13Path.l0 k3 (x0_1.extract (x5_3 : Int).toNat x0_1.size) y239) else (none)) = some (r1, r2) := by first | (rw [hy239]; with_reducible exact H) | (have H2_ := (Option.bind_some _ _).symm.trans H; rw [hy239]; with_reducible exact H2_) | (have H2_ := (Option.bind_some _ _).symm.trans H; with_reducible exact H2_) | with_reducible exact H | (rw [hy239]; exact H) | exact H
        have Ny239 := Ah hy239
        clear hy239
        by_cases c32 : 0 ≤ x5_3
        rotate_left
        ·
         rw [if_neg c32] at H
         exact absurd H (by simp)
        rw [if_pos c32] at H
        have c32b0 := eq_true c32
        have c32b1 : decide (0 ≤ x5_3) = true := decide_eq_true c32
        clear c32
        have c33b0 := eq_true (od : x5_3 ≤ (x0_1.size : Int))
        have H' := Ah H
        clear H
        go_wp2_with (first | ((with_reducible refine gate_callee (f := 14) rfl ?_); refine gL (some 33) rfl rfl Tryd.func14 (by kernel_rfl) rfl #[.string (x0_1.extract 1 (x5_3 : Int).toNat)] rfl ?_; (with_reducible refine (spec_l8Name.calls k3 (x0_1.extract 1 (x5_3 : Int).toNat) true _ A27.out).mono ?_); rintro e w' ⟨rfl, ⟨nd, rfl⟩⟩; refine ⟨_, rfl, ?_⟩) | ((with_reducible refine gate_builtin (b := .append) (xs := #[.tmp 35, .tmp 39]) rfl ?_); (try (refine gate_guard (by rfl) ?_; dsimp only)); at_builtin; refine Kd.R_append Kd.string (w0 := w) w.heap.size rfl (.tmp 35) (.tmp 39) 51 9 (.string ⟨#[]⟩) 16 rfl Tryd.underlying51 info9 rfl (by decide) (by omega) u4 x4_1 (x0_1.extract 1 (x5_3 : Int).toNat) [.string (x0_1.extract 1 (x5_3 : Int).toNat)] (fun _ => True) (fun _ => False) rfl rfl ?aP (fun _ hk => hk.elim) ?aF ?aO ?aB ?aS ?aL ?_; (case aP => exact rfl); (case aB => exact (bs HB)); (case aF => exact (fun _ _ => trivial)); (case aO => exact (rr HO_4.out)); (case aS => exact (below_size (bs HB))); (case aL => have := LMc31.out; omega); intro v240 w34 ho hb hg hat; rw [← Ny239.out] at ho; replace HB := Ah (hb); have HO241 := Ah (ho); clear HO_4; clear ho hb hg hat))
        go_roundg k3
        case measure => have := HK1.out; have := HJ4.out; have := HK3.out; omega
        case rel => exact ⟨(x0_1.extract (x5_3 : Int).toNat x0_1.size), (y239), e3, H', ⟨by have := HK1.out; have := HJ4.out; have := HK3.out; omega⟩, ⟨rr HO241.out⟩, ⟨bs HB⟩⟩
       rw [if_pos c11] at H
       have c11b0 : decide (x5_3 < (x0_1.size : Int)) = true := decide_eq_true c11
       clear c11
       by_cases c12 : 0 ≤ x5_3
       rotate_left
       ·
        rw [if_neg c12] at H
        exact absurd H (by simp)
       rw [if_pos c12] at H
       have c12b0 : decide (0 ≤ x5_3) = true := decide_eq_true c12
       clear c12
       by_cases c14 : (bt x0_1 x5_3) = 47
       rotate_left
       ·
        rw [if_neg c14] at H
        have c14b0 : ((bt x0_1 x5_3) == 47) = false := beq_eq_false_iff_ne.mpr c14
        have c14b1 : ((bt x0_1 x5_3) != 47) = true := bne_iff_ne.mpr c14
        have H' := Ah H
        clear H
        have p13 : 0 ≤ (x5_3 : Int) := od
        have q13 : x5_3 < (x0_1.size : Int) := od
        have hx13 := bt_at x0_1 x5_3
        replace p13 := eq_true p13
        replace q13 := eq_true q13
        go_wp2
        go_roundg k3
        case measure => have := HK1.out; have := HJ4.out; have := HK3.out; omega
        case rel => exact ⟨(wrap64 (x5_3 + 1)), e3, H', ⟨by have := HK1.out; have := HJ4.out; have := HK3.out; omega⟩, ⟨rr HO_4.out⟩, ⟨bs HB⟩⟩
       rw [if_pos c14] at H
       have c14b0 : ((bt x0_1 x5_3) == 47) = true := beq_iff_eq.mpr c14
       have c14b1 : ((bt x0_1 x5_3) != 47) = false := bne_eq_false_iff_eq.mpr c14
       clear c14
       by_cases c15 : 1 ≤ x5_3
       rotate_left
       ·
        rw [if_neg c15] at H
        exact absurd H (by simp)
       rw [if_pos c15] at H
       have c15b0 := eq_true c15
       have c15b1 : decide (1 ≤ x5_3) = true := decide_eq_true c15
       clear c15
       by_cases c16 : x5_3 ≤ (x0_1.size : Int)
       rotate_left
       ·
        rw [if_neg c16] at H
        exact absurd H (by simp)
       rw [if_pos c16] at H
       have c16b0 := eq_true c16
       have c16b1 : decide (x5_3 ≤ (x0_1.size : Int)) = true := decide_eq_true c16
       clear c16
       replace H := Option.bind_eq_some_iff.mp H
       obtain ⟨t234, A170, H⟩ := H
       try dsimp only at H
       have A17 := Ah A170
       clear A170
       by_cases c18 : t234 = true
       rotate_left
       ·
        replace c18 := Bool.eq_false_iff.mpr c18
        subst c18
        rw [if_neg fne] at H
        simp only [Option.some.injEq, Prod.mk.injEq] at H
        obtain ⟨rfl, rfl⟩ := H
        have p13 : 0 ≤ (x5_3 : Int) := od
        have q13 : x5_3 < (x0_1.size : Int) := od
        have hx13 := bt_at x0_1 x5_3
        replace p13 := eq_true p13
        replace q13 := eq_true q13
        go_wp2_with (first | ((with_reducible refine gate_callee (f := 14) rfl ?_); refine gL (some 33) rfl rfl Tryd.func14 (by kernel_rfl) rfl #[.string (x0_1.extract 1 (x5_3 : Int).toNat)] rfl ?_; (with_reducible refine (spec_l8Name.calls k3 (x0_1.extract 1 (x5_3 : Int).toNat) false _ A17.out).mono ?_); rintro e w' ⟨rfl, ⟨nd, rfl⟩⟩; refine ⟨_, rfl, ?_⟩))
        go_ret2
        exact ⟨_, er, by first | exact Kd.R_nil _ _ _ _ _ | exact Kd.N_nil _ _ _ _ _ | exact Kd.V_nil _ _ _ _ _ | exact Kd.Q_nil _ _ _ _ _ | exact Kd.S_nil _ _ _ _ _, bs HB⟩
       subst c18
       rw [if_pos rfl] at H
       have c19b0 := eq_true (od : 1 ≤ x5_3)
       have c20b0 := eq_true (od : x5_3 ≤ (x0_1.size : Int))
       by_cases c21 : x4_1.length < 8796093022208
       rotate_left
       ·
        rw [if_neg c21] at H
        exact absurd H (by simp)
       rw [if_pos c21] at H
       have LMc21 := Ah c21
       clear c21
       obtain ⟨y235, hy235⟩ : ∃ y_ : List ByteArray, y_ = (x4_1 ++ [x0_1.extract 1 (x5_3 : Int).toNat]) := ⟨_, rfl⟩
       replace H : (spec_l13Path.l0 k3 (x0_1.extract (x5_3 : Int).toNat x0_1.size) y235) = some (r1, r2) := by first | (rw [hy235]; with_reducible exact H) | (have H2_ := (Option.bind_some _ _).symm.trans H; rw [hy235]; with_reducible exact H2_) | (have H2_ := (Option.bind_some _ _).symm.trans H; with_reducible exact H2_) | with_reducible exact H | (rw [hy235]; exact H) | exact H
       have Ny235 := Ah hy235
       clear hy235
       have c22b0 := eq_true (od : 0 ≤ x5_3)
       have c23b0 := eq_true (od : x5_3 ≤ (x0_1.size : Int))
       have H' := Ah H
       clear H
       have p13 : 0 ≤ (x5_3 : Int) := od
       have q13 : x5_3 < (x0_1.size : Int) := od
       have hx13 := bt_at x0_1 x5_3
       replace p13 := eq_true p13
       replace q13 := eq_true q13
       go_wp2_with (first | ((with_reducible refine gate_callee (f := 14) rfl ?_); refine gL (some 33) rfl rfl Tryd.func14 (by kernel_rfl) rfl #[.string (x0_1.extract 1 (x5_3 : Int).toNat)] rfl ?_; (with_reducible refine (spec_l8Name.calls k3 (x0_1.extract 1 (x5_3 : Int).toNat) true _ A17.out).mono ?_); rintro e w' ⟨rfl, ⟨nd, rfl⟩⟩; refine ⟨_, rfl, ?_⟩) | ((with_reducible refine gate_builtin (b := .append) (xs := #[.tmp 35, .tmp 39]) rfl ?_); (try (refine gate_guard (by rfl) ?_; dsimp only)); at_builtin; refine Kd.R_append Kd.string (w0 := w) w.heap.size rfl (.tmp 35) (.tmp 39) 51 9 (.string ⟨#[]⟩) 16 rfl Tryd.underlying51 info9 rfl (by decide) (by omega) u4 x4_1 (x0_1.extract 1 (x5_3 : Int).toNat) [.string (x0_1.extract 1 (x5_3 : Int).toNat)] (fun _ => True) (fun _ => False) rfl rfl ?aP (fun _ hk => hk.elim) ?aF ?aO ?aB ?aS ?aL ?_; (case aP => exact rfl); (case aB => exact (bs HB)); (case aF => exact (fun _ _ => trivial)); (case aO => exact (rr HO_4.out)); (case aS => exact (below_size (bs HB))); (case aL => have := LMc21.out; omega); intro v236 w24 ho hb hg hat; rw [← Ny235.out] at ho; replace HB := Ah (hb); have HO237 := Ah (ho); clear HO_4; clear ho hb hg hat))
       go_roundg k3
       case measure => have := HK1.out; have := HJ4.out; have := HK3.out; omega
       case rel => exact ⟨(x0_1.extract (x5_3 : Int).toNat x0_1.size), (y235), e3, H', ⟨by have := HK1.out; have := HJ4.out; have := HK3.out; omega⟩, ⟨rr HO237.out⟩, ⟨bs HB⟩⟩

/-! ### spec_l8At: function 29 -/
def spec_l8At.l0 : Nat → List (S42) → ByteArray → Int → Option (Int × Bool)
 | 0, _, _, _ => none
 | k + 1, x0, x1, x6 => if x6 < (x0.length : Int) then (if 0 ≤ x6 then (if (Op.bytesLess (((rd_T42 x0 x6).f0).toList) x1.toList) = true then (spec_l8At.l0 k x0 x1 (wrap64 (x6 + 1))) else (some (x6, (((rd_T42 x0 x6).f0).toList == x1.toList)))) else (none)) else (some (x6, false))
def spec_l8At.f (k : Nat) (l0 : List (S42)) (a1 : ByteArray) : Option (Int × Bool) := spec_l8At.l0 k l0 a1 0
theorem spec_l8At.mono_l : ∀ k, (∀ y0 y1 y2, LeO (spec_l8At.l0 k y0 y1 y2) (spec_l8At.l0 (k + 1) y0 y1 y2))
 | 0 => fun _ _ _ r h => by simp [spec_l8At.l0] at h
 | k + 1 => by
  have ih0 := spec_l8At.mono_l k
  ·
   intro y0 y1 y2
   unfold spec_l8At.l0
   repeat' first
   | (with_reducible exact ih0 _ _ _)
   | (with_reducible exact LeO.refl _)
   | (with_reducible exact LeO.none _)
   | (with_reducible refine LeO.ite ?_ ?_)
   | (with_reducible refine LeO.bind ?_ (fun _ => ?_))
   | exact ih0 _ _ _
   | exact LeO.none _
   | refine LeO.ite ?_ ?_
   | refine LeO.bind ?_ (fun _ => ?_)
theorem spec_l8At.mono : ∀ a0 a1 k, LeO (spec_l8At.f k a0 a1) (spec_l8At.f (k + 1) a0 a1) := by
 intro a0 a1 k
 have ih0 := spec_l8At.mono_l k
 unfold spec_l8At.f
 repeat' first
   | (with_reducible exact ih0 _ _ _)
   | (with_reducible exact LeO.refl _)
   | (with_reducible exact LeO.none _)
   | (with_reducible refine LeO.ite ?_ ?_)
   | (with_reducible refine LeO.bind ?_ (fun _ => ?_))
   | exact ih0 _ _ _
   | exact LeO.none _
   | refine LeO.ite ?_ ?_
   | refine LeO.bind ?_ (fun _ => ?_)
set_option maxHeartbeats 8000000 in
set_option maxRecDepth 100000 in
theorem spec_l8At.calls (k : Nat) (A0 : Option Addr) (c0 : Nat) (l0 : List (S42)) (a1 : ByteArray) (r1 : Int) (r2 : Bool) (w : World) (hr0 : Kd.C k42 w A0 l0.length l0) (hc0 : l0.length ≤ c0) (h : spec_l8At.f k l0 a1 = some (r1, r2)) :
  Calls Tryd.prog 29 #[.slice A0 l0.length c0, .string a1] w fun e w' => e = .returned (.tuple #[.int .i64 r1, .bool r2]) ∧ Drawn0 w w' := by
 have HR0 := Ah hr0
 have HC0 := Ah hc0
 clear hr0 hc0
 have H : (spec_l8At.l0 k l0 a1 0) = some (r1, r2) := h
 clear h
 have H' := Ah H
 clear H
 go_enter Tryd.func29, Tryd.ntmps29
 go_wp2
 repeat (go_quiet (fail); try go_wp2)
 go_loopg [6] k (fun kq v6 w' => ∃ (x6_1 : Int), v6 = .int .i64 x6_1 ∧ Aside0 (spec_l8At.l0 kq l0 a1 x6_1 = some (r1, r2)) ∧ Aside0 (kq ≤ k) ∧ Drawn0 w w')
 case atStart => exact ⟨(0), e3, H', ⟨Nat.le_refl _⟩, by repeat (first | exact Drawn0.refl _ | apply Drawn0.step)⟩
 case round =>
  clear H'
  try clear c2
  try clear p2
  obtain ⟨x6_1, rfl, HA, HK1, ⟨m1, rfl⟩⟩ := hrel
  cases gk with
  | zero => exact absurd HA.out (by simp [spec_l8At.l0])
  | succ k1 =>
   have H := HA.out
   clear HA
   simp only [spec_l8At.l0] at H
   by_cases c3 : x6_1 < (l0.length : Int)
   rotate_left
   ·
    rw [if_neg c3] at H
    have c3b0 : decide (x6_1 < (l0.length : Int)) = false := decide_eq_false c3
    clear c3
    simp only [Option.some.injEq, Prod.mk.injEq] at H
    obtain ⟨rfl, rfl⟩ := H
    go_wp2
    repeat (go_quiet (fail); try go_wp2)
    go_ret2
    exact ⟨e3, by repeat (first | exact Drawn0.refl _ | apply Drawn0.step)⟩
   rw [if_pos c3] at H
   have c3b0 : decide (x6_1 < (l0.length : Int)) = true := decide_eq_true c3
   clear c3
   by_cases c4 : 0 ≤ x6_1
   rotate_left
   ·
    rw [if_neg c4] at H
    exact absurd H (by simp)
   rw [if_pos c4] at H
   have c4b0 : decide (0 ≤ x6_1) = true := decide_eq_true c4
   clear c4
   by_cases c5 : (Op.bytesLess (((rd_T42 l0 x6_1).f0).toList) a1.toList) = true
   ·
    rw [if_pos c5] at H
    have c5b0 : (Op.bytesLess (((rd_T42 l0 x6_1).f0).toList) a1.toList) = true := c5
    clear c5
    have H' := Ah H
    clear H
    have p242 : 0 ≤ (x6_1 : Int) := od
    have q242 : x6_1 < (l0.length : Int) := od
    obtain ⟨ad242, e242, hx242_0, hx242_1⟩ := at_T42 HR0.out x6_1 p242 q242
    cases e242
    replace p242 := eq_true p242
    replace q242 := eq_true q242
    go_wp2
    repeat (go_quiet (fail); try go_wp2)
    go_roundg k1
    case measure => have := HK1.out; omega
    case rel => exact ⟨(wrap64 (x6_1 + 1)), e3, H', ⟨by have := HK1.out; omega⟩, by repeat (first | exact Drawn0.refl _ | apply Drawn0.step)⟩
   rw [if_neg c5] at H
   have c5b0 : (Op.bytesLess (((rd_T42 l0 x6_1).f0).toList) a1.toList) = false := by simpa using c5
   clear c5
   simp only [Option.some.injEq, Prod.mk.injEq] at H
   obtain ⟨rfl, rfl⟩ := H
   have p242 : 0 ≤ (x6_1 : Int) := od
   have q242 : x6_1 < (l0.length : Int) := od
   obtain ⟨ad242, e242, hx242_0, hx242_1⟩ := at_T42 HR0.out x6_1 p242 q242
   cases e242
   replace p242 := eq_true p242
   replace q242 := eq_true q242
   have p243 : 0 ≤ (x6_1 : Int) := od
   have q243 : x6_1 < (l0.length : Int) := od
   obtain ⟨ad243, e243, hx243_0, hx243_1⟩ := at_T42 HR0.out x6_1 p243 q243
   obtain rfl : ad242 = ad243 := (by injection e243)
   replace p243 := eq_true p243
   replace q243 := eq_true q243
   go_wp2
   repeat (go_quiet (fail); try go_wp2)
   go_ret2
   exact ⟨e3, by repeat (first | exact Drawn0.refl _ | apply Drawn0.step)⟩

/-! ### spec_l13Walk: function 22 -/
def spec_l13Walk.l0 : Nat → Int → List ByteArray → Int → Int → List (S40) → Option (Int × Int)
 | 0, _, _, _, _, _ => none
 | k + 1, x6, x11, x12, x13, x245000 => if x13 < x12 then (if 0 ≤ x13 then (if x13 < (x11.length : Int) then (if 0 ≤ x6 then (if x6 < (x245000.length : Int) then (if ((rd_T40 x245000 x6).f0 = true) then ((spec_l8At.f k ((rd_T40 x245000 x6).f2) (rdOf ByteArray.empty x11 x13)).bind fun bt248 => (if bt248.2 = true then (if 0 ≤ bt248.1 then (if bt248.1 < (((rd_T40 x245000 x6).f2).length : Int) then (spec_l13Walk.l0 k ((rd_T42 ((rd_T40 x245000 x6).f2) bt248.1).f1) x11 x12 (wrap64 (x13 + 1)) x245000) else (none)) else (none)) else (some (0, 2)))) else (some (0, 4))) else (none)) else (none)) else (none)) else (none)) else (some (x6, 0))
def spec_l13Walk.f (k : Nat) (l0_0 : List (S40)) (l1 : List ByteArray) : Option (Int × Int) := spec_l13Walk.l0 k 0 l1 (l1.length : Int) 0 l0_0
theorem spec_l13Walk.mono_l : ∀ k, (∀ y0 y1 y2 y3 y4, LeO (spec_l13Walk.l0 k y0 y1 y2 y3 y4) (spec_l13Walk.l0 (k + 1) y0 y1 y2 y3 y4))
 | 0 => fun _ _ _ _ _ r h => by simp [spec_l13Walk.l0] at h
 | k + 1 => by
  have ih0 := spec_l13Walk.mono_l k
  ·
   intro y0 y1 y2 y3 y4
   unfold spec_l13Walk.l0
   repeat' first
   | (with_reducible exact ih0 _ _ _ _ _)
   | (with_reducible exact spec_l8At.mono _ _ _)
   | (with_reducible exact LeO.refl _)
   | (with_reducible exact LeO.none _)
   | (with_reducible refine LeO.ite ?_ ?_)
   | (with_reducible refine LeO.bind ?_ (fun _ => ?_))
   | exact ih0 _ _ _ _ _
   | exact spec_l8At.mono _ _ _
   | exact LeO.none _
   | refine LeO.ite ?_ ?_
   | refine LeO.bind ?_ (fun _ => ?_)
theorem spec_l13Walk.mono : ∀ a0 a1 k, LeO (spec_l13Walk.f k a0 a1) (spec_l13Walk.f (k + 1) a0 a1) := by
 intro a0 a1 k
 have ih0 := spec_l13Walk.mono_l k
 unfold spec_l13Walk.f
 repeat' first
   | (with_reducible exact ih0 _ _ _ _ _)
   | (with_reducible exact spec_l8At.mono _ _ _)
   | (with_reducible exact LeO.refl _)
   | (with_reducible exact LeO.none _)
   | (with_reducible refine LeO.ite ?_ ?_)
   | (with_reducible refine LeO.bind ?_ (fun _ => ?_))
   | exact ih0 _ _ _ _ _
   | exact spec_l8At.mono _ _ _
   | exact LeO.none _
   | refine LeO.ite ?_ ?_
   | refine LeO.bind ?_ (fun _ => ?_)
set_option maxHeartbeats 8000000 in
set_option maxRecDepth 100000 in
theorem spec_l13Walk.calls (k : Nat) (A0_0 : Option Addr) (c0_0 : Nat) (l0_0 : List (S40)) (A1 : Option Addr) (c1 : Nat) (l1 : List ByteArray) (r1 : Int) (r2 : Int) (w : World) (hr0_0 : Kd.C k40 w A0_0 l0_0.length l0_0) (hc0_0 : l0_0.length ≤ c0_0) (hr1 : Kd.C Kd.string w A1 l1.length l1) (hc1 : l1.length ≤ c1) (h : spec_l13Walk.f k l0_0 l1 = some (r1, r2)) :
  Calls Tryd.prog 22 #[.agg #[.slice A0_0 l0_0.length c0_0], .slice A1 l1.length c1] w fun e w' => e = .returned (.tuple #[.int .i64 r1, .int .i64 r2]) ∧ Below w.heap.size w w' := by
 have hu29 := Tryd.underlying29
 have HR0_0 := Ah hr0_0
 have HC0_0 := Ah hc0_0
 clear hr0_0 hc0_0
 have HR1 := Ah hr1
 have HC1 := Ah hc1
 clear hr1 hc1
 have HB := Ah (Below.refl w.heap.size w)
 have H : (spec_l13Walk.l0 k 0 l1 (l1.length : Int) 0 l0_0) = some (r1, r2) := h
 clear h
 have H' := Ah H
 clear H
 go_enter Tryd.func22, Tryd.ntmps22
 go_wp2_with (first | ((with_reducible refine gate_dst (N := 2) rfl ?_); refine boxL 2 29 #[.slice A0_0 l0_0.length c0_0] ?_; intro gb244 hg w3 BK244 hb; have GW244 := gw hg (bs HB); have GE244 := gw hg (bs HB); replace HB := Ah (below_step (bs HB) hb); clear hb hg))
 go_loopg [6, 13] k (fun kq v6 v13 w' => ∃ (x6_1 : Int) (x13_1 : Int), v6 = .int .i64 x6_1 ∧ v13 = .int .i64 x13_1 ∧ Aside0 (spec_l13Walk.l0 kq x6_1 l1 (l1.length : Int) x13_1 l0_0 = some (r1, r2)) ∧ Aside0 (kq ≤ k) ∧ Aside0 (w'.heap[gb244]? = some (.cells #[(.slice A0_0 l0_0.length c0_0)] 29 (0, 0))) ∧ Aside0 (Below w.heap.size w w'))
 case atStart => exact ⟨(0), (0), e3, e3, H', ⟨Nat.le_refl _⟩, ⟨bk BK244⟩, ⟨bs1 HB GE244⟩⟩
 case round =>
  clear H'
  try clear c1
  try clear c2
  try clear p2
  obtain ⟨x6_1, x13_1, rfl, rfl, HA, HK1, BK244, HB⟩ := hrel
  cases gk with
  | zero => exact absurd HA.out (by simp [spec_l13Walk.l0])
  | succ k1 =>
   have H := HA.out
   clear HA
   simp only [spec_l13Walk.l0] at H
   by_cases c4 : x13_1 < (l1.length : Int)
   rotate_left
   ·
    rw [if_neg c4] at H
    have c4b0 : decide (x13_1 < (l1.length : Int)) = false := decide_eq_false c4
    clear c4
    simp only [Option.some.injEq, Prod.mk.injEq] at H
    obtain ⟨rfl, rfl⟩ := H
    go_wp2
    go_ret2
    exact ⟨er, bs1 HB GE244⟩
   rw [if_pos c4] at H
   have c4b0 : decide (x13_1 < (l1.length : Int)) = true := decide_eq_true c4
   clear c4
   by_cases c5 : 0 ≤ x13_1
   rotate_left
   ·
    rw [if_neg c5] at H
    exact absurd H (by simp)
   rw [if_pos c5] at H
   have c5b0 : decide (0 ≤ x13_1) = true := decide_eq_true c5
   clear c5
   by_cases c6 : x13_1 < (l1.length : Int)
   rotate_left
   ·
    rw [if_neg c6] at H
    exact absurd H (by simp)
   rw [if_pos c6] at H
   have c6b0 : decide (x13_1 < (l1.length : Int)) = true := decide_eq_true c6
   clear c6
   by_cases c7 : 0 ≤ x6_1
   rotate_left
   ·
    rw [if_neg c7] at H
    exact absurd H (by simp)
   rw [if_pos c7] at H
   have c7b0 : decide (0 ≤ x6_1) = true := decide_eq_true c7
   clear c7
   by_cases c8 : x6_1 < (l0_0.length : Int)
   rotate_left
   ·
    rw [if_neg c8] at H
    exact absurd H (by simp)
   rw [if_pos c8] at H
   have c8b0 : decide (x6_1 < (l0_0.length : Int)) = true := decide_eq_true c8
   clear c8
   obtain ⟨bq9, hbq9⟩ : ∃ b_ : Bool, b_ = ((rd_T40 l0_0 x6_1).f0) := ⟨_, rfl⟩
   replace H : (if (bq9 = true) then ((spec_l8At.f k1 ((rd_T40 l0_0 x6_1).f2) (rdOf ByteArray.empty l1 x13_1)).bind fun bt248 => (if bt248.2 = true then (if 0 ≤ bt248.1 then (if bt248.1 < (((rd_T40 l0_0 x6_1).f2).length : Int) then (spec_l13Walk.l0 k1 ((rd_T42 ((rd_T40 l0_0 x6_1).f2) bt248.1).f1) l1 (l1.length : Int) (wrap64 (x13_1 + 1)) l0_0) else (none)) else (none)) else (some (0, 2)))) else (some (0, 4))) = some (r1, r2) := by rw [← hbq9] at H; exact H
   have Nbq9 := Ah hbq9
   clear hbq9
   by_cases c10 : (bq9 = true)
   rotate_left
   ·
    replace c10 := Bool.eq_false_iff.mpr c10
    subst c10
    rw [if_neg fne] at H
    simp only [Option.some.injEq, Prod.mk.injEq] at H
    obtain ⟨rfl, rfl⟩ := H
    have p245 : 0 ≤ (x13_1 : Int) := od
    have q245 : x13_1 < (l1.length : Int) := od
    obtain ⟨ad245, e245, hx245_0⟩ := Kd.at_string HR1.out x13_1 p245 q245
    cases e245
    replace hx245_0 := (HB.out.cell (World.block_lt_of_cell? w _ hx245_0)).trans hx245_0
    replace p245 := eq_true p245
    replace q245 := eq_true q245
    have hcz17_0 := cz1 BK244
    have hfz17_0 := fz1 BK244
    have p246 : 0 ≤ (x6_1 : Int) := od
    have q246 : x6_1 < (l0_0.length : Int) := od
    obtain ⟨ad246, A246_2, c246_2, e246, hx246_0, hx246_1, hx246_2, hl246_2, hi246_2⟩ := at_T40 HR0_0.out x6_1 p246 q246
    (try rw [← Nbq9.out] at hx246_0)
    cases e246
    replace hx246_0 := (HB.out.cell (World.block_lt_of_cell? w _ hx246_0)).trans hx246_0
    replace hx246_1 := (HB.out.cell (World.block_lt_of_cell? w _ hx246_1)).trans hx246_1
    replace hx246_2 := (HB.out.cell (World.block_lt_of_cell? w _ hx246_2)).trans hx246_2
    have HR246_2 := Ah hi246_2
    have HC246_2 := Ah hl246_2
    clear hi246_2 hl246_2
    replace p246 := eq_true p246
    replace q246 := eq_true q246
    go_wp2
    go_ret2
    exact ⟨er, bs1 HB GE244⟩
   subst c10
   rw [if_pos rfl] at H
   replace H := Option.bind_eq_some_iff.mp H
   obtain ⟨⟨t248, t249⟩, A110, H⟩ := H
   try dsimp only at H
   have A11 := Ah A110
   clear A110
   by_cases c12 : t249 = true
   rotate_left
   ·
    replace c12 := Bool.eq_false_iff.mpr c12
    subst c12
    rw [if_neg fne] at H
    simp only [Option.some.injEq, Prod.mk.injEq] at H
    obtain ⟨rfl, rfl⟩ := H
    have p245 : 0 ≤ (x13_1 : Int) := od
    have q245 : x13_1 < (l1.length : Int) := od
    obtain ⟨ad245, e245, hx245_0⟩ := Kd.at_string HR1.out x13_1 p245 q245
    cases e245
    replace hx245_0 := (HB.out.cell (World.block_lt_of_cell? w _ hx245_0)).trans hx245_0
    replace p245 := eq_true p245
    replace q245 := eq_true q245
    have hcz16_0 := cz1 BK244
    have hfz16_0 := fz1 BK244
    have p246 : 0 ≤ (x6_1 : Int) := od
    have q246 : x6_1 < (l0_0.length : Int) := od
    obtain ⟨ad246, A246_2, c246_2, e246, hx246_0, hx246_1, hx246_2, hl246_2, hi246_2⟩ := at_T40 HR0_0.out x6_1 p246 q246
    (try rw [← Nbq9.out] at hx246_0)
    cases e246
    replace hx246_0 := (HB.out.cell (World.block_lt_of_cell? w _ hx246_0)).trans hx246_0
    replace hx246_1 := (HB.out.cell (World.block_lt_of_cell? w _ hx246_1)).trans hx246_1
    replace hx246_2 := (HB.out.cell (World.block_lt_of_cell? w _ hx246_2)).trans hx246_2
    have HR246_2 := Ah hi246_2
    have HC246_2 := Ah hl246_2
    clear hi246_2 hl246_2
    replace p246 := eq_true p246
    replace q246 := eq_true q246
    have p247 : 0 ≤ (x6_1 : Int) := od
    have q247 : x6_1 < (l0_0.length : Int) := od
    obtain ⟨ad247, A247_2, c247_2, e247, hx247_0, hx247_1, hx247_2, hl247_2, hi247_2⟩ := at_T40 HR0_0.out x6_1 p247 q247
    (try rw [← Nbq9.out] at hx247_0)
    obtain rfl : ad246 = ad247 := (by injection e247)
    replace hx247_0 := (HB.out.cell (World.block_lt_of_cell? w _ hx247_0)).trans hx247_0
    replace hx247_1 := (HB.out.cell (World.block_lt_of_cell? w _ hx247_1)).trans hx247_1
    replace hx247_2 := (HB.out.cell (World.block_lt_of_cell? w _ hx247_2)).trans hx247_2
    have HR247_2 := Ah hi247_2
    have HC247_2 := Ah hl247_2
    clear hi247_2 hl247_2
    replace p247 := eq_true p247
    replace q247 := eq_true q247
    have ea_ := Option.some.inj (hx246_2.symm.trans hx247_2)
    injection ea_ with ea_ en_ ec_
    subst ea_
    subst ec_
    clear en_
    go_wp2_with (first | ((with_reducible refine gate_callee (f := 29) rfl ?_); refine gL (some 32) rfl rfl Tryd.func29 (by kernel_rfl) rfl #[.slice A246_2 ((rd_T40 l0_0 x6_1).f2).length c246_2, .string (rdOf ByteArray.empty l1 x13_1)] rfl ?_; (with_reducible refine (spec_l8At.calls k1 _ _ ((rd_T40 l0_0 x6_1).f2) (rdOf ByteArray.empty l1 x13_1) t248 false _ ?side1 ?side2 A11.out).mono ?_); (case side1 => exact cb HR247_2 HB); (case side2 => exact HC247_2.out); rintro e w' ⟨rfl, ⟨nd, rfl⟩⟩; refine ⟨_, rfl, ?_⟩))
    go_ret2
    exact ⟨er, bs1 HB GE244⟩
   subst c12
   rw [if_pos rfl] at H
   by_cases c13 : 0 ≤ t248
   rotate_left
   ·
    rw [if_neg c13] at H
    exact absurd H (by simp)
   rw [if_pos c13] at H
   have c13b0 : decide (0 ≤ t248) = true := decide_eq_true c13
   clear c13
   by_cases c14 : t248 < (((rd_T40 l0_0 x6_1).f2).length : Int)
   rotate_left
   ·
    rw [if_neg c14] at H
    exact absurd H (by simp)
   rw [if_pos c14] at H
   have c14b0 : decide (t248 < (((rd_T40 l0_0 x6_1).f2).length : Int)) = true := decide_eq_true c14
   clear c14
   have H' := Ah H
   clear H
   have p245 : 0 ≤ (x13_1 : Int) := od
   have q245 : x13_1 < (l1.length : Int) := od
   obtain ⟨ad245, e245, hx245_0⟩ := Kd.at_string HR1.out x13_1 p245 q245
   cases e245
   replace hx245_0 := (HB.out.cell (World.block_lt_of_cell? w _ hx245_0)).trans hx245_0
   replace p245 := eq_true p245
   replace q245 := eq_true q245
   have hcz15_0 := cz1 BK244
   have hfz15_0 := fz1 BK244
   have p246 : 0 ≤ (x6_1 : Int) := od
   have q246 : x6_1 < (l0_0.length : Int) := od
   obtain ⟨ad246, A246_2, c246_2, e246, hx246_0, hx246_1, hx246_2, hl246_2, hi246_2⟩ := at_T40 HR0_0.out x6_1 p246 q246
   (try rw [← Nbq9.out] at hx246_0)
   cases e246
   replace hx246_0 := (HB.out.cell (World.block_lt_of_cell? w _ hx246_0)).trans hx246_0
   replace hx246_1 := (HB.out.cell (World.block_lt_of_cell? w _ hx246_1)).trans hx246_1
   replace hx246_2 := (HB.out.cell (World.block_lt_of_cell? w _ hx246_2)).trans hx246_2
   have HR246_2 := Ah hi246_2
   have HC246_2 := Ah hl246_2
   clear hi246_2 hl246_2
   replace p246 := eq_true p246
   replace q246 := eq_true q246
   have p247 : 0 ≤ (x6_1 : Int) := od
   have q247 : x6_1 < (l0_0.length : Int) := od
   obtain ⟨ad247, A247_2, c247_2, e247, hx247_0, hx247_1, hx247_2, hl247_2, hi247_2⟩ := at_T40 HR0_0.out x6_1 p247 q247
   (try rw [← Nbq9.out] at hx247_0)
   obtain rfl : ad246 = ad247 := (by injection e247)
   replace hx247_0 := (HB.out.cell (World.block_lt_of_cell? w _ hx247_0)).trans hx247_0
   replace hx247_1 := (HB.out.cell (World.block_lt_of_cell? w _ hx247_1)).trans hx247_1
   replace hx247_2 := (HB.out.cell (World.block_lt_of_cell? w _ hx247_2)).trans hx247_2
   have HR247_2 := Ah hi247_2
   have HC247_2 := Ah hl247_2
   clear hi247_2 hl247_2
   replace p247 := eq_true p247
   replace q247 := eq_true q247
   have ea_ := Option.some.inj (hx246_2.symm.trans hx247_2)
   injection ea_ with ea_ en_ ec_
   subst ea_
   subst ec_
   clear en_
   go_wp2_with (first | ((with_reducible refine gate_callee (f := 29) rfl ?_); refine gL (some 32) rfl rfl Tryd.func29 (by kernel_rfl) rfl #[.slice A246_2 ((rd_T40 l0_0 x6_1).f2).length c246_2, .string (rdOf ByteArray.empty l1 x13_1)] rfl ?_; (with_reducible refine (spec_l8At.calls k1 _ _ ((rd_T40 l0_0 x6_1).f2) (rdOf ByteArray.empty l1 x13_1) t248 true _ ?side1 ?side2 A11.out).mono ?_); (case side1 => exact cb HR247_2 HB); (case side2 => exact HC247_2.out); rintro e w' ⟨rfl, ⟨nd, rfl⟩⟩; refine ⟨_, rfl, ?_⟩; have p250 : 0 ≤ (x6_1 : Int) := od; have q250 : x6_1 < (l0_0.length : Int) := od; obtain ⟨ad250, A250_2, c250_2, e250, hx250_0, hx250_1, hx250_2, hl250_2, hi250_2⟩ := at_T40 HR0_0.out x6_1 p250 q250; (try rw [← Nbq9.out] at hx250_0); obtain rfl : ad246 = ad250 := (by injection e250); replace hx250_0 := (HB.out.cell (World.block_lt_of_cell? w _ hx250_0)).trans hx250_0; replace hx250_1 := (HB.out.cell (World.block_lt_of_cell? w _ hx250_1)).trans hx250_1; replace hx250_2 := (HB.out.cell (World.block_lt_of_cell? w _ hx250_2)).trans hx250_2; have HR250_2 := Ah hi250_2; have HC250_2 := Ah hl250_2; clear hi250_2 hl250_2; replace p250 := eq_true p250; replace q250 := eq_true q250; have ea_ := Option.some.inj (hx246_2.symm.trans hx250_2); injection ea_ with ea_ en_ ec_; subst ea_; subst ec_; clear en_; have p251 : 0 ≤ (t248 : Int) := od; have q251 : t248 < (((rd_T40 l0_0 x6_1).f2).length : Int) := od; obtain ⟨ad251, e251, hx251_0, hx251_1⟩ := at_T42 HR250_2.out t248 p251 q251; cases e251; replace hx251_0 := (HB.out.cell (World.block_lt_of_cell? w _ hx251_0)).trans hx251_0; replace hx251_1 := (HB.out.cell (World.block_lt_of_cell? w _ hx251_1)).trans hx251_1; replace p251 := eq_true p251; replace q251 := eq_true q251))
   go_roundg k1
   case measure => have := HK1.out; omega
   case rel => exact ⟨((rd_T42 ((rd_T40 l0_0 x6_1).f2) t248).f1), (wrap64 (x13_1 + 1)), e3, e3, H', ⟨by have := HK1.out; omega⟩, ⟨bk BK244⟩, ⟨bs1 HB GE244⟩⟩

/-! ### spec_WalkPath: function 10 -/
def spec_WalkPath.f (k : Nat) (l0_0 : List (S40)) (a1 : ByteArray) : Option (Int × Int) := (spec_l13Path.f k a1).bind fun bt253 => ((spec_GoodNames.f k l0_0).bind fun t257 => (if t257 = true then (if bt253.2 = true then ((spec_l13Walk.f k l0_0 bt253.1).bind fun bt258 => (some (bt258.1, bt258.2))) else (some (0, 1))) else (some (0, 1))))
theorem spec_WalkPath.mono : ∀ a0 a1 k, LeO (spec_WalkPath.f k a0 a1) (spec_WalkPath.f (k + 1) a0 a1) := by
 intro a0 a1 k
 unfold spec_WalkPath.f
 repeat' first
   | (with_reducible exact spec_GoodNames.mono _ _)
   | (with_reducible exact spec_l13Path.mono _ _)
   | (with_reducible exact spec_l13Walk.mono _ _ _)
   | (with_reducible exact LeO.refl _)
   | (with_reducible exact LeO.none _)
   | (with_reducible refine LeO.ite ?_ ?_)
   | (with_reducible refine LeO.bind ?_ (fun _ => ?_))
   | exact spec_GoodNames.mono _ _
   | exact spec_l13Path.mono _ _
   | exact spec_l13Walk.mono _ _ _
   | exact LeO.none _
   | refine LeO.ite ?_ ?_
   | refine LeO.bind ?_ (fun _ => ?_)
set_option maxHeartbeats 8000000 in
set_option maxRecDepth 100000 in
theorem spec_WalkPath.calls (k : Nat) (A0_0 : Option Addr) (c0_0 : Nat) (l0_0 : List (S40)) (a1 : ByteArray) (r1 : Int) (r2 : Int) (w : World) (hr0_0 : Kd.C k40 w A0_0 l0_0.length l0_0) (hc0_0 : l0_0.length ≤ c0_0) (h : spec_WalkPath.f k l0_0 a1 = some (r1, r2)) :
  Calls Tryd.prog 10 #[.agg #[.slice A0_0 l0_0.length c0_0], .string a1] w fun e w' => e = .returned (.tuple #[.int .i64 r1, .int .i64 r2]) ∧ Below w.heap.size w w' := by
 have hu29 := Tryd.underlying29
 have HR0_0 := Ah hr0_0
 have HC0_0 := Ah hc0_0
 clear hr0_0 hc0_0
 have HB := Ah (Below.refl w.heap.size w)
 have H : ((spec_l13Path.f k a1).bind fun bt253 => ((spec_GoodNames.f k l0_0).bind fun t257 => (if t257 = true then (if bt253.2 = true then ((spec_l13Walk.f k l0_0 bt253.1).bind fun bt258 => (some (bt258.1, bt258.2))) else (some (0, 1))) else (some (0, 1))))) = some (r1, r2) := h
 clear h
 replace H := Option.bind_eq_some_iff.mp H
 obtain ⟨⟨t253, t254⟩, A30, H⟩ := H
 try dsimp only at H
 have A3 := Ah A30
 clear A30
 replace H := Option.bind_eq_some_iff.mp H
 obtain ⟨t257, A40, H⟩ := H
 try dsimp only at H
 have A4 := Ah A40
 clear A40
 by_cases c5 : t257 = true
 rotate_left
 ·
  replace c5 := Bool.eq_false_iff.mpr c5
  subst c5
  rw [if_neg fne] at H
  simp only [Option.some.injEq, Prod.mk.injEq] at H
  obtain ⟨rfl, rfl⟩ := H
  go_enter Tryd.func10, Tryd.ntmps10
  go_wp2_with (first | ((with_reducible refine gate_dst (N := 2) rfl ?_); refine boxL 2 29 #[.slice A0_0 l0_0.length c0_0] ?_; intro gb252 hg w19 BK252 hb; have GW252 := gw hg (bs HB); have GE252 := gw hg (bs HB); replace HB := Ah (below_step (bs HB) hb); clear hb hg) | ((with_reducible refine gate_callee (f := 21) rfl ?_); refine gL (some 10) rfl rfl Tryd.func21 (by kernel_rfl) rfl #[.string a1] rfl ?_; (with_reducible refine (spec_l13Path.calls k a1 t253 t254 _ A3.out).mono ?_); rintro e w20 ⟨v255, rfl, ho0, hb⟩; refine ⟨_, rfl, ?_⟩; have HO256 := Ah (Kd.R_lower ho0 (below_size (bs1 HB GE252))); replace BK252 := nb BK252 hb; replace HB := Ah (below_step (bs1 HB GE252) hb); (try clear hb ho0); have hcz21_0 := cz1 BK252; have hfz21_0 := fz1 BK252) | ((with_reducible refine gate_callee (f := 6) rfl ?_); refine gL (some 14) rfl rfl Tryd.func6 (by kernel_rfl) rfl #[.agg #[.slice A0_0 l0_0.length c0_0]] rfl ?_; (with_reducible refine (spec_GoodNames.calls k _ _ l0_0 false _ ?side1 ?side2 A4.out).mono ?_); (case side1 => exact cb HR0_0 HB); (case side2 => exact HC0_0.out); rintro e w22 ⟨rfl, hb⟩; refine ⟨_, rfl, ?_⟩; replace HO256 := nr HO256 hb; replace BK252 := nb BK252 hb; replace HB := Ah (below_step (bs1 HB GE252) hb); (try clear hb)))
  go_ret2
  exact ⟨er, bs1 HB GE252⟩
 subst c5
 rw [if_pos rfl] at H
 by_cases c6 : t254 = true
 rotate_left
 ·
  replace c6 := Bool.eq_false_iff.mpr c6
  subst c6
  rw [if_neg fne] at H
  simp only [Option.some.injEq, Prod.mk.injEq] at H
  obtain ⟨rfl, rfl⟩ := H
  go_enter Tryd.func10, Tryd.ntmps10
  go_wp2_with (first | ((with_reducible refine gate_dst (N := 2) rfl ?_); refine boxL 2 29 #[.slice A0_0 l0_0.length c0_0] ?_; intro gb252 hg w15 BK252 hb; have GW252 := gw hg (bs HB); have GE252 := gw hg (bs HB); replace HB := Ah (below_step (bs HB) hb); clear hb hg) | ((with_reducible refine gate_callee (f := 21) rfl ?_); refine gL (some 10) rfl rfl Tryd.func21 (by kernel_rfl) rfl #[.string a1] rfl ?_; (with_reducible refine (spec_l13Path.calls k a1 t253 false _ A3.out).mono ?_); rintro e w16 ⟨v255, rfl, ho0, hb⟩; refine ⟨_, rfl, ?_⟩; have HO256 := Ah (Kd.R_lower ho0 (below_size (bs1 HB GE252))); replace BK252 := nb BK252 hb; replace HB := Ah (below_step (bs1 HB GE252) hb); (try clear hb ho0); have hcz17_0 := cz1 BK252; have hfz17_0 := fz1 BK252) | ((with_reducible refine gate_callee (f := 6) rfl ?_); refine gL (some 14) rfl rfl Tryd.func6 (by kernel_rfl) rfl #[.agg #[.slice A0_0 l0_0.length c0_0]] rfl ?_; (with_reducible refine (spec_GoodNames.calls k _ _ l0_0 true _ ?side1 ?side2 A4.out).mono ?_); (case side1 => exact cb HR0_0 HB); (case side2 => exact HC0_0.out); rintro e w18 ⟨rfl, hb⟩; refine ⟨_, rfl, ?_⟩; replace HO256 := nr HO256 hb; replace BK252 := nb BK252 hb; replace HB := Ah (below_step (bs1 HB GE252) hb); (try clear hb)))
  go_ret2
  exact ⟨er, bs1 HB GE252⟩
 subst c6
 rw [if_pos rfl] at H
 replace H := Option.bind_eq_some_iff.mp H
 obtain ⟨⟨t258, t259⟩, A70, H⟩ := H
 try dsimp only at H
 have A7 := Ah A70
 clear A70
 simp only [Option.some.injEq, Prod.mk.injEq] at H
 obtain ⟨rfl, rfl⟩ := H
 go_enter Tryd.func10, Tryd.ntmps10
 go_wp2_with (first | ((with_reducible refine gate_dst (N := 2) rfl ?_); refine boxL 2 29 #[.slice A0_0 l0_0.length c0_0] ?_; intro gb252 hg w8 BK252 hb; have GW252 := gw hg (bs HB); have GE252 := gw hg (bs HB); replace HB := Ah (below_step (bs HB) hb); clear hb hg) | ((with_reducible refine gate_callee (f := 21) rfl ?_); refine gL (some 10) rfl rfl Tryd.func21 (by kernel_rfl) rfl #[.string a1] rfl ?_; (with_reducible refine (spec_l13Path.calls k a1 t253 true _ A3.out).mono ?_); rintro e w9 ⟨v255, rfl, ho0, hb⟩; refine ⟨_, rfl, ?_⟩; have HO256 := Ah (Kd.R_lower ho0 (below_size (bs1 HB GE252))); replace BK252 := nb BK252 hb; replace HB := Ah (below_step (bs1 HB GE252) hb); (try clear hb ho0); have hcz10_0 := cz1 BK252; have hfz10_0 := fz1 BK252) | ((with_reducible refine gate_callee (f := 6) rfl ?_); refine gL (some 14) rfl rfl Tryd.func6 (by kernel_rfl) rfl #[.agg #[.slice A0_0 l0_0.length c0_0]] rfl ?_; (with_reducible refine (spec_GoodNames.calls k _ _ l0_0 true _ ?side1 ?side2 A4.out).mono ?_); (case side1 => exact cb HR0_0 HB); (case side2 => exact HC0_0.out); rintro e w11 ⟨rfl, hb⟩; refine ⟨_, rfl, ?_⟩; replace HO256 := nr HO256 hb; replace BK252 := nb BK252 hb; replace HB := Ah (below_step (bs1 HB GE252) hb); (try clear hb); have hcz12_0 := cz1 BK252; have hfz12_0 := fz1 BK252; obtain ⟨Ao13, co13, eo13⟩ := Kd.R_slice HO256.out; subst eo13) | ((with_reducible refine gate_callee (f := 22) rfl ?_); refine gL (some 22) rfl rfl Tryd.func22 (by kernel_rfl) rfl #[.agg #[.slice A0_0 l0_0.length c0_0], .slice Ao13 t253.length co13] rfl ?_; (with_reducible refine (spec_l13Walk.calls k _ _ l0_0 _ _ t253 t258 t259 _ ?side1 ?side2 ?side3 ?side4 A7.out).mono ?_); (case side1 => exact cb HR0_0 HB); (case side2 => exact HC0_0.out); (case side3 => exact rc0 HO256); (case side4 => exact (Kd.R_reads' HO256.out).2.1); rintro e w14 ⟨rfl, hb⟩; refine ⟨_, rfl, ?_⟩; replace HO256 := nr HO256 hb; replace BK252 := nb BK252 hb; replace HB := Ah (below_step (bs1 HB GE252) hb); (try clear hb)))
 go_ret2
 exact ⟨er, bs1 HB GE252⟩

/-! ### strings_Split: function 30 -/
-- strings.Split at a separator that is not empty: the pieces. The variable that it reads: hTab_.
def strings_Split.f (a0 : ByteArray) (a1 : ByteArray) : Option (List ByteArray) := if a0.size < 4294967281 ∧ 1 ≤ a1.size then some (Lib.splitB a1 0 (Lib.countB a0 a1) a0) else none
theorem strings_Split.calls (a0 : ByteArray) (a1 : ByteArray) (r : List ByteArray) (w : World) (hTab_ : Aside0 (Ito.TabW w)) (h : strings_Split.f a0 a1 = some r) :
    Calls Tryd.prog 30 #[.string a0, .string a1] w fun e w' => ∃ v0_ : Value, e = .returned (v0_) ∧ Kd.R Kd.string 9 w' w.heap.size (fun _ => True) v0_ r ∧ Below w.heap.size w w' := by
  unfold strings_Split.f at h
  by_cases c : a0.size < 4294967281 ∧ 1 ≤ a1.size
  · rw [if_pos c] at h
    obtain rfl := Option.some.inj h
    exact Ito.split_calls a0 a1 c.1 c.2 w hTab_.out
  · rw [if_neg c] at h
    cases h

/-! ### impl_namesIn_1: function 32 -/
def impl_namesIn_1.f (a0 : ByteArray) : Option (Bool) := (impl_isName.f a0).bind fun t262 => (some (!t262))
set_option maxHeartbeats 8000000 in
set_option maxRecDepth 100000 in
theorem impl_namesIn_1.calls (a0 : ByteArray) (r : Bool) (w : World) (h : impl_namesIn_1.f a0 = some r) :
  Calls Tryd.prog 32 #[.string a0] w fun e w' => e = .returned (.bool r) ∧ Below w.heap.size w w' := by
 have HB := Aside0.mk (Below.refl w.heap.size w)
 have H : ((impl_isName.f a0).bind fun t262 => (some (!t262))) = some r := h
 clear h
 replace H := Option.bind_eq_some_iff.mp H
 obtain ⟨t262, A20, H⟩ := H
 replace H : (some (!t262)) = some r := H
 have A2 := Aside0.mk A20
 clear A20
 obtain rfl := Option.some.inj H
 go_enter Tryd.func32, Tryd.ntmps32
 go_wp2_with (first | ((with_reducible refine gate_callee (f := 27) rfl ?_); refine gL (some 4) rfl rfl Tryd.func27 (by kernel_rfl) rfl #[.string a0] rfl ?_; (with_reducible refine (impl_isName.calls a0 t262 _ A2.out).mono ?_); rintro e w3 ⟨rfl, hb⟩; refine ⟨_, rfl, ?_⟩; replace HB := Aside0.mk (below_step (bs HB) hb); (try clear hb); (try clear hb2); (try clear hk); (try clear hi)))
 go_ret
 exact ⟨by first | rfl | (simp [errW_none, errW_some] <;> rfl) | (simp [*, errW_none, errW_some] <;> rfl), bs HB⟩

/-! ### slices_IndexFunc_string_string_at_impl_namesIn_1: function 39 -/
def slices_IndexFunc_string_string_at_impl_namesIn_1.l0 : Nat → List ByteArray → Int → Int → Option (Int)
 | 0, _, _, _ => none
 | k + 1, x0, x7, x8 => if x8 < x7 then (if 0 ≤ x8 then (if x8 < (x0.length : Int) then ((impl_namesIn_1.f (rdOf ByteArray.empty x0 x8)).bind fun t264 => (if t264 = true then (some x8) else (slices_IndexFunc_string_string_at_impl_namesIn_1.l0 k x0 x7 (wrap64 (x8 + 1))))) else (none)) else (none)) else (some (-1))
def slices_IndexFunc_string_string_at_impl_namesIn_1.f (k : Nat) (l0 : List ByteArray)  : Option (Int) := slices_IndexFunc_string_string_at_impl_namesIn_1.l0 k l0 (l0.length : Int) 0
theorem slices_IndexFunc_string_string_at_impl_namesIn_1.mono_l : ∀ k, (∀ y0 y1 y2, LeO (slices_IndexFunc_string_string_at_impl_namesIn_1.l0 k y0 y1 y2) (slices_IndexFunc_string_string_at_impl_namesIn_1.l0 (k + 1) y0 y1 y2))
 | 0 => fun _ _ _ r h => by simp [slices_IndexFunc_string_string_at_impl_namesIn_1.l0] at h
 | k + 1 => by
  have ih0 := slices_IndexFunc_string_string_at_impl_namesIn_1.mono_l k
  ·
   intro y0 y1 y2
   unfold slices_IndexFunc_string_string_at_impl_namesIn_1.l0
   repeat' first
   | (with_reducible exact ih0 _ _ _)
   | (with_reducible exact LeO.refl _)
   | (with_reducible exact LeO.none _)
   | (with_reducible refine LeO.ite ?_ ?_)
   | (with_reducible refine LeO.bind ?_ (fun _ => ?_))
   | exact ih0 _ _ _
   | exact LeO.none _
   | refine LeO.ite ?_ ?_
   | refine LeO.bind ?_ (fun _ => ?_)
theorem slices_IndexFunc_string_string_at_impl_namesIn_1.mono : ∀ a0 k, LeO (slices_IndexFunc_string_string_at_impl_namesIn_1.f k a0) (slices_IndexFunc_string_string_at_impl_namesIn_1.f (k + 1) a0) := by
 intro a0 k
 have ih0 := slices_IndexFunc_string_string_at_impl_namesIn_1.mono_l k
 unfold slices_IndexFunc_string_string_at_impl_namesIn_1.f
 repeat' first
   | (with_reducible exact ih0 _ _ _)
   | (with_reducible exact LeO.refl _)
   | (with_reducible exact LeO.none _)
   | (with_reducible refine LeO.ite ?_ ?_)
   | (with_reducible refine LeO.bind ?_ (fun _ => ?_))
   | exact ih0 _ _ _
   | exact LeO.none _
   | refine LeO.ite ?_ ?_
   | refine LeO.bind ?_ (fun _ => ?_)
set_option maxHeartbeats 8000000 in
set_option maxRecDepth 100000 in
theorem slices_IndexFunc_string_string_at_impl_namesIn_1.calls (k : Nat) (A0 : Option Addr) (c0 : Nat) (l0 : List ByteArray)  (r : Int) (w : World) (hr0 : Kd.C Kd.string w A0 l0.length l0) (hc0 : l0.length ≤ c0) (h : slices_IndexFunc_string_string_at_impl_namesIn_1.f k l0 = some r) :
  Calls Tryd.prog 39 #[.slice A0 l0.length c0, .func (.func 32) #[] #[]] w fun e w' => e = .returned (.int .i64 r) ∧ Below w.heap.size w w' := by
 have HR0 := Ah hr0
 have HC0 := Ah hc0
 clear hr0 hc0
 have HB := Ah (Below.refl w.heap.size w)
 have H : (slices_IndexFunc_string_string_at_impl_namesIn_1.l0 k l0 (l0.length : Int) 0) = some r := h
 clear h
 have H' := Ah H
 clear H
 go_enter Tryd.func39, Tryd.ntmps39
 go_wp2
 go_loopg [8] k (fun kq v8 w' => ∃ (x8_1 : Int), v8 = .int .i64 x8_1 ∧ Aside0 (slices_IndexFunc_string_string_at_impl_namesIn_1.l0 kq l0 (l0.length : Int) x8_1 = some r) ∧ Aside0 (kq ≤ k) ∧ Aside0 (Below w.heap.size w w'))
 case atStart => exact ⟨(0), e3, H', ⟨Nat.le_refl _⟩, ⟨bs HB⟩⟩
 case round =>
  clear H'
  try clear p2
  obtain ⟨x8_1, rfl, HA, HK1, HB⟩ := hrel
  cases gk with
  | zero => exact absurd HA.out (by simp [slices_IndexFunc_string_string_at_impl_namesIn_1.l0])
  | succ k1 =>
   have H := HA.out
   clear HA
   simp only [slices_IndexFunc_string_string_at_impl_namesIn_1.l0] at H
   by_cases c3 : x8_1 < (l0.length : Int)
   rotate_left
   ·
    rw [if_neg c3] at H
    have c3b0 : decide (x8_1 < (l0.length : Int)) = false := decide_eq_false c3
    clear c3
    obtain rfl := Option.some.inj H
    go_wp2
    go_ret
    exact ⟨er, bs HB⟩
   rw [if_pos c3] at H
   have c3b0 : decide (x8_1 < (l0.length : Int)) = true := decide_eq_true c3
   clear c3
   by_cases c4 : 0 ≤ x8_1
   rotate_left
   ·
    rw [if_neg c4] at H
    exact absurd H (by simp)
   rw [if_pos c4] at H
   have c4b0 : decide (0 ≤ x8_1) = true := decide_eq_true c4
   clear c4
   by_cases c5 : x8_1 < (l0.length : Int)
   rotate_left
   ·
    rw [if_neg c5] at H
    exact absurd H (by simp)
   rw [if_pos c5] at H
   have c5b0 : decide (x8_1 < (l0.length : Int)) = true := decide_eq_true c5
   clear c5
   replace H := Option.bind_eq_some_iff.mp H
   obtain ⟨t264, A60, H⟩ := H
   try dsimp only at H
   have A6 := Ah A60
   clear A60
   by_cases c7 : t264 = true
   ·
    subst c7
    rw [if_pos rfl] at H
    obtain rfl := Option.some.inj H
    have p263 : 0 ≤ (x8_1 : Int) := od
    have q263 : x8_1 < (l0.length : Int) := od
    obtain ⟨ad263, e263, hx263_0⟩ := Kd.at_string HR0.out x8_1 p263 q263
    cases e263
    replace hx263_0 := (HB.out.cell (World.block_lt_of_cell? w _ hx263_0)).trans hx263_0
    replace p263 := eq_true p263
    replace q263 := eq_true q263
    go_wp2_with (first | ((with_reducible refine gate_value (t := 11) rfl ?_); refine goesV_ (some 16) rfl rfl Tryd.func32 (by kernel_rfl) rfl #[.string (rdOf ByteArray.empty l0 x8_1)] rfl rfl (by (try simp only [List.map_toArray, List.map_cons, List.map_nil]); first | done | rfl | (simp only [List.length_drop, List.length_take]; rfl)) ?_; (with_reducible refine (impl_namesIn_1.calls (rdOf ByteArray.empty l0 x8_1) true _ A6.out).mono ?_); rintro e w8 ⟨rfl, hb⟩; refine ⟨_, rfl, ?_⟩; replace HB := Ah (below_step (bs HB) hb); (try clear hb)))
    go_ret
    exact ⟨er, bs HB⟩
   replace c7 := Bool.eq_false_iff.mpr c7
   subst c7
   rw [if_neg fne] at H
   have H' := Ah H
   clear H
   have p263 : 0 ≤ (x8_1 : Int) := od
   have q263 : x8_1 < (l0.length : Int) := od
   obtain ⟨ad263, e263, hx263_0⟩ := Kd.at_string HR0.out x8_1 p263 q263
   cases e263
   replace hx263_0 := (HB.out.cell (World.block_lt_of_cell? w _ hx263_0)).trans hx263_0
   replace p263 := eq_true p263
   replace q263 := eq_true q263
   go_wp2_with (first | ((with_reducible refine gate_value (t := 11) rfl ?_); refine goesV_ (some 16) rfl rfl Tryd.func32 (by kernel_rfl) rfl #[.string (rdOf ByteArray.empty l0 x8_1)] rfl rfl (by (try simp only [List.map_toArray, List.map_cons, List.map_nil]); first | done | rfl | (simp only [List.length_drop, List.length_take]; rfl)) ?_; (with_reducible refine (impl_namesIn_1.calls (rdOf ByteArray.empty l0 x8_1) false _ A6.out).mono ?_); rintro e w9 ⟨rfl, hb⟩; refine ⟨_, rfl, ?_⟩; replace HB := Ah (below_step (bs HB) hb); (try clear hb)))
   go_roundg k1
   case measure => have := HK1.out; omega
   case rel => exact ⟨(wrap64 (x8_1 + 1)), e3, H', ⟨by have := HK1.out; omega⟩, ⟨bs HB⟩⟩

/-! ### slices_ContainsFunc_string_string_at_impl_namesIn_1: function 31 -/
def slices_ContainsFunc_string_string_at_impl_namesIn_1.f (k : Nat) (l0 : List ByteArray)  : Option (Bool) := (slices_IndexFunc_string_string_at_impl_namesIn_1.f k l0).bind fun t265 => (some (decide (t265 ≥ 0)))
theorem slices_ContainsFunc_string_string_at_impl_namesIn_1.mono : ∀ a0 k, LeO (slices_ContainsFunc_string_string_at_impl_namesIn_1.f k a0) (slices_ContainsFunc_string_string_at_impl_namesIn_1.f (k + 1) a0) := by
 intro a0 k
 unfold slices_ContainsFunc_string_string_at_impl_namesIn_1.f
 repeat' first
   | (with_reducible exact slices_IndexFunc_string_string_at_impl_namesIn_1.mono _ _)
   | (with_reducible exact LeO.refl _)
   | (with_reducible exact LeO.none _)
   | (with_reducible refine LeO.ite ?_ ?_)
   | (with_reducible refine LeO.bind ?_ (fun _ => ?_))
   | exact slices_IndexFunc_string_string_at_impl_namesIn_1.mono _ _
   | exact LeO.none _
   | refine LeO.ite ?_ ?_
   | refine LeO.bind ?_ (fun _ => ?_)
set_option maxHeartbeats 8000000 in
set_option maxRecDepth 100000 in
theorem slices_ContainsFunc_string_string_at_impl_namesIn_1.calls (k : Nat) (A0 : Option Addr) (c0 : Nat) (l0 : List ByteArray)  (r : Bool) (w : World) (hr0 : Kd.C Kd.string w A0 l0.length l0) (hc0 : l0.length ≤ c0) (h : slices_ContainsFunc_string_string_at_impl_namesIn_1.f k l0 = some r) :
  Calls Tryd.prog 31 #[.slice A0 l0.length c0, .func (.func 32) #[] #[]] w fun e w' => e = .returned (.bool r) ∧ Below w.heap.size w w' := by
 have HR0 := Ah hr0
 have HC0 := Ah hc0
 clear hr0 hc0
 have HB := Ah (Below.refl w.heap.size w)
 have H : ((slices_IndexFunc_string_string_at_impl_namesIn_1.f k l0).bind fun t265 => (some (decide (t265 ≥ 0)))) = some r := h
 clear h
 replace H := Option.bind_eq_some_iff.mp H
 obtain ⟨t265, A30, H⟩ := H
 try dsimp only at H
 have A3 := Ah A30
 clear A30
 obtain rfl := Option.some.inj H
 go_enter Tryd.func31, Tryd.ntmps31
 go_wp2_with (first | ((with_reducible refine gate_callee (f := 39) rfl ?_); refine gL (some 7) rfl rfl Tryd.func39 (by kernel_rfl) rfl #[.slice A0 l0.length c0, .func (.func 32) #[] #[]] rfl ?_; (with_reducible refine (slices_IndexFunc_string_string_at_impl_namesIn_1.calls k _ _ l0  t265 _ ?side1 ?side2 A3.out).mono ?_); (case side1 => repeat (first | exact HR0.out | (with_reducible refine Kd.C_alloc ?_ _) | (with_reducible refine Kd.C_drewN ?_ _) | (with_reducible refine Kd.C_drew ?_))); (case side2 => exact HC0.out); rintro e w4 ⟨rfl, hb⟩; refine ⟨_, rfl, ?_⟩; replace HB := Ah (below_step (bs HB) hb); (try clear hb)))
 go_ret
 exact ⟨er, bs HB⟩

/-! ### impl_namesIn: function 23 -/
def impl_namesIn.f (k : Nat) (a0 : ByteArray) : Option (List ByteArray × Bool) := if a0.toList = ([47] : List UInt8) then (some (([] : List ByteArray), true)) else ((strings_Split.f a0 (⟨#[47]⟩ : ByteArray)).bind fun t266 => (if 0 < (t266.length : Int) then (if (rdOf ByteArray.empty t266 0).toList = ([] : List UInt8) then ((impl_within.f (t266.length : Int) 2 9).bind fun t270 => (if t270 = true then (if 1 ≤ (t266.length : Int) then ((slices_ContainsFunc_string_string_at_impl_namesIn_1.f k (t266.drop 1)).bind fun t275 => (if t275 = true then (some (([] : List ByteArray), false)) else (some ((t266.drop (1 : Int).toNat), true)))) else (none)) else (some (([] : List ByteArray), false)))) else (some (([] : List ByteArray), false))) else (none)))
theorem impl_namesIn.mono : ∀ a0 k, LeO (impl_namesIn.f k a0) (impl_namesIn.f (k + 1) a0) := by
 intro a0 k
 unfold impl_namesIn.f
 repeat' first
   | (with_reducible exact slices_ContainsFunc_string_string_at_impl_namesIn_1.mono _ _)
   | (with_reducible exact LeO.refl _)
   | (with_reducible exact LeO.none _)
   | (with_reducible refine LeO.ite ?_ ?_)
   | (with_reducible refine LeO.bind ?_ (fun _ => ?_))
   | exact slices_ContainsFunc_string_string_at_impl_namesIn_1.mono _ _
   | exact LeO.none _
   | refine LeO.ite ?_ ?_
   | refine LeO.bind ?_ (fun _ => ?_)
set_option maxHeartbeats 8000000 in
set_option maxRecDepth 100000 in
theorem impl_namesIn.calls (k : Nat) (a0 : ByteArray) (r1 : List ByteArray) (r2 : Bool) (w : World) (hTab_ : Aside0 (Ito.TabW w)) (h : impl_namesIn.f k a0 = some (r1, r2)) :
  Calls Tryd.prog 23 #[.string a0] w fun e w' => ∃ v0_ : Value, e = .returned (.tuple #[v0_, .bool r2]) ∧ Kd.Q Kd.string 9 w' w.heap.size (fun _ => True) v0_ r1 ∧ Below w.heap.size w w' := by
 have HB := Ah (Below.refl w.heap.size w)
 have H : (if a0.toList = ([47] : List UInt8) then (some (([] : List ByteArray), true)) else ((strings_Split.f a0 (⟨#[47]⟩ : ByteArray)).bind fun t266 => (if 0 < (t266.length : Int) then (if (rdOf ByteArray.empty t266 0).toList = ([] : List UInt8) then ((impl_within.f (t266.length : Int) 2 9).bind fun t270 => (if t270 = true then (if 1 ≤ (t266.length : Int) then ((slices_ContainsFunc_string_string_at_impl_namesIn_1.f k (t266.drop 1)).bind fun t275 => (if t275 = true then (some (([] : List ByteArray), false)) else (some ((t266.drop (1 : Int).toNat), true)))) else (none)) else (some (([] : List ByteArray), false)))) else (some (([] : List ByteArray), false))) else (none)))) = some (r1, r2) := h
 clear h
 by_cases c2 : a0.toList = ([47] : List UInt8)
 ·
  rw [if_pos c2] at H
  have c2b0 : (a0.toList == ([47] : List UInt8)) = true := beq_iff_eq.mpr c2
  have c2b1 : (a0.toList != ([47] : List UInt8)) = false := bne_eq_false_iff_eq.mpr c2
  clear c2
  simp only [Option.some.injEq, Prod.mk.injEq] at H
  obtain ⟨rfl, rfl⟩ := H
  go_enter Tryd.func23, Tryd.ntmps23
  go_wp2
  go_ret2
  exact ⟨_, er, Kd.Q_of_R (by first | exact Kd.R_nil _ _ _ _ _ | exact Kd.N_nil _ _ _ _ _ | exact Kd.V_nil _ _ _ _ _ | exact Kd.Q_nil _ _ _ _ _ | exact Kd.S_nil _ _ _ _ _), bs HB⟩
 rw [if_neg c2] at H
 have c2b0 : (a0.toList == ([47] : List UInt8)) = false := beq_eq_false_iff_ne.mpr c2
 have c2b1 : (a0.toList != ([47] : List UInt8)) = true := bne_iff_ne.mpr c2
 replace H := Option.bind_eq_some_iff.mp H
 obtain ⟨t266, A30, H⟩ := H
 try dsimp only at H
 have A3 := Ah A30
 clear A30
 by_cases c4 : 0 < (t266.length : Int)
 rotate_left
 ·
  rw [if_neg c4] at H
  exact absurd H (by simp)
 rw [if_pos c4] at H
 have c4b0 : decide (0 < (t266.length : Int)) = true := decide_eq_true c4
 have c4b1 : decide (0 < t266.length) = true := decide_eq_true (by omega)
 clear c4
 by_cases c5 : (rdOf ByteArray.empty t266 0).toList = ([] : List UInt8)
 rotate_left
 ·
  rw [if_neg c5] at H
  have c5b0 : ((rdOf ByteArray.empty t266 0).toList == ([] : List UInt8)) = false := beq_eq_false_iff_ne.mpr c5
  have c5b1 : ((rdOf ByteArray.empty t266 0).toList != ([] : List UInt8)) = true := bne_iff_ne.mpr c5
  simp only [Option.some.injEq, Prod.mk.injEq] at H
  obtain ⟨rfl, rfl⟩ := H
  go_enter Tryd.func23, Tryd.ntmps23
  go_wp2_with (first | ((with_reducible refine gate_callee (f := 30) rfl ?_); refine gL (some 8) rfl rfl Tryd.func30 (by kernel_rfl) rfl #[.string a0, .string (⟨#[47]⟩ : ByteArray)] rfl ?_; (with_reducible refine (strings_Split.calls a0 (⟨#[47]⟩ : ByteArray) t266 _ ?sideT A3.out).mono ?_); (case sideT => refine ⟨Ito.tabB hTab_.out ?_⟩; first | exact bs HB | exact st_below | (repeat (first | (with_reducible first | exact HB.out | apply below_alloc | apply pw_below_drewN | apply below_drew1 | refine below_set ?_ (Aside0.out (by assumption))) | exact HB.out))); rintro e w23 ⟨v267, rfl, ho0, hb⟩; refine ⟨_, rfl, ?_⟩; have HO268 := Ah (Kd.R_lower ho0 (below_size (bs HB))); replace HB := Ah (below_step (bs HB) hb); (try clear hb ho0); obtain ⟨Ao24, co24, eo24⟩ := Kd.R_slice HO268.out; subst eo24; have p269 : 0 ≤ (0 : Int) := (by omega); have q269 : 0 < (t266.length : Int) := od; obtain ⟨ad269, e269, hx269_0⟩ := Kd.at_string (Kd.R_reads' HO268.out).2.2 0 p269 q269; cases e269; have qi269 : (0 < t266.length) = True := eq_true (by omega); (try rw [show ((0 : Int)).toNat = 0 from rfl] at hx269_0); (try rw [Addr.add_zero'] at hx269_0); replace p269 := eq_true p269; replace q269 := eq_true q269))
  go_ret2
  exact ⟨_, er, Kd.Q_of_R (by first | exact Kd.R_nil _ _ _ _ _ | exact Kd.N_nil _ _ _ _ _ | exact Kd.V_nil _ _ _ _ _ | exact Kd.Q_nil _ _ _ _ _ | exact Kd.S_nil _ _ _ _ _), bs HB⟩
 rw [if_pos c5] at H
 have c5b0 : ((rdOf ByteArray.empty t266 0).toList == ([] : List UInt8)) = true := beq_iff_eq.mpr c5
 have c5b1 : ((rdOf ByteArray.empty t266 0).toList != ([] : List UInt8)) = false := bne_eq_false_iff_eq.mpr c5
 clear c5
 replace H := Option.bind_eq_some_iff.mp H
 obtain ⟨t270, A60, H⟩ := H
 try dsimp only at H
 have A6 := Ah A60
 clear A60
 by_cases c7 : t270 = true
 rotate_left
 ·
  replace c7 := Bool.eq_false_iff.mpr c7
  subst c7
  rw [if_neg fne] at H
  simp only [Option.some.injEq, Prod.mk.injEq] at H
  obtain ⟨rfl, rfl⟩ := H
  go_enter Tryd.func23, Tryd.ntmps23
  go_wp2_with (first | ((with_reducible refine gate_callee (f := 30) rfl ?_); refine gL (some 8) rfl rfl Tryd.func30 (by kernel_rfl) rfl #[.string a0, .string (⟨#[47]⟩ : ByteArray)] rfl ?_; (with_reducible refine (strings_Split.calls a0 (⟨#[47]⟩ : ByteArray) t266 _ ?sideT A3.out).mono ?_); (case sideT => refine ⟨Ito.tabB hTab_.out ?_⟩; first | exact bs HB | exact st_below | (repeat (first | (with_reducible first | exact HB.out | apply below_alloc | apply pw_below_drewN | apply below_drew1 | refine below_set ?_ (Aside0.out (by assumption))) | exact HB.out))); rintro e w21 ⟨v267, rfl, ho0, hb⟩; refine ⟨_, rfl, ?_⟩; have HO268 := Ah (Kd.R_lower ho0 (below_size (bs HB))); replace HB := Ah (below_step (bs HB) hb); (try clear hb ho0); obtain ⟨Ao22, co22, eo22⟩ := Kd.R_slice HO268.out; subst eo22; have p269 : 0 ≤ (0 : Int) := (by omega); have q269 : 0 < (t266.length : Int) := od; obtain ⟨ad269, e269, hx269_0⟩ := Kd.at_string (Kd.R_reads' HO268.out).2.2 0 p269 q269; cases e269; have qi269 : (0 < t266.length) = True := eq_true (by omega); (try rw [show ((0 : Int)).toNat = 0 from rfl] at hx269_0); (try rw [Addr.add_zero'] at hx269_0); replace p269 := eq_true p269; replace q269 := eq_true q269) | (go_at_call 17; (with_reducible refine (impl_within.calls (t266.length : Int) 2 9 false _ A6.out).mono ?_); rintro e w' ⟨rfl, ⟨nd, rfl⟩⟩))
  go_ret2
  exact ⟨_, er, Kd.Q_of_R (by first | exact Kd.R_nil _ _ _ _ _ | exact Kd.N_nil _ _ _ _ _ | exact Kd.V_nil _ _ _ _ _ | exact Kd.Q_nil _ _ _ _ _ | exact Kd.S_nil _ _ _ _ _), bs HB⟩
 subst c7
 rw [if_pos rfl] at H
 by_cases c8 : 1 ≤ (t266.length : Int)
 rotate_left
 ·
  rw [if_neg c8] at H
  exact absurd H (by simp)
 rw [if_pos c8] at H
 have c8b0 := eq_true c8
 have c8b1 : decide (1 ≤ (t266.length : Int)) = true := decide_eq_true c8
 clear c8
 obtain ⟨y271, hy271⟩ : ∃ y_ : List ByteArray, y_ = (t266.drop 1) := ⟨_, rfl⟩
 replace H : ((slices_ContainsFunc_string_string_at_impl_namesIn_1.f k y271).bind fun t275 => (if t275 = true then (some (([] : List ByteArray), false)) else (some ((t266.drop (1 : Int).toNat), true)))) = some (r1, r2) := by first | (rw [hy271]; with_reducible exact H) | (have H2_ := (Option.bind_some _ _).symm.trans H; rw [hy271]; with_reducible exact H2_) | (have H2_ := (Option.bind_some _ _).symm.trans H; with_reducible exact H2_) | with_reducible exact H | (rw [hy271]; exact H) | exact H
 have Ny271 := Ah hy271
 clear hy271
 replace H := Option.bind_eq_some_iff.mp H
 obtain ⟨t275, A90, H⟩ := H
 try dsimp only at H
 have A9 := Ah A90
 clear A90
 by_cases c10 : t275 = true
 ·
  subst c10
  rw [if_pos rfl] at H
  simp only [Option.some.injEq, Prod.mk.injEq] at H
  obtain ⟨rfl, rfl⟩ := H
  go_enter Tryd.func23, Tryd.ntmps23
  go_wp2_with (first | ((with_reducible refine gate_callee (f := 30) rfl ?_); refine gL (some 8) rfl rfl Tryd.func30 (by kernel_rfl) rfl #[.string a0, .string (⟨#[47]⟩ : ByteArray)] rfl ?_; (with_reducible refine (strings_Split.calls a0 (⟨#[47]⟩ : ByteArray) t266 _ ?sideT A3.out).mono ?_); (case sideT => refine ⟨Ito.tabB hTab_.out ?_⟩; first | exact bs HB | exact st_below | (repeat (first | (with_reducible first | exact HB.out | apply below_alloc | apply pw_below_drewN | apply below_drew1 | refine below_set ?_ (Aside0.out (by assumption))) | exact HB.out))); rintro e w11 ⟨v267, rfl, ho0, hb⟩; refine ⟨_, rfl, ?_⟩; have HO268 := Ah (Kd.R_lower ho0 (below_size (bs HB))); replace HB := Ah (below_step (bs HB) hb); (try clear hb ho0); obtain ⟨Ao12, co12, eo12⟩ := Kd.R_slice HO268.out; subst eo12; have p269 : 0 ≤ (0 : Int) := (by omega); have q269 : 0 < (t266.length : Int) := od; obtain ⟨ad269, e269, hx269_0⟩ := Kd.at_string (Kd.R_reads' HO268.out).2.2 0 p269 q269; cases e269; have qi269 : (0 < t266.length) = True := eq_true (by omega); (try rw [show ((0 : Int)).toNat = 0 from rfl] at hx269_0); (try rw [Addr.add_zero'] at hx269_0); replace p269 := eq_true p269; replace q269 := eq_true q269) | (go_at_call 17; (with_reducible refine (impl_within.calls (t266.length : Int) 2 9 true _ A6.out).mono ?_); rintro e w' ⟨rfl, ⟨nd, rfl⟩⟩; have q13 : (1 : Int) ≤ ((t266.length : Int) : Int) := od; obtain ⟨i013, hi013, _, hsz13, _⟩ := info_parts info9; have hroom13 : t266.length ≤ co12 := (Kd.R_reads' HO268.out).2.1; have hC13 : Kd.C Kd.string _ (some ad269) t266.length t266 := (Kd.R_reads' HO268.out).2.2; have hcut13 := cut_from (P := Tryd.prog) 51 9 .i64 Tryd.underlying51 hi013 1 hsz13 (some ad269) t266.length co12 1 (by omega) q13; have hr13 := Kd.C_drop (m := (1 : Int).toNat) (c := co12) hC13 (by omega) hroom13; obtain ⟨A13, hA13⟩ : ∃ A1, A1 = (if co12 = (1 : Int).toNat then (some ad269) else ((some ad269) : Option Addr).map (·.add ((1 : Int).toNat * 1))) := ⟨_, rfl⟩; obtain ⟨c13, hc13⟩ : ∃ c1, c1 = co12 - (1 : Int).toNat := ⟨_, rfl⟩; have hy13 : y271.length = t266.length - (1 : Int).toNat := (by rw [Ny271.out, List.length_drop] <;> omega); rw [show (t266).drop (1 : Int).toNat = y271 from Ny271.out.symm] at hr13; replace hr13 : Kd.C Kd.string _ A13 y271.length y271 := (by rw [hA13]; exact hr13); rw [← hy13, ← hA13, ← hc13] at hcut13; have HR274 := Ah hr13; have HC274 := Ah (show y271.length ≤ c13 from by rw [hy13, hc13]; exact Nat.sub_le_sub_right hroom13 _); clear hr13 hC13 hroom13 hi013 hsz13 hc13; have KY13 := Ah hy13; have KA13 := Ah hA13; clear hy13 hA13; have KL13 := Ah (show 1 ≤ t266.length from by omega); replace q13 := eq_true q13) | (go_at_call 31; (with_reducible refine (slices_ContainsFunc_string_string_at_impl_namesIn_1.calls k _ _ y271  true _ ?side1 ?side2 A9.out).mono ?_); (case side1 => repeat (first | exact (by repeat (first | (with_reducible exact HR274.out) | (with_reducible refine Kd.C_alloc ?_ _) | (with_reducible refine Kd.C_drewN ?_ _) | (with_reducible refine Kd.C_drew ?_) | exact HR274.out)) | (with_reducible refine Kd.C_alloc ?_ _) | (with_reducible refine Kd.C_drewN ?_ _) | (with_reducible refine Kd.C_drew ?_))); (case side2 => exact HC274.out); rintro e w14 ⟨rfl, hb⟩; replace HO268 := nr HO268 hb; replace HR274 := Ah (Kd.C_below (by repeat (first | (with_reducible exact HR274.out) | (with_reducible refine Kd.C_alloc ?_ _) | (with_reducible refine Kd.C_drewN ?_ _) | (with_reducible refine Kd.C_drew ?_) | exact HR274.out)) hb); replace HB := Ah (below_step (bs HB) hb); (try clear hb)))
  go_ret2
  exact ⟨_, er, Kd.Q_of_R (by first | exact Kd.R_nil _ _ _ _ _ | exact Kd.N_nil _ _ _ _ _ | exact Kd.V_nil _ _ _ _ _ | exact Kd.Q_nil _ _ _ _ _ | exact Kd.S_nil _ _ _ _ _), bs HB⟩
 replace c10 := Bool.eq_false_iff.mpr c10
 subst c10
 rw [if_neg fne] at H
 have c15b0 := eq_true (od : 1 ≤ (t266.length : Int))
 obtain ⟨y276, hy276⟩ : ∃ y_ : List ByteArray, y_ = (t266.drop (1 : Int).toNat) := ⟨_, rfl⟩
 replace H : (some (y276, true)) = some (r1, r2) := by first | (rw [hy276]; with_reducible exact H) | (have H2_ := (Option.bind_some _ _).symm.trans H; rw [hy276]; with_reducible exact H2_) | (have H2_ := (Option.bind_some _ _).symm.trans H; with_reducible exact H2_) | with_reducible exact H | (rw [hy276]; exact H) | exact H
 have Ny276 := Ah hy276
 clear hy276
 simp only [Option.some.injEq, Prod.mk.injEq] at H
 obtain ⟨rfl, rfl⟩ := H
 go_enter Tryd.func23, Tryd.ntmps23
 go_wp2_with (first | ((with_reducible refine gate_callee (f := 30) rfl ?_); refine gL (some 8) rfl rfl Tryd.func30 (by kernel_rfl) rfl #[.string a0, .string (⟨#[47]⟩ : ByteArray)] rfl ?_; (with_reducible refine (strings_Split.calls a0 (⟨#[47]⟩ : ByteArray) t266 _ ?sideT A3.out).mono ?_); (case sideT => refine ⟨Ito.tabB hTab_.out ?_⟩; first | exact bs HB | exact st_below | (repeat (first | (with_reducible first | exact HB.out | apply below_alloc | apply pw_below_drewN | apply below_drew1 | refine below_set ?_ (Aside0.out (by assumption))) | exact HB.out))); rintro e w16 ⟨v267, rfl, ho0, hb⟩; refine ⟨_, rfl, ?_⟩; have HO268 := Ah (Kd.R_lower ho0 (below_size (bs HB))); replace HB := Ah (below_step (bs HB) hb); (try clear hb ho0); obtain ⟨Ao17, co17, eo17⟩ := Kd.R_slice HO268.out; subst eo17; have p269 : 0 ≤ (0 : Int) := (by omega); have q269 : 0 < (t266.length : Int) := od; obtain ⟨ad269, e269, hx269_0⟩ := Kd.at_string (Kd.R_reads' HO268.out).2.2 0 p269 q269; cases e269; have qi269 : (0 < t266.length) = True := eq_true (by omega); (try rw [show ((0 : Int)).toNat = 0 from rfl] at hx269_0); (try rw [Addr.add_zero'] at hx269_0); replace p269 := eq_true p269; replace q269 := eq_true q269) | (go_at_call 17; (with_reducible refine (impl_within.calls (t266.length : Int) 2 9 true _ A6.out).mono ?_); rintro e w' ⟨rfl, ⟨nd, rfl⟩⟩; have q18 : (1 : Int) ≤ ((t266.length : Int) : Int) := od; obtain ⟨i018, hi018, _, hsz18, _⟩ := info_parts info9; have hroom18 : t266.length ≤ co17 := (Kd.R_reads' HO268.out).2.1; have hC18 : Kd.C Kd.string _ (some ad269) t266.length t266 := (Kd.R_reads' HO268.out).2.2; have hcut18 := cut_from (P := Tryd.prog) 51 9 .i64 Tryd.underlying51 hi018 1 hsz18 (some ad269) t266.length co17 1 (by omega) q18; have hr18 := Kd.C_drop (m := (1 : Int).toNat) (c := co17) hC18 (by omega) hroom18; obtain ⟨A18, hA18⟩ : ∃ A1, A1 = (if co17 = (1 : Int).toNat then (some ad269) else ((some ad269) : Option Addr).map (·.add ((1 : Int).toNat * 1))) := ⟨_, rfl⟩; obtain ⟨c18, hc18⟩ : ∃ c1, c1 = co17 - (1 : Int).toNat := ⟨_, rfl⟩; have hy18 : y271.length = t266.length - (1 : Int).toNat := (by rw [Ny271.out, List.length_drop] <;> omega); rw [show (t266).drop (1 : Int).toNat = y271 from Ny271.out.symm] at hr18; replace hr18 : Kd.C Kd.string _ A18 y271.length y271 := (by rw [hA18]; exact hr18); rw [← hy18, ← hA18, ← hc18] at hcut18; have HR274 := Ah hr18; have HC274 := Ah (show y271.length ≤ c18 from by rw [hy18, hc18]; exact Nat.sub_le_sub_right hroom18 _); clear hr18 hC18 hroom18 hi018 hsz18 hc18; have KY18 := Ah hy18; have KA18 := Ah hA18; clear hy18 hA18; have KL18 := Ah (show 1 ≤ t266.length from by omega); replace q18 := eq_true q18) | (go_at_call 31; (with_reducible refine (slices_ContainsFunc_string_string_at_impl_namesIn_1.calls k _ _ y271  false _ ?side1 ?side2 A9.out).mono ?_); (case side1 => repeat (first | exact (by repeat (first | (with_reducible exact HR274.out) | (with_reducible refine Kd.C_alloc ?_ _) | (with_reducible refine Kd.C_drewN ?_ _) | (with_reducible refine Kd.C_drew ?_) | exact HR274.out)) | (with_reducible refine Kd.C_alloc ?_ _) | (with_reducible refine Kd.C_drewN ?_ _) | (with_reducible refine Kd.C_drew ?_))); (case side2 => exact HC274.out); rintro e w19 ⟨rfl, hb⟩; replace HO268 := nr HO268 hb; replace HR274 := Ah (Kd.C_below (by repeat (first | (with_reducible exact HR274.out) | (with_reducible refine Kd.C_alloc ?_ _) | (with_reducible refine Kd.C_drewN ?_ _) | (with_reducible refine Kd.C_drew ?_) | exact HR274.out)) hb); replace HB := Ah (below_step (bs HB) hb); (try clear hb); clear hcut18; have q20 : (1 : Int) ≤ ((t266.length : Int) : Int) := od; obtain ⟨i020, hi020, _, hsz20, _⟩ := info_parts info9; have hcut20 := cut_from (P := Tryd.prog) 51 9 .i64 Tryd.underlying51 hi020 1 hsz20 (some ad269) t266.length co17 1 (by omega) q20; have hr20 := Kd.Q_drop (k := (1 : Int).toNat) (Kd.Q_of_R HO268.out) (by omega); obtain ⟨A20, hA20⟩ : ∃ A1, A1 = (if co17 = (1 : Int).toNat then (some ad269) else ((some ad269) : Option Addr).map (·.add ((1 : Int).toNat * 1))) := ⟨_, rfl⟩; obtain ⟨c20, hc20⟩ : ∃ c1, c1 = co17 - (1 : Int).toNat := ⟨_, rfl⟩; have hy20 : y276.length = t266.length - (1 : Int).toNat := (by rw [Ny276.out, List.length_drop]); rw [← Ny276.out] at hr20; rw [← hy20, ← hA20, ← hc20] at hcut20; replace hr20 : Kd.Q Kd.string 9 w19 w.heap.size (fun _ => True) (.slice A20 y276.length c20) y276 := (by rw [hA20, hc20, hy20]; exact hr20); have HE20 : Aside0 ((Value.slice A20 y276.length c20).ownBlock = (.slice (some ad269) t266.length co17 : Value).ownBlock) := ⟨by rw [hA20]; split <;> (cases ((some ad269) : Option Addr) <;> rfl)⟩; clear hy20 hi020 hsz20 HO268 hA20 hc20; have HO278 := Ah hr20; clear hr20; replace q20 := eq_true q20))
 go_ret2
 exact ⟨_, er, by (with_reducible repeat (first | apply Kd.Q_alloc | apply Kd.Q_drewN | apply Kd.Q_drew)); exact HO278.out, bs HB⟩

/-! ### strings_Compare: function 42 -/
-- strings.Compare: the bytes compared.
def strings_Compare.f (a0 : ByteArray) (a1 : ByteArray) : Option Int := some (Lib.compareBytes a0.data.toList a1.data.toList)
theorem strings_Compare.calls (a0 : ByteArray) (a1 : ByteArray) (r : Int) (w : World) (h : strings_Compare.f a0 a1 = some r) :
    Calls Tryd.prog 42 #[.string a0, .string a1] w fun e w' => e = .returned (.int .i64 r) ∧ Drawn0 w w' := by
  unfold strings_Compare.f at h
  obtain rfl := Option.some.inj h
  refine (Rt.cmp_calls a0 a1 w).mono ?_
  rintro e w' ⟨rfl, rfl⟩
  exact ⟨rfl, Drawn0.refl _⟩

/-! ### impl_Inode_find_1: function 41 -/
def impl_Inode_find_1.f (a0_0 : ByteArray) (a0_1 : Int) (a1 : ByteArray) : Option (Int) := (strings_Compare.f a0_0 a1).bind fun t280 => (some t280)
set_option maxHeartbeats 8000000 in
set_option maxRecDepth 100000 in
theorem impl_Inode_find_1.calls (a0_0 : ByteArray) (a0_1 : Int) (a1 : ByteArray) (r : Int) (w : World) (h : impl_Inode_find_1.f a0_0 a0_1 a1 = some r) :
  Calls Tryd.prog 41 #[.agg #[.string a0_0, .int .i64 a0_1], .string a1] w fun e w' => e = .returned (.int .i64 r) ∧ Below w.heap.size w w' := by
 have hu42 := Tryd.underlying42
 have HB := Aside0.mk (Below.refl w.heap.size w)
 have H : ((strings_Compare.f a0_0 a1).bind fun t280 => (some t280)) = some r := h
 clear h
 replace H := Option.bind_eq_some_iff.mp H
 obtain ⟨t280, A30, H⟩ := H
 replace H : (some t280) = some r := H
 have A3 := Aside0.mk A30
 clear A30
 obtain rfl := Option.some.inj H
 go_enter Tryd.func41, Tryd.ntmps41
 go_wp2_with (first | ((with_reducible refine gate_dst (N := 2) rfl ?_); refine box_event ?hg (N := 2) ?hd (cs := #[.string a0_0, .int .i64 a0_1]) (t := 42) ?hr ?_; (case hd => rfl); (case hg => rfl); (case hr => first | (go_simp; done) | (go_simp; rfl)); intro gb279 hg w4 hbox hb; have BK279 := Aside0.mk (hbox); have GW279 := Aside0.mk ((by rw [hg]; exact (below_size (bs HB)) : w.heap.size ≤ gb279)); have GE279 := Aside0.mk ((by rw [hg]; exact (below_size (bs HB)) : w.heap.size ≤ gb279)); replace HB := Aside0.mk (below_step (bs HB) hb); clear hb hbox hg; obtain ⟨hcz5_0, hcz5_1⟩ := cz2 BK279; obtain ⟨hfz5_0, hfz5_1⟩ := fz2 BK279) | ((with_reducible refine gate_callee (f := 42) rfl ?_); refine gL (some 8) rfl rfl Tryd.func42 (by kernel_rfl) rfl #[.string a0_0, .string a1] rfl ?_; (with_reducible refine (strings_Compare.calls a0_0 a1 t280 _ A3.out).mono ?_); rintro e w' ⟨rfl, ⟨nd, rfl⟩⟩; refine ⟨_, rfl, ?_⟩))
 go_ret
 exact ⟨by first | rfl | (simp [errW_none, errW_some] <;> rfl) | (simp [*, errW_none, errW_some] <;> rfl), bs1 HB GE279⟩

/-! ### slices_BinarySearchFunc_impl_Name_string_at_impl_Inode_find_1: function 40 -/
def slices_BinarySearchFunc_impl_Name_string_at_impl_Inode_find_1.l0 : Nat → List (S42) → ByteArray → Int → Int → Int → Option (Int × Bool)
 | 0, _, _, _, _, _ => none
 | k + 1, x0, x1, x8, x9, x10 => if x9 < x10 then (if 0 ≤ (wrap64 ((IntKind.u64.wrap (wrap64 (x9 + x10))) / 2)) then (if (wrap64 ((IntKind.u64.wrap (wrap64 (x9 + x10))) / 2)) < (x0.length : Int) then ((impl_Inode_find_1.f ((rd_T42 x0 (wrap64 ((IntKind.u64.wrap (wrap64 (x9 + x10))) / 2))).f0) ((rd_T42 x0 (wrap64 ((IntKind.u64.wrap (wrap64 (x9 + x10))) / 2))).f1) x1).bind fun t282 => (if t282 < 0 then (slices_BinarySearchFunc_impl_Name_string_at_impl_Inode_find_1.l0 k x0 x1 x8 (wrap64 ((wrap64 ((IntKind.u64.wrap (wrap64 (x9 + x10))) / 2)) + 1)) x10) else (slices_BinarySearchFunc_impl_Name_string_at_impl_Inode_find_1.l0 k x0 x1 x8 x9 (wrap64 ((IntKind.u64.wrap (wrap64 (x9 + x10))) / 2))))) else (none)) else (none)) else (if x9 < x8 then (if 0 ≤ x9 then (if x9 < (x0.length : Int) then ((impl_Inode_find_1.f ((rd_T42 x0 x9).f0) ((rd_T42 x0 x9).f1) x1).bind fun t284 => (some (x9, (t284 == 0)))) else (none)) else (none)) else (some (x9, false)))
def slices_BinarySearchFunc_impl_Name_string_at_impl_Inode_find_1.f (k : Nat) (l0 : List (S42)) (a1 : ByteArray)  : Option (Int × Bool) := slices_BinarySearchFunc_impl_Name_string_at_impl_Inode_find_1.l0 k l0 a1 (l0.length : Int) 0 (l0.length : Int)
theorem slices_BinarySearchFunc_impl_Name_string_at_impl_Inode_find_1.mono_l : ∀ k, (∀ y0 y1 y2 y3 y4, LeO (slices_BinarySearchFunc_impl_Name_string_at_impl_Inode_find_1.l0 k y0 y1 y2 y3 y4) (slices_BinarySearchFunc_impl_Name_string_at_impl_Inode_find_1.l0 (k + 1) y0 y1 y2 y3 y4))
 | 0 => fun _ _ _ _ _ r h => by simp [slices_BinarySearchFunc_impl_Name_string_at_impl_Inode_find_1.l0] at h
 | k + 1 => by
  have ih0 := slices_BinarySearchFunc_impl_Name_string_at_impl_Inode_find_1.mono_l k
  ·
   intro y0 y1 y2 y3 y4
   unfold slices_BinarySearchFunc_impl_Name_string_at_impl_Inode_find_1.l0
   repeat' first
   | (with_reducible exact ih0 _ _ _ _ _)
   | (with_reducible exact LeO.refl _)
   | (with_reducible exact LeO.none _)
   | (with_reducible refine LeO.ite ?_ ?_)
   | (with_reducible refine LeO.bind ?_ (fun _ => ?_))
   | exact ih0 _ _ _ _ _
   | exact LeO.none _
   | refine LeO.ite ?_ ?_
   | refine LeO.bind ?_ (fun _ => ?_)
theorem slices_BinarySearchFunc_impl_Name_string_at_impl_Inode_find_1.mono : ∀ a0 a1 k, LeO (slices_BinarySearchFunc_impl_Name_string_at_impl_Inode_find_1.f k a0 a1) (slices_BinarySearchFunc_impl_Name_string_at_impl_Inode_find_1.f (k + 1) a0 a1) := by
 intro a0 a1 k
 have ih0 := slices_BinarySearchFunc_impl_Name_string_at_impl_Inode_find_1.mono_l k
 unfold slices_BinarySearchFunc_impl_Name_string_at_impl_Inode_find_1.f
 repeat' first
   | (with_reducible exact ih0 _ _ _ _ _)
   | (with_reducible exact LeO.refl _)
   | (with_reducible exact LeO.none _)
   | (with_reducible refine LeO.ite ?_ ?_)
   | (with_reducible refine LeO.bind ?_ (fun _ => ?_))
   | exact ih0 _ _ _ _ _
   | exact LeO.none _
   | refine LeO.ite ?_ ?_
   | refine LeO.bind ?_ (fun _ => ?_)
set_option maxHeartbeats 8000000 in
set_option maxRecDepth 100000 in
theorem slices_BinarySearchFunc_impl_Name_string_at_impl_Inode_find_1.calls (k : Nat) (A0 : Option Addr) (c0 : Nat) (l0 : List (S42)) (a1 : ByteArray)  (r1 : Int) (r2 : Bool) (w : World) (hr0 : Kd.C k42 w A0 l0.length l0) (hc0 : l0.length ≤ c0) (h : slices_BinarySearchFunc_impl_Name_string_at_impl_Inode_find_1.f k l0 a1 = some (r1, r2)) :
  Calls Tryd.prog 40 #[.slice A0 l0.length c0, .string a1, .func (.func 41) #[] #[]] w fun e w' => e = .returned (.tuple #[.int .i64 r1, .bool r2]) ∧ Below w.heap.size w w' := by
 have hu42 := Tryd.underlying42
 have eg41 := fun (args : Array Value) (w : World) => enters_ (P := Tryd.prog) Tryd.func41 (by kernel_rfl) rfl args w
 have HR0 := Ah hr0
 have HC0 := Ah hc0
 clear hr0 hc0
 have HB := Ah (Below.refl w.heap.size w)
 have H : (slices_BinarySearchFunc_impl_Name_string_at_impl_Inode_find_1.l0 k l0 a1 (l0.length : Int) 0 (l0.length : Int)) = some (r1, r2) := h
 clear h
 have H' := Ah H
 clear H
 go_enter Tryd.func40, Tryd.ntmps40
 go_wp2
 go_loopg [9, 10] k (fun kq v9 v10 w' => ∃ (x9_1 : Int) (x10_1 : Int), v9 = .int .i64 x9_1 ∧ v10 = .int .i64 x10_1 ∧ Aside0 (slices_BinarySearchFunc_impl_Name_string_at_impl_Inode_find_1.l0 kq l0 a1 (l0.length : Int) x9_1 x10_1 = some (r1, r2)) ∧ Aside0 (kq ≤ k) ∧ Aside0 (Below w.heap.size w w'))
 case atStart => exact ⟨(0), ((l0.length : Int)), e3, e3, H', ⟨Nat.le_refl _⟩, ⟨bs HB⟩⟩
 case round =>
  clear H'
  try clear p2
  obtain ⟨x9_1, x10_1, rfl, rfl, HA, HK1, HB⟩ := hrel
  cases gk with
  | zero => exact absurd HA.out (by simp [slices_BinarySearchFunc_impl_Name_string_at_impl_Inode_find_1.l0])
  | succ k1 =>
   have H := HA.out
   clear HA
   simp only [slices_BinarySearchFunc_impl_Name_string_at_impl_Inode_find_1.l0] at H
   by_cases c4 : x9_1 < x10_1
   rotate_left
   ·
    rw [if_neg c4] at H
    have c4b0 : decide (x9_1 < x10_1) = false := decide_eq_false c4
    clear c4
    by_cases c12 : x9_1 < (l0.length : Int)
    rotate_left
    ·
     rw [if_neg c12] at H
     have c12b0 : decide (x9_1 < (l0.length : Int)) = false := decide_eq_false c12
     clear c12
     simp only [Option.some.injEq, Prod.mk.injEq] at H
     obtain ⟨rfl, rfl⟩ := H
     go_wp2
     go_ret2
     exact ⟨er, bs HB⟩
    rw [if_pos c12] at H
    have c12b0 : decide (x9_1 < (l0.length : Int)) = true := decide_eq_true c12
    clear c12
    by_cases c13 : 0 ≤ x9_1
    rotate_left
    ·
     rw [if_neg c13] at H
     exact absurd H (by simp)
    rw [if_pos c13] at H
    have c13b0 : decide (0 ≤ x9_1) = true := decide_eq_true c13
    clear c13
    by_cases c14 : x9_1 < (l0.length : Int)
    rotate_left
    ·
     rw [if_neg c14] at H
     exact absurd H (by simp)
    rw [if_pos c14] at H
    have c14b0 : decide (x9_1 < (l0.length : Int)) = true := decide_eq_true c14
    clear c14
    replace H := Option.bind_eq_some_iff.mp H
    obtain ⟨t284, A150, H⟩ := H
    try dsimp only at H
    have A15 := Ah A150
    clear A150
    simp only [Option.some.injEq, Prod.mk.injEq] at H
    obtain ⟨rfl, rfl⟩ := H
    have p283 : 0 ≤ (x9_1 : Int) := od
    have q283 : x9_1 < (l0.length : Int) := od
    obtain ⟨ad283, e283, hx283_0, hx283_1⟩ := at_T42 HR0.out x9_1 p283 q283
    cases e283
    replace hx283_0 := (HB.out.cell (World.block_lt_of_cell? w _ hx283_0)).trans hx283_0
    replace hx283_1 := (HB.out.cell (World.block_lt_of_cell? w _ hx283_1)).trans hx283_1
    replace p283 := eq_true p283
    replace q283 := eq_true q283
    go_wp2_with (first | (go_at_call 41; (with_reducible refine (impl_Inode_find_1.calls ((rd_T42 l0 x9_1).f0) ((rd_T42 l0 x9_1).f1) a1 t284 _ A15.out).mono ?_); rintro e w16 ⟨rfl, hb⟩; replace HB := Ah (below_step (bs HB) hb); (try clear hb)))
    go_ret2
    exact ⟨er, bs HB⟩
   rw [if_pos c4] at H
   have c4b0 : decide (x9_1 < x10_1) = true := decide_eq_true c4
   clear c4
   obtain ⟨ji5, hji5⟩ : ∃ j_ : Int, (wrap64 ((IntKind.u64.wrap (wrap64 (x9_1 + x10_1))) / 2)) = j_ := ⟨_, rfl⟩
   replace H : (if 0 ≤ (ji5) then (if (ji5) < (l0.length : Int) then ((impl_Inode_find_1.f ((rd_T42 l0 (ji5)).f0) ((rd_T42 l0 (ji5)).f1) a1).bind fun t282 => (if t282 < 0 then (slices_BinarySearchFunc_impl_Name_string_at_impl_Inode_find_1.l0 k1 l0 a1 (l0.length : Int) (wrap64 ((ji5) + 1)) x10_1) else (slices_BinarySearchFunc_impl_Name_string_at_impl_Inode_find_1.l0 k1 l0 a1 (l0.length : Int) x9_1 ji5))) else (none)) else (none)) = some (r1, r2) := by first | (rw [hji5] at H; exact H) | (simp only [hji5] at H ⊢; exact H)
   have hji5w : (IntKind.i64.wrap ((IntKind.u64.wrap (wrap64 (x9_1 + x10_1))) / 2)) = ji5 := (i64_w _).trans hji5
   by_cases c6 : 0 ≤ (ji5)
   rotate_left
   ·
    rw [if_neg c6] at H
    exact absurd H (by simp)
   rw [if_pos c6] at H
   have c6b0 : decide (0 ≤ (ji5)) = true := decide_eq_true c6
   clear c6
   by_cases c7 : (ji5) < (l0.length : Int)
   rotate_left
   ·
    rw [if_neg c7] at H
    exact absurd H (by simp)
   rw [if_pos c7] at H
   have c7b0 : decide ((ji5) < (l0.length : Int)) = true := decide_eq_true c7
   clear c7
   replace H := Option.bind_eq_some_iff.mp H
   obtain ⟨t282, A80, H⟩ := H
   try dsimp only at H
   have A8 := Ah A80
   clear A80
   by_cases c9 : t282 < 0
   rotate_left
   ·
    rw [if_neg c9] at H
    have c9b0 : decide (t282 < 0) = false := decide_eq_false c9
    clear c9
    have H' := Ah H
    clear H
    have p281 : 0 ≤ ((ji5) : Int) := od
    have q281 : (ji5) < (l0.length : Int) := od
    obtain ⟨ad281, e281, hx281_0, hx281_1⟩ := at_T42 HR0.out (ji5) p281 q281
    cases e281
    replace hx281_0 := (HB.out.cell (World.block_lt_of_cell? w _ hx281_0)).trans hx281_0
    replace hx281_1 := (HB.out.cell (World.block_lt_of_cell? w _ hx281_1)).trans hx281_1
    replace p281 := eq_true p281
    replace q281 := eq_true q281
    go_wp2_with (first | ((with_reducible refine gate_value (t := 24) rfl ?_); refine goesV_ (some 30) rfl rfl Tryd.func41 (by kernel_rfl) rfl #[.agg #[.string ((rd_T42 l0 (ji5)).f0), .int .i64 ((rd_T42 l0 (ji5)).f1)], .string a1] rfl rfl (by (try simp only [List.map_toArray, List.map_cons, List.map_nil]); first | done | (simp only [hji5]; rfl) | rfl | (simp only [List.length_drop, List.length_take]; rfl)) ?_; (with_reducible refine (impl_Inode_find_1.calls ((rd_T42 l0 (ji5)).f0) ((rd_T42 l0 (ji5)).f1) a1 t282 _ A8.out).mono ?_); rintro e w11 ⟨rfl, hb⟩; refine ⟨_, rfl, ?_⟩; replace HB := Ah (below_step (bs HB) hb); (try clear hb)))
    go_roundg k1
    case measure => have := HK1.out; omega
    case rel => exact ⟨(x9_1), (ji5), e3, (by first | rfl | (simp; done) | (simp only [← hji5] <;> (first | rfl | simp)) | (simp [*]; done)), H', ⟨by have := HK1.out; omega⟩, ⟨bs HB⟩⟩
   rw [if_pos c9] at H
   have c9b0 : decide (t282 < 0) = true := decide_eq_true c9
   clear c9
   have H' := Ah H
   clear H
   have p281 : 0 ≤ ((ji5) : Int) := od
   have q281 : (ji5) < (l0.length : Int) := od
   obtain ⟨ad281, e281, hx281_0, hx281_1⟩ := at_T42 HR0.out (ji5) p281 q281
   cases e281
   replace hx281_0 := (HB.out.cell (World.block_lt_of_cell? w _ hx281_0)).trans hx281_0
   replace hx281_1 := (HB.out.cell (World.block_lt_of_cell? w _ hx281_1)).trans hx281_1
   replace p281 := eq_true p281
   replace q281 := eq_true q281
   go_wp2_with (first | ((with_reducible refine gate_value (t := 24) rfl ?_); refine goesV_ (some 30) rfl rfl Tryd.func41 (by kernel_rfl) rfl #[.agg #[.string ((rd_T42 l0 (ji5)).f0), .int .i64 ((rd_T42 l0 (ji5)).f1)], .string a1] rfl rfl (by (try simp only [List.map_toArray, List.map_cons, List.map_nil]); first | done | (simp only [hji5]; rfl) | rfl | (simp only [List.length_drop, List.length_take]; rfl)) ?_; (with_reducible refine (impl_Inode_find_1.calls ((rd_T42 l0 (ji5)).f0) ((rd_T42 l0 (ji5)).f1) a1 t282 _ A8.out).mono ?_); rintro e w10 ⟨rfl, hb⟩; refine ⟨_, rfl, ?_⟩; replace HB := Ah (below_step (bs HB) hb); (try clear hb)))
   go_roundg k1
   case measure => have := HK1.out; omega
   case rel => exact ⟨(wrap64 ((ji5) + 1)), (x10_1), (by first | rfl | (simp; done) | (simp only [← hji5] <;> (first | rfl | simp)) | (simp [*]; done)), e3, H', ⟨by have := HK1.out; omega⟩, ⟨bs HB⟩⟩

/-! ### impl_Inode_find: function 33 -/
def impl_Inode_find.f (k : Nat) (a0_0 : Bool) (a0_1 : Int) (l0_2 : List (S42)) (a1 : ByteArray) : Option (Int × Bool) := (slices_BinarySearchFunc_impl_Name_string_at_impl_Inode_find_1.f k l0_2 a1).bind fun bt286 => (some (bt286.1, bt286.2))
theorem impl_Inode_find.mono : ∀ a0 a1 a2 a3 k, LeO (impl_Inode_find.f k a0 a1 a2 a3) (impl_Inode_find.f (k + 1) a0 a1 a2 a3) := by
 intro a0 a1 a2 a3 k
 unfold impl_Inode_find.f
 repeat' first
   | (with_reducible exact slices_BinarySearchFunc_impl_Name_string_at_impl_Inode_find_1.mono _ _ _)
   | (with_reducible exact LeO.refl _)
   | (with_reducible exact LeO.none _)
   | (with_reducible refine LeO.ite ?_ ?_)
   | (with_reducible refine LeO.bind ?_ (fun _ => ?_))
   | exact slices_BinarySearchFunc_impl_Name_string_at_impl_Inode_find_1.mono _ _ _
   | exact LeO.none _
   | refine LeO.ite ?_ ?_
   | refine LeO.bind ?_ (fun _ => ?_)
set_option maxHeartbeats 8000000 in
set_option maxRecDepth 100000 in
theorem impl_Inode_find.calls (k : Nat) (a0_0 : Bool) (a0_1 : Int) (A0_2 : Option Addr) (c0_2 : Nat) (l0_2 : List (S42)) (a1 : ByteArray) (r1 : Int) (r2 : Bool) (w : World) (hr0_2 : Kd.C k42 w A0_2 l0_2.length l0_2) (hc0_2 : l0_2.length ≤ c0_2) (h : impl_Inode_find.f k a0_0 a0_1 l0_2 a1 = some (r1, r2)) :
  Calls Tryd.prog 33 #[.agg #[.bool a0_0, .int .i64 a0_1, .slice A0_2 l0_2.length c0_2], .string a1] w fun e w' => e = .returned (.tuple #[.int .i64 r1, .bool r2]) ∧ Below w.heap.size w w' := by
 have hu40 := Tryd.underlying40
 have HR0_2 := Ah hr0_2
 have HC0_2 := Ah hc0_2
 clear hr0_2 hc0_2
 have HB := Ah (Below.refl w.heap.size w)
 have H : ((slices_BinarySearchFunc_impl_Name_string_at_impl_Inode_find_1.f k l0_2 a1).bind fun bt286 => (some (bt286.1, bt286.2))) = some (r1, r2) := h
 clear h
 replace H := Option.bind_eq_some_iff.mp H
 obtain ⟨⟨t286, t287⟩, A30, H⟩ := H
 try dsimp only at H
 have A3 := Ah A30
 clear A30
 simp only [Option.some.injEq, Prod.mk.injEq] at H
 obtain ⟨rfl, rfl⟩ := H
 go_enter Tryd.func33, Tryd.ntmps33
 go_wp2_with (first | ((with_reducible refine gate_dst (N := 2) rfl ?_); refine boxL 2 40 #[.bool a0_0, .int .i64 a0_1, .slice A0_2 l0_2.length c0_2] ?_; intro gb285 hg w4 BK285 hb; have GW285 := gw hg (bs HB); have GE285 := gw hg (bs HB); replace HB := Ah (below_step (bs HB) hb); clear hb hg; obtain ⟨hcz5_0, hcz5_1, hcz5_2⟩ := cz3 BK285; obtain ⟨hfz5_0, hfz5_1, hfz5_2⟩ := fz3 BK285) | ((with_reducible refine gate_callee (f := 40) rfl ?_); refine gL (some 9) rfl rfl Tryd.func40 (by kernel_rfl) rfl #[.slice A0_2 l0_2.length c0_2, .string a1, .func (.func 41) #[] #[]] rfl ?_; (with_reducible refine (slices_BinarySearchFunc_impl_Name_string_at_impl_Inode_find_1.calls k _ _ l0_2 a1  t286 t287 _ ?side1 ?side2 A3.out).mono ?_); (case side1 => exact cb HR0_2 HB); (case side2 => exact HC0_2.out); rintro e w6 ⟨rfl, hb⟩; refine ⟨_, rfl, ?_⟩; replace BK285 := nb BK285 hb; replace HB := Ah (below_step (bs1 HB GE285) hb); (try clear hb)))
 go_ret2
 exact ⟨er, bs1 HB GE285⟩

/-! ### impl_Names_walk: function 24 -/
def impl_Names_walk.l0 : Nat → Int → List ByteArray → Int → Int → List (S40) → Option (Int × Int)
 | 0, _, _, _, _, _ => none
 | k + 1, x6, x11, x12, x13, x289000 => if x13 < x12 then (if 0 ≤ x13 then (if x13 < (x11.length : Int) then (if 0 ≤ x6 then (if x6 < (x289000.length : Int) then (if ((rd_T40 x289000 x6).f0 = true) then ((impl_Inode_find.f k ((rd_T40 x289000 x6).f0) ((rd_T40 x289000 x6).f1) ((rd_T40 x289000 x6).f2) (rdOf ByteArray.empty x11 x13)).bind fun bt292 => (if bt292.2 = true then (if 0 ≤ bt292.1 then (if bt292.1 < (((rd_T40 x289000 x6).f2).length : Int) then (impl_Names_walk.l0 k ((rd_T42 ((rd_T40 x289000 x6).f2) bt292.1).f1) x11 x12 (wrap64 (x13 + 1)) x289000) else (none)) else (none)) else (some (0, 2)))) else (some (0, 4))) else (none)) else (none)) else (none)) else (none)) else (some (x6, 0))
def impl_Names_walk.f (k : Nat) (l0_0 : List (S40)) (l1 : List ByteArray) : Option (Int × Int) := impl_Names_walk.l0 k 0 l1 (l1.length : Int) 0 l0_0
theorem impl_Names_walk.mono_l : ∀ k, (∀ y0 y1 y2 y3 y4, LeO (impl_Names_walk.l0 k y0 y1 y2 y3 y4) (impl_Names_walk.l0 (k + 1) y0 y1 y2 y3 y4))
 | 0 => fun _ _ _ _ _ r h => by simp [impl_Names_walk.l0] at h
 | k + 1 => by
  have ih0 := impl_Names_walk.mono_l k
  ·
   intro y0 y1 y2 y3 y4
   unfold impl_Names_walk.l0
   repeat' first
   | (with_reducible exact ih0 _ _ _ _ _)
   | (with_reducible exact impl_Inode_find.mono _ _ _ _ _)
   | (with_reducible exact LeO.refl _)
   | (with_reducible exact LeO.none _)
   | (with_reducible refine LeO.ite ?_ ?_)
   | (with_reducible refine LeO.bind ?_ (fun _ => ?_))
   | exact ih0 _ _ _ _ _
   | exact impl_Inode_find.mono _ _ _ _ _
   | exact LeO.none _
   | refine LeO.ite ?_ ?_
   | refine LeO.bind ?_ (fun _ => ?_)
theorem impl_Names_walk.mono : ∀ a0 a1 k, LeO (impl_Names_walk.f k a0 a1) (impl_Names_walk.f (k + 1) a0 a1) := by
 intro a0 a1 k
 have ih0 := impl_Names_walk.mono_l k
 unfold impl_Names_walk.f
 repeat' first
   | (with_reducible exact ih0 _ _ _ _ _)
   | (with_reducible exact impl_Inode_find.mono _ _ _ _ _)
   | (with_reducible exact LeO.refl _)
   | (with_reducible exact LeO.none _)
   | (with_reducible refine LeO.ite ?_ ?_)
   | (with_reducible refine LeO.bind ?_ (fun _ => ?_))
   | exact ih0 _ _ _ _ _
   | exact impl_Inode_find.mono _ _ _ _ _
   | exact LeO.none _
   | refine LeO.ite ?_ ?_
   | refine LeO.bind ?_ (fun _ => ?_)
set_option maxHeartbeats 8000000 in
set_option maxRecDepth 100000 in
theorem impl_Names_walk.calls (k : Nat) (A0_0 : Option Addr) (c0_0 : Nat) (l0_0 : List (S40)) (A1 : Option Addr) (c1 : Nat) (l1 : List ByteArray) (r1 : Int) (r2 : Int) (w : World) (hr0_0 : Kd.C k40 w A0_0 l0_0.length l0_0) (hc0_0 : l0_0.length ≤ c0_0) (hr1 : Kd.C Kd.string w A1 l1.length l1) (hc1 : l1.length ≤ c1) (h : impl_Names_walk.f k l0_0 l1 = some (r1, r2)) :
  Calls Tryd.prog 24 #[.agg #[.slice A0_0 l0_0.length c0_0], .slice A1 l1.length c1] w fun e w' => e = .returned (.tuple #[.int .i64 r1, .int .i64 r2]) ∧ Below w.heap.size w w' := by
 have hu29 := Tryd.underlying29
 have hu40 := Tryd.underlying40
 have HR0_0 := Ah hr0_0
 have HC0_0 := Ah hc0_0
 clear hr0_0 hc0_0
 have HR1 := Ah hr1
 have HC1 := Ah hc1
 clear hr1 hc1
 have HB := Ah (Below.refl w.heap.size w)
 have H : (impl_Names_walk.l0 k 0 l1 (l1.length : Int) 0 l0_0) = some (r1, r2) := h
 clear h
 have H' := Ah H
 clear H
 go_enter Tryd.func24, Tryd.ntmps24
 go_wp2_with (first | ((with_reducible refine gate_dst (N := 2) rfl ?_); refine boxL 2 29 #[.slice A0_0 l0_0.length c0_0] ?_; intro gb288 hg w3 BK288 hb; have GW288 := gw hg (bs HB); have GE288 := gw hg (bs HB); replace HB := Ah (below_step (bs HB) hb); clear hb hg))
 go_loopg [6, 13] k (fun kq v6 v13 w' => ∃ (x6_1 : Int) (x13_1 : Int), v6 = .int .i64 x6_1 ∧ v13 = .int .i64 x13_1 ∧ Aside0 (impl_Names_walk.l0 kq x6_1 l1 (l1.length : Int) x13_1 l0_0 = some (r1, r2)) ∧ Aside0 (kq ≤ k) ∧ Aside0 (w'.heap[gb288]? = some (.cells #[(.slice A0_0 l0_0.length c0_0)] 29 (0, 0))) ∧ Aside0 (Below w.heap.size w w'))
 case atStart => exact ⟨(0), (0), e3, e3, H', ⟨Nat.le_refl _⟩, ⟨bk BK288⟩, ⟨bs1 HB GE288⟩⟩
 case round =>
  clear H'
  try clear c1
  try clear c2
  try clear p2
  obtain ⟨x6_1, x13_1, rfl, rfl, HA, HK1, BK288, HB⟩ := hrel
  cases gk with
  | zero => exact absurd HA.out (by simp [impl_Names_walk.l0])
  | succ k1 =>
   have H := HA.out
   clear HA
   simp only [impl_Names_walk.l0] at H
   by_cases c4 : x13_1 < (l1.length : Int)
   rotate_left
   ·
    rw [if_neg c4] at H
    have c4b0 : decide (x13_1 < (l1.length : Int)) = false := decide_eq_false c4
    clear c4
    simp only [Option.some.injEq, Prod.mk.injEq] at H
    obtain ⟨rfl, rfl⟩ := H
    go_wp2
    go_ret2
    exact ⟨er, bs1 HB GE288⟩
   rw [if_pos c4] at H
   have c4b0 : decide (x13_1 < (l1.length : Int)) = true := decide_eq_true c4
   clear c4
   by_cases c5 : 0 ≤ x13_1
   rotate_left
   ·
    rw [if_neg c5] at H
    exact absurd H (by simp)
   rw [if_pos c5] at H
   have c5b0 : decide (0 ≤ x13_1) = true := decide_eq_true c5
   clear c5
   by_cases c6 : x13_1 < (l1.length : Int)
   rotate_left
   ·
    rw [if_neg c6] at H
    exact absurd H (by simp)
   rw [if_pos c6] at H
   have c6b0 : decide (x13_1 < (l1.length : Int)) = true := decide_eq_true c6
   clear c6
   by_cases c7 : 0 ≤ x6_1
   rotate_left
   ·
    rw [if_neg c7] at H
    exact absurd H (by simp)
   rw [if_pos c7] at H
   have c7b0 : decide (0 ≤ x6_1) = true := decide_eq_true c7
   clear c7
   by_cases c8 : x6_1 < (l0_0.length : Int)
   rotate_left
   ·
    rw [if_neg c8] at H
    exact absurd H (by simp)
   rw [if_pos c8] at H
   have c8b0 : decide (x6_1 < (l0_0.length : Int)) = true := decide_eq_true c8
   clear c8
   obtain ⟨bq9, hbq9⟩ : ∃ b_ : Bool, b_ = ((rd_T40 l0_0 x6_1).f0) := ⟨_, rfl⟩
   replace H : (if (bq9 = true) then ((impl_Inode_find.f k1 (bq9) ((rd_T40 l0_0 x6_1).f1) ((rd_T40 l0_0 x6_1).f2) (rdOf ByteArray.empty l1 x13_1)).bind fun bt292 => (if bt292.2 = true then (if 0 ≤ bt292.1 then (if bt292.1 < (((rd_T40 l0_0 x6_1).f2).length : Int) then (impl_Names_walk.l0 k1 ((rd_T42 ((rd_T40 l0_0 x6_1).f2) bt292.1).f1) l1 (l1.length : Int) (wrap64 (x13_1 + 1)) l0_0) else (none)) else (none)) else (some (0, 2)))) else (some (0, 4))) = some (r1, r2) := by rw [← hbq9] at H; exact H
   have Nbq9 := Ah hbq9
   clear hbq9
   by_cases c10 : (bq9 = true)
   rotate_left
   ·
    replace c10 := Bool.eq_false_iff.mpr c10
    subst c10
    rw [if_neg fne] at H
    simp only [Option.some.injEq, Prod.mk.injEq] at H
    obtain ⟨rfl, rfl⟩ := H
    have p289 : 0 ≤ (x13_1 : Int) := od
    have q289 : x13_1 < (l1.length : Int) := od
    obtain ⟨ad289, e289, hx289_0⟩ := Kd.at_string HR1.out x13_1 p289 q289
    cases e289
    replace hx289_0 := (HB.out.cell (World.block_lt_of_cell? w _ hx289_0)).trans hx289_0
    replace p289 := eq_true p289
    replace q289 := eq_true q289
    have hcz20_0 := cz1 BK288
    have hfz20_0 := fz1 BK288
    have p290 : 0 ≤ (x6_1 : Int) := od
    have q290 : x6_1 < (l0_0.length : Int) := od
    obtain ⟨ad290, A290_2, c290_2, e290, hx290_0, hx290_1, hx290_2, hl290_2, hi290_2⟩ := at_T40 HR0_0.out x6_1 p290 q290
    (try rw [← Nbq9.out] at hx290_0)
    cases e290
    replace hx290_0 := (HB.out.cell (World.block_lt_of_cell? w _ hx290_0)).trans hx290_0
    replace hx290_1 := (HB.out.cell (World.block_lt_of_cell? w _ hx290_1)).trans hx290_1
    replace hx290_2 := (HB.out.cell (World.block_lt_of_cell? w _ hx290_2)).trans hx290_2
    have HR290_2 := Ah hi290_2
    have HC290_2 := Ah hl290_2
    clear hi290_2 hl290_2
    replace p290 := eq_true p290
    replace q290 := eq_true q290
    go_wp2
    go_ret2
    exact ⟨er, bs1 HB GE288⟩
   subst c10
   rw [if_pos rfl] at H
   replace H := Option.bind_eq_some_iff.mp H
   obtain ⟨⟨t292, t293⟩, A110, H⟩ := H
   try dsimp only at H
   have A11 := Ah A110
   clear A110
   by_cases c12 : t293 = true
   rotate_left
   ·
    replace c12 := Bool.eq_false_iff.mpr c12
    subst c12
    rw [if_neg fne] at H
    simp only [Option.some.injEq, Prod.mk.injEq] at H
    obtain ⟨rfl, rfl⟩ := H
    have p289 : 0 ≤ (x13_1 : Int) := od
    have q289 : x13_1 < (l1.length : Int) := od
    obtain ⟨ad289, e289, hx289_0⟩ := Kd.at_string HR1.out x13_1 p289 q289
    cases e289
    replace hx289_0 := (HB.out.cell (World.block_lt_of_cell? w _ hx289_0)).trans hx289_0
    replace p289 := eq_true p289
    replace q289 := eq_true q289
    have hcz18_0 := cz1 BK288
    have hfz18_0 := fz1 BK288
    have p290 : 0 ≤ (x6_1 : Int) := od
    have q290 : x6_1 < (l0_0.length : Int) := od
    obtain ⟨ad290, A290_2, c290_2, e290, hx290_0, hx290_1, hx290_2, hl290_2, hi290_2⟩ := at_T40 HR0_0.out x6_1 p290 q290
    (try rw [← Nbq9.out] at hx290_0)
    cases e290
    replace hx290_0 := (HB.out.cell (World.block_lt_of_cell? w _ hx290_0)).trans hx290_0
    replace hx290_1 := (HB.out.cell (World.block_lt_of_cell? w _ hx290_1)).trans hx290_1
    replace hx290_2 := (HB.out.cell (World.block_lt_of_cell? w _ hx290_2)).trans hx290_2
    have HR290_2 := Ah hi290_2
    have HC290_2 := Ah hl290_2
    clear hi290_2 hl290_2
    replace p290 := eq_true p290
    replace q290 := eq_true q290
    have p291 : 0 ≤ (x6_1 : Int) := od
    have q291 : x6_1 < (l0_0.length : Int) := od
    obtain ⟨ad291, A291_2, c291_2, e291, hx291_0, hx291_1, hx291_2, hl291_2, hi291_2⟩ := at_T40 HR0_0.out x6_1 p291 q291
    (try rw [← Nbq9.out] at hx291_0)
    obtain rfl : ad290 = ad291 := (by injection e291)
    replace hx291_0 := (HB.out.cell (World.block_lt_of_cell? w _ hx291_0)).trans hx291_0
    replace hx291_1 := (HB.out.cell (World.block_lt_of_cell? w _ hx291_1)).trans hx291_1
    replace hx291_2 := (HB.out.cell (World.block_lt_of_cell? w _ hx291_2)).trans hx291_2
    have HR291_2 := Ah hi291_2
    have HC291_2 := Ah hl291_2
    clear hi291_2 hl291_2
    replace p291 := eq_true p291
    replace q291 := eq_true q291
    have ea_ := Option.some.inj (hx290_2.symm.trans hx291_2)
    injection ea_ with ea_ en_ ec_
    subst ea_
    subst ec_
    clear en_
    go_wp2_with (first | ((with_reducible refine gate_callee (f := 33) rfl ?_); refine gL (some 31) rfl rfl Tryd.func33 (by kernel_rfl) rfl #[.agg #[.bool true, .int .i64 ((rd_T40 l0_0 x6_1).f1), .slice A290_2 ((rd_T40 l0_0 x6_1).f2).length c290_2], .string (rdOf ByteArray.empty l1 x13_1)] rfl ?_; (with_reducible refine (impl_Inode_find.calls k1 true ((rd_T40 l0_0 x6_1).f1) _ _ ((rd_T40 l0_0 x6_1).f2) (rdOf ByteArray.empty l1 x13_1) t292 false _ ?side1 ?side2 A11.out).mono ?_); (case side1 => exact cb HR291_2 HB); (case side2 => exact HC291_2.out); rintro e w19 ⟨rfl, hb⟩; refine ⟨_, rfl, ?_⟩; replace BK288 := nb BK288 hb; replace HB := Ah (below_step (bs1 HB GE288) hb); (try clear hb)))
    go_ret2
    exact ⟨er, bs1 HB GE288⟩
   subst c12
   rw [if_pos rfl] at H
   by_cases c13 : 0 ≤ t292
   rotate_left
   ·
    rw [if_neg c13] at H
    exact absurd H (by simp)
   rw [if_pos c13] at H
   have c13b0 : decide (0 ≤ t292) = true := decide_eq_true c13
   clear c13
   by_cases c14 : t292 < (((rd_T40 l0_0 x6_1).f2).length : Int)
   rotate_left
   ·
    rw [if_neg c14] at H
    exact absurd H (by simp)
   rw [if_pos c14] at H
   have c14b0 : decide (t292 < (((rd_T40 l0_0 x6_1).f2).length : Int)) = true := decide_eq_true c14
   clear c14
   have H' := Ah H
   clear H
   have p289 : 0 ≤ (x13_1 : Int) := od
   have q289 : x13_1 < (l1.length : Int) := od
   obtain ⟨ad289, e289, hx289_0⟩ := Kd.at_string HR1.out x13_1 p289 q289
   cases e289
   replace hx289_0 := (HB.out.cell (World.block_lt_of_cell? w _ hx289_0)).trans hx289_0
   replace p289 := eq_true p289
   replace q289 := eq_true q289
   have hcz15_0 := cz1 BK288
   have hfz15_0 := fz1 BK288
   have p290 : 0 ≤ (x6_1 : Int) := od
   have q290 : x6_1 < (l0_0.length : Int) := od
   obtain ⟨ad290, A290_2, c290_2, e290, hx290_0, hx290_1, hx290_2, hl290_2, hi290_2⟩ := at_T40 HR0_0.out x6_1 p290 q290
   (try rw [← Nbq9.out] at hx290_0)
   cases e290
   replace hx290_0 := (HB.out.cell (World.block_lt_of_cell? w _ hx290_0)).trans hx290_0
   replace hx290_1 := (HB.out.cell (World.block_lt_of_cell? w _ hx290_1)).trans hx290_1
   replace hx290_2 := (HB.out.cell (World.block_lt_of_cell? w _ hx290_2)).trans hx290_2
   have HR290_2 := Ah hi290_2
   have HC290_2 := Ah hl290_2
   clear hi290_2 hl290_2
   replace p290 := eq_true p290
   replace q290 := eq_true q290
   have p291 : 0 ≤ (x6_1 : Int) := od
   have q291 : x6_1 < (l0_0.length : Int) := od
   obtain ⟨ad291, A291_2, c291_2, e291, hx291_0, hx291_1, hx291_2, hl291_2, hi291_2⟩ := at_T40 HR0_0.out x6_1 p291 q291
   (try rw [← Nbq9.out] at hx291_0)
   obtain rfl : ad290 = ad291 := (by injection e291)
   replace hx291_0 := (HB.out.cell (World.block_lt_of_cell? w _ hx291_0)).trans hx291_0
   replace hx291_1 := (HB.out.cell (World.block_lt_of_cell? w _ hx291_1)).trans hx291_1
   replace hx291_2 := (HB.out.cell (World.block_lt_of_cell? w _ hx291_2)).trans hx291_2
   have HR291_2 := Ah hi291_2
   have HC291_2 := Ah hl291_2
   clear hi291_2 hl291_2
   replace p291 := eq_true p291
   replace q291 := eq_true q291
   have ea_ := Option.some.inj (hx290_2.symm.trans hx291_2)
   injection ea_ with ea_ en_ ec_
   subst ea_
   subst ec_
   clear en_
   go_wp2_with (first | ((with_reducible refine gate_callee (f := 33) rfl ?_); refine gL (some 31) rfl rfl Tryd.func33 (by kernel_rfl) rfl #[.agg #[.bool true, .int .i64 ((rd_T40 l0_0 x6_1).f1), .slice A290_2 ((rd_T40 l0_0 x6_1).f2).length c290_2], .string (rdOf ByteArray.empty l1 x13_1)] rfl ?_; (with_reducible refine (impl_Inode_find.calls k1 true ((rd_T40 l0_0 x6_1).f1) _ _ ((rd_T40 l0_0 x6_1).f2) (rdOf ByteArray.empty l1 x13_1) t292 true _ ?side1 ?side2 A11.out).mono ?_); (case side1 => exact cb HR291_2 HB); (case side2 => exact HC291_2.out); rintro e w16 ⟨rfl, hb⟩; refine ⟨_, rfl, ?_⟩; replace BK288 := nb BK288 hb; replace HB := Ah (below_step (bs1 HB GE288) hb); (try clear hb); have hcz17_0 := cz1 BK288; have hfz17_0 := fz1 BK288; have p294 : 0 ≤ (x6_1 : Int) := od; have q294 : x6_1 < (l0_0.length : Int) := od; obtain ⟨ad294, A294_2, c294_2, e294, hx294_0, hx294_1, hx294_2, hl294_2, hi294_2⟩ := at_T40 HR0_0.out x6_1 p294 q294; (try rw [← Nbq9.out] at hx294_0); obtain rfl : ad290 = ad294 := (by injection e294); replace hx294_0 := (HB.out.cell (World.block_lt_of_cell? w _ hx294_0)).trans hx294_0; replace hx294_1 := (HB.out.cell (World.block_lt_of_cell? w _ hx294_1)).trans hx294_1; replace hx294_2 := (HB.out.cell (World.block_lt_of_cell? w _ hx294_2)).trans hx294_2; have HR294_2 := Ah hi294_2; have HC294_2 := Ah hl294_2; clear hi294_2 hl294_2; replace p294 := eq_true p294; replace q294 := eq_true q294; have p295 : 0 ≤ (t292 : Int) := od; have q295 : t292 < (((rd_T40 l0_0 x6_1).f2).length : Int) := od; obtain ⟨ad295, e295, hx295_0, hx295_1⟩ := at_T42 HR294_2.out t292 p295 q295; cases e295; replace hx295_0 := (HB.out.cell (World.block_lt_of_cell? w _ hx295_0)).trans hx295_0; replace hx295_1 := (HB.out.cell (World.block_lt_of_cell? w _ hx295_1)).trans hx295_1; replace p295 := eq_true p295; replace q295 := eq_true q295))
   go_roundg k1
   case measure => have := HK1.out; omega
   case rel => exact ⟨((rd_T42 ((rd_T40 l0_0 x6_1).f2) t292).f1), (wrap64 (x13_1 + 1)), e3, e3, H', ⟨by have := HK1.out; omega⟩, ⟨bk BK288⟩, ⟨bs1 HB GE288⟩⟩

/-! ### impl_WalkPath: function 11 -/
def impl_WalkPath.f (k : Nat) (l0_0 : List (S40)) (a1 : ByteArray) : Option (Int × Int) := (impl_namesIn.f k a1).bind fun bt297 => (if bt297.2 = true then ((impl_GoodNames.f k l0_0).bind fun t301 => (if t301 = true then ((impl_Names_walk.f k l0_0 bt297.1).bind fun bt302 => (some (bt302.1, bt302.2))) else (some (0, 1)))) else (some (0, 1)))
theorem impl_WalkPath.mono : ∀ a0 a1 k, LeO (impl_WalkPath.f k a0 a1) (impl_WalkPath.f (k + 1) a0 a1) := by
 intro a0 a1 k
 unfold impl_WalkPath.f
 repeat' first
   | (with_reducible exact impl_GoodNames.mono _ _)
   | (with_reducible exact impl_Names_walk.mono _ _ _)
   | (with_reducible exact impl_namesIn.mono _ _)
   | (with_reducible exact LeO.refl _)
   | (with_reducible exact LeO.none _)
   | (with_reducible refine LeO.ite ?_ ?_)
   | (with_reducible refine LeO.bind ?_ (fun _ => ?_))
   | exact impl_GoodNames.mono _ _
   | exact impl_Names_walk.mono _ _ _
   | exact impl_namesIn.mono _ _
   | exact LeO.none _
   | refine LeO.ite ?_ ?_
   | refine LeO.bind ?_ (fun _ => ?_)
set_option maxHeartbeats 8000000 in
set_option maxRecDepth 100000 in
theorem impl_WalkPath.calls (k : Nat) (A0_0 : Option Addr) (c0_0 : Nat) (l0_0 : List (S40)) (a1 : ByteArray) (r1 : Int) (r2 : Int) (w : World) (hTab_ : Aside0 (Ito.TabW w)) (hr0_0 : Kd.C k40 w A0_0 l0_0.length l0_0) (hc0_0 : l0_0.length ≤ c0_0) (h : impl_WalkPath.f k l0_0 a1 = some (r1, r2)) :
  Calls Tryd.prog 11 #[.agg #[.slice A0_0 l0_0.length c0_0], .string a1] w fun e w' => e = .returned (.tuple #[.int .i64 r1, .int .i64 r2]) ∧ Below w.heap.size w w' := by
 have hu29 := Tryd.underlying29
 have HR0_0 := Ah hr0_0
 have HC0_0 := Ah hc0_0
 clear hr0_0 hc0_0
 have HB := Ah (Below.refl w.heap.size w)
 have H : ((impl_namesIn.f k a1).bind fun bt297 => (if bt297.2 = true then ((impl_GoodNames.f k l0_0).bind fun t301 => (if t301 = true then ((impl_Names_walk.f k l0_0 bt297.1).bind fun bt302 => (some (bt302.1, bt302.2))) else (some (0, 1)))) else (some (0, 1)))) = some (r1, r2) := h
 clear h
 replace H := Option.bind_eq_some_iff.mp H
 obtain ⟨⟨t297, t298⟩, A30, H⟩ := H
 try dsimp only at H
 have A3 := Ah A30
 clear A30
 by_cases c4 : t298 = true
 rotate_left
 ·
  replace c4 := Bool.eq_false_iff.mpr c4
  subst c4
  rw [if_neg fne] at H
  simp only [Option.some.injEq, Prod.mk.injEq] at H
  obtain ⟨rfl, rfl⟩ := H
  go_enter Tryd.func11, Tryd.ntmps11
  go_wp2_with (first | ((with_reducible refine gate_dst (N := 2) rfl ?_); refine boxL 2 29 #[.slice A0_0 l0_0.length c0_0] ?_; intro gb296 hg w19 BK296 hb; have GW296 := gw hg (bs HB); have GE296 := gw hg (bs HB); replace HB := Ah (below_step (bs HB) hb); clear hb hg) | ((with_reducible refine gate_callee (f := 23) rfl ?_); refine gL (some 10) rfl rfl Tryd.func23 (by kernel_rfl) rfl #[.string a1] rfl ?_; (with_reducible refine (impl_namesIn.calls k a1 t297 false _ ?sideT A3.out).mono ?_); (case sideT => refine ⟨Ito.tabB hTab_.out ?_⟩; first | exact bs HB | exact st_below | (repeat (first | (with_reducible first | exact HB.out | apply below_alloc | apply pw_below_drewN | apply below_drew1 | refine below_set ?_ (Aside0.out (by assumption))) | exact HB.out))); rintro e w20 ⟨v299, rfl, ho0, hb⟩; refine ⟨_, rfl, ?_⟩; have HO300 := Ah (Kd.Q_lower ho0 (below_size (bs1 HB GE296))); replace BK296 := nb BK296 hb; replace HB := Ah (below_step (bs1 HB GE296) hb); (try clear hb ho0)))
  go_ret2
  exact ⟨er, bs1 HB GE296⟩
 subst c4
 rw [if_pos rfl] at H
 replace H := Option.bind_eq_some_iff.mp H
 obtain ⟨t301, A50, H⟩ := H
 try dsimp only at H
 have A5 := Ah A50
 clear A50
 by_cases c6 : t301 = true
 rotate_left
 ·
  replace c6 := Bool.eq_false_iff.mpr c6
  subst c6
  rw [if_neg fne] at H
  simp only [Option.some.injEq, Prod.mk.injEq] at H
  obtain ⟨rfl, rfl⟩ := H
  go_enter Tryd.func11, Tryd.ntmps11
  go_wp2_with (first | ((with_reducible refine gate_dst (N := 2) rfl ?_); refine boxL 2 29 #[.slice A0_0 l0_0.length c0_0] ?_; intro gb296 hg w15 BK296 hb; have GW296 := gw hg (bs HB); have GE296 := gw hg (bs HB); replace HB := Ah (below_step (bs HB) hb); clear hb hg) | ((with_reducible refine gate_callee (f := 23) rfl ?_); refine gL (some 10) rfl rfl Tryd.func23 (by kernel_rfl) rfl #[.string a1] rfl ?_; (with_reducible refine (impl_namesIn.calls k a1 t297 true _ ?sideT A3.out).mono ?_); (case sideT => refine ⟨Ito.tabB hTab_.out ?_⟩; first | exact bs HB | exact st_below | (repeat (first | (with_reducible first | exact HB.out | apply below_alloc | apply pw_below_drewN | apply below_drew1 | refine below_set ?_ (Aside0.out (by assumption))) | exact HB.out))); rintro e w16 ⟨v299, rfl, ho0, hb⟩; refine ⟨_, rfl, ?_⟩; have HO300 := Ah (Kd.Q_lower ho0 (below_size (bs1 HB GE296))); replace BK296 := nb BK296 hb; replace HB := Ah (below_step (bs1 HB GE296) hb); (try clear hb ho0); have hcz17_0 := cz1 BK296; have hfz17_0 := fz1 BK296) | (go_at_call 8; (with_reducible refine (impl_GoodNames.calls k _ _ l0_0 false _ ?side1 ?side2 A5.out).mono ?_); (case side1 => exact cb HR0_0 HB); (case side2 => exact HC0_0.out); rintro e w18 ⟨rfl, hb⟩; replace HO300 := Ah (Kd.Q_below (by (with_reducible repeat (first | apply Kd.Q_alloc | apply Kd.Q_drewN | apply Kd.Q_drew)); exact HO300.out) hb); replace BK296 := nb BK296 hb; replace HB := Ah (below_step (bs1 HB GE296) hb); (try clear hb)))
  go_ret2
  exact ⟨er, bs1 HB GE296⟩
 subst c6
 rw [if_pos rfl] at H
 replace H := Option.bind_eq_some_iff.mp H
 obtain ⟨⟨t302, t303⟩, A70, H⟩ := H
 try dsimp only at H
 have A7 := Ah A70
 clear A70
 simp only [Option.some.injEq, Prod.mk.injEq] at H
 obtain ⟨rfl, rfl⟩ := H
 go_enter Tryd.func11, Tryd.ntmps11
 go_wp2_with (first | ((with_reducible refine gate_dst (N := 2) rfl ?_); refine boxL 2 29 #[.slice A0_0 l0_0.length c0_0] ?_; intro gb296 hg w8 BK296 hb; have GW296 := gw hg (bs HB); have GE296 := gw hg (bs HB); replace HB := Ah (below_step (bs HB) hb); clear hb hg) | ((with_reducible refine gate_callee (f := 23) rfl ?_); refine gL (some 10) rfl rfl Tryd.func23 (by kernel_rfl) rfl #[.string a1] rfl ?_; (with_reducible refine (impl_namesIn.calls k a1 t297 true _ ?sideT A3.out).mono ?_); (case sideT => refine ⟨Ito.tabB hTab_.out ?_⟩; first | exact bs HB | exact st_below | (repeat (first | (with_reducible first | exact HB.out | apply below_alloc | apply pw_below_drewN | apply below_drew1 | refine below_set ?_ (Aside0.out (by assumption))) | exact HB.out))); rintro e w9 ⟨v299, rfl, ho0, hb⟩; refine ⟨_, rfl, ?_⟩; have HO300 := Ah (Kd.Q_lower ho0 (below_size (bs1 HB GE296))); replace BK296 := nb BK296 hb; replace HB := Ah (below_step (bs1 HB GE296) hb); (try clear hb ho0); have hcz10_0 := cz1 BK296; have hfz10_0 := fz1 BK296) | (go_at_call 8; (with_reducible refine (impl_GoodNames.calls k _ _ l0_0 true _ ?side1 ?side2 A5.out).mono ?_); (case side1 => exact cb HR0_0 HB); (case side2 => exact HC0_0.out); rintro e w11 ⟨rfl, hb⟩; replace HO300 := Ah (Kd.Q_below (by (with_reducible repeat (first | apply Kd.Q_alloc | apply Kd.Q_drewN | apply Kd.Q_drew)); exact HO300.out) hb); replace BK296 := nb BK296 hb; replace HB := Ah (below_step (bs1 HB GE296) hb); (try clear hb); have hcz12_0 := cz1 BK296; have hfz12_0 := fz1 BK296; obtain ⟨Ao13, co13, eo13, _⟩ := Kd.Q_slice HO300.out; subst eo13) | ((with_reducible refine gate_callee (f := 24) rfl ?_); refine gL (some 22) rfl rfl Tryd.func24 (by kernel_rfl) rfl #[.agg #[.slice A0_0 l0_0.length c0_0], .slice Ao13 t297.length co13] rfl ?_; (with_reducible refine (impl_Names_walk.calls k _ _ l0_0 _ _ t297 t302 t303 _ ?side1 ?side2 ?side3 ?side4 A7.out).mono ?_); (case side1 => exact cb HR0_0 HB); (case side2 => exact HC0_0.out); (case side3 => repeat (first | exact (Kd.Q_reads' HO300.out).2.2 | (with_reducible refine Kd.C_alloc ?_ _) | (with_reducible refine Kd.C_drewN ?_ _) | (with_reducible refine Kd.C_drew ?_))); (case side4 => exact (Kd.Q_reads' HO300.out).2.1); rintro e w14 ⟨rfl, hb⟩; refine ⟨_, rfl, ?_⟩; replace HO300 := Ah (Kd.Q_below (by (with_reducible repeat (first | apply Kd.Q_alloc | apply Kd.Q_drewN | apply Kd.Q_drew)); exact HO300.out) hb); replace BK296 := nb BK296 hb; replace HB := Ah (below_step (bs1 HB GE296) hb); (try clear hb)))
 go_ret2
 exact ⟨er, bs1 HB GE296⟩

end Go.Proofs.YtoneooblgdoooaaDoor.G
