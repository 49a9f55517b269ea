-- Printed by a program of this session (drive.py, by way of the kit's print). Not trusted: Lean checks it.
import Derived.Test.YtoneooblgdoooaaDoorG0
namespace Go.Proofs.YtoneooblgdoooaaDoor.G
open Go.RowKit Go.Proofs.YtoneooblgdoooaaDoorW.PrintWords Go.Proofs.YtoneooblgdoooaaDoorW.PrintLast Go.Proofs.YtoneooblgdoooaaDoorW.PrintMore
attribute [local go_sem] max2_int min2_int max_two min_two max_three min_three max_four min_four   -- for this text's walks alone
set_option linter.unusedVariables false
set_option linter.unusedSimpArgs false

/-! ### laws_szName: function 43 -/
def laws_szName.f (a0_0 : ByteArray) (a0_1 : Int) (a1 : Int) : Option (Int) := if (wrap64 (a1 - (a0_0.size : Int))) < 0 then (some (-1)) else (some (wrap64 (a1 - (a0_0.size : Int))))
set_option maxHeartbeats 8000000 in
set_option maxRecDepth 100000 in
theorem laws_szName.calls (a0_0 : ByteArray) (a0_1 : Int) (a1 : Int) (r : Int) (w : World) (h : laws_szName.f a0_0 a0_1 a1 = some r) :
  Calls Tryd.prog 43 #[.agg #[.string a0_0, .int .i64 a0_1], .int .i64 a1] w fun e w' => e = .returned (.int .i64 r) ∧ Below w.heap.size w w' := by
 have hu80 := Tryd.underlying80
 have HB := Ah (Below.refl w.heap.size w)
 have H : (if (wrap64 (a1 - (a0_0.size : Int))) < 0 then (some (-1)) else (some (wrap64 (a1 - (a0_0.size : Int))))) = some r := h
 clear h
 by_cases c3 : (wrap64 (a1 - (a0_0.size : Int))) < 0
 ·
  rw [if_pos c3] at H
  have c3b0 : decide ((wrap64 (a1 - (a0_0.size : Int))) < 0) = true := decide_eq_true c3
  clear c3
  obtain rfl := Option.some.inj H
  go_enter Tryd.func43, Tryd.ntmps43
  go_wp2_with (first | ((with_reducible refine gate_dst (N := 2) rfl ?_); refine boxL 2 80 #[.string a0_0, .int .i64 a0_1] ?_; intro gb101 hg w4 BK101 hb; have GW101 := gw hg (bs HB); have GE101 := gw hg (bs HB); replace HB := Ah (below_step (bs HB) hb); clear hb hg; obtain ⟨hcz5_0, hcz5_1⟩ := cz2 BK101; obtain ⟨hfz5_0, hfz5_1⟩ := fz2 BK101))
  go_ret
  exact ⟨er, bs1 HB GE101⟩
 rw [if_neg c3] at H
 have c3b0 : decide ((wrap64 (a1 - (a0_0.size : Int))) < 0) = false := decide_eq_false c3
 clear c3
 obtain rfl := Option.some.inj H
 go_enter Tryd.func43, Tryd.ntmps43
 go_wp2_with (first | ((with_reducible refine gate_dst (N := 2) rfl ?_); refine boxL 2 80 #[.string a0_0, .int .i64 a0_1] ?_; intro gb101 hg w6 BK101 hb; have GW101 := gw hg (bs HB); have GE101 := gw hg (bs HB); replace HB := Ah (below_step (bs HB) hb); clear hb hg; obtain ⟨hcz7_0, hcz7_1⟩ := cz2 BK101; obtain ⟨hfz7_0, hfz7_1⟩ := fz2 BK101))
 go_ret
 exact ⟨er, bs1 HB GE101⟩

/-! ### laws_szNameS: function 34 -/
def laws_szNameS.l0 : Nat → List (S80) → Int → Int → Option (Int)
 | 0, _, _, _ => none
 | k + 1, x0, x1, x5 => if x5 < (x0.length : Int) then (if 0 ≤ x5 then ((laws_szName.f ((rd_T80 x0 x5).f0) ((rd_T80 x0 x5).f1) x1).bind fun t103 => (if t103 < 0 then (some (-1)) else (laws_szNameS.l0 k x0 t103 (wrap64 (x5 + 1))))) else (none)) else (some x1)
def laws_szNameS.f (k : Nat) (l0 : List (S80)) (a1 : Int) : Option (Int) := if (wrap64 (a1 - (l0.length : Int))) < 0 then (some (-1)) else (laws_szNameS.l0 k l0 (wrap64 (a1 - (l0.length : Int))) 0)
theorem laws_szNameS.mono_l : ∀ k, (∀ y0 y1 y2, LeO (laws_szNameS.l0 k y0 y1 y2) (laws_szNameS.l0 (k + 1) y0 y1 y2))
 | 0 => fun _ _ _ r h => by simp [laws_szNameS.l0] at h
 | k + 1 => by
  have ih0 := laws_szNameS.mono_l k
  ·
   intro y0 y1 y2
   unfold laws_szNameS.l0
   repeat' first
   | (with_reducible exact ih0 _ _ _)
   | (with_reducible exact LeO.refl _)
   | (with_reducible exact LeO.none _)
   | (with_reducible refine LeO.ite ?_ ?_)
   | (with_reducible refine LeO.bind ?_ (fun _ => ?_))
   | exact ih0 _ _ _
   | exact LeO.none _
   | refine LeO.ite ?_ ?_
   | refine LeO.bind ?_ (fun _ => ?_)
theorem laws_szNameS.mono : ∀ a0 a1 k, LeO (laws_szNameS.f k a0 a1) (laws_szNameS.f (k + 1) a0 a1) := by
 intro a0 a1 k
 have ih0 := laws_szNameS.mono_l k
 unfold laws_szNameS.f
 repeat' first
   | (with_reducible exact ih0 _ _ _)
   | (with_reducible exact LeO.refl _)
   | (with_reducible exact LeO.none _)
   | (with_reducible refine LeO.ite ?_ ?_)
   | (with_reducible refine LeO.bind ?_ (fun _ => ?_))
   | exact ih0 _ _ _
   | exact LeO.none _
   | refine LeO.ite ?_ ?_
   | refine LeO.bind ?_ (fun _ => ?_)
set_option maxHeartbeats 8000000 in
set_option maxRecDepth 100000 in
theorem laws_szNameS.calls (k : Nat) (A0 : Option Addr) (c0 : Nat) (l0 : List (S80)) (a1 : Int) (r : Int) (w : World) (hr0 : Kd.C k80 w A0 l0.length l0) (hc0 : l0.length ≤ c0) (h : laws_szNameS.f k l0 a1 = some r) :
  Calls Tryd.prog 34 #[.slice A0 l0.length c0, .int .i64 a1] w fun e w' => e = .returned (.int .i64 r) ∧ Below w.heap.size w w' := by
 have hu80 := Tryd.underlying80
 have HR0 := Ah hr0
 have HC0 := Ah hc0
 clear hr0 hc0
 have HB := Ah (Below.refl w.heap.size w)
 have H : (if (wrap64 (a1 - (l0.length : Int))) < 0 then (some (-1)) else (laws_szNameS.l0 k l0 (wrap64 (a1 - (l0.length : Int))) 0)) = some r := h
 clear h
 by_cases c3 : (wrap64 (a1 - (l0.length : Int))) < 0
 ·
  rw [if_pos c3] at H
  have c3b0 : decide ((wrap64 (a1 - (l0.length : Int))) < 0) = true := decide_eq_true c3
  clear c3
  obtain rfl := Option.some.inj H
  go_enter Tryd.func34, Tryd.ntmps34
  go_wp2
  go_ret
  exact ⟨er, bs HB⟩
 rw [if_neg c3] at H
 have c3b0 : decide ((wrap64 (a1 - (l0.length : Int))) < 0) = false := decide_eq_false c3
 clear c3
 have H' := Ah H
 clear H
 go_enter Tryd.func34, Tryd.ntmps34
 go_wp2
 go_loopg [1, 5] k (fun kq v1 v5 w' => ∃ (x1_1 : Int) (x5_1 : Int), v1 = .int .i64 x1_1 ∧ v5 = .int .i64 x5_1 ∧ Aside0 (laws_szNameS.l0 kq l0 x1_1 x5_1 = some r) ∧ Aside0 (kq ≤ k) ∧ Aside0 (Below w.heap.size w w'))
 case atStart => exact ⟨(wrap64 (a1 - (l0.length : Int))), (0), e3, e3, H', ⟨Nat.le_refl _⟩, ⟨bs HB⟩⟩
 case round =>
  clear H'
  try clear p2
  try clear c3
  try clear c3b0
  obtain ⟨x1_1, x5_1, rfl, rfl, HA, HK1, HB⟩ := hrel
  cases gk with
  | zero => exact absurd HA.out (by simp [laws_szNameS.l0])
  | succ k1 =>
   have H := HA.out
   clear HA
   simp only [laws_szNameS.l0] at H
   by_cases c4 : x5_1 < (l0.length : Int)
   rotate_left
   ·
    rw [if_neg c4] at H
    have c4b0 : decide (x5_1 < (l0.length : Int)) = false := decide_eq_false c4
    clear c4
    obtain rfl := Option.some.inj H
    go_wp2
    go_ret
    exact ⟨er, bs HB⟩
   rw [if_pos c4] at H
   have c4b0 : decide (x5_1 < (l0.length : Int)) = true := decide_eq_true c4
   clear c4
   by_cases c5 : 0 ≤ x5_1
   rotate_left
   ·
    rw [if_neg c5] at H
    exact absurd H (by simp)
   rw [if_pos c5] at H
   have c5b0 : decide (0 ≤ x5_1) = true := decide_eq_true c5
   clear c5
   replace H := Option.bind_eq_some_iff.mp H
   obtain ⟨t103, A60, H⟩ := H
   try dsimp only at H
   have A6 := Ah A60
   clear A60
   by_cases c7 : t103 < 0
   ·
    rw [if_pos c7] at H
    have c7b0 : decide (t103 < 0) = true := decide_eq_true c7
    clear c7
    obtain rfl := Option.some.inj H
    have p102 : 0 ≤ (x5_1 : Int) := od
    have q102 : x5_1 < (l0.length : Int) := od
    obtain ⟨ad102, e102, hx102_0, hx102_1⟩ := at_T80 HR0.out x5_1 p102 q102
    cases e102
    replace hx102_0 := (HB.out.cell (World.block_lt_of_cell? w _ hx102_0)).trans hx102_0
    replace hx102_1 := (HB.out.cell (World.block_lt_of_cell? w _ hx102_1)).trans hx102_1
    replace p102 := eq_true p102
    replace q102 := eq_true q102
    go_wp2_with (first | ((with_reducible refine gate_callee (f := 43) rfl ?_); refine gL (some 23) rfl rfl Tryd.func43 (by kernel_rfl) rfl #[.agg #[.string ((rd_T80 l0 x5_1).f0), .int .i64 ((rd_T80 l0 x5_1).f1)], .int .i64 x1_1] rfl ?_; (with_reducible refine (laws_szName.calls ((rd_T80 l0 x5_1).f0) ((rd_T80 l0 x5_1).f1) x1_1 t103 _ A6.out).mono ?_); rintro e w8 ⟨rfl, hb⟩; refine ⟨_, rfl, ?_⟩; replace HB := Ah (below_step (bs HB) hb); (try clear hb)))
    go_ret
    exact ⟨er, bs HB⟩
   rw [if_neg c7] at H
   have c7b0 : decide (t103 < 0) = false := decide_eq_false c7
   clear c7
   have H' := Ah H
   clear H
   have p102 : 0 ≤ (x5_1 : Int) := od
   have q102 : x5_1 < (l0.length : Int) := od
   obtain ⟨ad102, e102, hx102_0, hx102_1⟩ := at_T80 HR0.out x5_1 p102 q102
   cases e102
   replace hx102_0 := (HB.out.cell (World.block_lt_of_cell? w _ hx102_0)).trans hx102_0
   replace hx102_1 := (HB.out.cell (World.block_lt_of_cell? w _ hx102_1)).trans hx102_1
   replace p102 := eq_true p102
   replace q102 := eq_true q102
   go_wp2_with (first | ((with_reducible refine gate_callee (f := 43) rfl ?_); refine gL (some 23) rfl rfl Tryd.func43 (by kernel_rfl) rfl #[.agg #[.string ((rd_T80 l0 x5_1).f0), .int .i64 ((rd_T80 l0 x5_1).f1)], .int .i64 x1_1] rfl ?_; (with_reducible refine (laws_szName.calls ((rd_T80 l0 x5_1).f0) ((rd_T80 l0 x5_1).f1) x1_1 t103 _ A6.out).mono ?_); rintro e w9 ⟨rfl, hb⟩; refine ⟨_, rfl, ?_⟩; replace HB := Ah (below_step (bs HB) hb); (try clear hb)))
   go_roundg k1
   case measure => have := HK1.out; omega
   case rel => exact ⟨(t103), (wrap64 (x5_1 + 1)), e3, e3, H', ⟨by have := HK1.out; omega⟩, ⟨bs HB⟩⟩

/-! ### laws_szInode: function 25 -/
def laws_szInode.f (k : Nat) (a0_0 : Bool) (a0_1 : Int) (l0_2 : List (S80)) (a1 : Int) : Option (Int) := (laws_szNameS.f k l0_2 a1).bind fun t105 => (if t105 < 0 then (some (-1)) else (some t105))
theorem laws_szInode.mono : ∀ a0 a1 a2 a3 k, LeO (laws_szInode.f k a0 a1 a2 a3) (laws_szInode.f (k + 1) a0 a1 a2 a3) := by
 intro a0 a1 a2 a3 k
 unfold laws_szInode.f
 repeat' first
   | (with_reducible exact laws_szNameS.mono _ _ _)
   | (with_reducible exact LeO.refl _)
   | (with_reducible exact LeO.none _)
   | (with_reducible refine LeO.ite ?_ ?_)
   | (with_reducible refine LeO.bind ?_ (fun _ => ?_))
   | exact laws_szNameS.mono _ _ _
   | exact LeO.none _
   | refine LeO.ite ?_ ?_
   | refine LeO.bind ?_ (fun _ => ?_)
set_option maxHeartbeats 8000000 in
set_option maxRecDepth 100000 in
theorem laws_szInode.calls (k : Nat) (a0_0 : Bool) (a0_1 : Int) (A0_2 : Option Addr) (c0_2 : Nat) (l0_2 : List (S80)) (a1 : Int) (r : Int) (w : World) (hr0_2 : Kd.C k80 w A0_2 l0_2.length l0_2) (hc0_2 : l0_2.length ≤ c0_2) (h : laws_szInode.f k a0_0 a0_1 l0_2 a1 = some r) :
  Calls Tryd.prog 25 #[.agg #[.bool a0_0, .int .i64 a0_1, .slice A0_2 l0_2.length c0_2], .int .i64 a1] w fun e w' => e = .returned (.int .i64 r) ∧ Below w.heap.size w w' := by
 have hu59 := Tryd.underlying59
 have HR0_2 := Ah hr0_2
 have HC0_2 := Ah hc0_2
 clear hr0_2 hc0_2
 have HB := Ah (Below.refl w.heap.size w)
 have H : ((laws_szNameS.f k l0_2 a1).bind fun t105 => (if t105 < 0 then (some (-1)) else (some t105))) = some r := h
 clear h
 replace H := Option.bind_eq_some_iff.mp H
 obtain ⟨t105, A30, H⟩ := H
 try dsimp only at H
 have A3 := Ah A30
 clear A30
 by_cases c4 : t105 < 0
 ·
  rw [if_pos c4] at H
  have c4b0 : decide (t105 < 0) = true := decide_eq_true c4
  clear c4
  obtain rfl := Option.some.inj H
  go_enter Tryd.func25, Tryd.ntmps25
  go_wp2_with (first | ((with_reducible refine gate_dst (N := 2) rfl ?_); refine boxL 2 59 #[.bool a0_0, .int .i64 a0_1, .slice A0_2 l0_2.length c0_2] ?_; intro gb104 hg w5 BK104 hb; have GW104 := gw hg (bs HB); have GE104 := gw hg (bs HB); replace HB := Ah (below_step (bs HB) hb); clear hb hg; obtain ⟨hcz6_0, hcz6_1, hcz6_2⟩ := cz3 BK104; obtain ⟨hfz6_0, hfz6_1, hfz6_2⟩ := fz3 BK104) | ((with_reducible refine gate_callee (f := 34) rfl ?_); refine gL (some 8) rfl rfl Tryd.func34 (by kernel_rfl) rfl #[.slice A0_2 l0_2.length c0_2, .int .i64 a1] rfl ?_; (with_reducible refine (laws_szNameS.calls k _ _ l0_2 a1 t105 _ ?side1 ?side2 A3.out).mono ?_); (case side1 => exact cb HR0_2 HB); (case side2 => exact HC0_2.out); rintro e w7 ⟨rfl, hb⟩; refine ⟨_, rfl, ?_⟩; replace BK104 := nb BK104 hb; replace HB := Ah (below_step (bs1 HB GE104) hb); (try clear hb)))
  go_ret
  exact ⟨er, bs1 HB GE104⟩
 rw [if_neg c4] at H
 have c4b0 : decide (t105 < 0) = false := decide_eq_false c4
 clear c4
 obtain rfl := Option.some.inj H
 go_enter Tryd.func25, Tryd.ntmps25
 go_wp2_with (first | ((with_reducible refine gate_dst (N := 2) rfl ?_); refine boxL 2 59 #[.bool a0_0, .int .i64 a0_1, .slice A0_2 l0_2.length c0_2] ?_; intro gb104 hg w8 BK104 hb; have GW104 := gw hg (bs HB); have GE104 := gw hg (bs HB); replace HB := Ah (below_step (bs HB) hb); clear hb hg; obtain ⟨hcz9_0, hcz9_1, hcz9_2⟩ := cz3 BK104; obtain ⟨hfz9_0, hfz9_1, hfz9_2⟩ := fz3 BK104) | ((with_reducible refine gate_callee (f := 34) rfl ?_); refine gL (some 8) rfl rfl Tryd.func34 (by kernel_rfl) rfl #[.slice A0_2 l0_2.length c0_2, .int .i64 a1] rfl ?_; (with_reducible refine (laws_szNameS.calls k _ _ l0_2 a1 t105 _ ?side1 ?side2 A3.out).mono ?_); (case side1 => exact cb HR0_2 HB); (case side2 => exact HC0_2.out); rintro e w10 ⟨rfl, hb⟩; refine ⟨_, rfl, ?_⟩; replace BK104 := nb BK104 hb; replace HB := Ah (below_step (bs1 HB GE104) hb); (try clear hb)))
 go_ret
 exact ⟨er, bs1 HB GE104⟩

/-! ### laws_szInodeS: function 12 -/
def laws_szInodeS.l0 : Nat → List (S59) → Int → Int → Option (Int)
 | 0, _, _, _ => none
 | k + 1, x0, x1, x5 => if x5 < (x0.length : Int) then (if 0 ≤ x5 then ((laws_szInode.f k ((rd_T59 x0 x5).f0) ((rd_T59 x0 x5).f1) ((rd_T59 x0 x5).f2) x1).bind fun t107 => (if t107 < 0 then (some (-1)) else (laws_szInodeS.l0 k x0 t107 (wrap64 (x5 + 1))))) else (none)) else (some x1)
def laws_szInodeS.f (k : Nat) (l0 : List (S59)) (a1 : Int) : Option (Int) := if (wrap64 (a1 - (l0.length : Int))) < 0 then (some (-1)) else (laws_szInodeS.l0 k l0 (wrap64 (a1 - (l0.length : Int))) 0)
theorem laws_szInodeS.mono_l : ∀ k, (∀ y0 y1 y2, LeO (laws_szInodeS.l0 k y0 y1 y2) (laws_szInodeS.l0 (k + 1) y0 y1 y2))
 | 0 => fun _ _ _ r h => by simp [laws_szInodeS.l0] at h
 | k + 1 => by
  have ih0 := laws_szInodeS.mono_l k
  ·
   intro y0 y1 y2
   unfold laws_szInodeS.l0
   repeat' first
   | (with_reducible exact ih0 _ _ _)
   | (with_reducible exact laws_szInode.mono _ _ _ _ _)
   | (with_reducible exact LeO.refl _)
   | (with_reducible exact LeO.none _)
   | (with_reducible refine LeO.ite ?_ ?_)
   | (with_reducible refine LeO.bind ?_ (fun _ => ?_))
   | exact ih0 _ _ _
   | exact laws_szInode.mono _ _ _ _ _
   | exact LeO.none _
   | refine LeO.ite ?_ ?_
   | refine LeO.bind ?_ (fun _ => ?_)
theorem laws_szInodeS.mono : ∀ a0 a1 k, LeO (laws_szInodeS.f k a0 a1) (laws_szInodeS.f (k + 1) a0 a1) := by
 intro a0 a1 k
 have ih0 := laws_szInodeS.mono_l k
 unfold laws_szInodeS.f
 repeat' first
   | (with_reducible exact ih0 _ _ _)
   | (with_reducible exact laws_szInode.mono _ _ _ _ _)
   | (with_reducible exact LeO.refl _)
   | (with_reducible exact LeO.none _)
   | (with_reducible refine LeO.ite ?_ ?_)
   | (with_reducible refine LeO.bind ?_ (fun _ => ?_))
   | exact ih0 _ _ _
   | exact laws_szInode.mono _ _ _ _ _
   | exact LeO.none _
   | refine LeO.ite ?_ ?_
   | refine LeO.bind ?_ (fun _ => ?_)
set_option maxHeartbeats 8000000 in
set_option maxRecDepth 100000 in
theorem laws_szInodeS.calls (k : Nat) (A0 : Option Addr) (c0 : Nat) (l0 : List (S59)) (a1 : Int) (r : Int) (w : World) (hr0 : Kd.C k59 w A0 l0.length l0) (hc0 : l0.length ≤ c0) (h : laws_szInodeS.f k l0 a1 = some r) :
  Calls Tryd.prog 12 #[.slice A0 l0.length c0, .int .i64 a1] w fun e w' => e = .returned (.int .i64 r) ∧ Below w.heap.size w w' := by
 have hu59 := Tryd.underlying59
 have HR0 := Ah hr0
 have HC0 := Ah hc0
 clear hr0 hc0
 have HB := Ah (Below.refl w.heap.size w)
 have H : (if (wrap64 (a1 - (l0.length : Int))) < 0 then (some (-1)) else (laws_szInodeS.l0 k l0 (wrap64 (a1 - (l0.length : Int))) 0)) = some r := h
 clear h
 by_cases c3 : (wrap64 (a1 - (l0.length : Int))) < 0
 ·
  rw [if_pos c3] at H
  have c3b0 : decide ((wrap64 (a1 - (l0.length : Int))) < 0) = true := decide_eq_true c3
  clear c3
  obtain rfl := Option.some.inj H
  go_enter Tryd.func12, Tryd.ntmps12
  go_wp2
  go_ret
  exact ⟨er, bs HB⟩
 rw [if_neg c3] at H
 have c3b0 : decide ((wrap64 (a1 - (l0.length : Int))) < 0) = false := decide_eq_false c3
 clear c3
 have H' := Ah H
 clear H
 go_enter Tryd.func12, Tryd.ntmps12
 go_wp2
 go_loopg [1, 5] k (fun kq v1 v5 w' => ∃ (x1_1 : Int) (x5_1 : Int), v1 = .int .i64 x1_1 ∧ v5 = .int .i64 x5_1 ∧ Aside0 (laws_szInodeS.l0 kq l0 x1_1 x5_1 = some r) ∧ Aside0 (kq ≤ k) ∧ Aside0 (Below w.heap.size w w'))
 case atStart => exact ⟨(wrap64 (a1 - (l0.length : Int))), (0), e3, e3, H', ⟨Nat.le_refl _⟩, ⟨bs HB⟩⟩
 case round =>
  clear H'
  try clear c1
  try clear p2
  try clear c3
  try clear c3b0
  obtain ⟨x1_1, x5_1, rfl, rfl, HA, HK1, HB⟩ := hrel
  cases gk with
  | zero => exact absurd HA.out (by simp [laws_szInodeS.l0])
  | succ k1 =>
   have H := HA.out
   clear HA
   simp only [laws_szInodeS.l0] at H
   by_cases c4 : x5_1 < (l0.length : Int)
   rotate_left
   ·
    rw [if_neg c4] at H
    have c4b0 : decide (x5_1 < (l0.length : Int)) = false := decide_eq_false c4
    clear c4
    obtain rfl := Option.some.inj H
    go_wp2
    go_ret
    exact ⟨er, bs HB⟩
   rw [if_pos c4] at H
   have c4b0 : decide (x5_1 < (l0.length : Int)) = true := decide_eq_true c4
   clear c4
   by_cases c5 : 0 ≤ x5_1
   rotate_left
   ·
    rw [if_neg c5] at H
    exact absurd H (by simp)
   rw [if_pos c5] at H
   have c5b0 : decide (0 ≤ x5_1) = true := decide_eq_true c5
   clear c5
   replace H := Option.bind_eq_some_iff.mp H
   obtain ⟨t107, A60, H⟩ := H
   try dsimp only at H
   have A6 := Ah A60
   clear A60
   by_cases c7 : t107 < 0
   ·
    rw [if_pos c7] at H
    have c7b0 : decide (t107 < 0) = true := decide_eq_true c7
    clear c7
    obtain rfl := Option.some.inj H
    have p106 : 0 ≤ (x5_1 : Int) := od
    have q106 : x5_1 < (l0.length : Int) := od
    obtain ⟨ad106, A106_2, c106_2, e106, hx106_0, hx106_1, hx106_2, hl106_2, hi106_2⟩ := at_T59 HR0.out x5_1 p106 q106
    cases e106
    replace hx106_0 := (HB.out.cell (World.block_lt_of_cell? w _ hx106_0)).trans hx106_0
    replace hx106_1 := (HB.out.cell (World.block_lt_of_cell? w _ hx106_1)).trans hx106_1
    replace hx106_2 := (HB.out.cell (World.block_lt_of_cell? w _ hx106_2)).trans hx106_2
    have HR106_2 := Ah hi106_2
    have HC106_2 := Ah hl106_2
    clear hi106_2 hl106_2
    replace p106 := eq_true p106
    replace q106 := eq_true q106
    go_wp2_with (first | ((with_reducible refine gate_callee (f := 25) rfl ?_); refine gL (some 23) rfl rfl Tryd.func25 (by kernel_rfl) rfl #[.agg #[.bool ((rd_T59 l0 x5_1).f0), .int .i64 ((rd_T59 l0 x5_1).f1), .slice A106_2 ((rd_T59 l0 x5_1).f2).length c106_2], .int .i64 x1_1] rfl ?_; (with_reducible refine (laws_szInode.calls k1 ((rd_T59 l0 x5_1).f0) ((rd_T59 l0 x5_1).f1) _ _ ((rd_T59 l0 x5_1).f2) x1_1 t107 _ ?side1 ?side2 A6.out).mono ?_); (case side1 => exact cb HR106_2 HB); (case side2 => exact HC106_2.out); rintro e w8 ⟨rfl, hb⟩; refine ⟨_, rfl, ?_⟩; replace HB := Ah (below_step (bs HB) hb); (try clear hb)))
    go_ret
    exact ⟨er, bs HB⟩
   rw [if_neg c7] at H
   have c7b0 : decide (t107 < 0) = false := decide_eq_false c7
   clear c7
   have H' := Ah H
   clear H
   have p106 : 0 ≤ (x5_1 : Int) := od
   have q106 : x5_1 < (l0.length : Int) := od
   obtain ⟨ad106, A106_2, c106_2, e106, hx106_0, hx106_1, hx106_2, hl106_2, hi106_2⟩ := at_T59 HR0.out x5_1 p106 q106
   cases e106
   replace hx106_0 := (HB.out.cell (World.block_lt_of_cell? w _ hx106_0)).trans hx106_0
   replace hx106_1 := (HB.out.cell (World.block_lt_of_cell? w _ hx106_1)).trans hx106_1
   replace hx106_2 := (HB.out.cell (World.block_lt_of_cell? w _ hx106_2)).trans hx106_2
   have HR106_2 := Ah hi106_2
   have HC106_2 := Ah hl106_2
   clear hi106_2 hl106_2
   replace p106 := eq_true p106
   replace q106 := eq_true q106
   go_wp2_with (first | ((with_reducible refine gate_callee (f := 25) rfl ?_); refine gL (some 23) rfl rfl Tryd.func25 (by kernel_rfl) rfl #[.agg #[.bool ((rd_T59 l0 x5_1).f0), .int .i64 ((rd_T59 l0 x5_1).f1), .slice A106_2 ((rd_T59 l0 x5_1).f2).length c106_2], .int .i64 x1_1] rfl ?_; (with_reducible refine (laws_szInode.calls k1 ((rd_T59 l0 x5_1).f0) ((rd_T59 l0 x5_1).f1) _ _ ((rd_T59 l0 x5_1).f2) x1_1 t107 _ ?side1 ?side2 A6.out).mono ?_); (case side1 => exact cb HR106_2 HB); (case side2 => exact HC106_2.out); rintro e w9 ⟨rfl, hb⟩; refine ⟨_, rfl, ?_⟩; replace HB := Ah (below_step (bs HB) hb); (try clear hb)))
   go_roundg k1
   case measure => have := HK1.out; omega
   case rel => exact ⟨(t107), (wrap64 (x5_1 + 1)), e3, e3, H', ⟨by have := HK1.out; omega⟩, ⟨bs HB⟩⟩

/-! ### laws_szNames: function 5 -/
def laws_szNames.f (k : Nat) (l0_0 : List (S59)) (a1 : Int) : Option (Int) := (laws_szInodeS.f k l0_0 a1).bind fun t109 => (if t109 < 0 then (some (-1)) else (some t109))
theorem laws_szNames.mono : ∀ a0 a1 k, LeO (laws_szNames.f k a0 a1) (laws_szNames.f (k + 1) a0 a1) := by
 intro a0 a1 k
 unfold laws_szNames.f
 repeat' first
   | (with_reducible exact laws_szInodeS.mono _ _ _)
   | (with_reducible exact LeO.refl _)
   | (with_reducible exact LeO.none _)
   | (with_reducible refine LeO.ite ?_ ?_)
   | (with_reducible refine LeO.bind ?_ (fun _ => ?_))
   | exact laws_szInodeS.mono _ _ _
   | exact LeO.none _
   | refine LeO.ite ?_ ?_
   | refine LeO.bind ?_ (fun _ => ?_)
set_option maxHeartbeats 8000000 in
set_option maxRecDepth 100000 in
theorem laws_szNames.calls (k : Nat) (A0_0 : Option Addr) (c0_0 : Nat) (l0_0 : List (S59)) (a1 : Int) (r : Int) (w : World) (hr0_0 : Kd.C k59 w A0_0 l0_0.length l0_0) (hc0_0 : l0_0.length ≤ c0_0) (h : laws_szNames.f k l0_0 a1 = some r) :
  Calls Tryd.prog 5 #[.agg #[.slice A0_0 l0_0.length c0_0], .int .i64 a1] w fun e w' => e = .returned (.int .i64 r) ∧ Below w.heap.size w w' := by
 have hu24 := Tryd.underlying24
 have HR0_0 := Ah hr0_0
 have HC0_0 := Ah hc0_0
 clear hr0_0 hc0_0
 have HB := Ah (Below.refl w.heap.size w)
 have H : ((laws_szInodeS.f k l0_0 a1).bind fun t109 => (if t109 < 0 then (some (-1)) else (some t109))) = some r := h
 clear h
 replace H := Option.bind_eq_some_iff.mp H
 obtain ⟨t109, A30, H⟩ := H
 try dsimp only at H
 have A3 := Ah A30
 clear A30
 by_cases c4 : t109 < 0
 ·
  rw [if_pos c4] at H
  have c4b0 : decide (t109 < 0) = true := decide_eq_true c4
  clear c4
  obtain rfl := Option.some.inj H
  go_enter Tryd.func5, Tryd.ntmps5
  go_wp2_with (first | ((with_reducible refine gate_dst (N := 2) rfl ?_); refine boxL 2 24 #[.slice A0_0 l0_0.length c0_0] ?_; intro gb108 hg w5 BK108 hb; have GW108 := gw hg (bs HB); have GE108 := gw hg (bs HB); replace HB := Ah (below_step (bs HB) hb); clear hb hg; have hcz6_0 := cz1 BK108; have hfz6_0 := fz1 BK108) | ((with_reducible refine gate_callee (f := 12) rfl ?_); refine gL (some 8) rfl rfl Tryd.func12 (by kernel_rfl) rfl #[.slice A0_0 l0_0.length c0_0, .int .i64 a1] rfl ?_; (with_reducible refine (laws_szInodeS.calls k _ _ l0_0 a1 t109 _ ?side1 ?side2 A3.out).mono ?_); (case side1 => exact cb HR0_0 HB); (case side2 => exact HC0_0.out); rintro e w7 ⟨rfl, hb⟩; refine ⟨_, rfl, ?_⟩; replace BK108 := nb BK108 hb; replace HB := Ah (below_step (bs1 HB GE108) hb); (try clear hb)))
  go_ret
  exact ⟨er, bs1 HB GE108⟩
 rw [if_neg c4] at H
 have c4b0 : decide (t109 < 0) = false := decide_eq_false c4
 clear c4
 obtain rfl := Option.some.inj H
 go_enter Tryd.func5, Tryd.ntmps5
 go_wp2_with (first | ((with_reducible refine gate_dst (N := 2) rfl ?_); refine boxL 2 24 #[.slice A0_0 l0_0.length c0_0] ?_; intro gb108 hg w8 BK108 hb; have GW108 := gw hg (bs HB); have GE108 := gw hg (bs HB); replace HB := Ah (below_step (bs HB) hb); clear hb hg; have hcz9_0 := cz1 BK108; have hfz9_0 := fz1 BK108) | ((with_reducible refine gate_callee (f := 12) rfl ?_); refine gL (some 8) rfl rfl Tryd.func12 (by kernel_rfl) rfl #[.slice A0_0 l0_0.length c0_0, .int .i64 a1] rfl ?_; (with_reducible refine (laws_szInodeS.calls k _ _ l0_0 a1 t109 _ ?side1 ?side2 A3.out).mono ?_); (case side1 => exact cb HR0_0 HB); (case side2 => exact HC0_0.out); rintro e w10 ⟨rfl, hb⟩; refine ⟨_, rfl, ?_⟩; replace BK108 := nb BK108 hb; replace HB := Ah (below_step (bs1 HB GE108) hb); (try clear hb)))
 go_ret
 exact ⟨er, bs1 HB GE108⟩

/-! ### spec_l1In: function 13 -/
def spec_l1In.f (a0 : Int) (a1 : Int) (a2 : Int) : Option (Bool) := if a0 ≥ a1 then (some (decide (a0 ≤ a2))) else (some false)
set_option maxHeartbeats 8000000 in
set_option maxRecDepth 100000 in
theorem spec_l1In.calls (a0 : Int) (a1 : Int) (a2 : Int) (r : Bool) (w : World) (h : spec_l1In.f a0 a1 a2 = some r) :
  Calls Tryd.prog 13 #[.int .i64 a0, .int .i64 a1, .int .i64 a2] w fun e w' => e = .returned (.bool r) ∧ Drawn0 w w' := by
 have H : (if a0 ≥ a1 then (some (decide (a0 ≤ a2))) else (some false)) = some r := h
 clear h
 by_cases c4 : a0 ≥ a1
 ·
  rw [if_pos c4] at H
  have c4b0 : decide (a1 ≤ a0) = true := decide_eq_true c4
  clear c4
  obtain rfl := Option.some.inj H
  go_enter Tryd.func13, Tryd.ntmps13
  go_wp2
  go_ret
  exact ⟨by first | rfl | (simp; done) | (simp [*]; done), by repeat (first | exact Drawn0.refl _ | apply Drawn0.step)⟩
 ·
  rw [if_neg c4] at H
  have c4b0 : decide (a1 ≤ a0) = false := decide_eq_false c4
  clear c4
  obtain rfl := Option.some.inj H
  go_enter Tryd.func13, Tryd.ntmps13
  go_wp2
  go_ret
  exact ⟨by first | rfl | (simp; done) | (simp [*]; done), by repeat (first | exact Drawn0.refl _ | apply Drawn0.step)⟩

/-! ### spec_l8Name: function 14 -/
def spec_l8Name.l0 : Nat → ByteArray → Int → Option (Bool)
 | 0, _, _ => none
 | k + 1, x0, x3 => if x3 < (x0.size : Int) then (if 0 ≤ x3 then (if (bt x0 x3) ≥ 97 then (if (bt x0 x3) ≤ 122 then (spec_l8Name.l0 k x0 (wrap64 (x3 + 1))) else (if (bt x0 x3) ≥ 48 then (if (bt x0 x3) ≤ 57 then (spec_l8Name.l0 k x0 (wrap64 (x3 + 1))) else (if (bt x0 x3) = 46 then (spec_l8Name.l0 k x0 (wrap64 (x3 + 1))) else (if ((bt x0 x3) = 45) then (spec_l8Name.l0 k x0 (wrap64 (x3 + 1))) else (some false)))) else (if (bt x0 x3) = 46 then (spec_l8Name.l0 k x0 (wrap64 (x3 + 1))) else (if ((bt x0 x3) = 45) then (spec_l8Name.l0 k x0 (wrap64 (x3 + 1))) else (some false))))) else (if (bt x0 x3) ≥ 48 then (if (bt x0 x3) ≤ 57 then (spec_l8Name.l0 k x0 (wrap64 (x3 + 1))) else (if (bt x0 x3) = 46 then (spec_l8Name.l0 k x0 (wrap64 (x3 + 1))) else (if ((bt x0 x3) = 45) then (spec_l8Name.l0 k x0 (wrap64 (x3 + 1))) else (some false)))) else (if (bt x0 x3) = 46 then (spec_l8Name.l0 k x0 (wrap64 (x3 + 1))) else (if ((bt x0 x3) = 45) then (spec_l8Name.l0 k x0 (wrap64 (x3 + 1))) else (some false))))) else (none)) else ((spec_l1In.f (x0.size : Int) 1 12).bind fun t110 => (some t110))
def spec_l8Name.f (k : Nat) (a0 : ByteArray) : Option (Bool) := spec_l8Name.l0 k a0 0
theorem spec_l8Name.mono_l : ∀ k, (∀ y0 y1, LeO (spec_l8Name.l0 k y0 y1) (spec_l8Name.l0 (k + 1) y0 y1))
 | 0 => fun _ _ r h => by simp [spec_l8Name.l0] at h
 | k + 1 => by
  have ih0 := spec_l8Name.mono_l k
  ·
   intro y0 y1
   unfold spec_l8Name.l0
   repeat' first
   | (with_reducible exact ih0 _ _)
   | (with_reducible exact LeO.refl _)
   | (with_reducible exact LeO.none _)
   | (with_reducible refine LeO.ite ?_ ?_)
   | (with_reducible refine LeO.bind ?_ (fun _ => ?_))
   | exact ih0 _ _
   | exact LeO.none _
   | refine LeO.ite ?_ ?_
   | refine LeO.bind ?_ (fun _ => ?_)
theorem spec_l8Name.mono : ∀ a0 k, LeO (spec_l8Name.f k a0) (spec_l8Name.f (k + 1) a0) := by
 intro a0 k
 have ih0 := spec_l8Name.mono_l k
 unfold spec_l8Name.f
 repeat' first
   | (with_reducible exact ih0 _ _)
   | (with_reducible exact LeO.refl _)
   | (with_reducible exact LeO.none _)
   | (with_reducible refine LeO.ite ?_ ?_)
   | (with_reducible refine LeO.bind ?_ (fun _ => ?_))
   | exact ih0 _ _
   | exact LeO.none _
   | refine LeO.ite ?_ ?_
   | refine LeO.bind ?_ (fun _ => ?_)
set_option maxHeartbeats 8000000 in
set_option maxRecDepth 100000 in
theorem spec_l8Name.calls (k : Nat) (a0 : ByteArray) (r : Bool) (w : World) (h : spec_l8Name.f k a0 = some r) :
  Calls Tryd.prog 14 #[.string a0] w fun e w' => e = .returned (.bool r) ∧ Drawn0 w w' := by
 have H : (spec_l8Name.l0 k a0 0) = some r := h
 clear h
 have H' := Ah H
 clear H
 go_enter Tryd.func14, Tryd.ntmps14
 go_wp2
 go_loopg [3] k (fun kq v3 w' => ∃ (x3_1 : Int), v3 = .int .i64 x3_1 ∧ Aside0 (spec_l8Name.l0 kq a0 x3_1 = some r) ∧ Aside0 (kq ≤ k) ∧ Drawn0 w w')
 case atStart => exact ⟨(0), e3, H', ⟨Nat.le_refl _⟩, by repeat (first | exact Drawn0.refl _ | apply Drawn0.step)⟩
 case round =>
  clear H'
  try clear c1
  obtain ⟨x3_1, rfl, HA, HK1, ⟨m1, rfl⟩⟩ := hrel
  cases gk with
  | zero => exact absurd HA.out (by simp [spec_l8Name.l0])
  | succ k1 =>
   have H := HA.out
   clear HA
   simp only [spec_l8Name.l0] at H
   by_cases c2 : x3_1 < (a0.size : Int)
   rotate_left
   ·
    rw [if_neg c2] at H
    have c2b0 : decide (x3_1 < (a0.size : Int)) = false := decide_eq_false c2
    clear c2
    replace H := Option.bind_eq_some_iff.mp H
    obtain ⟨t110, A190, H⟩ := H
    try dsimp only at H
    have A19 := Ah A190
    clear A190
    obtain rfl := Option.some.inj H
    go_wp2_with (first | ((with_reducible refine gate_callee (f := 13) rfl ?_); refine gL (some 39) rfl rfl Tryd.func13 (by kernel_rfl) rfl #[.int .i64 (a0.size : Int), .int .i64 1, .int .i64 12] rfl ?_; (with_reducible refine (spec_l1In.calls (a0.size : Int) 1 12 t110 _ A19.out).mono ?_); rintro e w' ⟨rfl, ⟨nd, rfl⟩⟩; refine ⟨_, rfl, ?_⟩))
    go_ret
    exact ⟨e3, by repeat (first | exact Drawn0.refl _ | apply Drawn0.step)⟩
   rw [if_pos c2] at H
   have c2b0 : decide (x3_1 < (a0.size : Int)) = true := decide_eq_true c2
   clear c2
   by_cases c3 : 0 ≤ x3_1
   rotate_left
   ·
    rw [if_neg c3] at H
    exact absurd H (by simp)
   rw [if_pos c3] at H
   have c3b0 : decide (0 ≤ x3_1) = true := decide_eq_true c3
   clear c3
   by_cases c5 : (bt a0 x3_1) ≥ 97
   rotate_left
   ·
    rw [if_neg c5] at H
    have c5b0 : decide (97 ≤ (bt a0 x3_1)) = false := decide_eq_false c5
    clear c5
    by_cases c13 : (bt a0 x3_1) ≥ 48
    rotate_left
    ·
     rw [if_neg c13] at H
     have c13b0 : decide (48 ≤ (bt a0 x3_1)) = false := decide_eq_false c13
     clear c13
     by_cases c17 : (bt a0 x3_1) = 46
     ·
      rw [if_pos c17] at H
      have c17b0 : ((bt a0 x3_1) == 46) = true := beq_iff_eq.mpr c17
      have c17b1 : ((bt a0 x3_1) != 46) = false := bne_eq_false_iff_eq.mpr c17
      clear c17
      have H' := Ah H
      clear H
      have p4 : 0 ≤ (x3_1 : Int) := od
      have q4 : x3_1 < (a0.size : Int) := od
      have hx4 := bt_at a0 x3_1
      replace p4 := eq_true p4
      replace q4 := eq_true q4
      go_wp2
      go_roundg k1
      case measure => have := HK1.out; omega
      case rel => exact ⟨(wrap64 (x3_1 + 1)), e3, H', ⟨by have := HK1.out; omega⟩, by repeat (first | exact Drawn0.refl _ | apply Drawn0.step)⟩
     rw [if_neg c17] at H
     have c17b0 : ((bt a0 x3_1) == 46) = false := beq_eq_false_iff_ne.mpr c17
     have c17b1 : ((bt a0 x3_1) != 46) = true := bne_iff_ne.mpr c17
     by_cases c18 : ((bt a0 x3_1) = 45)
     rotate_left
     ·
      rw [if_neg c18] at H
      have c18b0 : ((bt a0 x3_1) == 45) = false := beq_eq_false_iff_ne.mpr c18
      have c18b1 : ((bt a0 x3_1) != 45) = true := bne_iff_ne.mpr c18
      obtain rfl := Option.some.inj H
      have p4 : 0 ≤ (x3_1 : Int) := od
      have q4 : x3_1 < (a0.size : Int) := od
      have hx4 := bt_at a0 x3_1
      replace p4 := eq_true p4
      replace q4 := eq_true q4
      go_wp2
      go_ret
      exact ⟨e3, by repeat (first | exact Drawn0.refl _ | apply Drawn0.step)⟩
     rw [if_pos c18] at H
     have c18b0 : ((bt a0 x3_1) == 45) = true := beq_iff_eq.mpr c18
     have c18b1 : ((bt a0 x3_1) != 45) = false := bne_eq_false_iff_eq.mpr c18
     clear c18
     have H' := Ah H
     clear H
     have p4 : 0 ≤ (x3_1 : Int) := od
     have q4 : x3_1 < (a0.size : Int) := od
     have hx4 := bt_at a0 x3_1
     replace p4 := eq_true p4
     replace q4 := eq_true q4
     go_wp2
     go_roundg k1
     case measure => have := HK1.out; omega
     case rel => exact ⟨(wrap64 (x3_1 + 1)), e3, H', ⟨by have := HK1.out; omega⟩, by repeat (first | exact Drawn0.refl _ | apply Drawn0.step)⟩
    rw [if_pos c13] at H
    have c13b0 : decide (48 ≤ (bt a0 x3_1)) = true := decide_eq_true c13
    clear c13
    by_cases c14 : (bt a0 x3_1) ≤ 57
    ·
     rw [if_pos c14] at H
     have c14b0 : decide ((bt a0 x3_1) ≤ 57) = true := decide_eq_true c14
     clear c14
     have H' := Ah H
     clear H
     have p4 : 0 ≤ (x3_1 : Int) := od
     have q4 : x3_1 < (a0.size : Int) := od
     have hx4 := bt_at a0 x3_1
     replace p4 := eq_true p4
     replace q4 := eq_true q4
     go_wp2
     go_roundg k1
     case measure => have := HK1.out; omega
     case rel => exact ⟨(wrap64 (x3_1 + 1)), e3, H', ⟨by have := HK1.out; omega⟩, by repeat (first | exact Drawn0.refl _ | apply Drawn0.step)⟩
    rw [if_neg c14] at H
    have c14b0 : decide ((bt a0 x3_1) ≤ 57) = false := decide_eq_false c14
    clear c14
    by_cases c15 : (bt a0 x3_1) = 46
    ·
     rw [if_pos c15] at H
     have c15b0 : ((bt a0 x3_1) == 46) = true := beq_iff_eq.mpr c15
     have c15b1 : ((bt a0 x3_1) != 46) = false := bne_eq_false_iff_eq.mpr c15
     clear c15
     have H' := Ah H
     clear H
     have p4 : 0 ≤ (x3_1 : Int) := od
     have q4 : x3_1 < (a0.size : Int) := od
     have hx4 := bt_at a0 x3_1
     replace p4 := eq_true p4
     replace q4 := eq_true q4
     go_wp2
     go_roundg k1
     case measure => have := HK1.out; omega
     case rel => exact ⟨(wrap64 (x3_1 + 1)), e3, H', ⟨by have := HK1.out; omega⟩, by repeat (first | exact Drawn0.refl _ | apply Drawn0.step)⟩
    rw [if_neg c15] at H
    have c15b0 : ((bt a0 x3_1) == 46) = false := beq_eq_false_iff_ne.mpr c15
    have c15b1 : ((bt a0 x3_1) != 46) = true := bne_iff_ne.mpr c15
    by_cases c16 : ((bt a0 x3_1) = 45)
    rotate_left
    ·
     rw [if_neg c16] at H
     have c16b0 : ((bt a0 x3_1) == 45) = false := beq_eq_false_iff_ne.mpr c16
     have c16b1 : ((bt a0 x3_1) != 45) = true := bne_iff_ne.mpr c16
     obtain rfl := Option.some.inj H
     have p4 : 0 ≤ (x3_1 : Int) := od
     have q4 : x3_1 < (a0.size : Int) := od
     have hx4 := bt_at a0 x3_1
     replace p4 := eq_true p4
     replace q4 := eq_true q4
     go_wp2
     go_ret
     exact ⟨e3, by repeat (first | exact Drawn0.refl _ | apply Drawn0.step)⟩
    rw [if_pos c16] at H
    have c16b0 : ((bt a0 x3_1) == 45) = true := beq_iff_eq.mpr c16
    have c16b1 : ((bt a0 x3_1) != 45) = false := bne_eq_false_iff_eq.mpr c16
    clear c16
    have H' := Ah H
    clear H
    have p4 : 0 ≤ (x3_1 : Int) := od
    have q4 : x3_1 < (a0.size : Int) := od
    have hx4 := bt_at a0 x3_1
    replace p4 := eq_true p4
    replace q4 := eq_true q4
    go_wp2
    go_roundg k1
    case measure => have := HK1.out; omega
    case rel => exact ⟨(wrap64 (x3_1 + 1)), e3, H', ⟨by have := HK1.out; omega⟩, by repeat (first | exact Drawn0.refl _ | apply Drawn0.step)⟩
   rw [if_pos c5] at H
   have c5b0 : decide (97 ≤ (bt a0 x3_1)) = true := decide_eq_true c5
   clear c5
   by_cases c6 : (bt a0 x3_1) ≤ 122
   ·
    rw [if_pos c6] at H
    have c6b0 : decide ((bt a0 x3_1) ≤ 122) = true := decide_eq_true c6
    clear c6
    have H' := Ah H
    clear H
    have p4 : 0 ≤ (x3_1 : Int) := od
    have q4 : x3_1 < (a0.size : Int) := od
    have hx4 := bt_at a0 x3_1
    replace p4 := eq_true p4
    replace q4 := eq_true q4
    go_wp2
    go_roundg k1
    case measure => have := HK1.out; omega
    case rel => exact ⟨(wrap64 (x3_1 + 1)), e3, H', ⟨by have := HK1.out; omega⟩, by repeat (first | exact Drawn0.refl _ | apply Drawn0.step)⟩
   rw [if_neg c6] at H
   have c6b0 : decide ((bt a0 x3_1) ≤ 122) = false := decide_eq_false c6
   clear c6
   by_cases c7 : (bt a0 x3_1) ≥ 48
   rotate_left
   ·
    rw [if_neg c7] at H
    have c7b0 : decide (48 ≤ (bt a0 x3_1)) = false := decide_eq_false c7
    clear c7
    by_cases c11 : (bt a0 x3_1) = 46
    ·
     rw [if_pos c11] at H
     have c11b0 : ((bt a0 x3_1) == 46) = true := beq_iff_eq.mpr c11
     have c11b1 : ((bt a0 x3_1) != 46) = false := bne_eq_false_iff_eq.mpr c11
     clear c11
     have H' := Ah H
     clear H
     have p4 : 0 ≤ (x3_1 : Int) := od
     have q4 : x3_1 < (a0.size : Int) := od
     have hx4 := bt_at a0 x3_1
     replace p4 := eq_true p4
     replace q4 := eq_true q4
     go_wp2
     go_roundg k1
     case measure => have := HK1.out; omega
     case rel => exact ⟨(wrap64 (x3_1 + 1)), e3, H', ⟨by have := HK1.out; omega⟩, by repeat (first | exact Drawn0.refl _ | apply Drawn0.step)⟩
    rw [if_neg c11] at H
    have c11b0 : ((bt a0 x3_1) == 46) = false := beq_eq_false_iff_ne.mpr c11
    have c11b1 : ((bt a0 x3_1) != 46) = true := bne_iff_ne.mpr c11
    by_cases c12 : ((bt a0 x3_1) = 45)
    rotate_left
    ·
     rw [if_neg c12] at H
     have c12b0 : ((bt a0 x3_1) == 45) = false := beq_eq_false_iff_ne.mpr c12
     have c12b1 : ((bt a0 x3_1) != 45) = true := bne_iff_ne.mpr c12
     obtain rfl := Option.some.inj H
     have p4 : 0 ≤ (x3_1 : Int) := od
     have q4 : x3_1 < (a0.size : Int) := od
     have hx4 := bt_at a0 x3_1
     replace p4 := eq_true p4
     replace q4 := eq_true q4
     go_wp2
     go_ret
     exact ⟨e3, by repeat (first | exact Drawn0.refl _ | apply Drawn0.step)⟩
    rw [if_pos c12] at H
    have c12b0 : ((bt a0 x3_1) == 45) = true := beq_iff_eq.mpr c12
    have c12b1 : ((bt a0 x3_1) != 45) = false := bne_eq_false_iff_eq.mpr c12
    clear c12
    have H' := Ah H
    clear H
    have p4 : 0 ≤ (x3_1 : Int) := od
    have q4 : x3_1 < (a0.size : Int) := od
    have hx4 := bt_at a0 x3_1
    replace p4 := eq_true p4
    replace q4 := eq_true q4
    go_wp2
    go_roundg k1
    case measure => have := HK1.out; omega
    case rel => exact ⟨(wrap64 (x3_1 + 1)), e3, H', ⟨by have := HK1.out; omega⟩, by repeat (first | exact Drawn0.refl _ | apply Drawn0.step)⟩
   rw [if_pos c7] at H
   have c7b0 : decide (48 ≤ (bt a0 x3_1)) = true := decide_eq_true c7
   clear c7
   by_cases c8 : (bt a0 x3_1) ≤ 57
   ·
    rw [if_pos c8] at H
    have c8b0 : decide ((bt a0 x3_1) ≤ 57) = true := decide_eq_true c8
    clear c8
    have H' := Ah H
    clear H
    have p4 : 0 ≤ (x3_1 : Int) := od
    have q4 : x3_1 < (a0.size : Int) := od
    have hx4 := bt_at a0 x3_1
    replace p4 := eq_true p4
    replace q4 := eq_true q4
    go_wp2
    go_roundg k1
    case measure => have := HK1.out; omega
    case rel => exact ⟨(wrap64 (x3_1 + 1)), e3, H', ⟨by have := HK1.out; omega⟩, by repeat (first | exact Drawn0.refl _ | apply Drawn0.step)⟩
   rw [if_neg c8] at H
   have c8b0 : decide ((bt a0 x3_1) ≤ 57) = false := decide_eq_false c8
   clear c8
   by_cases c9 : (bt a0 x3_1) = 46
   ·
    rw [if_pos c9] at H
    have c9b0 : ((bt a0 x3_1) == 46) = true := beq_iff_eq.mpr c9
    have c9b1 : ((bt a0 x3_1) != 46) = false := bne_eq_false_iff_eq.mpr c9
    clear c9
    have H' := Ah H
    clear H
    have p4 : 0 ≤ (x3_1 : Int) := od
    have q4 : x3_1 < (a0.size : Int) := od
    have hx4 := bt_at a0 x3_1
    replace p4 := eq_true p4
    replace q4 := eq_true q4
    go_wp2
    go_roundg k1
    case measure => have := HK1.out; omega
    case rel => exact ⟨(wrap64 (x3_1 + 1)), e3, H', ⟨by have := HK1.out; omega⟩, by repeat (first | exact Drawn0.refl _ | apply Drawn0.step)⟩
   rw [if_neg c9] at H
   have c9b0 : ((bt a0 x3_1) == 46) = false := beq_eq_false_iff_ne.mpr c9
   have c9b1 : ((bt a0 x3_1) != 46) = true := bne_iff_ne.mpr c9
   by_cases c10 : ((bt a0 x3_1) = 45)
   rotate_left
   ·
    rw [if_neg c10] at H
    have c10b0 : ((bt a0 x3_1) == 45) = false := beq_eq_false_iff_ne.mpr c10
    have c10b1 : ((bt a0 x3_1) != 45) = true := bne_iff_ne.mpr c10
    obtain rfl := Option.some.inj H
    have p4 : 0 ≤ (x3_1 : Int) := od
    have q4 : x3_1 < (a0.size : Int) := od
    have hx4 := bt_at a0 x3_1
    replace p4 := eq_true p4
    replace q4 := eq_true q4
    go_wp2
    go_ret
    exact ⟨e3, by repeat (first | exact Drawn0.refl _ | apply Drawn0.step)⟩
   rw [if_pos c10] at H
   have c10b0 : ((bt a0 x3_1) == 45) = true := beq_iff_eq.mpr c10
   have c10b1 : ((bt a0 x3_1) != 45) = false := bne_eq_false_iff_eq.mpr c10
   clear c10
   have H' := Ah H
   clear H
   have p4 : 0 ≤ (x3_1 : Int) := od
   have q4 : x3_1 < (a0.size : Int) := od
   have hx4 := bt_at a0 x3_1
   replace p4 := eq_true p4
   replace q4 := eq_true q4
   go_wp2
   go_roundg k1
   case measure => have := HK1.out; omega
   case rel => exact ⟨(wrap64 (x3_1 + 1)), e3, H', ⟨by have := HK1.out; omega⟩, by repeat (first | exact Drawn0.refl _ | apply Drawn0.step)⟩

/-! ### spec_l13Seen: function 15 -/
mutual
def spec_l13Seen.l0 : Nat → Int → List Int → List (S42) → Int → Int → List (S40) → Option (Bool × List Int)
 | 0, _, _, _, _, _, _ => none
 | k + 1, x2, x3, x16, x17, x18, x112000 => if x18 < x17 then (if 0 ≤ x18 then (if x18 < (x16.length : Int) then (if 0 ≤ ((rd_T42 x16 x18).f1) then (if ((rd_T42 x16 x18).f1) < (x3.length : Int) then ((some (x3.set (((rd_T42 x16 x18).f1) : Int).toNat (wrap64 ((rd x3 ((rd_T42 x16 x18).f1)) + 1)) : List Int)).bind fun y116 => (if x2 = 8 then (some (false, y116)) else (if ((rd_T42 x16 x18).f1) < (x112000.length : Int) then (if (rd_T40 x112000 ((rd_T42 x16 x18).f1)).f0 = true then (if (rd y116 ((rd_T42 x16 x18).f1)) > 1 then (some (false, y116)) else ((spec_l13Seen.f k x112000 ((rd_T42 x16 x18).f1) (wrap64 (x2 + 1)) y116).bind fun bt119 => (if bt119.1 = true then (spec_l13Seen.l0 k x2 bt119.2 x16 x17 (wrap64 (x18 + 1)) x112000) else (some (false, bt119.2))))) else (spec_l13Seen.l0 k x2 y116 x16 x17 (wrap64 (x18 + 1)) x112000)) else (none)))) else (none)) else (none)) else (none)) else (none)) else (some (true, x3))
def spec_l13Seen.f : Nat → List (S40) → Int → Int → List Int → Option (Bool × List Int)
 | 0, _, _, _, _ => none
 | k + 1, l0_0, a1, a2, l3 => if 0 ≤ a1 then (if a1 < (l0_0.length : Int) then (spec_l13Seen.l0 k a2 l3 ((rd_T40 l0_0 a1).f2) (((rd_T40 l0_0 a1).f2).length : Int) 0 l0_0) else (none)) else (none)
end
theorem spec_l13Seen.mono_l : ∀ k, (∀ y0 y1 y2 y3, LeO (spec_l13Seen.f k y0 y1 y2 y3) (spec_l13Seen.f (k + 1) y0 y1 y2 y3)) ∧ (∀ y0 y1 y2 y3 y4 y5, LeO (spec_l13Seen.l0 k y0 y1 y2 y3 y4 y5) (spec_l13Seen.l0 (k + 1) y0 y1 y2 y3 y4 y5))
 | 0 => ⟨fun _ _ _ _ r h => by simp [spec_l13Seen.f] at h, fun _ _ _ _ _ _ r h => by simp [spec_l13Seen.l0] at h⟩
 | k + 1 => by
  obtain ⟨ih0, ih1⟩ := spec_l13Seen.mono_l k
  refine ⟨?_, ?_⟩ <;> intros <;> first | unfold spec_l13Seen.f | unfold spec_l13Seen.l0
  all_goals repeat' first
   | (with_reducible exact ih0 _ _ _ _)
   | (with_reducible exact ih1 _ _ _ _ _ _)
   | (with_reducible exact LeO.refl _)
   | (with_reducible exact LeO.none _)
   | (with_reducible refine LeO.ite ?_ ?_)
   | (with_reducible refine LeO.bind ?_ (fun _ => ?_))
   | exact ih0 _ _ _ _
   | exact ih1 _ _ _ _ _ _
   | exact LeO.none _
   | refine LeO.ite ?_ ?_
   | refine LeO.bind ?_ (fun _ => ?_)
theorem spec_l13Seen.mono : ∀ a0 a1 a2 a3 k, LeO (spec_l13Seen.f k a0 a1 a2 a3) (spec_l13Seen.f (k + 1) a0 a1 a2 a3) := by
 intro a0 a1 a2 a3 k
 obtain ⟨ih0, ih1⟩ := spec_l13Seen.mono_l k
 exact ih0 a0 a1 a2 a3
set_option maxHeartbeats 8000000 in
set_option maxRecDepth 100000 in
theorem spec_l13Seen.calls (k : Nat) : ∀ (A0_0 : Option Addr) (c0_0 : Nat) (l0_0 : List (S40)) (a1 : Int) (a2 : Int) (P3_ : Nat → Prop) (u9000_ : Value) (l3 : List Int) (r1 : Bool) (r2 : List Int) (w0 w : World) (hB : Below w0.heap.size w0 w) (hr0_0 : Kd.C k40 w0 A0_0 l0_0.length l0_0) (hc0_0 : l0_0.length ≤ c0_0) (ho3 : Kd.R (Kd.int .i64) 3 w w0.heap.size P3_ u9000_ l3) (h : spec_l13Seen.f k l0_0 a1 a2 l3 = some (r1, r2)),
  Calls Tryd.prog 15 #[.agg #[.slice A0_0 l0_0.length c0_0], .int .i64 a1, .int .i64 a2, u9000_] w fun e w' => e = .returned (.bool r1) ∧ Kd.R (Kd.int .i64) 3 w' w0.heap.size (fun k_ => (P3_ k_ ∨ w.heap.size ≤ k_)) u9000_ r2 ∧ Below w0.heap.size w0 w' ∧ Kept w w' (fun k_ => P3_ k_) := by
 induction k using Nat.strongRecOn with
 | _ k ih =>
 intro A0_0 c0_0 l0_0 a1 a2 P3_ u9000_ l3 r1 r2 w0 w hB hr0_0 hc0_0 ho3 h
 cases k with
 | zero => exact absurd h (by simp [spec_l13Seen.f])
 | succ k =>
 simp only [spec_l13Seen.f] at h
 have hu29 := Tryd.underlying29
 have hu42 := Tryd.underlying42
 have HR0_0 := Ah hr0_0
 have HC0_0 := Ah hc0_0
 clear hr0_0 hc0_0
 have HO3 := Ah (show Kd.R (Kd.int .i64) 3 w w0.heap.size (fun k_ => (P3_ k_ ∨ w.heap.size ≤ k_)) u9000_ l3 from Kd.R_mono ho3 (fun k_ hk => (.inl hk)))
 have HK := Ah (Kept.refl w (fun k_ => P3_ k_))
 have HW0 := Ah hB.size
 have HB := Ah hB
 clear hB
 have H : (if 0 ≤ a1 then (if a1 < (l0_0.length : Int) then (spec_l13Seen.l0 k a2 l3 ((rd_T40 l0_0 a1).f2) (((rd_T40 l0_0 a1).f2).length : Int) 0 l0_0) else (none)) else (none)) = some (r1, r2) := h
 clear h
 by_cases c5 : 0 ≤ a1
 rotate_left
 ·
  rw [if_neg c5] at H
  exact absurd H (by simp)
 rw [if_pos c5] at H
 have c5b0 : decide (0 ≤ a1) = true := decide_eq_true c5
 clear c5
 by_cases c6 : a1 < (l0_0.length : Int)
 rotate_left
 ·
  rw [if_neg c6] at H
  exact absurd H (by simp)
 rw [if_pos c6] at H
 have c6b0 : decide (a1 < (l0_0.length : Int)) = true := decide_eq_true c6
 clear c6
 have H' := Ah H
 clear H
 go_enter Tryd.func15, Tryd.ntmps15
 go_wp2_with (first | ((with_reducible refine gate_dst (N := 4) rfl ?_); refine boxL 4 29 #[.slice A0_0 l0_0.length c0_0] ?_; intro gb111 hg w7 BK111 hb; replace HO3 := nr HO3 hb; have GW111 := Ah ((by rw [hg]; exact (by first | exact HK.out.1 | exact (show Kept w _ (fun k_ => P3_ k_) from by repeat (first | (with_reducible first | exact HK.out | apply Kept.alloc | apply Kept.drewN | apply Kept.drew) | exact HK.out)).1) : w.heap.size ≤ gb111)); replace HK := Ah (Kept.below (S := (fun k_ => P3_ k_)) (by repeat (first | (with_reducible first | exact HK.out | apply Kept.alloc | apply Kept.drewN | apply Kept.drew) | exact HK.out)) hb); have GE111 := Ah ((by rw [hg]; exact (below_size (bs HB)) : w0.heap.size ≤ gb111)); replace HB := Ah (below_step (bs HB) hb); clear hb hg; have hcz8_0 := cz1 BK111; have hfz8_0 := fz1 BK111; have p112 : 0 ≤ (a1 : Int) := od; have q112 : a1 < (l0_0.length : Int) := od; obtain ⟨ad112, A112_2, c112_2, e112, hx112_0, hx112_1, hx112_2, hl112_2, hi112_2⟩ := at_T40 HR0_0.out a1 p112 q112; replace hx112_0 := (HB.out.cell (World.block_lt_of_cell? w0 _ hx112_0)).trans hx112_0; replace hx112_1 := (HB.out.cell (World.block_lt_of_cell? w0 _ hx112_1)).trans hx112_1; replace hx112_2 := (HB.out.cell (World.block_lt_of_cell? w0 _ hx112_2)).trans hx112_2; cases e112; have HR112_2 := Ah hi112_2; have HC112_2 := Ah hl112_2; clear hi112_2 hl112_2; replace p112 := eq_true p112; replace q112 := eq_true q112))
 go_loopg [18] k (fun kq v18 w' => ∃ (x3_1 : List Int) (x18_1 : Int), v18 = .int .i64 x18_1 ∧ Aside0 (spec_l13Seen.l0 kq a2 x3_1 ((rd_T40 l0_0 a1).f2) (((rd_T40 l0_0 a1).f2).length : Int) x18_1 l0_0 = some (r1, r2)) ∧ Aside0 (kq ≤ k) ∧ Aside0 (Kd.R (Kd.int .i64) 3 w' w0.heap.size (fun k_ => (P3_ k_ ∨ w.heap.size ≤ k_)) u9000_ x3_1) ∧ Aside0 (w'.heap[gb111]? = some (.cells #[(.slice (some ad112) l0_0.length c0_0)] 29 (0, 0))) ∧ Aside0 (Kept w w' (fun k_ => P3_ k_)) ∧ Aside0 (Below w0.heap.size w0 w'))
 case atStart => exact ⟨(l3), (0), e3, H', ⟨Nat.le_refl _⟩, ⟨rr HO3.out⟩, ⟨bk BK111⟩, ⟨by repeat (first | (with_reducible first | exact HK.out | apply Kept.alloc | apply Kept.drewN | apply Kept.drew | refine Kept.setCell ?_ (.inr GW111.out) _) | exact HK.out)⟩, ⟨bs1 HB GE111⟩⟩
 case round =>
  clear H'
  try clear c1
  try clear p1
  try clear q1
  try clear hx1
  try clear p2
  try clear c5
  try clear c5b0
  try clear c6
  try clear c6b0
  try clear hcz8_0
  try clear hfz8_0
  try clear hx112_0
  try clear hx112_1
  try clear hx112_2
  try clear p112
  try clear q112
  obtain ⟨x3_1, x18_1, rfl, HA, HK1, HO_3, BK111, HK, HB⟩ := hrel
  cases gk with
  | zero => exact absurd HA.out (by simp [spec_l13Seen.l0])
  | succ k1 =>
   have H := HA.out
   clear HA
   simp only [spec_l13Seen.l0] at H
   by_cases c9 : x18_1 < (((rd_T40 l0_0 a1).f2).length : Int)
   rotate_left
   ·
    rw [if_neg c9] at H
    have c9b0 : decide (x18_1 < (((rd_T40 l0_0 a1).f2).length : Int)) = false := decide_eq_false c9
    clear c9
    simp only [Option.some.injEq, Prod.mk.injEq] at H
    obtain ⟨rfl, rfl⟩ := H
    go_wp2
    go_ret
    exact ⟨er, by (with_reducible repeat (first | apply Kd.R_alloc | apply Kd.R_drewN | apply Kd.R_drew)); exact HO_3.out, bs1 HB GE111, by repeat (first | (with_reducible first | exact HK.out | apply Kept.alloc | apply Kept.drewN | apply Kept.drew | refine Kept.setCell ?_ (.inr GW111.out) _) | exact HK.out)⟩
   rw [if_pos c9] at H
   have c9b0 : decide (x18_1 < (((rd_T40 l0_0 a1).f2).length : Int)) = true := decide_eq_true c9
   clear c9
   by_cases c10 : 0 ≤ x18_1
   rotate_left
   ·
    rw [if_neg c10] at H
    exact absurd H (by simp)
   rw [if_pos c10] at H
   have c10b0 : decide (0 ≤ x18_1) = true := decide_eq_true c10
   clear c10
   by_cases c11 : x18_1 < (((rd_T40 l0_0 a1).f2).length : Int)
   rotate_left
   ·
    rw [if_neg c11] at H
    exact absurd H (by simp)
   rw [if_pos c11] at H
   have c11b0 : decide (x18_1 < (((rd_T40 l0_0 a1).f2).length : Int)) = true := decide_eq_true c11
   clear c11
   by_cases c12 : 0 ≤ ((rd_T42 ((rd_T40 l0_0 a1).f2) x18_1).f1)
   rotate_left
   ·
    rw [if_neg c12] at H
    exact absurd H (by simp)
   rw [if_pos c12] at H
   have c12b0 : decide (0 ≤ ((rd_T42 ((rd_T40 l0_0 a1).f2) x18_1).f1)) = true := decide_eq_true c12
   clear c12
   by_cases c13 : ((rd_T42 ((rd_T40 l0_0 a1).f2) x18_1).f1) < (x3_1.length : Int)
   rotate_left
   ·
    rw [if_neg c13] at H
    exact absurd H (by simp)
   rw [if_pos c13] at H
   have c13b0 : decide (((rd_T42 ((rd_T40 l0_0 a1).f2) x18_1).f1) < (x3_1.length : Int)) = true := decide_eq_true c13
   clear c13
   obtain ⟨y116, hy116⟩ : ∃ y_ : List Int, y_ = (x3_1.set (((rd_T42 ((rd_T40 l0_0 a1).f2) x18_1).f1) : Int).toNat (wrap64 ((rd x3_1 ((rd_T42 ((rd_T40 l0_0 a1).f2) x18_1).f1)) + 1))) := ⟨_, rfl⟩
   replace H : (if a2 = 8 then (some (false, y116)) else (if ((rd_T42 ((rd_T40 l0_0 a1).f2) x18_1).f1) < (l0_0.length : Int) then (if (rd_T40 l0_0 ((rd_T42 ((rd_T40 l0_0 a1).f2) x18_1).f1)).f0 = true then (if (rd y116 ((rd_T42 ((rd_T40 l0_0 a1).f2) x18_1).f1)) > 1 then (some (false, y116)) else ((spec_l13Seen.f k1 l0_0 ((rd_T42 ((rd_T40 l0_0 a1).f2) x18_1).f1) (wrap64 (a2 + 1)) y116).bind fun bt119 => (if bt119.1 = true then (spec_l13Seen.l0 k1 a2 bt119.2 ((rd_T40 l0_0 a1).f2) (((rd_T40 l0_0 a1).f2).length : Int) (wrap64 (x18_1 + 1)) l0_0) else (some (false, bt119.2))))) else (spec_l13Seen.l0 k1 a2 y116 ((rd_T40 l0_0 a1).f2) (((rd_T40 l0_0 a1).f2).length : Int) (wrap64 (x18_1 + 1)) l0_0)) else (none))) = some (r1, r2) := by first | (rw [hy116]; with_reducible exact H) | (have H2_ := (Option.bind_some _ _).symm.trans H; rw [hy116]; with_reducible exact H2_) | (have H2_ := (Option.bind_some _ _).symm.trans H; with_reducible exact H2_) | with_reducible exact H | (rw [hy116]; exact H) | exact H
   have Ny116 := Ah hy116
   clear hy116
   by_cases c15 : a2 = 8
   ·
    rw [if_pos c15] at H
    have c15b0 : (a2 == 8) = true := beq_iff_eq.mpr c15
    have c15b1 : (a2 != 8) = false := bne_eq_false_iff_eq.mpr c15
    clear c15
    simp only [Option.some.injEq, Prod.mk.injEq] at H
    obtain ⟨rfl, rfl⟩ := H
    have p113 : 0 ≤ (x18_1 : Int) := od
    have q113 : x18_1 < (((rd_T40 l0_0 a1).f2).length : Int) := od
    obtain ⟨ad113, e113, hx113_0, hx113_1⟩ := at_T42 HR112_2.out x18_1 p113 q113
    cases e113
    replace hx113_0 := (HB.out.cell (World.block_lt_of_cell? w0 _ hx113_0)).trans hx113_0
    replace hx113_1 := (HB.out.cell (World.block_lt_of_cell? w0 _ hx113_1)).trans hx113_1
    replace p113 := eq_true p113
    replace q113 := eq_true q113
    go_wp2_with (first | ((with_reducible refine gate_dst (N := 10) rfl ?_); refine boxL 10 42 #[.string (⟨#[]⟩ : ByteArray), .int .i64 0] ?_; intro gb114 hg w16 BK114 hb; replace HO_3 := nr HO_3 hb; have GW114 := Ah ((by rw [hg]; exact (by first | exact HK.out.1 | exact (show Kept w _ (fun k_ => P3_ k_) from by repeat (first | (with_reducible first | exact HK.out | apply Kept.alloc | apply Kept.drewN | apply Kept.drew | refine Kept.setCell ?_ (.inr GW111.out) _) | exact HK.out)).1) : w.heap.size ≤ gb114)); replace HK := Ah (Kept.below (S := (fun k_ => P3_ k_)) (by repeat (first | (with_reducible first | exact HK.out | apply Kept.alloc | apply Kept.drewN | apply Kept.drew | refine Kept.setCell ?_ (.inr GW111.out) _) | exact HK.out)) hb); have GE114 := Ah ((by rw [hg]; exact (below_size (bs1 HB GE111)) : w0.heap.size ≤ gb114)); replace HB := Ah (below_step (bs1 HB GE111) hb); have NB111_114 := nn BK111 hg; have NB114_111 := nm BK111 hg; replace BK111 := nb BK111 hb; clear hb hg; have hnb17 := NB114_111.out; have hnc17 := NB111_114.out; obtain ⟨hcz18_0, hcz18_1⟩ := cz2 BK114; obtain ⟨hfz18_0, hfz18_1⟩ := fz2 BK114) | ((with_reducible refine gate_store (t := 42) (p := 10) rfl ?_); refine store_event (t := 42) (p := 10) (v := ?vo_w19) (w1 := ((w16.setCell ⟨gb114, 0, none⟩ (.string ((rd_T42 ((rd_T40 l0_0 a1).f2) x18_1).f0))).setCell ⟨gb114, 1, none⟩ (.int .i64 ((rd_T42 ((rd_T40 l0_0 a1).f2) x18_1).f1)))) ?hg ?ho ?hn ?hr ?_; (case ho => rfl); (case hg => rfl); (case hn => rfl); (case hr => first | (go_simp; done) | (go_simp; rfl)); intro w19 hw; have n0_ : Aside0 (Kd.R (Kd.int .i64) 3 w19 w0.heap.size (fun k_ => (P3_ k_ ∨ w.heap.size ≤ k_)) u9000_ x3_1) := ⟨(by rw [hw]; exact (by (with_reducible repeat (first | apply Kd.R_alloc | apply Kd.R_drewN | apply Kd.R_drew)); exact Kd.R_mono (Kd.R_far (p := ⟨gb114, 1, none⟩) (Kd.R_far (p := ⟨gb114, 0, none⟩) (Kd.R_types HO_3.out BK114.out (by decide)) (fun _ hk => hk.2) (.string ((rd_T42 ((rd_T40 l0_0 a1).f2) x18_1).f0))) (fun _ hk => hk.2) (.int .i64 ((rd_T42 ((rd_T40 l0_0 a1).f2) x18_1).f1))) (fun _ hk => hk.1)))⟩; have n1_ : Aside0 (w19.heap[gb111]? = some (.cells #[.slice (some ad112) l0_0.length c0_0] 29 (0, 0))) := ⟨(by rw [hw]; exact (bf BK111 NB111_114))⟩; have n2_ : Aside0 (w19.heap[gb114]? = some (.cells #[.string ((rd_T42 ((rd_T40 l0_0 a1).f2) x18_1).f0), .int .i64 ((rd_T42 ((rd_T40 l0_0 a1).f2) x18_1).f1)] 42 (0, 0))) := ⟨(by rw [hw]; exact (by (with_reducible repeat (first | refine blk_drewN ?_ _ | refine blk_drew ?_ | refine blk_alloc ?_ _)); refine blk_put (cs := #[.string ((rd_T42 ((rd_T40 l0_0 a1).f2) x18_1).f0), .int .i64 0]) ?_ 1 _ rfl; (with_reducible repeat (first | refine blk_drewN ?_ _ | refine blk_drew ?_ | refine blk_alloc ?_ _)); refine blk_put (cs := #[.string (⟨#[]⟩ : ByteArray), .int .i64 0]) ?_ 0 _ rfl; (with_reducible repeat (first | refine blk_drewN ?_ _ | refine blk_drew ?_ | refine blk_alloc ?_ _)); exact BK114.out))⟩; have n3_ : Aside0 (Kept w w19 (fun k_ => P3_ k_)) := ⟨(by rw [hw]; exact (by repeat (first | (with_reducible first | exact HK.out | apply Kept.alloc | apply Kept.drewN | apply Kept.drew | refine Kept.setCell ?_ (.inr GW111.out) _ | refine Kept.setCell ?_ (.inr GW114.out) _) | exact HK.out)))⟩; have n4_ : Aside0 (Below w0.heap.size w0 w19) := ⟨(by rw [hw]; exact (bs2 HB GE111 GE114))⟩; clear hw; clear HO_3; clear BK111; clear BK114; clear HK; clear HB; have HO_3 := n0_; have BK111 := n1_; have BK114 := n2_; have HK := n3_; have HB := n4_; clear n0_ n1_ n2_ n3_ n4_; obtain ⟨hcz20_0, hcz20_1⟩ := cz2 BK114; obtain ⟨hfz20_0, hfz20_1⟩ := fz2 BK114; obtain ⟨Ao21, co21, eo21⟩ := Kd.R_slice HO_3.out; subst eo21; have p115 : 0 ≤ (((rd_T42 ((rd_T40 l0_0 a1).f2) x18_1).f1) : Int) := od; have q115 : ((rd_T42 ((rd_T40 l0_0 a1).f2) x18_1).f1) < (x3_1.length : Int) := od; obtain ⟨ad115, e115, hx115_0⟩ := Kd.at_int (Kd.R_reads' HO_3.out).2.2 ((rd_T42 ((rd_T40 l0_0 a1).f2) x18_1).f1) p115 q115; cases e115; replace p115 := eq_true p115; replace q115 := eq_true q115; have p14 : 0 ≤ (((rd_T42 ((rd_T40 l0_0 a1).f2) x18_1).f1) : Int) := od; have q14 : (((rd_T42 ((rd_T40 l0_0 a1).f2) x18_1).f1) : Int) < ((x3_1.length : Int) : Int) := od; obtain ⟨go14, co14, eo14, gb14, gl14, cl14, HG14⟩ := Kd.R_form HO_3.out (by omega); (first | cases eo14 | (injection eo14 with ea_ en_ ec_; (first | subst ea_ | (injection ea_ with ea_; subst ea_)); subst ec_; clear en_)); have GB14 := Ah gb14; have GG14 := Ah HG14; clear gb14 gl14 HG14; have HMgo14 := Ah (show (P3_ go14 ∨ w.heap.size ≤ go14) from (HO_3.out.1 _ rfl)); (first | simp only [add_plain] at hx115_0 | skip); obtain ⟨hx14_0, hf14_0⟩ := Kd.R_celln 0 HO_3.out (((rd_T42 ((rd_T40 l0_0 a1).f2) x18_1).f1) : Int) p14 q14; replace p14 := eq_true p14; replace q14 := eq_true q14; obtain ⟨hy22_, hz22_⟩ := Kd.R_celln 0 HO_3.out (((rd_T42 ((rd_T40 l0_0 a1).f2) x18_1).f1) : Int) (od) (od); have HP22 := Kd.R_putg HO_3.out (((rd_T42 ((rd_T40 l0_0 a1).f2) x18_1).f1) : Int) (wrap64 ((rd x3_1 ((rd_T42 ((rd_T40 l0_0 a1).f2) x18_1).f1)) + 1))) | ((with_reducible refine gate_store (t := 3) (p := 28) rfl ?_); refine store_event (t := 3) (p := 28) (v := ?vo_w23) (w1 := (w19.setCell ⟨go14, (((rd_T42 ((rd_T40 l0_0 a1).f2) x18_1).f1) : Int).toNat, none⟩ (.int .i64 (wrap64 ((rd x3_1 ((rd_T42 ((rd_T40 l0_0 a1).f2) x18_1).f1)) + 1))))) ?hg ?ho ?hn ?hr ?_; (case ho => rfl); (case hg => rfl); (case hn => rfl); (case hr => first | (go_simp; done) | (go_simp; rfl)); intro w23 hw; have hg : w19.grownBy w23 (some go14) := (by rw [hw]; exact HP22.2); have hp_ : Kd.R (Kd.int .i64) 3 w23 w0.heap.size (fun k_ => (P3_ k_ ∨ w.heap.size ≤ k_)) (.slice (some ⟨go14, 0, none⟩) x3_1.length co21) y116 := (by rw [hw, Ny116.out]; exact HP22.1); clear HP22; replace BK111 := Ah (blk_grown (bk BK111) hg (Kd.R_ne HO_3.out BK111.out (by decide))); replace BK114 := Ah (blk_grown (bk BK114) hg (Kd.R_ne HO_3.out BK114.out (by decide))); replace HB := Ah ((by rw [hw]; exact below_set (HB.out) GB14.out : Below w0.heap.size w0 w23)); replace HK := Ah (Kept.of_grown (S := (fun k_ => P3_ k_)) hg (by repeat (first | (with_reducible first | exact HK.out | apply Kept.alloc | apply Kept.drewN | apply Kept.drew | refine Kept.setCell ?_ (.inr GW111.out) _ | refine Kept.setCell ?_ (.inr GW114.out) _) | exact HK.out)) (fun k_ e_ => (HO_3.out.1 k_ e_))); replace HO_3 := Ah (hp_); clear hg hw hp_))
    go_ret
    exact ⟨er, by (with_reducible repeat (first | apply Kd.R_alloc | apply Kd.R_drewN | apply Kd.R_drew)); exact HO_3.out, bs2 HB GE111 GE114, by repeat (first | (with_reducible first | exact HK.out | apply Kept.alloc | apply Kept.drewN | apply Kept.drew | refine Kept.setCell ?_ (.inr GW111.out) _ | refine Kept.setCell ?_ (.inr GW114.out) _) | exact HK.out)⟩
   rw [if_neg c15] at H
   have c15b0 : (a2 == 8) = false := beq_eq_false_iff_ne.mpr c15
   have c15b1 : (a2 != 8) = true := bne_iff_ne.mpr c15
   by_cases c24 : ((rd_T42 ((rd_T40 l0_0 a1).f2) x18_1).f1) < (l0_0.length : Int)
   rotate_left
   ·
    rw [if_neg c24] at H
    exact absurd H (by simp)
   rw [if_pos c24] at H
   have c24b0 : decide (((rd_T42 ((rd_T40 l0_0 a1).f2) x18_1).f1) < (l0_0.length : Int)) = true := decide_eq_true c24
   clear c24
   obtain ⟨bq25, hbq25⟩ : ∃ b_ : Bool, b_ = ((rd_T40 l0_0 ((rd_T42 ((rd_T40 l0_0 a1).f2) x18_1).f1)).f0) := ⟨_, rfl⟩
   replace H : (if bq25 = true then (if (rd y116 ((rd_T42 ((rd_T40 l0_0 a1).f2) x18_1).f1)) > 1 then (some (false, y116)) else ((spec_l13Seen.f k1 l0_0 ((rd_T42 ((rd_T40 l0_0 a1).f2) x18_1).f1) (wrap64 (a2 + 1)) y116).bind fun bt119 => (if bt119.1 = true then (spec_l13Seen.l0 k1 a2 bt119.2 ((rd_T40 l0_0 a1).f2) (((rd_T40 l0_0 a1).f2).length : Int) (wrap64 (x18_1 + 1)) l0_0) else (some (false, bt119.2))))) else (spec_l13Seen.l0 k1 a2 y116 ((rd_T40 l0_0 a1).f2) (((rd_T40 l0_0 a1).f2).length : Int) (wrap64 (x18_1 + 1)) l0_0)) = some (r1, r2) := by rw [← hbq25] at H; exact H
   have Nbq25 := Ah hbq25
   clear hbq25
   by_cases c26 : bq25 = true
   rotate_left
   ·
    replace c26 := Bool.eq_false_iff.mpr c26
    subst c26
    rw [if_neg fne] at H
    have H' := Ah H
    clear H
    have p113 : 0 ≤ (x18_1 : Int) := od
    have q113 : x18_1 < (((rd_T40 l0_0 a1).f2).length : Int) := od
    obtain ⟨ad113, e113, hx113_0, hx113_1⟩ := at_T42 HR112_2.out x18_1 p113 q113
    cases e113
    replace hx113_0 := (HB.out.cell (World.block_lt_of_cell? w0 _ hx113_0)).trans hx113_0
    replace hx113_1 := (HB.out.cell (World.block_lt_of_cell? w0 _ hx113_1)).trans hx113_1
    replace p113 := eq_true p113
    replace q113 := eq_true q113
    go_wp2_with (first | ((with_reducible refine gate_dst (N := 10) rfl ?_); refine boxL 10 42 #[.string (⟨#[]⟩ : ByteArray), .int .i64 0] ?_; intro gb114 hg w62 BK114 hb; replace HO_3 := nr HO_3 hb; have GW114 := Ah ((by rw [hg]; exact (by first | exact HK.out.1 | exact (show Kept w _ (fun k_ => P3_ k_) from by repeat (first | (with_reducible first | exact HK.out | apply Kept.alloc | apply Kept.drewN | apply Kept.drew | refine Kept.setCell ?_ (.inr GW111.out) _) | exact HK.out)).1) : w.heap.size ≤ gb114)); replace HK := Ah (Kept.below (S := (fun k_ => P3_ k_)) (by repeat (first | (with_reducible first | exact HK.out | apply Kept.alloc | apply Kept.drewN | apply Kept.drew | refine Kept.setCell ?_ (.inr GW111.out) _) | exact HK.out)) hb); have GE114 := Ah ((by rw [hg]; exact (below_size (bs1 HB GE111)) : w0.heap.size ≤ gb114)); replace HB := Ah (below_step (bs1 HB GE111) hb); have NB111_114 := nn BK111 hg; have NB114_111 := nm BK111 hg; replace BK111 := nb BK111 hb; clear hb hg; have hnb63 := NB114_111.out; have hnc63 := NB111_114.out; obtain ⟨hcz64_0, hcz64_1⟩ := cz2 BK114; obtain ⟨hfz64_0, hfz64_1⟩ := fz2 BK114) | ((with_reducible refine gate_store (t := 42) (p := 10) rfl ?_); refine store_event (t := 42) (p := 10) (v := ?vo_w65) (w1 := ((w62.setCell ⟨gb114, 0, none⟩ (.string ((rd_T42 ((rd_T40 l0_0 a1).f2) x18_1).f0))).setCell ⟨gb114, 1, none⟩ (.int .i64 ((rd_T42 ((rd_T40 l0_0 a1).f2) x18_1).f1)))) ?hg ?ho ?hn ?hr ?_; (case ho => rfl); (case hg => rfl); (case hn => rfl); (case hr => first | (go_simp; done) | (go_simp; rfl)); intro w65 hw; have n0_ : Aside0 (Kd.R (Kd.int .i64) 3 w65 w0.heap.size (fun k_ => (P3_ k_ ∨ w.heap.size ≤ k_)) u9000_ x3_1) := ⟨(by rw [hw]; exact (by (with_reducible repeat (first | apply Kd.R_alloc | apply Kd.R_drewN | apply Kd.R_drew)); exact Kd.R_mono (Kd.R_far (p := ⟨gb114, 1, none⟩) (Kd.R_far (p := ⟨gb114, 0, none⟩) (Kd.R_types HO_3.out BK114.out (by decide)) (fun _ hk => hk.2) (.string ((rd_T42 ((rd_T40 l0_0 a1).f2) x18_1).f0))) (fun _ hk => hk.2) (.int .i64 ((rd_T42 ((rd_T40 l0_0 a1).f2) x18_1).f1))) (fun _ hk => hk.1)))⟩; have n1_ : Aside0 (w65.heap[gb111]? = some (.cells #[.slice (some ad112) l0_0.length c0_0] 29 (0, 0))) := ⟨(by rw [hw]; exact (bf BK111 NB111_114))⟩; have n2_ : Aside0 (w65.heap[gb114]? = some (.cells #[.string ((rd_T42 ((rd_T40 l0_0 a1).f2) x18_1).f0), .int .i64 ((rd_T42 ((rd_T40 l0_0 a1).f2) x18_1).f1)] 42 (0, 0))) := ⟨(by rw [hw]; exact (by (with_reducible repeat (first | refine blk_drewN ?_ _ | refine blk_drew ?_ | refine blk_alloc ?_ _)); refine blk_put (cs := #[.string ((rd_T42 ((rd_T40 l0_0 a1).f2) x18_1).f0), .int .i64 0]) ?_ 1 _ rfl; (with_reducible repeat (first | refine blk_drewN ?_ _ | refine blk_drew ?_ | refine blk_alloc ?_ _)); refine blk_put (cs := #[.string (⟨#[]⟩ : ByteArray), .int .i64 0]) ?_ 0 _ rfl; (with_reducible repeat (first | refine blk_drewN ?_ _ | refine blk_drew ?_ | refine blk_alloc ?_ _)); exact BK114.out))⟩; have n3_ : Aside0 (Kept w w65 (fun k_ => P3_ k_)) := ⟨(by rw [hw]; exact (by repeat (first | (with_reducible first | exact HK.out | apply Kept.alloc | apply Kept.drewN | apply Kept.drew | refine Kept.setCell ?_ (.inr GW111.out) _ | refine Kept.setCell ?_ (.inr GW114.out) _) | exact HK.out)))⟩; have n4_ : Aside0 (Below w0.heap.size w0 w65) := ⟨(by rw [hw]; exact (bs2 HB GE111 GE114))⟩; clear hw; clear HO_3; clear BK111; clear BK114; clear HK; clear HB; have HO_3 := n0_; have BK111 := n1_; have BK114 := n2_; have HK := n3_; have HB := n4_; clear n0_ n1_ n2_ n3_ n4_; obtain ⟨hcz66_0, hcz66_1⟩ := cz2 BK114; obtain ⟨hfz66_0, hfz66_1⟩ := fz2 BK114; obtain ⟨Ao67, co67, eo67⟩ := Kd.R_slice HO_3.out; subst eo67; have p115 : 0 ≤ (((rd_T42 ((rd_T40 l0_0 a1).f2) x18_1).f1) : Int) := od; have q115 : ((rd_T42 ((rd_T40 l0_0 a1).f2) x18_1).f1) < (x3_1.length : Int) := od; obtain ⟨ad115, e115, hx115_0⟩ := Kd.at_int (Kd.R_reads' HO_3.out).2.2 ((rd_T42 ((rd_T40 l0_0 a1).f2) x18_1).f1) p115 q115; cases e115; replace p115 := eq_true p115; replace q115 := eq_true q115; have p14 : 0 ≤ (((rd_T42 ((rd_T40 l0_0 a1).f2) x18_1).f1) : Int) := od; have q14 : (((rd_T42 ((rd_T40 l0_0 a1).f2) x18_1).f1) : Int) < ((x3_1.length : Int) : Int) := od; obtain ⟨go14, co14, eo14, gb14, gl14, cl14, HG14⟩ := Kd.R_form HO_3.out (by omega); (first | cases eo14 | (injection eo14 with ea_ en_ ec_; (first | subst ea_ | (injection ea_ with ea_; subst ea_)); subst ec_; clear en_)); have GB14 := Ah gb14; have GG14 := Ah HG14; clear gb14 gl14 HG14; have HMgo14 := Ah (show (P3_ go14 ∨ w.heap.size ≤ go14) from (HO_3.out.1 _ rfl)); (first | simp only [add_plain] at hx115_0 | skip); obtain ⟨hx14_0, hf14_0⟩ := Kd.R_celln 0 HO_3.out (((rd_T42 ((rd_T40 l0_0 a1).f2) x18_1).f1) : Int) p14 q14; replace p14 := eq_true p14; replace q14 := eq_true q14; obtain ⟨hy68_, hz68_⟩ := Kd.R_celln 0 HO_3.out (((rd_T42 ((rd_T40 l0_0 a1).f2) x18_1).f1) : Int) (od) (od); have HP68 := Kd.R_putg HO_3.out (((rd_T42 ((rd_T40 l0_0 a1).f2) x18_1).f1) : Int) (wrap64 ((rd x3_1 ((rd_T42 ((rd_T40 l0_0 a1).f2) x18_1).f1)) + 1))) | ((with_reducible refine gate_store (t := 3) (p := 28) rfl ?_); refine store_event (t := 3) (p := 28) (v := ?vo_w69) (w1 := (w65.setCell ⟨go14, (((rd_T42 ((rd_T40 l0_0 a1).f2) x18_1).f1) : Int).toNat, none⟩ (.int .i64 (wrap64 ((rd x3_1 ((rd_T42 ((rd_T40 l0_0 a1).f2) x18_1).f1)) + 1))))) ?hg ?ho ?hn ?hr ?_; (case ho => rfl); (case hg => rfl); (case hn => rfl); (case hr => first | (go_simp; done) | (go_simp; rfl)); intro w69 hw; have hg : w65.grownBy w69 (some go14) := (by rw [hw]; exact HP68.2); have hp_ : Kd.R (Kd.int .i64) 3 w69 w0.heap.size (fun k_ => (P3_ k_ ∨ w.heap.size ≤ k_)) (.slice (some ⟨go14, 0, none⟩) x3_1.length co67) y116 := (by rw [hw, Ny116.out]; exact HP68.1); clear HP68; replace BK111 := Ah (blk_grown (bk BK111) hg (Kd.R_ne HO_3.out BK111.out (by decide))); replace BK114 := Ah (blk_grown (bk BK114) hg (Kd.R_ne HO_3.out BK114.out (by decide))); replace HB := Ah ((by rw [hw]; exact below_set (HB.out) GB14.out : Below w0.heap.size w0 w69)); replace HK := Ah (Kept.of_grown (S := (fun k_ => P3_ k_)) hg (by repeat (first | (with_reducible first | exact HK.out | apply Kept.alloc | apply Kept.drewN | apply Kept.drew | refine Kept.setCell ?_ (.inr GW111.out) _ | refine Kept.setCell ?_ (.inr GW114.out) _) | exact HK.out)) (fun k_ e_ => (HO_3.out.1 k_ e_))); replace HO_3 := Ah (hp_); clear hg hw hp_; have hcz70_0 := cz1 BK111; have hfz70_0 := fz1 BK111; obtain ⟨hcz71_0, hcz71_1⟩ := cz2 BK114; obtain ⟨hfz71_0, hfz71_1⟩ := fz2 BK114; have p117 : 0 ≤ (((rd_T42 ((rd_T40 l0_0 a1).f2) x18_1).f1) : Int) := od; have q117 : ((rd_T42 ((rd_T40 l0_0 a1).f2) x18_1).f1) < (l0_0.length : Int) := od; obtain ⟨ad117, A117_2, c117_2, e117, hx117_0, hx117_1, hx117_2, hl117_2, hi117_2⟩ := at_T40 HR0_0.out ((rd_T42 ((rd_T40 l0_0 a1).f2) x18_1).f1) p117 q117; (try rw [← Nbq25.out] at hx117_0); obtain rfl : ad112 = ad117 := (by injection e117); replace hx117_0 := (HB.out.cell (World.block_lt_of_cell? w0 _ hx117_0)).trans hx117_0; replace hx117_1 := (HB.out.cell (World.block_lt_of_cell? w0 _ hx117_1)).trans hx117_1; replace hx117_2 := (HB.out.cell (World.block_lt_of_cell? w0 _ hx117_2)).trans hx117_2; have HR117_2 := Ah hi117_2; have HC117_2 := Ah hl117_2; clear hi117_2 hl117_2; replace p117 := eq_true p117; replace q117 := eq_true q117))
    go_roundg k1
    case measure => have := HK1.out; omega
    case rel => exact ⟨(y116), (wrap64 (x18_1 + 1)), e3, H', ⟨by have := HK1.out; omega⟩, ⟨rr HO_3.out⟩, ⟨bk BK111⟩, ⟨by repeat (first | (with_reducible first | exact HK.out | apply Kept.alloc | apply Kept.drewN | apply Kept.drew | refine Kept.setCell ?_ (.inr GW111.out) _ | refine Kept.setCell ?_ (.inr GW114.out) _) | exact HK.out)⟩, ⟨bs2 HB GE111 GE114⟩⟩
   subst c26
   rw [if_pos rfl] at H
   by_cases c27 : (rd y116 ((rd_T42 ((rd_T40 l0_0 a1).f2) x18_1).f1)) > 1
   ·
    rw [if_pos c27] at H
    have c27b0 : decide (1 < (rd y116 ((rd_T42 ((rd_T40 l0_0 a1).f2) x18_1).f1))) = true := decide_eq_true c27
    clear c27
    simp only [Option.some.injEq, Prod.mk.injEq] at H
    obtain ⟨rfl, rfl⟩ := H
    have p113 : 0 ≤ (x18_1 : Int) := od
    have q113 : x18_1 < (((rd_T40 l0_0 a1).f2).length : Int) := od
    obtain ⟨ad113, e113, hx113_0, hx113_1⟩ := at_T42 HR112_2.out x18_1 p113 q113
    cases e113
    replace hx113_0 := (HB.out.cell (World.block_lt_of_cell? w0 _ hx113_0)).trans hx113_0
    replace hx113_1 := (HB.out.cell (World.block_lt_of_cell? w0 _ hx113_1)).trans hx113_1
    replace p113 := eq_true p113
    replace q113 := eq_true q113
    go_wp2_with (first | ((with_reducible refine gate_dst (N := 10) rfl ?_); refine boxL 10 42 #[.string (⟨#[]⟩ : ByteArray), .int .i64 0] ?_; intro gb114 hg w28 BK114 hb; replace HO_3 := nr HO_3 hb; have GW114 := Ah ((by rw [hg]; exact (by first | exact HK.out.1 | exact (show Kept w _ (fun k_ => P3_ k_) from by repeat (first | (with_reducible first | exact HK.out | apply Kept.alloc | apply Kept.drewN | apply Kept.drew | refine Kept.setCell ?_ (.inr GW111.out) _) | exact HK.out)).1) : w.heap.size ≤ gb114)); replace HK := Ah (Kept.below (S := (fun k_ => P3_ k_)) (by repeat (first | (with_reducible first | exact HK.out | apply Kept.alloc | apply Kept.drewN | apply Kept.drew | refine Kept.setCell ?_ (.inr GW111.out) _) | exact HK.out)) hb); have GE114 := Ah ((by rw [hg]; exact (below_size (bs1 HB GE111)) : w0.heap.size ≤ gb114)); replace HB := Ah (below_step (bs1 HB GE111) hb); have NB111_114 := nn BK111 hg; have NB114_111 := nm BK111 hg; replace BK111 := nb BK111 hb; clear hb hg; have hnb29 := NB114_111.out; have hnc29 := NB111_114.out; obtain ⟨hcz30_0, hcz30_1⟩ := cz2 BK114; obtain ⟨hfz30_0, hfz30_1⟩ := fz2 BK114) | ((with_reducible refine gate_store (t := 42) (p := 10) rfl ?_); refine store_event (t := 42) (p := 10) (v := ?vo_w31) (w1 := ((w28.setCell ⟨gb114, 0, none⟩ (.string ((rd_T42 ((rd_T40 l0_0 a1).f2) x18_1).f0))).setCell ⟨gb114, 1, none⟩ (.int .i64 ((rd_T42 ((rd_T40 l0_0 a1).f2) x18_1).f1)))) ?hg ?ho ?hn ?hr ?_; (case ho => rfl); (case hg => rfl); (case hn => rfl); (case hr => first | (go_simp; done) | (go_simp; rfl)); intro w31 hw; have n0_ : Aside0 (Kd.R (Kd.int .i64) 3 w31 w0.heap.size (fun k_ => (P3_ k_ ∨ w.heap.size ≤ k_)) u9000_ x3_1) := ⟨(by rw [hw]; exact (by (with_reducible repeat (first | apply Kd.R_alloc | apply Kd.R_drewN | apply Kd.R_drew)); exact Kd.R_mono (Kd.R_far (p := ⟨gb114, 1, none⟩) (Kd.R_far (p := ⟨gb114, 0, none⟩) (Kd.R_types HO_3.out BK114.out (by decide)) (fun _ hk => hk.2) (.string ((rd_T42 ((rd_T40 l0_0 a1).f2) x18_1).f0))) (fun _ hk => hk.2) (.int .i64 ((rd_T42 ((rd_T40 l0_0 a1).f2) x18_1).f1))) (fun _ hk => hk.1)))⟩; have n1_ : Aside0 (w31.heap[gb111]? = some (.cells #[.slice (some ad112) l0_0.length c0_0] 29 (0, 0))) := ⟨(by rw [hw]; exact (bf BK111 NB111_114))⟩; have n2_ : Aside0 (w31.heap[gb114]? = some (.cells #[.string ((rd_T42 ((rd_T40 l0_0 a1).f2) x18_1).f0), .int .i64 ((rd_T42 ((rd_T40 l0_0 a1).f2) x18_1).f1)] 42 (0, 0))) := ⟨(by rw [hw]; exact (by (with_reducible repeat (first | refine blk_drewN ?_ _ | refine blk_drew ?_ | refine blk_alloc ?_ _)); refine blk_put (cs := #[.string ((rd_T42 ((rd_T40 l0_0 a1).f2) x18_1).f0), .int .i64 0]) ?_ 1 _ rfl; (with_reducible repeat (first | refine blk_drewN ?_ _ | refine blk_drew ?_ | refine blk_alloc ?_ _)); refine blk_put (cs := #[.string (⟨#[]⟩ : ByteArray), .int .i64 0]) ?_ 0 _ rfl; (with_reducible repeat (first | refine blk_drewN ?_ _ | refine blk_drew ?_ | refine blk_alloc ?_ _)); exact BK114.out))⟩; have n3_ : Aside0 (Kept w w31 (fun k_ => P3_ k_)) := ⟨(by rw [hw]; exact (by repeat (first | (with_reducible first | exact HK.out | apply Kept.alloc | apply Kept.drewN | apply Kept.drew | refine Kept.setCell ?_ (.inr GW111.out) _ | refine Kept.setCell ?_ (.inr GW114.out) _) | exact HK.out)))⟩; have n4_ : Aside0 (Below w0.heap.size w0 w31) := ⟨(by rw [hw]; exact (bs2 HB GE111 GE114))⟩; clear hw; clear HO_3; clear BK111; clear BK114; clear HK; clear HB; have HO_3 := n0_; have BK111 := n1_; have BK114 := n2_; have HK := n3_; have HB := n4_; clear n0_ n1_ n2_ n3_ n4_; obtain ⟨hcz32_0, hcz32_1⟩ := cz2 BK114; obtain ⟨hfz32_0, hfz32_1⟩ := fz2 BK114; obtain ⟨Ao33, co33, eo33⟩ := Kd.R_slice HO_3.out; subst eo33; have p115 : 0 ≤ (((rd_T42 ((rd_T40 l0_0 a1).f2) x18_1).f1) : Int) := od; have q115 : ((rd_T42 ((rd_T40 l0_0 a1).f2) x18_1).f1) < (x3_1.length : Int) := od; obtain ⟨ad115, e115, hx115_0⟩ := Kd.at_int (Kd.R_reads' HO_3.out).2.2 ((rd_T42 ((rd_T40 l0_0 a1).f2) x18_1).f1) p115 q115; cases e115; replace p115 := eq_true p115; replace q115 := eq_true q115; have p14 : 0 ≤ (((rd_T42 ((rd_T40 l0_0 a1).f2) x18_1).f1) : Int) := od; have q14 : (((rd_T42 ((rd_T40 l0_0 a1).f2) x18_1).f1) : Int) < ((x3_1.length : Int) : Int) := od; obtain ⟨go14, co14, eo14, gb14, gl14, cl14, HG14⟩ := Kd.R_form HO_3.out (by omega); (first | cases eo14 | (injection eo14 with ea_ en_ ec_; (first | subst ea_ | (injection ea_ with ea_; subst ea_)); subst ec_; clear en_)); have GB14 := Ah gb14; have GG14 := Ah HG14; clear gb14 gl14 HG14; have HMgo14 := Ah (show (P3_ go14 ∨ w.heap.size ≤ go14) from (HO_3.out.1 _ rfl)); (first | simp only [add_plain] at hx115_0 | skip); obtain ⟨hx14_0, hf14_0⟩ := Kd.R_celln 0 HO_3.out (((rd_T42 ((rd_T40 l0_0 a1).f2) x18_1).f1) : Int) p14 q14; replace p14 := eq_true p14; replace q14 := eq_true q14; obtain ⟨hy34_, hz34_⟩ := Kd.R_celln 0 HO_3.out (((rd_T42 ((rd_T40 l0_0 a1).f2) x18_1).f1) : Int) (od) (od); have HP34 := Kd.R_putg HO_3.out (((rd_T42 ((rd_T40 l0_0 a1).f2) x18_1).f1) : Int) (wrap64 ((rd x3_1 ((rd_T42 ((rd_T40 l0_0 a1).f2) x18_1).f1)) + 1))) | ((with_reducible refine gate_store (t := 3) (p := 28) rfl ?_); refine store_event (t := 3) (p := 28) (v := ?vo_w35) (w1 := (w31.setCell ⟨go14, (((rd_T42 ((rd_T40 l0_0 a1).f2) x18_1).f1) : Int).toNat, none⟩ (.int .i64 (wrap64 ((rd x3_1 ((rd_T42 ((rd_T40 l0_0 a1).f2) x18_1).f1)) + 1))))) ?hg ?ho ?hn ?hr ?_; (case ho => rfl); (case hg => rfl); (case hn => rfl); (case hr => first | (go_simp; done) | (go_simp; rfl)); intro w35 hw; have hg : w31.grownBy w35 (some go14) := (by rw [hw]; exact HP34.2); have hp_ : Kd.R (Kd.int .i64) 3 w35 w0.heap.size (fun k_ => (P3_ k_ ∨ w.heap.size ≤ k_)) (.slice (some ⟨go14, 0, none⟩) x3_1.length co33) y116 := (by rw [hw, Ny116.out]; exact HP34.1); clear HP34; replace BK111 := Ah (blk_grown (bk BK111) hg (Kd.R_ne HO_3.out BK111.out (by decide))); replace BK114 := Ah (blk_grown (bk BK114) hg (Kd.R_ne HO_3.out BK114.out (by decide))); replace HB := Ah ((by rw [hw]; exact below_set (HB.out) GB14.out : Below w0.heap.size w0 w35)); replace HK := Ah (Kept.of_grown (S := (fun k_ => P3_ k_)) hg (by repeat (first | (with_reducible first | exact HK.out | apply Kept.alloc | apply Kept.drewN | apply Kept.drew | refine Kept.setCell ?_ (.inr GW111.out) _ | refine Kept.setCell ?_ (.inr GW114.out) _) | exact HK.out)) (fun k_ e_ => (HO_3.out.1 k_ e_))); replace HO_3 := Ah (hp_); clear hg hw hp_; have hcz36_0 := cz1 BK111; have hfz36_0 := fz1 BK111; obtain ⟨hcz37_0, hcz37_1⟩ := cz2 BK114; obtain ⟨hfz37_0, hfz37_1⟩ := fz2 BK114; have p117 : 0 ≤ (((rd_T42 ((rd_T40 l0_0 a1).f2) x18_1).f1) : Int) := od; have q117 : ((rd_T42 ((rd_T40 l0_0 a1).f2) x18_1).f1) < (l0_0.length : Int) := od; obtain ⟨ad117, A117_2, c117_2, e117, hx117_0, hx117_1, hx117_2, hl117_2, hi117_2⟩ := at_T40 HR0_0.out ((rd_T42 ((rd_T40 l0_0 a1).f2) x18_1).f1) p117 q117; (try rw [← Nbq25.out] at hx117_0); obtain rfl : ad112 = ad117 := (by injection e117); replace hx117_0 := (HB.out.cell (World.block_lt_of_cell? w0 _ hx117_0)).trans hx117_0; replace hx117_1 := (HB.out.cell (World.block_lt_of_cell? w0 _ hx117_1)).trans hx117_1; replace hx117_2 := (HB.out.cell (World.block_lt_of_cell? w0 _ hx117_2)).trans hx117_2; have HR117_2 := Ah hi117_2; have HC117_2 := Ah hl117_2; clear hi117_2 hl117_2; replace p117 := eq_true p117; replace q117 := eq_true q117; have p118 : 0 ≤ (((rd_T42 ((rd_T40 l0_0 a1).f2) x18_1).f1) : Int) := od; have q118 : ((rd_T42 ((rd_T40 l0_0 a1).f2) x18_1).f1) < (y116.length : Int) := (by have h_ : (((rd_T42 ((rd_T40 l0_0 a1).f2) x18_1).f1) : Int) < ((x3_1.length : Int) : Int) := od; first | (have e_ := (Kd.R_reads' HO_3.out).1; omega) | simpa only [Ny116.out, List.length_set] using h_); have ql118 : ((((rd_T42 ((rd_T40 l0_0 a1).f2) x18_1).f1) : Int) < ((x3_1.length : Int) : Int)) = True := eq_true (od); obtain ⟨ad118, e118, hx118_0⟩ := Kd.at_int (Kd.R_reads' HO_3.out).2.2 ((rd_T42 ((rd_T40 l0_0 a1).f2) x18_1).f1) p118 q118; obtain rfl : (⟨go14, 0, none⟩ : Addr) = ad118 := (by injection e118); (first | simp only [add_plain] at hx118_0 | simp only [add_at] at hx118_0 | simp only [Addr.add, Nat.zero_add] at hx118_0 | skip); replace p118 := eq_true p118; replace q118 := eq_true q118))
    go_ret
    exact ⟨er, by (with_reducible repeat (first | apply Kd.R_alloc | apply Kd.R_drewN | apply Kd.R_drew)); exact HO_3.out, bs2 HB GE111 GE114, by repeat (first | (with_reducible first | exact HK.out | apply Kept.alloc | apply Kept.drewN | apply Kept.drew | refine Kept.setCell ?_ (.inr GW111.out) _ | refine Kept.setCell ?_ (.inr GW114.out) _) | exact HK.out)⟩
   rw [if_neg c27] at H
   have c27b0 : decide (1 < (rd y116 ((rd_T42 ((rd_T40 l0_0 a1).f2) x18_1).f1))) = false := decide_eq_false c27
   clear c27
   replace H := Option.bind_eq_some_iff.mp H
   obtain ⟨⟨t119, t120⟩, A380, H⟩ := H
   try dsimp only at H
   have A38 := Ah A380
   clear A380
   by_cases c39 : t119 = true
   ·
    subst c39
    rw [if_pos rfl] at H
    have H' := Ah H
    clear H
    have p113 : 0 ≤ (x18_1 : Int) := od
    have q113 : x18_1 < (((rd_T40 l0_0 a1).f2).length : Int) := od
    obtain ⟨ad113, e113, hx113_0, hx113_1⟩ := at_T42 HR112_2.out x18_1 p113 q113
    cases e113
    replace hx113_0 := (HB.out.cell (World.block_lt_of_cell? w0 _ hx113_0)).trans hx113_0
    replace hx113_1 := (HB.out.cell (World.block_lt_of_cell? w0 _ hx113_1)).trans hx113_1
    replace p113 := eq_true p113
    replace q113 := eq_true q113
    go_wp2_with (first | ((with_reducible refine gate_dst (N := 10) rfl ?_); refine boxL 10 42 #[.string (⟨#[]⟩ : ByteArray), .int .i64 0] ?_; intro gb114 hg w40 BK114 hb; replace HO_3 := nr HO_3 hb; have GW114 := Ah ((by rw [hg]; exact (by first | exact HK.out.1 | exact (show Kept w _ (fun k_ => P3_ k_) from by repeat (first | (with_reducible first | exact HK.out | apply Kept.alloc | apply Kept.drewN | apply Kept.drew | refine Kept.setCell ?_ (.inr GW111.out) _) | exact HK.out)).1) : w.heap.size ≤ gb114)); replace HK := Ah (Kept.below (S := (fun k_ => P3_ k_)) (by repeat (first | (with_reducible first | exact HK.out | apply Kept.alloc | apply Kept.drewN | apply Kept.drew | refine Kept.setCell ?_ (.inr GW111.out) _) | exact HK.out)) hb); have GE114 := Ah ((by rw [hg]; exact (below_size (bs1 HB GE111)) : w0.heap.size ≤ gb114)); replace HB := Ah (below_step (bs1 HB GE111) hb); have NB111_114 := nn BK111 hg; have NB114_111 := nm BK111 hg; replace BK111 := nb BK111 hb; clear hb hg; have hnb41 := NB114_111.out; have hnc41 := NB111_114.out; obtain ⟨hcz42_0, hcz42_1⟩ := cz2 BK114; obtain ⟨hfz42_0, hfz42_1⟩ := fz2 BK114) | ((with_reducible refine gate_store (t := 42) (p := 10) rfl ?_); refine store_event (t := 42) (p := 10) (v := ?vo_w43) (w1 := ((w40.setCell ⟨gb114, 0, none⟩ (.string ((rd_T42 ((rd_T40 l0_0 a1).f2) x18_1).f0))).setCell ⟨gb114, 1, none⟩ (.int .i64 ((rd_T42 ((rd_T40 l0_0 a1).f2) x18_1).f1)))) ?hg ?ho ?hn ?hr ?_; (case ho => rfl); (case hg => rfl); (case hn => rfl); (case hr => first | (go_simp; done) | (go_simp; rfl)); intro w43 hw; have n0_ : Aside0 (Kd.R (Kd.int .i64) 3 w43 w0.heap.size (fun k_ => (P3_ k_ ∨ w.heap.size ≤ k_)) u9000_ x3_1) := ⟨(by rw [hw]; exact (by (with_reducible repeat (first | apply Kd.R_alloc | apply Kd.R_drewN | apply Kd.R_drew)); exact Kd.R_mono (Kd.R_far (p := ⟨gb114, 1, none⟩) (Kd.R_far (p := ⟨gb114, 0, none⟩) (Kd.R_types HO_3.out BK114.out (by decide)) (fun _ hk => hk.2) (.string ((rd_T42 ((rd_T40 l0_0 a1).f2) x18_1).f0))) (fun _ hk => hk.2) (.int .i64 ((rd_T42 ((rd_T40 l0_0 a1).f2) x18_1).f1))) (fun _ hk => hk.1)))⟩; have n1_ : Aside0 (w43.heap[gb111]? = some (.cells #[.slice (some ad112) l0_0.length c0_0] 29 (0, 0))) := ⟨(by rw [hw]; exact (bf BK111 NB111_114))⟩; have n2_ : Aside0 (w43.heap[gb114]? = some (.cells #[.string ((rd_T42 ((rd_T40 l0_0 a1).f2) x18_1).f0), .int .i64 ((rd_T42 ((rd_T40 l0_0 a1).f2) x18_1).f1)] 42 (0, 0))) := ⟨(by rw [hw]; exact (by (with_reducible repeat (first | refine blk_drewN ?_ _ | refine blk_drew ?_ | refine blk_alloc ?_ _)); refine blk_put (cs := #[.string ((rd_T42 ((rd_T40 l0_0 a1).f2) x18_1).f0), .int .i64 0]) ?_ 1 _ rfl; (with_reducible repeat (first | refine blk_drewN ?_ _ | refine blk_drew ?_ | refine blk_alloc ?_ _)); refine blk_put (cs := #[.string (⟨#[]⟩ : ByteArray), .int .i64 0]) ?_ 0 _ rfl; (with_reducible repeat (first | refine blk_drewN ?_ _ | refine blk_drew ?_ | refine blk_alloc ?_ _)); exact BK114.out))⟩; have n3_ : Aside0 (Kept w w43 (fun k_ => P3_ k_)) := ⟨(by rw [hw]; exact (by repeat (first | (with_reducible first | exact HK.out | apply Kept.alloc | apply Kept.drewN | apply Kept.drew | refine Kept.setCell ?_ (.inr GW111.out) _ | refine Kept.setCell ?_ (.inr GW114.out) _) | exact HK.out)))⟩; have n4_ : Aside0 (Below w0.heap.size w0 w43) := ⟨(by rw [hw]; exact (bs2 HB GE111 GE114))⟩; clear hw; clear HO_3; clear BK111; clear BK114; clear HK; clear HB; have HO_3 := n0_; have BK111 := n1_; have BK114 := n2_; have HK := n3_; have HB := n4_; clear n0_ n1_ n2_ n3_ n4_; obtain ⟨hcz44_0, hcz44_1⟩ := cz2 BK114; obtain ⟨hfz44_0, hfz44_1⟩ := fz2 BK114; obtain ⟨Ao45, co45, eo45⟩ := Kd.R_slice HO_3.out; subst eo45; have p115 : 0 ≤ (((rd_T42 ((rd_T40 l0_0 a1).f2) x18_1).f1) : Int) := od; have q115 : ((rd_T42 ((rd_T40 l0_0 a1).f2) x18_1).f1) < (x3_1.length : Int) := od; obtain ⟨ad115, e115, hx115_0⟩ := Kd.at_int (Kd.R_reads' HO_3.out).2.2 ((rd_T42 ((rd_T40 l0_0 a1).f2) x18_1).f1) p115 q115; cases e115; replace p115 := eq_true p115; replace q115 := eq_true q115; have p14 : 0 ≤ (((rd_T42 ((rd_T40 l0_0 a1).f2) x18_1).f1) : Int) := od; have q14 : (((rd_T42 ((rd_T40 l0_0 a1).f2) x18_1).f1) : Int) < ((x3_1.length : Int) : Int) := od; obtain ⟨go14, co14, eo14, gb14, gl14, cl14, HG14⟩ := Kd.R_form HO_3.out (by omega); (first | cases eo14 | (injection eo14 with ea_ en_ ec_; (first | subst ea_ | (injection ea_ with ea_; subst ea_)); subst ec_; clear en_)); have GB14 := Ah gb14; have GG14 := Ah HG14; clear gb14 gl14 HG14; have HMgo14 := Ah (show (P3_ go14 ∨ w.heap.size ≤ go14) from (HO_3.out.1 _ rfl)); (first | simp only [add_plain] at hx115_0 | skip); obtain ⟨hx14_0, hf14_0⟩ := Kd.R_celln 0 HO_3.out (((rd_T42 ((rd_T40 l0_0 a1).f2) x18_1).f1) : Int) p14 q14; replace p14 := eq_true p14; replace q14 := eq_true q14; obtain ⟨hy46_, hz46_⟩ := Kd.R_celln 0 HO_3.out (((rd_T42 ((rd_T40 l0_0 a1).f2) x18_1).f1) : Int) (od) (od); have HP46 := Kd.R_putg HO_3.out (((rd_T42 ((rd_T40 l0_0 a1).f2) x18_1).f1) : Int) (wrap64 ((rd x3_1 ((rd_T42 ((rd_T40 l0_0 a1).f2) x18_1).f1)) + 1))) | ((with_reducible refine gate_store (t := 3) (p := 28) rfl ?_); refine store_event (t := 3) (p := 28) (v := ?vo_w47) (w1 := (w43.setCell ⟨go14, (((rd_T42 ((rd_T40 l0_0 a1).f2) x18_1).f1) : Int).toNat, none⟩ (.int .i64 (wrap64 ((rd x3_1 ((rd_T42 ((rd_T40 l0_0 a1).f2) x18_1).f1)) + 1))))) ?hg ?ho ?hn ?hr ?_; (case ho => rfl); (case hg => rfl); (case hn => rfl); (case hr => first | (go_simp; done) | (go_simp; rfl)); intro w47 hw; have hg : w43.grownBy w47 (some go14) := (by rw [hw]; exact HP46.2); have hp_ : Kd.R (Kd.int .i64) 3 w47 w0.heap.size (fun k_ => (P3_ k_ ∨ w.heap.size ≤ k_)) (.slice (some ⟨go14, 0, none⟩) x3_1.length co45) y116 := (by rw [hw, Ny116.out]; exact HP46.1); clear HP46; replace BK111 := Ah (blk_grown (bk BK111) hg (Kd.R_ne HO_3.out BK111.out (by decide))); replace BK114 := Ah (blk_grown (bk BK114) hg (Kd.R_ne HO_3.out BK114.out (by decide))); replace HB := Ah ((by rw [hw]; exact below_set (HB.out) GB14.out : Below w0.heap.size w0 w47)); replace HK := Ah (Kept.of_grown (S := (fun k_ => P3_ k_)) hg (by repeat (first | (with_reducible first | exact HK.out | apply Kept.alloc | apply Kept.drewN | apply Kept.drew | refine Kept.setCell ?_ (.inr GW111.out) _ | refine Kept.setCell ?_ (.inr GW114.out) _) | exact HK.out)) (fun k_ e_ => (HO_3.out.1 k_ e_))); replace HO_3 := Ah (hp_); clear hg hw hp_; have hcz48_0 := cz1 BK111; have hfz48_0 := fz1 BK111; obtain ⟨hcz49_0, hcz49_1⟩ := cz2 BK114; obtain ⟨hfz49_0, hfz49_1⟩ := fz2 BK114; have p117 : 0 ≤ (((rd_T42 ((rd_T40 l0_0 a1).f2) x18_1).f1) : Int) := od; have q117 : ((rd_T42 ((rd_T40 l0_0 a1).f2) x18_1).f1) < (l0_0.length : Int) := od; obtain ⟨ad117, A117_2, c117_2, e117, hx117_0, hx117_1, hx117_2, hl117_2, hi117_2⟩ := at_T40 HR0_0.out ((rd_T42 ((rd_T40 l0_0 a1).f2) x18_1).f1) p117 q117; (try rw [← Nbq25.out] at hx117_0); obtain rfl : ad112 = ad117 := (by injection e117); replace hx117_0 := (HB.out.cell (World.block_lt_of_cell? w0 _ hx117_0)).trans hx117_0; replace hx117_1 := (HB.out.cell (World.block_lt_of_cell? w0 _ hx117_1)).trans hx117_1; replace hx117_2 := (HB.out.cell (World.block_lt_of_cell? w0 _ hx117_2)).trans hx117_2; have HR117_2 := Ah hi117_2; have HC117_2 := Ah hl117_2; clear hi117_2 hl117_2; replace p117 := eq_true p117; replace q117 := eq_true q117; have p118 : 0 ≤ (((rd_T42 ((rd_T40 l0_0 a1).f2) x18_1).f1) : Int) := od; have q118 : ((rd_T42 ((rd_T40 l0_0 a1).f2) x18_1).f1) < (y116.length : Int) := (by have h_ : (((rd_T42 ((rd_T40 l0_0 a1).f2) x18_1).f1) : Int) < ((x3_1.length : Int) : Int) := od; first | (have e_ := (Kd.R_reads' HO_3.out).1; omega) | simpa only [Ny116.out, List.length_set] using h_); have ql118 : ((((rd_T42 ((rd_T40 l0_0 a1).f2) x18_1).f1) : Int) < ((x3_1.length : Int) : Int)) = True := eq_true (od); obtain ⟨ad118, e118, hx118_0⟩ := Kd.at_int (Kd.R_reads' HO_3.out).2.2 ((rd_T42 ((rd_T40 l0_0 a1).f2) x18_1).f1) p118 q118; obtain rfl : (⟨go14, 0, none⟩ : Addr) = ad118 := (by injection e118); (first | simp only [add_plain] at hx118_0 | simp only [add_at] at hx118_0 | simp only [Addr.add, Nat.zero_add] at hx118_0 | skip); replace p118 := eq_true p118; replace q118 := eq_true q118) | (go_at_call 15; (with_reducible refine (ih k1 (by have := HK1.out; omega) _ _ l0_0 ((rd_T42 ((rd_T40 l0_0 a1).f2) x18_1).f1) (wrap64 (a2 + 1)) (fun k_ => some k_ = (.slice (some ⟨go14, 0, none⟩) x3_1.length co45 : Value).ownBlock) (.slice (some ⟨go14, 0, none⟩) x3_1.length co45) y116 true t120 w0 _ ?side1 ?side2 ?side3 ?side4 A38.out).mono ?_); (case side1 => repeat (first | (with_reducible first | exact HB.out | apply below_alloc | apply pw_below_drewN | apply below_drew1 | refine below_set ?_ GE111.out | refine below_set ?_ GE114.out) | exact HB.out)); (case side2 => exact HR0_0.out); (case side3 => exact HC0_0.out); (case side4 => exact Kd.R_tight rfl HO_3.out); rintro e w50 ⟨rfl, hy0, hb, hkp⟩; replace BK111 := Ah (blk_kept (bk BK111) hkp (fun hs_ => (fun e_ => (Kd.R_ne HO_3.out BK111.out (by decide)) e_) hs_)); replace BK114 := Ah (blk_kept (bk BK114) hkp (fun hs_ => (fun e_ => (Kd.R_ne HO_3.out BK114.out (by decide)) e_) hs_)); replace HK := Ah (Kept.then_ (S := (fun k_ => P3_ k_)) (by repeat (first | (with_reducible first | exact HK.out | apply Kept.alloc | apply Kept.drewN | apply Kept.drew | refine Kept.setCell ?_ (.inr GW111.out) _ | refine Kept.setCell ?_ (.inr GW114.out) _) | exact HK.out)) hkp (fun k_ hs_ => (fun e_ => (HO_3.out.1 k_ e_.symm)) hs_)); replace HO_3 := Ah (Kd.R_reok rfl hy0 (fun k_ e_ => HO_3.out.1 k_ e_)); replace HB := Ah (hb); (try clear hb hkp hy0)))
    go_roundg k1
    case measure => have := HK1.out; omega
    case rel => exact ⟨(t120), (wrap64 (x18_1 + 1)), e3, H', ⟨by have := HK1.out; omega⟩, ⟨rr HO_3.out⟩, ⟨bk BK111⟩, ⟨by repeat (first | (with_reducible first | exact HK.out | apply Kept.alloc | apply Kept.drewN | apply Kept.drew | refine Kept.setCell ?_ (.inr GW111.out) _ | refine Kept.setCell ?_ (.inr GW114.out) _) | exact HK.out)⟩, ⟨bs2 HB GE111 GE114⟩⟩
   replace c39 := Bool.eq_false_iff.mpr c39
   subst c39
   rw [if_neg fne] at H
   simp only [Option.some.injEq, Prod.mk.injEq] at H
   obtain ⟨rfl, rfl⟩ := H
   have p113 : 0 ≤ (x18_1 : Int) := od
   have q113 : x18_1 < (((rd_T40 l0_0 a1).f2).length : Int) := od
   obtain ⟨ad113, e113, hx113_0, hx113_1⟩ := at_T42 HR112_2.out x18_1 p113 q113
   cases e113
   replace hx113_0 := (HB.out.cell (World.block_lt_of_cell? w0 _ hx113_0)).trans hx113_0
   replace hx113_1 := (HB.out.cell (World.block_lt_of_cell? w0 _ hx113_1)).trans hx113_1
   replace p113 := eq_true p113
   replace q113 := eq_true q113
   go_wp2_with (first | ((with_reducible refine gate_dst (N := 10) rfl ?_); refine boxL 10 42 #[.string (⟨#[]⟩ : ByteArray), .int .i64 0] ?_; intro gb114 hg w51 BK114 hb; replace HO_3 := nr HO_3 hb; have GW114 := Ah ((by rw [hg]; exact (by first | exact HK.out.1 | exact (show Kept w _ (fun k_ => P3_ k_) from by repeat (first | (with_reducible first | exact HK.out | apply Kept.alloc | apply Kept.drewN | apply Kept.drew | refine Kept.setCell ?_ (.inr GW111.out) _) | exact HK.out)).1) : w.heap.size ≤ gb114)); replace HK := Ah (Kept.below (S := (fun k_ => P3_ k_)) (by repeat (first | (with_reducible first | exact HK.out | apply Kept.alloc | apply Kept.drewN | apply Kept.drew | refine Kept.setCell ?_ (.inr GW111.out) _) | exact HK.out)) hb); have GE114 := Ah ((by rw [hg]; exact (below_size (bs1 HB GE111)) : w0.heap.size ≤ gb114)); replace HB := Ah (below_step (bs1 HB GE111) hb); have NB111_114 := nn BK111 hg; have NB114_111 := nm BK111 hg; replace BK111 := nb BK111 hb; clear hb hg; have hnb52 := NB114_111.out; have hnc52 := NB111_114.out; obtain ⟨hcz53_0, hcz53_1⟩ := cz2 BK114; obtain ⟨hfz53_0, hfz53_1⟩ := fz2 BK114) | ((with_reducible refine gate_store (t := 42) (p := 10) rfl ?_); refine store_event (t := 42) (p := 10) (v := ?vo_w54) (w1 := ((w51.setCell ⟨gb114, 0, none⟩ (.string ((rd_T42 ((rd_T40 l0_0 a1).f2) x18_1).f0))).setCell ⟨gb114, 1, none⟩ (.int .i64 ((rd_T42 ((rd_T40 l0_0 a1).f2) x18_1).f1)))) ?hg ?ho ?hn ?hr ?_; (case ho => rfl); (case hg => rfl); (case hn => rfl); (case hr => first | (go_simp; done) | (go_simp; rfl)); intro w54 hw; have n0_ : Aside0 (Kd.R (Kd.int .i64) 3 w54 w0.heap.size (fun k_ => (P3_ k_ ∨ w.heap.size ≤ k_)) u9000_ x3_1) := ⟨(by rw [hw]; exact (by (with_reducible repeat (first | apply Kd.R_alloc | apply Kd.R_drewN | apply Kd.R_drew)); exact Kd.R_mono (Kd.R_far (p := ⟨gb114, 1, none⟩) (Kd.R_far (p := ⟨gb114, 0, none⟩) (Kd.R_types HO_3.out BK114.out (by decide)) (fun _ hk => hk.2) (.string ((rd_T42 ((rd_T40 l0_0 a1).f2) x18_1).f0))) (fun _ hk => hk.2) (.int .i64 ((rd_T42 ((rd_T40 l0_0 a1).f2) x18_1).f1))) (fun _ hk => hk.1)))⟩; have n1_ : Aside0 (w54.heap[gb111]? = some (.cells #[.slice (some ad112) l0_0.length c0_0] 29 (0, 0))) := ⟨(by rw [hw]; exact (bf BK111 NB111_114))⟩; have n2_ : Aside0 (w54.heap[gb114]? = some (.cells #[.string ((rd_T42 ((rd_T40 l0_0 a1).f2) x18_1).f0), .int .i64 ((rd_T42 ((rd_T40 l0_0 a1).f2) x18_1).f1)] 42 (0, 0))) := ⟨(by rw [hw]; exact (by (with_reducible repeat (first | refine blk_drewN ?_ _ | refine blk_drew ?_ | refine blk_alloc ?_ _)); refine blk_put (cs := #[.string ((rd_T42 ((rd_T40 l0_0 a1).f2) x18_1).f0), .int .i64 0]) ?_ 1 _ rfl; (with_reducible repeat (first | refine blk_drewN ?_ _ | refine blk_drew ?_ | refine blk_alloc ?_ _)); refine blk_put (cs := #[.string (⟨#[]⟩ : ByteArray), .int .i64 0]) ?_ 0 _ rfl; (with_reducible repeat (first | refine blk_drewN ?_ _ | refine blk_drew ?_ | refine blk_alloc ?_ _)); exact BK114.out))⟩; have n3_ : Aside0 (Kept w w54 (fun k_ => P3_ k_)) := ⟨(by rw [hw]; exact (by repeat (first | (with_reducible first | exact HK.out | apply Kept.alloc | apply Kept.drewN | apply Kept.drew | refine Kept.setCell ?_ (.inr GW111.out) _ | refine Kept.setCell ?_ (.inr GW114.out) _) | exact HK.out)))⟩; have n4_ : Aside0 (Below w0.heap.size w0 w54) := ⟨(by rw [hw]; exact (bs2 HB GE111 GE114))⟩; clear hw; clear HO_3; clear BK111; clear BK114; clear HK; clear HB; have HO_3 := n0_; have BK111 := n1_; have BK114 := n2_; have HK := n3_; have HB := n4_; clear n0_ n1_ n2_ n3_ n4_; obtain ⟨hcz55_0, hcz55_1⟩ := cz2 BK114; obtain ⟨hfz55_0, hfz55_1⟩ := fz2 BK114; obtain ⟨Ao56, co56, eo56⟩ := Kd.R_slice HO_3.out; subst eo56; have p115 : 0 ≤ (((rd_T42 ((rd_T40 l0_0 a1).f2) x18_1).f1) : Int) := od; have q115 : ((rd_T42 ((rd_T40 l0_0 a1).f2) x18_1).f1) < (x3_1.length : Int) := od; obtain ⟨ad115, e115, hx115_0⟩ := Kd.at_int (Kd.R_reads' HO_3.out).2.2 ((rd_T42 ((rd_T40 l0_0 a1).f2) x18_1).f1) p115 q115; cases e115; replace p115 := eq_true p115; replace q115 := eq_true q115; have p14 : 0 ≤ (((rd_T42 ((rd_T40 l0_0 a1).f2) x18_1).f1) : Int) := od; have q14 : (((rd_T42 ((rd_T40 l0_0 a1).f2) x18_1).f1) : Int) < ((x3_1.length : Int) : Int) := od; obtain ⟨go14, co14, eo14, gb14, gl14, cl14, HG14⟩ := Kd.R_form HO_3.out (by omega); (first | cases eo14 | (injection eo14 with ea_ en_ ec_; (first | subst ea_ | (injection ea_ with ea_; subst ea_)); subst ec_; clear en_)); have GB14 := Ah gb14; have GG14 := Ah HG14; clear gb14 gl14 HG14; have HMgo14 := Ah (show (P3_ go14 ∨ w.heap.size ≤ go14) from (HO_3.out.1 _ rfl)); (first | simp only [add_plain] at hx115_0 | skip); obtain ⟨hx14_0, hf14_0⟩ := Kd.R_celln 0 HO_3.out (((rd_T42 ((rd_T40 l0_0 a1).f2) x18_1).f1) : Int) p14 q14; replace p14 := eq_true p14; replace q14 := eq_true q14; obtain ⟨hy57_, hz57_⟩ := Kd.R_celln 0 HO_3.out (((rd_T42 ((rd_T40 l0_0 a1).f2) x18_1).f1) : Int) (od) (od); have HP57 := Kd.R_putg HO_3.out (((rd_T42 ((rd_T40 l0_0 a1).f2) x18_1).f1) : Int) (wrap64 ((rd x3_1 ((rd_T42 ((rd_T40 l0_0 a1).f2) x18_1).f1)) + 1))) | ((with_reducible refine gate_store (t := 3) (p := 28) rfl ?_); refine store_event (t := 3) (p := 28) (v := ?vo_w58) (w1 := (w54.setCell ⟨go14, (((rd_T42 ((rd_T40 l0_0 a1).f2) x18_1).f1) : Int).toNat, none⟩ (.int .i64 (wrap64 ((rd x3_1 ((rd_T42 ((rd_T40 l0_0 a1).f2) x18_1).f1)) + 1))))) ?hg ?ho ?hn ?hr ?_; (case ho => rfl); (case hg => rfl); (case hn => rfl); (case hr => first | (go_simp; done) | (go_simp; rfl)); intro w58 hw; have hg : w54.grownBy w58 (some go14) := (by rw [hw]; exact HP57.2); have hp_ : Kd.R (Kd.int .i64) 3 w58 w0.heap.size (fun k_ => (P3_ k_ ∨ w.heap.size ≤ k_)) (.slice (some ⟨go14, 0, none⟩) x3_1.length co56) y116 := (by rw [hw, Ny116.out]; exact HP57.1); clear HP57; replace BK111 := Ah (blk_grown (bk BK111) hg (Kd.R_ne HO_3.out BK111.out (by decide))); replace BK114 := Ah (blk_grown (bk BK114) hg (Kd.R_ne HO_3.out BK114.out (by decide))); replace HB := Ah ((by rw [hw]; exact below_set (HB.out) GB14.out : Below w0.heap.size w0 w58)); replace HK := Ah (Kept.of_grown (S := (fun k_ => P3_ k_)) hg (by repeat (first | (with_reducible first | exact HK.out | apply Kept.alloc | apply Kept.drewN | apply Kept.drew | refine Kept.setCell ?_ (.inr GW111.out) _ | refine Kept.setCell ?_ (.inr GW114.out) _) | exact HK.out)) (fun k_ e_ => (HO_3.out.1 k_ e_))); replace HO_3 := Ah (hp_); clear hg hw hp_; have hcz59_0 := cz1 BK111; have hfz59_0 := fz1 BK111; obtain ⟨hcz60_0, hcz60_1⟩ := cz2 BK114; obtain ⟨hfz60_0, hfz60_1⟩ := fz2 BK114; have p117 : 0 ≤ (((rd_T42 ((rd_T40 l0_0 a1).f2) x18_1).f1) : Int) := od; have q117 : ((rd_T42 ((rd_T40 l0_0 a1).f2) x18_1).f1) < (l0_0.length : Int) := od; obtain ⟨ad117, A117_2, c117_2, e117, hx117_0, hx117_1, hx117_2, hl117_2, hi117_2⟩ := at_T40 HR0_0.out ((rd_T42 ((rd_T40 l0_0 a1).f2) x18_1).f1) p117 q117; (try rw [← Nbq25.out] at hx117_0); obtain rfl : ad112 = ad117 := (by injection e117); replace hx117_0 := (HB.out.cell (World.block_lt_of_cell? w0 _ hx117_0)).trans hx117_0; replace hx117_1 := (HB.out.cell (World.block_lt_of_cell? w0 _ hx117_1)).trans hx117_1; replace hx117_2 := (HB.out.cell (World.block_lt_of_cell? w0 _ hx117_2)).trans hx117_2; have HR117_2 := Ah hi117_2; have HC117_2 := Ah hl117_2; clear hi117_2 hl117_2; replace p117 := eq_true p117; replace q117 := eq_true q117; have p118 : 0 ≤ (((rd_T42 ((rd_T40 l0_0 a1).f2) x18_1).f1) : Int) := od; have q118 : ((rd_T42 ((rd_T40 l0_0 a1).f2) x18_1).f1) < (y116.length : Int) := (by have h_ : (((rd_T42 ((rd_T40 l0_0 a1).f2) x18_1).f1) : Int) < ((x3_1.length : Int) : Int) := od; first | (have e_ := (Kd.R_reads' HO_3.out).1; omega) | simpa only [Ny116.out, List.length_set] using h_); have ql118 : ((((rd_T42 ((rd_T40 l0_0 a1).f2) x18_1).f1) : Int) < ((x3_1.length : Int) : Int)) = True := eq_true (od); obtain ⟨ad118, e118, hx118_0⟩ := Kd.at_int (Kd.R_reads' HO_3.out).2.2 ((rd_T42 ((rd_T40 l0_0 a1).f2) x18_1).f1) p118 q118; obtain rfl : (⟨go14, 0, none⟩ : Addr) = ad118 := (by injection e118); (first | simp only [add_plain] at hx118_0 | simp only [add_at] at hx118_0 | simp only [Addr.add, Nat.zero_add] at hx118_0 | skip); replace p118 := eq_true p118; replace q118 := eq_true q118) | (go_at_call 15; (with_reducible refine (ih k1 (by have := HK1.out; omega) _ _ l0_0 ((rd_T42 ((rd_T40 l0_0 a1).f2) x18_1).f1) (wrap64 (a2 + 1)) (fun k_ => some k_ = (.slice (some ⟨go14, 0, none⟩) x3_1.length co56 : Value).ownBlock) (.slice (some ⟨go14, 0, none⟩) x3_1.length co56) y116 false t120 w0 _ ?side1 ?side2 ?side3 ?side4 A38.out).mono ?_); (case side1 => repeat (first | (with_reducible first | exact HB.out | apply below_alloc | apply pw_below_drewN | apply below_drew1 | refine below_set ?_ GE111.out | refine below_set ?_ GE114.out) | exact HB.out)); (case side2 => exact HR0_0.out); (case side3 => exact HC0_0.out); (case side4 => exact Kd.R_tight rfl HO_3.out); rintro e w61 ⟨rfl, hy0, hb, hkp⟩; replace BK111 := Ah (blk_kept (bk BK111) hkp (fun hs_ => (fun e_ => (Kd.R_ne HO_3.out BK111.out (by decide)) e_) hs_)); replace BK114 := Ah (blk_kept (bk BK114) hkp (fun hs_ => (fun e_ => (Kd.R_ne HO_3.out BK114.out (by decide)) e_) hs_)); replace HK := Ah (Kept.then_ (S := (fun k_ => P3_ k_)) (by repeat (first | (with_reducible first | exact HK.out | apply Kept.alloc | apply Kept.drewN | apply Kept.drew | refine Kept.setCell ?_ (.inr GW111.out) _ | refine Kept.setCell ?_ (.inr GW114.out) _) | exact HK.out)) hkp (fun k_ hs_ => (fun e_ => (HO_3.out.1 k_ e_.symm)) hs_)); replace HO_3 := Ah (Kd.R_reok rfl hy0 (fun k_ e_ => HO_3.out.1 k_ e_)); replace HB := Ah (hb); (try clear hb hkp hy0)))
   go_ret
   exact ⟨er, by (with_reducible repeat (first | apply Kd.R_alloc | apply Kd.R_drewN | apply Kd.R_drew)); exact HO_3.out, bs2 HB GE111 GE114, by repeat (first | (with_reducible first | exact HK.out | apply Kept.alloc | apply Kept.drewN | apply Kept.drew | refine Kept.setCell ?_ (.inr GW111.out) _ | refine Kept.setCell ?_ (.inr GW114.out) _) | exact HK.out)⟩

/-! ### spec_GoodNames: function 6 -/
mutual
def spec_GoodNames.j0 : Nat → Int → Bool → List (S40) → Option (Bool)
 | 0, _, _, _ => none
 | k + 1, x3, x32, x122000 => if x32 = true then (some false) else (spec_GoodNames.l0 k x3 x122000 (x122000.length : Int) 0 x122000)
def spec_GoodNames.l0 : Nat → Int → List (S40) → Int → Int → List (S40) → Option (Bool)
 | 0, _, _, _, _, _ => none
 | k + 1, x3, x34, x35, x36, x122000 => if x36 < x35 then (if 0 ≤ x36 then (if x36 < (x34.length : Int) then (spec_GoodNames.l1 k x3 x34 x35 x36 ((rd_T40 x34 x36).f2) (((rd_T40 x34 x36).f2).length : Int) 0 x122000 ((rd_T40 x34 x36).f0) ((rd_T40 x34 x36).f1) ((rd_T40 x34 x36).f2)) else (none)) else (none)) else (if 0 ≤ x3 then (if (x3 : Int).toNat ≤ 35184372088832 then ((spec_l13Seen.f k x122000 0 0 (List.replicate (x3 : Int).toNat 0)).bind fun bt135 => (if bt135.1 = true then (spec_GoodNames.l2 k bt135.2 x122000 (x122000.length : Int) 0) else (some false))) else (none)) else (none))
def spec_GoodNames.l1 : Nat → Int → List (S40) → Int → Int → List (S42) → Int → Int → List (S40) → Bool → Int → List (S42) → Option (Bool)
 | 0, _, _, _, _, _, _, _, _, _, _, _ => none
 | k + 1, x3, x34, x35, x36, x41, x42, x43, x122000, x127000, x127001, x127002 => if x43 < x42 then (if 0 ≤ x43 then (if x43 < (x41.length : Int) then ((spec_l8Name.f k ((rd_T42 x41 x43).f0)).bind fun t129 => (if t129 = true then ((spec_l1In.f ((rd_T42 x41 x43).f1) 1 (wrap64 (x3 - 1))).bind fun t130 => (if t130 = true then (if x43 > 0 then (if 0 ≤ (wrap64 (x43 - 1)) then (if (wrap64 (x43 - 1)) < (x127002.length : Int) then (if ((Op.bytesLess (((rd_T42 x127002 (wrap64 (x43 - 1))).f0).toList) (((rd_T42 x41 x43).f0).toList)) = true) then (spec_GoodNames.l1 k x3 x34 x35 x36 x41 x42 (wrap64 (x43 + 1)) x122000 x127000 x127001 x127002) else (some false)) else (none)) else (none)) else (spec_GoodNames.l1 k x3 x34 x35 x36 x41 x42 (wrap64 (x43 + 1)) x122000 x127000 x127001 x127002)) else (some false))) else (some false))) else (none)) else (none)) else (if x127000 = true then (if (x127002.length : Int) > 20 then (some false) else (spec_GoodNames.l0 k x3 x34 x35 (wrap64 (x36 + 1)) x122000)) else (if (x127002.length : Int) > 0 then (some false) else (if (x127002.length : Int) > 20 then (some false) else (spec_GoodNames.l0 k x3 x34 x35 (wrap64 (x36 + 1)) x122000))))
def spec_GoodNames.l2 : Nat → List Int → List (S40) → Int → Int → Option (Bool)
 | 0, _, _, _, _ => none
 | k + 1, x8, x100, x101, x102 => if x102 < x101 then (if 0 ≤ x102 then (if x102 < (x100.length : Int) then (if x102 > 0 then (if x102 < (x8.length : Int) then (if ((rd_T40 x100 x102).f1) = (rd x8 x102) then (if (rd_T40 x100 x102).f0 = true then (if ((rd_T40 x100 x102).f1) = 1 then (spec_GoodNames.l2 k x8 x100 x101 (wrap64 (x102 + 1))) else (some false)) else (spec_GoodNames.l2 k x8 x100 x101 (wrap64 (x102 + 1)))) else (some false)) else (none)) else (spec_GoodNames.l2 k x8 x100 x101 (wrap64 (x102 + 1)))) else (none)) else (none)) else (some true)
end
def spec_GoodNames.f (k : Nat) (l0_0 : List (S40)) : Option (Bool) := (spec_l1In.f (l0_0.length : Int) 1 60).bind fun t122 => (if t122 = true then (if 0 < (l0_0.length : Int) then (if ((rd_T40 l0_0 0).f0 = true) then (spec_GoodNames.j0 k (l0_0.length : Int) (((rd_T40 l0_0 0).f1) != 1) l0_0) else (spec_GoodNames.j0 k (l0_0.length : Int) true l0_0)) else (none)) else (spec_GoodNames.j0 k (l0_0.length : Int) true l0_0))
theorem spec_GoodNames.mono_l : ∀ k, (∀ y0 y1 y2, LeO (spec_GoodNames.j0 k y0 y1 y2) (spec_GoodNames.j0 (k + 1) y0 y1 y2)) ∧ (∀ y0 y1 y2 y3 y4, LeO (spec_GoodNames.l0 k y0 y1 y2 y3 y4) (spec_GoodNames.l0 (k + 1) y0 y1 y2 y3 y4)) ∧ (∀ y0 y1 y2 y3 y4 y5 y6 y7 y8 y9 y10, LeO (spec_GoodNames.l1 k y0 y1 y2 y3 y4 y5 y6 y7 y8 y9 y10) (spec_GoodNames.l1 (k + 1) y0 y1 y2 y3 y4 y5 y6 y7 y8 y9 y10)) ∧ (∀ y0 y1 y2 y3, LeO (spec_GoodNames.l2 k y0 y1 y2 y3) (spec_GoodNames.l2 (k + 1) y0 y1 y2 y3))
 | 0 => ⟨fun _ _ _ r h => by simp [spec_GoodNames.j0] at h, fun _ _ _ _ _ r h => by simp [spec_GoodNames.l0] at h, fun _ _ _ _ _ _ _ _ _ _ _ r h => by simp [spec_GoodNames.l1] at h, fun _ _ _ _ r h => by simp [spec_GoodNames.l2] at h⟩
 | k + 1 => by
  obtain ⟨ih0, ih1, ih2, ih3⟩ := spec_GoodNames.mono_l k
  refine ⟨?_, ?_, ?_, ?_⟩ <;> intros <;> first | unfold spec_GoodNames.j0 | unfold spec_GoodNames.l0 | unfold spec_GoodNames.l1 | unfold spec_GoodNames.l2
  all_goals repeat' first
   | (with_reducible exact ih0 _ _ _)
   | (with_reducible exact ih1 _ _ _ _ _)
   | (with_reducible exact ih2 _ _ _ _ _ _ _ _ _ _ _)
   | (with_reducible exact ih3 _ _ _ _)
   | (with_reducible exact spec_l13Seen.mono _ _ _ _ _)
   | (with_reducible exact spec_l8Name.mono _ _)
   | (with_reducible exact LeO.refl _)
   | (with_reducible exact LeO.none _)
   | (with_reducible refine LeO.ite ?_ ?_)
   | (with_reducible refine LeO.bind ?_ (fun _ => ?_))
   | exact ih0 _ _ _
   | exact ih1 _ _ _ _ _
   | exact ih2 _ _ _ _ _ _ _ _ _ _ _
   | exact ih3 _ _ _ _
   | exact spec_l13Seen.mono _ _ _ _ _
   | exact spec_l8Name.mono _ _
   | exact LeO.none _
   | refine LeO.ite ?_ ?_
   | refine LeO.bind ?_ (fun _ => ?_)
theorem spec_GoodNames.mono : ∀ a0 k, LeO (spec_GoodNames.f k a0) (spec_GoodNames.f (k + 1) a0) := by
 intro a0 k
 obtain ⟨ih0, ih1, ih2, ih3⟩ := spec_GoodNames.mono_l k
 unfold spec_GoodNames.f
 repeat' first
   | (with_reducible exact ih0 _ _ _)
   | (with_reducible exact ih1 _ _ _ _ _)
   | (with_reducible exact ih2 _ _ _ _ _ _ _ _ _ _ _)
   | (with_reducible exact ih3 _ _ _ _)
   | (with_reducible exact spec_l13Seen.mono _ _ _ _ _)
   | (with_reducible exact spec_l8Name.mono _ _)
   | (with_reducible exact LeO.refl _)
   | (with_reducible exact LeO.none _)
   | (with_reducible refine LeO.ite ?_ ?_)
   | (with_reducible refine LeO.bind ?_ (fun _ => ?_))
   | exact ih0 _ _ _
   | exact ih1 _ _ _ _ _
   | exact ih2 _ _ _ _ _ _ _ _ _ _ _
   | exact ih3 _ _ _ _
   | exact spec_l13Seen.mono _ _ _ _ _
   | exact spec_l8Name.mono _ _
   | exact LeO.none _
   | refine LeO.ite ?_ ?_
   | refine LeO.bind ?_ (fun _ => ?_)
set_option maxHeartbeats 8000000 in
set_option maxRecDepth 100000 in
theorem spec_GoodNames.calls (k : Nat) (A0_0 : Option Addr) (c0_0 : Nat) (l0_0 : List (S40)) (r : Bool) (w : World) (hr0_0 : Kd.C k40 w A0_0 l0_0.length l0_0) (hc0_0 : l0_0.length ≤ c0_0) (h : spec_GoodNames.f k l0_0 = some r) :
  Calls Tryd.prog 6 #[.agg #[.slice A0_0 l0_0.length c0_0]] w fun e w' => e = .returned (.bool r) ∧ Below w.heap.size w w' := by
 have hu29 := Tryd.underlying29
 have hu40 := Tryd.underlying40
 have hu42 := Tryd.underlying42
 have HR0_0 := Ah hr0_0
 have HC0_0 := Ah hc0_0
 clear hr0_0 hc0_0
 have HB := Ah (Below.refl w.heap.size w)
 have H : ((spec_l1In.f (l0_0.length : Int) 1 60).bind fun t122 => (if t122 = true then (if 0 < (l0_0.length : Int) then (if ((rd_T40 l0_0 0).f0 = true) then (spec_GoodNames.j0 k (l0_0.length : Int) (((rd_T40 l0_0 0).f1) != 1) l0_0) else (spec_GoodNames.j0 k (l0_0.length : Int) true l0_0)) else (none)) else (spec_GoodNames.j0 k (l0_0.length : Int) true l0_0))) = some r := h
 clear h
 have HC2 := Ah H
 clear H
 go_enter Tryd.func6, Tryd.ntmps6
 go_upto_region 2 with (first | ((with_reducible refine gate_dst (N := 1) rfl ?_); (try (refine gate_guard (by rfl) ?_; dsimp only)); refine boxL 1 29 #[.slice A0_0 l0_0.length c0_0] ?_; intro gb121 hg w3 BK121 hb; have GW121 := gw hg (bs HB); have GE121 := gw hg (bs HB); replace HB := Ah (below_step (bs HB) hb); clear hb hg; have hcz4_0 := cz1 BK121; have hfz4_0 := fz1 BK121))
 repeat (go_quiet (first | ((with_reducible refine gate_dst (N := 1) rfl ?_); (try (refine gate_guard (by rfl) ?_; dsimp only)); refine boxL 1 29 #[.slice A0_0 l0_0.length c0_0] ?_; intro gb121 hg w3 BK121 hb; have GW121 := gw hg (bs HB); have GE121 := gw hg (bs HB); replace HB := Ah (below_step (bs HB) hb); clear hb hg; have hcz4_0 := cz1 BK121; have hfz4_0 := fz1 BK121)); go_upto_region 2 with (first | ((with_reducible refine gate_dst (N := 1) rfl ?_); (try (refine gate_guard (by rfl) ?_; dsimp only)); refine boxL 1 29 #[.slice A0_0 l0_0.length c0_0] ?_; intro gb121 hg w3 BK121 hb; have GW121 := gw hg (bs HB); have GE121 := gw hg (bs HB); replace HB := Ah (below_step (bs HB) hb); clear hb hg; have hcz4_0 := cz1 BK121; have hfz4_0 := fz1 BK121)))
 (try simp only [Act.put, List.setIfInBounds_toArray, List.set_cons_zero, List.set_cons_succ])
 go_cut [32] (fun v32 wc => ∃ (kq : Nat) (x32_1 : Bool), v32 = .bool x32_1 ∧ Aside0 (spec_GoodNames.j0 kq (l0_0.length : Int) x32_1 l0_0 = some r) ∧ Aside0 (kq ≤ k) ∧ Aside0 (wc.heap[gb121]? = some (.cells #[(.slice A0_0 l0_0.length c0_0)] 29 (0, 0))) ∧ Aside0 (Below w.heap.size w wc))
 case first =>
  have H := HC2.out
  clear HC2
  replace H := Option.bind_eq_some_iff.mp H
  obtain ⟨t122, A50, H⟩ := H
  try dsimp only at H
  have A5 := Ah A50
  clear A50
  by_cases c6 : t122 = true
  rotate_left
  ·
   replace c6 := Bool.eq_false_iff.mpr c6
   subst c6
   rw [if_neg fne] at H
   have H' := Ah H
   clear H
   go_wp2_with (first | (go_at_call 13; (with_reducible refine (spec_l1In.calls (l0_0.length : Int) 1 60 false _ A5.out).mono ?_); rintro e w' ⟨rfl, ⟨nd, rfl⟩⟩; (try first | exact ⟨rfl, _, World.drewN_drewN _ _ _⟩ | exact ⟨rfl, _, Eq.trans (World.drewN_drewN _ _ _) (congrArg (World.drewN _) (Nat.add_assoc _ _ _))⟩)))
   repeat (go_quiet (first | (go_at_call 13; (with_reducible refine (spec_l1In.calls (l0_0.length : Int) 1 60 false _ A5.out).mono ?_); rintro e w' ⟨rfl, ⟨nd, rfl⟩⟩; (try first | exact ⟨rfl, _, World.drewN_drewN _ _ _⟩ | exact ⟨rfl, _, Eq.trans (World.drewN_drewN _ _ _) (congrArg (World.drewN _) (Nat.add_assoc _ _ _))⟩))); try go_wp2_with (first | (go_at_call 13; (with_reducible refine (spec_l1In.calls (l0_0.length : Int) 1 60 false _ A5.out).mono ?_); rintro e w' ⟨rfl, ⟨nd, rfl⟩⟩; (try first | exact ⟨rfl, _, World.drewN_drewN _ _ _⟩ | exact ⟨rfl, _, Eq.trans (World.drewN_drewN _ _ _) (congrArg (World.drewN _) (Nat.add_assoc _ _ _))⟩))))
   go_meet
   case rel => exact ⟨_, (true), e3, H', ⟨by first | omega | exact Nat.le_refl _⟩, ⟨bk BK121⟩, ⟨bs1 HB GE121⟩⟩
  subst c6
  rw [if_pos rfl] at H
  by_cases c7 : 0 < (l0_0.length : Int)
  rotate_left
  ·
   rw [if_neg c7] at H
   exact absurd H (by simp)
  rw [if_pos c7] at H
  have c7b0 : decide (0 < (l0_0.length : Int)) = true := decide_eq_true c7
  have c7b1 : decide (0 < l0_0.length) = true := decide_eq_true (by omega)
  clear c7
  (first | rw [c7b0] | (simp only [i64_w, i32_w]; rw [c7b0]) | (simp only [c7b2, Bool.not_false, Bool.not_true]) | skip)
  obtain ⟨bq8, hbq8⟩ : ∃ b_ : Bool, b_ = ((rd_T40 l0_0 0).f0) := ⟨_, rfl⟩
  replace H : (if (bq8 = true) then (spec_GoodNames.j0 k (l0_0.length : Int) (((rd_T40 l0_0 0).f1) != 1) l0_0) else (spec_GoodNames.j0 k (l0_0.length : Int) true l0_0)) = some r := by rw [← hbq8] at H; exact H
  have Nbq8 := Ah hbq8
  clear hbq8
  by_cases c9 : (bq8 = true)
  rotate_left
  ·
   replace c9 := Bool.eq_false_iff.mpr c9
   subst c9
   rw [if_neg fne] at H
   have H' := Ah H
   clear H
   go_wp2_with (first | (go_at_call 13; (with_reducible refine (spec_l1In.calls (l0_0.length : Int) 1 60 true _ A5.out).mono ?_); rintro e w' ⟨rfl, ⟨nd, rfl⟩⟩; (try first | exact ⟨rfl, _, World.drewN_drewN _ _ _⟩ | exact ⟨rfl, _, Eq.trans (World.drewN_drewN _ _ _) (congrArg (World.drewN _) (Nat.add_assoc _ _ _))⟩); have hcz11_0 := cz1 BK121; have hfz11_0 := fz1 BK121; have p123 : 0 ≤ (0 : Int) := (by omega); have q123 : 0 < (l0_0.length : Int) := od; obtain ⟨ad123, A123_2, c123_2, e123, hx123_0, hx123_1, hx123_2, hl123_2, hi123_2⟩ := at_T40 HR0_0.out 0 p123 q123; (try rw [← Nbq8.out] at hx123_0); cases e123; have qi123 : (0 < l0_0.length) = True := eq_true (by omega); (try rw [show ((0 : Int)).toNat = 0 from rfl] at hx123_0); (try rw [show 0 * 3 = 0 from rfl] at hx123_0); (try rw [Addr.add_zero'] at hx123_0); (try rw [show ((0 : Int)).toNat = 0 from rfl] at hx123_1); (try rw [show 0 * 3 = 0 from rfl] at hx123_1); (try rw [Addr.add_zero'] at hx123_1); (try rw [show ((0 : Int)).toNat = 0 from rfl] at hx123_2); (try rw [show 0 * 3 = 0 from rfl] at hx123_2); (try rw [Addr.add_zero'] at hx123_2); replace hx123_0 := (HB.out.cell (World.block_lt_of_cell? w _ hx123_0)).trans hx123_0; replace hx123_1 := (HB.out.cell (World.block_lt_of_cell? w _ hx123_1)).trans hx123_1; replace hx123_2 := (HB.out.cell (World.block_lt_of_cell? w _ hx123_2)).trans hx123_2; have HR123_2 := Ah hi123_2; have HC123_2 := Ah hl123_2; clear hi123_2 hl123_2; replace p123 := eq_true p123; replace q123 := eq_true q123))
   (have hcz11_0 := cz1 BK121; have hfz11_0 := fz1 BK121; have p123 : 0 ≤ (0 : Int) := (by omega); have q123 : 0 < (l0_0.length : Int) := od; obtain ⟨ad123, A123_2, c123_2, e123, hx123_0, hx123_1, hx123_2, hl123_2, hi123_2⟩ := at_T40 HR0_0.out 0 p123 q123; (try rw [← Nbq8.out] at hx123_0); cases e123; have qi123 : (0 < l0_0.length) = True := eq_true (by omega); (try rw [show ((0 : Int)).toNat = 0 from rfl] at hx123_0); (try rw [show 0 * 3 = 0 from rfl] at hx123_0); (try rw [Addr.add_zero'] at hx123_0); (try rw [show ((0 : Int)).toNat = 0 from rfl] at hx123_1); (try rw [show 0 * 3 = 0 from rfl] at hx123_1); (try rw [Addr.add_zero'] at hx123_1); (try rw [show ((0 : Int)).toNat = 0 from rfl] at hx123_2); (try rw [show 0 * 3 = 0 from rfl] at hx123_2); (try rw [Addr.add_zero'] at hx123_2); replace hx123_0 := (HB.out.cell (World.block_lt_of_cell? w _ hx123_0)).trans hx123_0; replace hx123_1 := (HB.out.cell (World.block_lt_of_cell? w _ hx123_1)).trans hx123_1; replace hx123_2 := (HB.out.cell (World.block_lt_of_cell? w _ hx123_2)).trans hx123_2; have HR123_2 := Ah hi123_2; have HC123_2 := Ah hl123_2; clear hi123_2 hl123_2; replace p123 := eq_true p123; replace q123 := eq_true q123)
   repeat (go_quiet (first | (go_at_call 13; (with_reducible refine (spec_l1In.calls (l0_0.length : Int) 1 60 true _ A5.out).mono ?_); rintro e w' ⟨rfl, ⟨nd, rfl⟩⟩; (try first | exact ⟨rfl, _, World.drewN_drewN _ _ _⟩ | exact ⟨rfl, _, Eq.trans (World.drewN_drewN _ _ _) (congrArg (World.drewN _) (Nat.add_assoc _ _ _))⟩))); try go_wp2_with (first | (go_at_call 13; (with_reducible refine (spec_l1In.calls (l0_0.length : Int) 1 60 true _ A5.out).mono ?_); rintro e w' ⟨rfl, ⟨nd, rfl⟩⟩; (try first | exact ⟨rfl, _, World.drewN_drewN _ _ _⟩ | exact ⟨rfl, _, Eq.trans (World.drewN_drewN _ _ _) (congrArg (World.drewN _) (Nat.add_assoc _ _ _))⟩))))
   go_meet
   case rel => exact ⟨_, (true), e3, H', ⟨by first | omega | exact Nat.le_refl _⟩, ⟨bk BK121⟩, ⟨bs1 HB GE121⟩⟩
  subst c9
  rw [if_pos rfl] at H
  have H' := Ah H
  clear H
  go_wp2_with (first | (go_at_call 13; (with_reducible refine (spec_l1In.calls (l0_0.length : Int) 1 60 true _ A5.out).mono ?_); rintro e w' ⟨rfl, ⟨nd, rfl⟩⟩; (try first | exact ⟨rfl, _, World.drewN_drewN _ _ _⟩ | exact ⟨rfl, _, Eq.trans (World.drewN_drewN _ _ _) (congrArg (World.drewN _) (Nat.add_assoc _ _ _))⟩); have hcz10_0 := cz1 BK121; have hfz10_0 := fz1 BK121; have p123 : 0 ≤ (0 : Int) := (by omega); have q123 : 0 < (l0_0.length : Int) := od; obtain ⟨ad123, A123_2, c123_2, e123, hx123_0, hx123_1, hx123_2, hl123_2, hi123_2⟩ := at_T40 HR0_0.out 0 p123 q123; (try rw [← Nbq8.out] at hx123_0); cases e123; have qi123 : (0 < l0_0.length) = True := eq_true (by omega); (try rw [show ((0 : Int)).toNat = 0 from rfl] at hx123_0); (try rw [show 0 * 3 = 0 from rfl] at hx123_0); (try rw [Addr.add_zero'] at hx123_0); (try rw [show ((0 : Int)).toNat = 0 from rfl] at hx123_1); (try rw [show 0 * 3 = 0 from rfl] at hx123_1); (try rw [Addr.add_zero'] at hx123_1); (try rw [show ((0 : Int)).toNat = 0 from rfl] at hx123_2); (try rw [show 0 * 3 = 0 from rfl] at hx123_2); (try rw [Addr.add_zero'] at hx123_2); replace hx123_0 := (HB.out.cell (World.block_lt_of_cell? w _ hx123_0)).trans hx123_0; replace hx123_1 := (HB.out.cell (World.block_lt_of_cell? w _ hx123_1)).trans hx123_1; replace hx123_2 := (HB.out.cell (World.block_lt_of_cell? w _ hx123_2)).trans hx123_2; have HR123_2 := Ah hi123_2; have HC123_2 := Ah hl123_2; clear hi123_2 hl123_2; replace p123 := eq_true p123; replace q123 := eq_true q123; have p124 : 0 ≤ (0 : Int) := (by omega); have q124 : 0 < (l0_0.length : Int) := od; obtain ⟨ad124, A124_2, c124_2, e124, hx124_0, hx124_1, hx124_2, hl124_2, hi124_2⟩ := at_T40 HR0_0.out 0 p124 q124; (try rw [← Nbq8.out] at hx124_0); obtain rfl : ad123 = ad124 := (by injection e124); have qi124 : (0 < l0_0.length) = True := eq_true (by omega); (try rw [show ((0 : Int)).toNat = 0 from rfl] at hx124_0); (try rw [show 0 * 3 = 0 from rfl] at hx124_0); (try rw [Addr.add_zero'] at hx124_0); (try rw [show ((0 : Int)).toNat = 0 from rfl] at hx124_1); (try rw [show 0 * 3 = 0 from rfl] at hx124_1); (try rw [Addr.add_zero'] at hx124_1); (try rw [show ((0 : Int)).toNat = 0 from rfl] at hx124_2); (try rw [show 0 * 3 = 0 from rfl] at hx124_2); (try rw [Addr.add_zero'] at hx124_2); replace hx124_0 := (HB.out.cell (World.block_lt_of_cell? w _ hx124_0)).trans hx124_0; replace hx124_1 := (HB.out.cell (World.block_lt_of_cell? w _ hx124_1)).trans hx124_1; replace hx124_2 := (HB.out.cell (World.block_lt_of_cell? w _ hx124_2)).trans hx124_2; have HR124_2 := Ah hi124_2; have HC124_2 := Ah hl124_2; clear hi124_2 hl124_2; replace p124 := eq_true p124; replace q124 := eq_true q124; have ea_ := Option.some.inj (hx123_2.symm.trans hx124_2); injection ea_ with ea_ en_ ec_; subst ea_; subst ec_; clear en_))
  (have hcz10_0 := cz1 BK121; have hfz10_0 := fz1 BK121; have p123 : 0 ≤ (0 : Int) := (by omega); have q123 : 0 < (l0_0.length : Int) := od; obtain ⟨ad123, A123_2, c123_2, e123, hx123_0, hx123_1, hx123_2, hl123_2, hi123_2⟩ := at_T40 HR0_0.out 0 p123 q123; (try rw [← Nbq8.out] at hx123_0); cases e123; have qi123 : (0 < l0_0.length) = True := eq_true (by omega); (try rw [show ((0 : Int)).toNat = 0 from rfl] at hx123_0); (try rw [show 0 * 3 = 0 from rfl] at hx123_0); (try rw [Addr.add_zero'] at hx123_0); (try rw [show ((0 : Int)).toNat = 0 from rfl] at hx123_1); (try rw [show 0 * 3 = 0 from rfl] at hx123_1); (try rw [Addr.add_zero'] at hx123_1); (try rw [show ((0 : Int)).toNat = 0 from rfl] at hx123_2); (try rw [show 0 * 3 = 0 from rfl] at hx123_2); (try rw [Addr.add_zero'] at hx123_2); replace hx123_0 := (HB.out.cell (World.block_lt_of_cell? w _ hx123_0)).trans hx123_0; replace hx123_1 := (HB.out.cell (World.block_lt_of_cell? w _ hx123_1)).trans hx123_1; replace hx123_2 := (HB.out.cell (World.block_lt_of_cell? w _ hx123_2)).trans hx123_2; have HR123_2 := Ah hi123_2; have HC123_2 := Ah hl123_2; clear hi123_2 hl123_2; replace p123 := eq_true p123; replace q123 := eq_true q123; have p124 : 0 ≤ (0 : Int) := (by omega); have q124 : 0 < (l0_0.length : Int) := od; obtain ⟨ad124, A124_2, c124_2, e124, hx124_0, hx124_1, hx124_2, hl124_2, hi124_2⟩ := at_T40 HR0_0.out 0 p124 q124; (try rw [← Nbq8.out] at hx124_0); obtain rfl : ad123 = ad124 := (by injection e124); have qi124 : (0 < l0_0.length) = True := eq_true (by omega); (try rw [show ((0 : Int)).toNat = 0 from rfl] at hx124_0); (try rw [show 0 * 3 = 0 from rfl] at hx124_0); (try rw [Addr.add_zero'] at hx124_0); (try rw [show ((0 : Int)).toNat = 0 from rfl] at hx124_1); (try rw [show 0 * 3 = 0 from rfl] at hx124_1); (try rw [Addr.add_zero'] at hx124_1); (try rw [show ((0 : Int)).toNat = 0 from rfl] at hx124_2); (try rw [show 0 * 3 = 0 from rfl] at hx124_2); (try rw [Addr.add_zero'] at hx124_2); replace hx124_0 := (HB.out.cell (World.block_lt_of_cell? w _ hx124_0)).trans hx124_0; replace hx124_1 := (HB.out.cell (World.block_lt_of_cell? w _ hx124_1)).trans hx124_1; replace hx124_2 := (HB.out.cell (World.block_lt_of_cell? w _ hx124_2)).trans hx124_2; have HR124_2 := Ah hi124_2; have HC124_2 := Ah hl124_2; clear hi124_2 hl124_2; replace p124 := eq_true p124; replace q124 := eq_true q124; have ea_ := Option.some.inj (hx123_2.symm.trans hx124_2); injection ea_ with ea_ en_ ec_; subst ea_; subst ec_; clear en_)
  repeat (go_quiet (first | (go_at_call 13; (with_reducible refine (spec_l1In.calls (l0_0.length : Int) 1 60 true _ A5.out).mono ?_); rintro e w' ⟨rfl, ⟨nd, rfl⟩⟩; (try first | exact ⟨rfl, _, World.drewN_drewN _ _ _⟩ | exact ⟨rfl, _, Eq.trans (World.drewN_drewN _ _ _) (congrArg (World.drewN _) (Nat.add_assoc _ _ _))⟩))); try go_wp2_with (first | (go_at_call 13; (with_reducible refine (spec_l1In.calls (l0_0.length : Int) 1 60 true _ A5.out).mono ?_); rintro e w' ⟨rfl, ⟨nd, rfl⟩⟩; (try first | exact ⟨rfl, _, World.drewN_drewN _ _ _⟩ | exact ⟨rfl, _, Eq.trans (World.drewN_drewN _ _ _) (congrArg (World.drewN _) (Nat.add_assoc _ _ _))⟩))))
  go_meet
  case rel => exact ⟨_, ((((rd_T40 l0_0 0).f1) != 1)), e3, H', ⟨by first | omega | exact Nat.le_refl _⟩, ⟨bk BK121⟩, ⟨bs1 HB GE121⟩⟩
 case rest =>
  clear HC2
  try clear c1
  try clear p1
  try clear q1
  try clear hx1
  try clear qi1
  try clear p2
  try clear c6
  try clear c7
  try clear c7b0
  try clear c7b1
  try clear q8
  try clear c9
  try clear hcz10_0
  try clear hcz11_0
  try clear hcz4_0
  try clear hfz10_0
  try clear hfz11_0
  try clear hfz4_0
  try clear hx123_0
  try clear hx123_1
  try clear hx123_2
  try clear hx124_0
  try clear hx124_1
  try clear hx124_2
  try clear p123
  try clear p124
  try clear q123
  try clear q124
  obtain ⟨kq, x32_1, rfl, HA, HJ1, BK121, HB⟩ := hcut
  cases kq with
  | zero => exact absurd HA.out (by simp [spec_GoodNames.j0])
  | succ kj1 =>
   have H := HA.out
   clear HA
   simp only [spec_GoodNames.j0] at H
   by_cases c12 : x32_1 = true
   ·
    subst c12
    rw [if_pos rfl] at H
    obtain rfl := Option.some.inj H
    go_wp2
    repeat (go_quiet (fail); try go_wp2)
    go_ret
    exact ⟨er, bs1 HB GE121⟩
   replace c12 := Bool.eq_false_iff.mpr c12
   subst c12
   rw [if_neg fne] at H
   have H' := Ah H
   clear H
   have hcz13_0 := cz1 BK121
   have hfz13_0 := fz1 BK121
   go_wp2
   repeat (go_quiet (fail); try go_wp2)
   go_loopg [36] kj1 (fun kq v36 w' => ∃ (x36_2 : Int), v36 = .int .i64 x36_2 ∧ Aside0 (spec_GoodNames.l0 kq (l0_0.length : Int) l0_0 (l0_0.length : Int) x36_2 l0_0 = some r) ∧ Aside0 (kq ≤ kj1) ∧ Aside0 (w'.heap[gb121]? = some (.cells #[(.slice A0_0 l0_0.length c0_0)] 29 (0, 0))) ∧ Aside0 (Below w.heap.size w w'))
   case atStart => exact ⟨(0), e3, H', ⟨Nat.le_refl _⟩, ⟨bk BK121⟩, ⟨bs1 HB GE121⟩⟩
   case round =>
    clear H'
    try clear c1
    try clear p1
    try clear q1
    try clear hx1
    try clear qi1
    try clear p2
    try clear c6
    try clear c7
    try clear c7b0
    try clear c7b1
    try clear q8
    try clear c9
    try clear c12
    try clear p12
    try clear q12
    try clear hx12
    try clear qi12
    try clear hcz10_0
    try clear hcz11_0
    try clear hcz13_0
    try clear hcz4_0
    try clear hfz10_0
    try clear hfz11_0
    try clear hfz13_0
    try clear hfz4_0
    try clear hx123_0
    try clear hx123_1
    try clear hx123_2
    try clear hx124_0
    try clear hx124_1
    try clear hx124_2
    try clear p1
    try clear p123
    try clear p124
    try clear p2
    try clear q1
    try clear q123
    try clear q124
    try clear q8
    obtain ⟨x36_2, rfl, HA, HK2, BK121, HB⟩ := hrel
    cases gk with
    | zero => exact absurd HA.out (by simp [spec_GoodNames.l0])
    | succ k2 =>
     have H := HA.out
     clear HA
     simp only [spec_GoodNames.l0] at H
     by_cases c14 : x36_2 < (l0_0.length : Int)
     ·
      rw [if_pos c14] at H
      have c14b0 : decide (x36_2 < (l0_0.length : Int)) = true := decide_eq_true c14
      clear c14
      by_cases c15 : 0 ≤ x36_2
      rotate_left
      ·
       rw [if_neg c15] at H
       exact absurd H (by simp)
      rw [if_pos c15] at H
      have c15b0 : decide (0 ≤ x36_2) = true := decide_eq_true c15
      clear c15
      by_cases c16 : x36_2 < (l0_0.length : Int)
      rotate_left
      ·
       rw [if_neg c16] at H
       exact absurd H (by simp)
      rw [if_pos c16] at H
      have c16b0 : decide (x36_2 < (l0_0.length : Int)) = true := decide_eq_true c16
      clear c16
      have H' := Ah H
      clear H
      have p125 : 0 ≤ (x36_2 : Int) := od
      have q125 : x36_2 < (l0_0.length : Int) := od
      obtain ⟨ad125, A125_2, c125_2, e125, hx125_0, hx125_1, hx125_2, hl125_2, hi125_2⟩ := at_T40 HR0_0.out x36_2 p125 q125
      cases e125
      replace hx125_0 := (HB.out.cell (World.block_lt_of_cell? w _ hx125_0)).trans hx125_0
      replace hx125_1 := (HB.out.cell (World.block_lt_of_cell? w _ hx125_1)).trans hx125_1
      replace hx125_2 := (HB.out.cell (World.block_lt_of_cell? w _ hx125_2)).trans hx125_2
      have HR125_2 := Ah hi125_2
      have HC125_2 := Ah hl125_2
      clear hi125_2 hl125_2
      replace p125 := eq_true p125
      replace q125 := eq_true q125
      go_wp2_with (first | ((with_reducible refine gate_dst (N := 5) rfl ?_); (try (refine gate_guard (by rfl) ?_; dsimp only)); refine boxL 5 40 #[.bool false, .int .i64 0, .slice none 0 0] ?_; intro gb126 hg w17 BK126 hb; have GW126 := gw hg (bs1 HB GE121); have GE126 := gw hg (bs1 HB GE121); replace HB := Ah (below_step (bs1 HB GE121) hb); have NB121_126 := nn BK121 hg; have NB126_121 := nm BK121 hg; replace BK121 := nb BK121 hb; clear hb hg; have hnb18 := NB126_121.out; have hnc18 := NB121_126.out; obtain ⟨hcz19_0, hcz19_1, hcz19_2⟩ := cz3 BK126; obtain ⟨hfz19_0, hfz19_1, hfz19_2⟩ := fz3 BK126))
      repeat (go_quiet (first | ((with_reducible refine gate_dst (N := 5) rfl ?_); (try (refine gate_guard (by rfl) ?_; dsimp only)); refine boxL 5 40 #[.bool false, .int .i64 0, .slice none 0 0] ?_; intro gb126 hg w17 BK126 hb; have GW126 := gw hg (bs1 HB GE121); have GE126 := gw hg (bs1 HB GE121); replace HB := Ah (below_step (bs1 HB GE121) hb); have NB121_126 := nn BK121 hg; have NB126_121 := nm BK121 hg; replace BK121 := nb BK121 hb; clear hb hg; have hnb18 := NB126_121.out; have hnc18 := NB121_126.out; obtain ⟨hcz19_0, hcz19_1, hcz19_2⟩ := cz3 BK126; obtain ⟨hfz19_0, hfz19_1, hfz19_2⟩ := fz3 BK126)); try go_wp2_with (first | ((with_reducible refine gate_dst (N := 5) rfl ?_); (try (refine gate_guard (by rfl) ?_; dsimp only)); refine boxL 5 40 #[.bool false, .int .i64 0, .slice none 0 0] ?_; intro gb126 hg w17 BK126 hb; have GW126 := gw hg (bs1 HB GE121); have GE126 := gw hg (bs1 HB GE121); replace HB := Ah (below_step (bs1 HB GE121) hb); have NB121_126 := nn BK121 hg; have NB126_121 := nm BK121 hg; replace BK121 := nb BK121 hb; clear hb hg; have hnb18 := NB126_121.out; have hnc18 := NB121_126.out; obtain ⟨hcz19_0, hcz19_1, hcz19_2⟩ := cz3 BK126; obtain ⟨hfz19_0, hfz19_1, hfz19_2⟩ := fz3 BK126)))
      go_loopg [43] k2 (fun kq v43 w' => ∃ (x43_3 : Int), v43 = .int .i64 x43_3 ∧ Aside0 (spec_GoodNames.l1 kq (l0_0.length : Int) l0_0 (l0_0.length : Int) x36_2 ((rd_T40 l0_0 x36_2).f2) (((rd_T40 l0_0 x36_2).f2).length : Int) x43_3 l0_0 ((rd_T40 l0_0 x36_2).f0) ((rd_T40 l0_0 x36_2).f1) ((rd_T40 l0_0 x36_2).f2) = some r) ∧ Aside0 (kq ≤ k2) ∧ Aside0 (w'.heap[gb121]? = some (.cells #[(.slice (some ad125) l0_0.length c0_0)] 29 (0, 0))) ∧ Aside0 (w'.heap[gb126]? = some (.cells #[.bool ((rd_T40 l0_0 x36_2).f0), .int .i64 ((rd_T40 l0_0 x36_2).f1), (.slice A125_2 ((rd_T40 l0_0 x36_2).f2).length c125_2)] 40 (0, 0))) ∧ Aside0 (Below w.heap.size w w'))
      case atStart => exact ⟨(0), e3, H', ⟨Nat.le_refl _⟩, ⟨bf BK121 NB121_126⟩, ⟨by (with_reducible repeat (first | refine blk_drewN ?_ _ | refine blk_drew ?_ | refine blk_alloc ?_ _)); refine blk_put (cs := #[.bool ((rd_T40 l0_0 x36_2).f0), .int .i64 ((rd_T40 l0_0 x36_2).f1), .slice none 0 0]) ?_ 2 _ rfl; (with_reducible repeat (first | refine blk_drewN ?_ _ | refine blk_drew ?_ | refine blk_alloc ?_ _)); refine blk_put (cs := #[.bool ((rd_T40 l0_0 x36_2).f0), .int .i64 0, .slice none 0 0]) ?_ 1 _ rfl; (with_reducible repeat (first | refine blk_drewN ?_ _ | refine blk_drew ?_ | refine blk_alloc ?_ _)); refine blk_put (cs := #[.bool false, .int .i64 0, .slice none 0 0]) ?_ 0 _ rfl; (with_reducible repeat (first | refine blk_drewN ?_ _ | refine blk_drew ?_ | refine blk_alloc ?_ _)); exact BK126.out⟩, ⟨bs2 HB GE121 GE126⟩⟩
      case round =>
       clear H'
       try clear c1
       try clear p1
       try clear q1
       try clear hx1
       try clear qi1
       try clear p2
       try clear c6
       try clear c7
       try clear c7b0
       try clear c7b1
       try clear q8
       try clear c9
       try clear c12
       try clear p12
       try clear q12
       try clear hx12
       try clear qi12
       try clear c14
       try clear c14b0
       try clear c15
       try clear c15b0
       try clear c16
       try clear c16b0
       try clear c18
       try clear hcz10_0
       try clear hcz11_0
       try clear hcz13_0
       try clear hcz19_0 hcz19_1 hcz19_2
       try clear hcz4_0
       try clear hfz10_0
       try clear hfz11_0
       try clear hfz13_0
       try clear hfz19_0 hfz19_1 hfz19_2
       try clear hfz4_0
       try clear hx123_0
       try clear hx123_1
       try clear hx123_2
       try clear hx124_0
       try clear hx124_1
       try clear hx124_2
       try clear hx125_0
       try clear hx125_1
       try clear hx125_2
       try clear p1
       try clear p12
       try clear p123
       try clear p124
       try clear p125
       try clear p2
       try clear q1
       try clear q12
       try clear q123
       try clear q124
       try clear q125
       try clear q8
       obtain ⟨x43_3, rfl, HA, HK3, BK121, BK126, HB⟩ := hrel
       cases gk with
       | zero => exact absurd HA.out (by simp [spec_GoodNames.l1])
       | succ k3 =>
        have H := HA.out
        clear HA
        simp only [spec_GoodNames.l1] at H
        by_cases c20 : x43_3 < (((rd_T40 l0_0 x36_2).f2).length : Int)
        rotate_left
        ·
         rw [if_neg c20] at H
         have c20b0 : decide (x43_3 < (((rd_T40 l0_0 x36_2).f2).length : Int)) = false := decide_eq_false c20
         clear c20
         by_cases c56 : ((rd_T40 l0_0 x36_2).f0) = true
         ·
          rw [if_pos c56] at H
          have c56b0 : ((rd_T40 l0_0 x36_2).f0) = true := c56
          clear c56
          by_cases c57 : (((rd_T40 l0_0 x36_2).f2).length : Int) > 20
          ·
           rw [if_pos c57] at H
           have c57b0 : decide (20 < (((rd_T40 l0_0 x36_2).f2).length : Int)) = true := decide_eq_true c57
           have c57b1 : decide (20 < ((rd_T40 l0_0 x36_2).f2).length) = true := decide_eq_true (by omega)
           clear c57
           obtain rfl := Option.some.inj H
           have hnb58 := NB126_121.out
           have hnc58 := NB121_126.out
           obtain ⟨hcz59_0, hcz59_1, hcz59_2⟩ := cz3 BK126
           obtain ⟨hfz59_0, hfz59_1, hfz59_2⟩ := fz3 BK126
           go_wp2
           repeat (go_quiet (fail); try go_wp2)
           go_ret
           exact ⟨er, bs2 HB GE121 GE126⟩
          rw [if_neg c57] at H
          have c57b0 : decide (20 < (((rd_T40 l0_0 x36_2).f2).length : Int)) = false := decide_eq_false c57
          have c57b1 : decide (20 < ((rd_T40 l0_0 x36_2).f2).length) = false := decide_eq_false (by omega)
          clear c57
          have H' := Ah H
          clear H
          have hnb60 := NB126_121.out
          have hnc60 := NB121_126.out
          obtain ⟨hcz61_0, hcz61_1, hcz61_2⟩ := cz3 BK126
          obtain ⟨hfz61_0, hfz61_1, hfz61_2⟩ := fz3 BK126
          go_wp2
          repeat (go_quiet (fail); try go_wp2)
          go_roundg k3
          case measure => have := HJ1.out; have := HK2.out; have := HK3.out; omega
          case rel => exact ⟨(wrap64 (x36_2 + 1)), e3, H', ⟨by have := HJ1.out; have := HK2.out; have := HK3.out; omega⟩, ⟨bk BK121⟩, ⟨bs2 HB GE121 GE126⟩⟩
         rw [if_neg c56] at H
         have c56b0 : ((rd_T40 l0_0 x36_2).f0) = false := by simpa using c56
         clear c56
         by_cases c62 : (((rd_T40 l0_0 x36_2).f2).length : Int) > 0
         ·
          rw [if_pos c62] at H
          have c62b0 : decide (0 < (((rd_T40 l0_0 x36_2).f2).length : Int)) = true := decide_eq_true c62
          have c62b1 : decide (0 < ((rd_T40 l0_0 x36_2).f2).length) = true := decide_eq_true (by omega)
          clear c62
          obtain rfl := Option.some.inj H
          have hnb63 := NB126_121.out
          have hnc63 := NB121_126.out
          obtain ⟨hcz64_0, hcz64_1, hcz64_2⟩ := cz3 BK126
          obtain ⟨hfz64_0, hfz64_1, hfz64_2⟩ := fz3 BK126
          go_wp2
          repeat (go_quiet (fail); try go_wp2)
          go_ret
          exact ⟨er, bs2 HB GE121 GE126⟩
         rw [if_neg c62] at H
         have c62b0 : decide (0 < (((rd_T40 l0_0 x36_2).f2).length : Int)) = false := decide_eq_false c62
         have c62b1 : decide (0 < ((rd_T40 l0_0 x36_2).f2).length) = false := decide_eq_false (by omega)
         clear c62
         by_cases c65 : (((rd_T40 l0_0 x36_2).f2).length : Int) > 20
         ·
          rw [if_pos c65] at H
          have c65b0 : decide (20 < (((rd_T40 l0_0 x36_2).f2).length : Int)) = true := decide_eq_true c65
          have c65b1 : decide (20 < ((rd_T40 l0_0 x36_2).f2).length) = true := decide_eq_true (by omega)
          clear c65
          obtain rfl := Option.some.inj H
          have hnb66 := NB126_121.out
          have hnc66 := NB121_126.out
          obtain ⟨hcz67_0, hcz67_1, hcz67_2⟩ := cz3 BK126
          obtain ⟨hfz67_0, hfz67_1, hfz67_2⟩ := fz3 BK126
          go_wp2
          repeat (go_quiet (fail); try go_wp2)
          go_ret
          exact ⟨er, bs2 HB GE121 GE126⟩
         rw [if_neg c65] at H
         have c65b0 : decide (20 < (((rd_T40 l0_0 x36_2).f2).length : Int)) = false := decide_eq_false c65
         have c65b1 : decide (20 < ((rd_T40 l0_0 x36_2).f2).length) = false := decide_eq_false (by omega)
         clear c65
         have H' := Ah H
         clear H
         have hnb68 := NB126_121.out
         have hnc68 := NB121_126.out
         obtain ⟨hcz69_0, hcz69_1, hcz69_2⟩ := cz3 BK126
         obtain ⟨hfz69_0, hfz69_1, hfz69_2⟩ := fz3 BK126
         go_wp2
         repeat (go_quiet (fail); try go_wp2)
         go_roundg k3
         case measure => have := HJ1.out; have := HK2.out; have := HK3.out; omega
         case rel => exact ⟨(wrap64 (x36_2 + 1)), e3, H', ⟨by have := HJ1.out; have := HK2.out; have := HK3.out; omega⟩, ⟨bk BK121⟩, ⟨bs2 HB GE121 GE126⟩⟩
        rw [if_pos c20] at H
        have c20b0 : decide (x43_3 < (((rd_T40 l0_0 x36_2).f2).length : Int)) = true := decide_eq_true c20
        clear c20
        by_cases c21 : 0 ≤ x43_3
        rotate_left
        ·
         rw [if_neg c21] at H
         exact absurd H (by simp)
        rw [if_pos c21] at H
        have c21b0 : decide (0 ≤ x43_3) = true := decide_eq_true c21
        clear c21
        by_cases c22 : x43_3 < (((rd_T40 l0_0 x36_2).f2).length : Int)
        rotate_left
        ·
         rw [if_neg c22] at H
         exact absurd H (by simp)
        rw [if_pos c22] at H
        have c22b0 : decide (x43_3 < (((rd_T40 l0_0 x36_2).f2).length : Int)) = true := decide_eq_true c22
        clear c22
        replace H := Option.bind_eq_some_iff.mp H
        obtain ⟨t129, A230, H⟩ := H
        try dsimp only at H
        have A23 := Ah A230
        clear A230
        by_cases c24 : t129 = true
        rotate_left
        ·
         replace c24 := Bool.eq_false_iff.mpr c24
         subst c24
         rw [if_neg fne] at H
         obtain rfl := Option.some.inj H
         have p127 : 0 ≤ (x43_3 : Int) := od
         have q127 : x43_3 < (((rd_T40 l0_0 x36_2).f2).length : Int) := od
         obtain ⟨ad127, e127, hx127_0, hx127_1⟩ := at_T42 HR125_2.out x43_3 p127 q127
         cases e127
         replace hx127_0 := (HB.out.cell (World.block_lt_of_cell? w _ hx127_0)).trans hx127_0
         replace hx127_1 := (HB.out.cell (World.block_lt_of_cell? w _ hx127_1)).trans hx127_1
         replace p127 := eq_true p127
         replace q127 := eq_true q127
         go_wp2_with (first | ((with_reducible refine gate_dst (N := 7) rfl ?_); (try (refine gate_guard (by rfl) ?_; dsimp only)); refine boxL 7 42 #[.string (⟨#[]⟩ : ByteArray), .int .i64 0] ?_; intro gb128 hg w52 BK128 hb; have GW128 := gw hg (bs2 HB GE121 GE126); have GE128 := gw hg (bs2 HB GE121 GE126); replace HB := Ah (below_step (bs2 HB GE121 GE126) hb); have NB121_128 := nn BK121 hg; have NB128_121 := nm BK121 hg; replace BK121 := nb BK121 hb; have NB126_128 := nn BK126 hg; have NB128_126 := nm BK126 hg; replace BK126 := nb BK126 hb; clear hb hg; have hnb53 := NB128_121.out; have hnc53 := NB121_128.out; have hnb54 := NB128_126.out; have hnc54 := NB126_128.out; obtain ⟨hcz55_0, hcz55_1⟩ := cz2 BK128; obtain ⟨hfz55_0, hfz55_1⟩ := fz2 BK128) | (go_at_call 14; (with_reducible refine (spec_l8Name.calls k3 ((rd_T42 ((rd_T40 l0_0 x36_2).f2) x43_3).f0) false _ A23.out).mono ?_); rintro e w' ⟨rfl, ⟨nd, rfl⟩⟩; (try first | exact ⟨rfl, _, World.drewN_drewN _ _ _⟩ | exact ⟨rfl, _, Eq.trans (World.drewN_drewN _ _ _) (congrArg (World.drewN _) (Nat.add_assoc _ _ _))⟩)))
         repeat (go_quiet (first | ((with_reducible refine gate_dst (N := 7) rfl ?_); (try (refine gate_guard (by rfl) ?_; dsimp only)); refine boxL 7 42 #[.string (⟨#[]⟩ : ByteArray), .int .i64 0] ?_; intro gb128 hg w52 BK128 hb; have GW128 := gw hg (bs2 HB GE121 GE126); have GE128 := gw hg (bs2 HB GE121 GE126); replace HB := Ah (below_step (bs2 HB GE121 GE126) hb); have NB121_128 := nn BK121 hg; have NB128_121 := nm BK121 hg; replace BK121 := nb BK121 hb; have NB126_128 := nn BK126 hg; have NB128_126 := nm BK126 hg; replace BK126 := nb BK126 hb; clear hb hg; have hnb53 := NB128_121.out; have hnc53 := NB121_128.out; have hnb54 := NB128_126.out; have hnc54 := NB126_128.out; obtain ⟨hcz55_0, hcz55_1⟩ := cz2 BK128; obtain ⟨hfz55_0, hfz55_1⟩ := fz2 BK128) | (go_at_call 14; (with_reducible refine (spec_l8Name.calls k3 ((rd_T42 ((rd_T40 l0_0 x36_2).f2) x43_3).f0) false _ A23.out).mono ?_); rintro e w' ⟨rfl, ⟨nd, rfl⟩⟩; (try first | exact ⟨rfl, _, World.drewN_drewN _ _ _⟩ | exact ⟨rfl, _, Eq.trans (World.drewN_drewN _ _ _) (congrArg (World.drewN _) (Nat.add_assoc _ _ _))⟩))); try go_wp2_with (first | ((with_reducible refine gate_dst (N := 7) rfl ?_); (try (refine gate_guard (by rfl) ?_; dsimp only)); refine boxL 7 42 #[.string (⟨#[]⟩ : ByteArray), .int .i64 0] ?_; intro gb128 hg w52 BK128 hb; have GW128 := gw hg (bs2 HB GE121 GE126); have GE128 := gw hg (bs2 HB GE121 GE126); replace HB := Ah (below_step (bs2 HB GE121 GE126) hb); have NB121_128 := nn BK121 hg; have NB128_121 := nm BK121 hg; replace BK121 := nb BK121 hb; have NB126_128 := nn BK126 hg; have NB128_126 := nm BK126 hg; replace BK126 := nb BK126 hb; clear hb hg; have hnb53 := NB128_121.out; have hnc53 := NB121_128.out; have hnb54 := NB128_126.out; have hnc54 := NB126_128.out; obtain ⟨hcz55_0, hcz55_1⟩ := cz2 BK128; obtain ⟨hfz55_0, hfz55_1⟩ := fz2 BK128) | (go_at_call 14; (with_reducible refine (spec_l8Name.calls k3 ((rd_T42 ((rd_T40 l0_0 x36_2).f2) x43_3).f0) false _ A23.out).mono ?_); rintro e w' ⟨rfl, ⟨nd, rfl⟩⟩; (try first | exact ⟨rfl, _, World.drewN_drewN _ _ _⟩ | exact ⟨rfl, _, Eq.trans (World.drewN_drewN _ _ _) (congrArg (World.drewN _) (Nat.add_assoc _ _ _))⟩))))
         go_ret
         exact ⟨er, bs3 HB GE121 GE126 GE128⟩
        subst c24
        rw [if_pos rfl] at H
        replace H := Option.bind_eq_some_iff.mp H
        obtain ⟨t130, A250, H⟩ := H
        try dsimp only at H
        have A25 := Ah A250
        clear A250
        by_cases c26 : t130 = true
        rotate_left
        ·
         replace c26 := Bool.eq_false_iff.mpr c26
         subst c26
         rw [if_neg fne] at H
         obtain rfl := Option.some.inj H
         have p127 : 0 ≤ (x43_3 : Int) := od
         have q127 : x43_3 < (((rd_T40 l0_0 x36_2).f2).length : Int) := od
         obtain ⟨ad127, e127, hx127_0, hx127_1⟩ := at_T42 HR125_2.out x43_3 p127 q127
         cases e127
         replace hx127_0 := (HB.out.cell (World.block_lt_of_cell? w _ hx127_0)).trans hx127_0
         replace hx127_1 := (HB.out.cell (World.block_lt_of_cell? w _ hx127_1)).trans hx127_1
         replace p127 := eq_true p127
         replace q127 := eq_true q127
         go_wp2_with (first | ((with_reducible refine gate_dst (N := 7) rfl ?_); (try (refine gate_guard (by rfl) ?_; dsimp only)); refine boxL 7 42 #[.string (⟨#[]⟩ : ByteArray), .int .i64 0] ?_; intro gb128 hg w48 BK128 hb; have GW128 := gw hg (bs2 HB GE121 GE126); have GE128 := gw hg (bs2 HB GE121 GE126); replace HB := Ah (below_step (bs2 HB GE121 GE126) hb); have NB121_128 := nn BK121 hg; have NB128_121 := nm BK121 hg; replace BK121 := nb BK121 hb; have NB126_128 := nn BK126 hg; have NB128_126 := nm BK126 hg; replace BK126 := nb BK126 hb; clear hb hg; have hnb49 := NB128_121.out; have hnc49 := NB121_128.out; have hnb50 := NB128_126.out; have hnc50 := NB126_128.out; obtain ⟨hcz51_0, hcz51_1⟩ := cz2 BK128; obtain ⟨hfz51_0, hfz51_1⟩ := fz2 BK128) | (go_at_call 14; (with_reducible refine (spec_l8Name.calls k3 ((rd_T42 ((rd_T40 l0_0 x36_2).f2) x43_3).f0) true _ A23.out).mono ?_); rintro e w' ⟨rfl, ⟨nd, rfl⟩⟩; (try first | exact ⟨rfl, _, World.drewN_drewN _ _ _⟩ | exact ⟨rfl, _, Eq.trans (World.drewN_drewN _ _ _) (congrArg (World.drewN _) (Nat.add_assoc _ _ _))⟩)) | (go_at_call 13; (with_reducible refine (spec_l1In.calls ((rd_T42 ((rd_T40 l0_0 x36_2).f2) x43_3).f1) 1 (wrap64 ((l0_0.length : Int) - 1)) false _ A25.out).mono ?_); rintro e w' ⟨rfl, ⟨nd, rfl⟩⟩; (try first | exact ⟨rfl, _, World.drewN_drewN _ _ _⟩ | exact ⟨rfl, _, Eq.trans (World.drewN_drewN _ _ _) (congrArg (World.drewN _) (Nat.add_assoc _ _ _))⟩)))
         repeat (go_quiet (first | ((with_reducible refine gate_dst (N := 7) rfl ?_); (try (refine gate_guard (by rfl) ?_; dsimp only)); refine boxL 7 42 #[.string (⟨#[]⟩ : ByteArray), .int .i64 0] ?_; intro gb128 hg w48 BK128 hb; have GW128 := gw hg (bs2 HB GE121 GE126); have GE128 := gw hg (bs2 HB GE121 GE126); replace HB := Ah (below_step (bs2 HB GE121 GE126) hb); have NB121_128 := nn BK121 hg; have NB128_121 := nm BK121 hg; replace BK121 := nb BK121 hb; have NB126_128 := nn BK126 hg; have NB128_126 := nm BK126 hg; replace BK126 := nb BK126 hb; clear hb hg; have hnb49 := NB128_121.out; have hnc49 := NB121_128.out; have hnb50 := NB128_126.out; have hnc50 := NB126_128.out; obtain ⟨hcz51_0, hcz51_1⟩ := cz2 BK128; obtain ⟨hfz51_0, hfz51_1⟩ := fz2 BK128) | (go_at_call 14; (with_reducible refine (spec_l8Name.calls k3 ((rd_T42 ((rd_T40 l0_0 x36_2).f2) x43_3).f0) true _ A23.out).mono ?_); rintro e w' ⟨rfl, ⟨nd, rfl⟩⟩; (try first | exact ⟨rfl, _, World.drewN_drewN _ _ _⟩ | exact ⟨rfl, _, Eq.trans (World.drewN_drewN _ _ _) (congrArg (World.drewN _) (Nat.add_assoc _ _ _))⟩)) | (go_at_call 13; (with_reducible refine (spec_l1In.calls ((rd_T42 ((rd_T40 l0_0 x36_2).f2) x43_3).f1) 1 (wrap64 ((l0_0.length : Int) - 1)) false _ A25.out).mono ?_); rintro e w' ⟨rfl, ⟨nd, rfl⟩⟩; (try first | exact ⟨rfl, _, World.drewN_drewN _ _ _⟩ | exact ⟨rfl, _, Eq.trans (World.drewN_drewN _ _ _) (congrArg (World.drewN _) (Nat.add_assoc _ _ _))⟩))); try go_wp2_with (first | ((with_reducible refine gate_dst (N := 7) rfl ?_); (try (refine gate_guard (by rfl) ?_; dsimp only)); refine boxL 7 42 #[.string (⟨#[]⟩ : ByteArray), .int .i64 0] ?_; intro gb128 hg w48 BK128 hb; have GW128 := gw hg (bs2 HB GE121 GE126); have GE128 := gw hg (bs2 HB GE121 GE126); replace HB := Ah (below_step (bs2 HB GE121 GE126) hb); have NB121_128 := nn BK121 hg; have NB128_121 := nm BK121 hg; replace BK121 := nb BK121 hb; have NB126_128 := nn BK126 hg; have NB128_126 := nm BK126 hg; replace BK126 := nb BK126 hb; clear hb hg; have hnb49 := NB128_121.out; have hnc49 := NB121_128.out; have hnb50 := NB128_126.out; have hnc50 := NB126_128.out; obtain ⟨hcz51_0, hcz51_1⟩ := cz2 BK128; obtain ⟨hfz51_0, hfz51_1⟩ := fz2 BK128) | (go_at_call 14; (with_reducible refine (spec_l8Name.calls k3 ((rd_T42 ((rd_T40 l0_0 x36_2).f2) x43_3).f0) true _ A23.out).mono ?_); rintro e w' ⟨rfl, ⟨nd, rfl⟩⟩; (try first | exact ⟨rfl, _, World.drewN_drewN _ _ _⟩ | exact ⟨rfl, _, Eq.trans (World.drewN_drewN _ _ _) (congrArg (World.drewN _) (Nat.add_assoc _ _ _))⟩)) | (go_at_call 13; (with_reducible refine (spec_l1In.calls ((rd_T42 ((rd_T40 l0_0 x36_2).f2) x43_3).f1) 1 (wrap64 ((l0_0.length : Int) - 1)) false _ A25.out).mono ?_); rintro e w' ⟨rfl, ⟨nd, rfl⟩⟩; (try first | exact ⟨rfl, _, World.drewN_drewN _ _ _⟩ | exact ⟨rfl, _, Eq.trans (World.drewN_drewN _ _ _) (congrArg (World.drewN _) (Nat.add_assoc _ _ _))⟩))))
         go_ret
         exact ⟨er, bs3 HB GE121 GE126 GE128⟩
        subst c26
        rw [if_pos rfl] at H
        by_cases c27 : x43_3 > 0
        rotate_left
        ·
         rw [if_neg c27] at H
         have c27b0 : decide (0 < x43_3) = false := decide_eq_false c27
         clear c27
         have H' := Ah H
         clear H
         have p127 : 0 ≤ (x43_3 : Int) := od
         have q127 : x43_3 < (((rd_T40 l0_0 x36_2).f2).length : Int) := od
         obtain ⟨ad127, e127, hx127_0, hx127_1⟩ := at_T42 HR125_2.out x43_3 p127 q127
         cases e127
         replace hx127_0 := (HB.out.cell (World.block_lt_of_cell? w _ hx127_0)).trans hx127_0
         replace hx127_1 := (HB.out.cell (World.block_lt_of_cell? w _ hx127_1)).trans hx127_1
         replace p127 := eq_true p127
         replace q127 := eq_true q127
         go_wp2_with (first | ((with_reducible refine gate_dst (N := 7) rfl ?_); (try (refine gate_guard (by rfl) ?_; dsimp only)); refine boxL 7 42 #[.string (⟨#[]⟩ : ByteArray), .int .i64 0] ?_; intro gb128 hg w44 BK128 hb; have GW128 := gw hg (bs2 HB GE121 GE126); have GE128 := gw hg (bs2 HB GE121 GE126); replace HB := Ah (below_step (bs2 HB GE121 GE126) hb); have NB121_128 := nn BK121 hg; have NB128_121 := nm BK121 hg; replace BK121 := nb BK121 hb; have NB126_128 := nn BK126 hg; have NB128_126 := nm BK126 hg; replace BK126 := nb BK126 hb; clear hb hg; have hnb45 := NB128_121.out; have hnc45 := NB121_128.out; have hnb46 := NB128_126.out; have hnc46 := NB126_128.out; obtain ⟨hcz47_0, hcz47_1⟩ := cz2 BK128; obtain ⟨hfz47_0, hfz47_1⟩ := fz2 BK128) | (go_at_call 14; (with_reducible refine (spec_l8Name.calls k3 ((rd_T42 ((rd_T40 l0_0 x36_2).f2) x43_3).f0) true _ A23.out).mono ?_); rintro e w' ⟨rfl, ⟨nd, rfl⟩⟩; (try first | exact ⟨rfl, _, World.drewN_drewN _ _ _⟩ | exact ⟨rfl, _, Eq.trans (World.drewN_drewN _ _ _) (congrArg (World.drewN _) (Nat.add_assoc _ _ _))⟩)) | (go_at_call 13; (with_reducible refine (spec_l1In.calls ((rd_T42 ((rd_T40 l0_0 x36_2).f2) x43_3).f1) 1 (wrap64 ((l0_0.length : Int) - 1)) true _ A25.out).mono ?_); rintro e w' ⟨rfl, ⟨nd, rfl⟩⟩; (try first | exact ⟨rfl, _, World.drewN_drewN _ _ _⟩ | exact ⟨rfl, _, Eq.trans (World.drewN_drewN _ _ _) (congrArg (World.drewN _) (Nat.add_assoc _ _ _))⟩)))
         repeat (go_quiet (first | ((with_reducible refine gate_dst (N := 7) rfl ?_); (try (refine gate_guard (by rfl) ?_; dsimp only)); refine boxL 7 42 #[.string (⟨#[]⟩ : ByteArray), .int .i64 0] ?_; intro gb128 hg w44 BK128 hb; have GW128 := gw hg (bs2 HB GE121 GE126); have GE128 := gw hg (bs2 HB GE121 GE126); replace HB := Ah (below_step (bs2 HB GE121 GE126) hb); have NB121_128 := nn BK121 hg; have NB128_121 := nm BK121 hg; replace BK121 := nb BK121 hb; have NB126_128 := nn BK126 hg; have NB128_126 := nm BK126 hg; replace BK126 := nb BK126 hb; clear hb hg; have hnb45 := NB128_121.out; have hnc45 := NB121_128.out; have hnb46 := NB128_126.out; have hnc46 := NB126_128.out; obtain ⟨hcz47_0, hcz47_1⟩ := cz2 BK128; obtain ⟨hfz47_0, hfz47_1⟩ := fz2 BK128) | (go_at_call 14; (with_reducible refine (spec_l8Name.calls k3 ((rd_T42 ((rd_T40 l0_0 x36_2).f2) x43_3).f0) true _ A23.out).mono ?_); rintro e w' ⟨rfl, ⟨nd, rfl⟩⟩; (try first | exact ⟨rfl, _, World.drewN_drewN _ _ _⟩ | exact ⟨rfl, _, Eq.trans (World.drewN_drewN _ _ _) (congrArg (World.drewN _) (Nat.add_assoc _ _ _))⟩)) | (go_at_call 13; (with_reducible refine (spec_l1In.calls ((rd_T42 ((rd_T40 l0_0 x36_2).f2) x43_3).f1) 1 (wrap64 ((l0_0.length : Int) - 1)) true _ A25.out).mono ?_); rintro e w' ⟨rfl, ⟨nd, rfl⟩⟩; (try first | exact ⟨rfl, _, World.drewN_drewN _ _ _⟩ | exact ⟨rfl, _, Eq.trans (World.drewN_drewN _ _ _) (congrArg (World.drewN _) (Nat.add_assoc _ _ _))⟩))); try go_wp2_with (first | ((with_reducible refine gate_dst (N := 7) rfl ?_); (try (refine gate_guard (by rfl) ?_; dsimp only)); refine boxL 7 42 #[.string (⟨#[]⟩ : ByteArray), .int .i64 0] ?_; intro gb128 hg w44 BK128 hb; have GW128 := gw hg (bs2 HB GE121 GE126); have GE128 := gw hg (bs2 HB GE121 GE126); replace HB := Ah (below_step (bs2 HB GE121 GE126) hb); have NB121_128 := nn BK121 hg; have NB128_121 := nm BK121 hg; replace BK121 := nb BK121 hb; have NB126_128 := nn BK126 hg; have NB128_126 := nm BK126 hg; replace BK126 := nb BK126 hb; clear hb hg; have hnb45 := NB128_121.out; have hnc45 := NB121_128.out; have hnb46 := NB128_126.out; have hnc46 := NB126_128.out; obtain ⟨hcz47_0, hcz47_1⟩ := cz2 BK128; obtain ⟨hfz47_0, hfz47_1⟩ := fz2 BK128) | (go_at_call 14; (with_reducible refine (spec_l8Name.calls k3 ((rd_T42 ((rd_T40 l0_0 x36_2).f2) x43_3).f0) true _ A23.out).mono ?_); rintro e w' ⟨rfl, ⟨nd, rfl⟩⟩; (try first | exact ⟨rfl, _, World.drewN_drewN _ _ _⟩ | exact ⟨rfl, _, Eq.trans (World.drewN_drewN _ _ _) (congrArg (World.drewN _) (Nat.add_assoc _ _ _))⟩)) | (go_at_call 13; (with_reducible refine (spec_l1In.calls ((rd_T42 ((rd_T40 l0_0 x36_2).f2) x43_3).f1) 1 (wrap64 ((l0_0.length : Int) - 1)) true _ A25.out).mono ?_); rintro e w' ⟨rfl, ⟨nd, rfl⟩⟩; (try first | exact ⟨rfl, _, World.drewN_drewN _ _ _⟩ | exact ⟨rfl, _, Eq.trans (World.drewN_drewN _ _ _) (congrArg (World.drewN _) (Nat.add_assoc _ _ _))⟩))))
         go_roundg k3
         case measure => have := HJ1.out; have := HK2.out; have := HK3.out; omega
         case rel => exact ⟨(wrap64 (x43_3 + 1)), e3, H', ⟨by have := HJ1.out; have := HK2.out; have := HK3.out; omega⟩, ⟨bf BK121 NB121_128⟩, ⟨bf BK126 NB126_128⟩, ⟨bs3 HB GE121 GE126 GE128⟩⟩
        rw [if_pos c27] at H
        have c27b0 : decide (0 < x43_3) = true := decide_eq_true c27
        clear c27
        obtain ⟨ji28, hji28⟩ : ∃ j_ : Int, (wrap64 (x43_3 - 1)) = j_ := ⟨_, rfl⟩
        replace H : (if 0 ≤ (ji28) then (if (ji28) < (((rd_T40 l0_0 x36_2).f2).length : Int) then (if ((Op.bytesLess (((rd_T42 ((rd_T40 l0_0 x36_2).f2) (ji28)).f0).toList) (((rd_T42 ((rd_T40 l0_0 x36_2).f2) x43_3).f0).toList)) = true) then (spec_GoodNames.l1 k3 (l0_0.length : Int) l0_0 (l0_0.length : Int) x36_2 ((rd_T40 l0_0 x36_2).f2) (((rd_T40 l0_0 x36_2).f2).length : Int) (wrap64 (x43_3 + 1)) l0_0 ((rd_T40 l0_0 x36_2).f0) ((rd_T40 l0_0 x36_2).f1) ((rd_T40 l0_0 x36_2).f2)) else (some false)) else (none)) else (none)) = some r := by first | (rw [hji28] at H; exact H) | (simp only [hji28] at H ⊢; exact H)
        (try rw [hji28] at A23)
        (try rw [hji28] at A25)
        have hji28w : (IntKind.i64.wrap (x43_3 - 1)) = ji28 := (i64_w _).trans hji28
        by_cases c29 : 0 ≤ (ji28)
        rotate_left
        ·
         rw [if_neg c29] at H
         exact absurd H (by simp)
        rw [if_pos c29] at H
        have c29b0 : decide (0 ≤ (ji28)) = true := decide_eq_true c29
        clear c29
        by_cases c30 : (ji28) < (((rd_T40 l0_0 x36_2).f2).length : Int)
        rotate_left
        ·
         rw [if_neg c30] at H
         exact absurd H (by simp)
        rw [if_pos c30] at H
        have c30b0 : decide ((ji28) < (((rd_T40 l0_0 x36_2).f2).length : Int)) = true := decide_eq_true c30
        clear c30
        by_cases c31 : ((Op.bytesLess (((rd_T42 ((rd_T40 l0_0 x36_2).f2) (ji28)).f0).toList) (((rd_T42 ((rd_T40 l0_0 x36_2).f2) x43_3).f0).toList)) = true)
        rotate_left
        ·
         rw [if_neg c31] at H
         have c31b0 : (Op.bytesLess (((rd_T42 ((rd_T40 l0_0 x36_2).f2) (ji28)).f0).toList) (((rd_T42 ((rd_T40 l0_0 x36_2).f2) x43_3).f0).toList)) = false := by simpa using c31
         clear c31
         obtain rfl := Option.some.inj H
         have p127 : 0 ≤ (x43_3 : Int) := od
         have q127 : x43_3 < (((rd_T40 l0_0 x36_2).f2).length : Int) := od
         obtain ⟨ad127, e127, hx127_0, hx127_1⟩ := at_T42 HR125_2.out x43_3 p127 q127
         cases e127
         replace hx127_0 := (HB.out.cell (World.block_lt_of_cell? w _ hx127_0)).trans hx127_0
         replace hx127_1 := (HB.out.cell (World.block_lt_of_cell? w _ hx127_1)).trans hx127_1
         replace p127 := eq_true p127
         replace q127 := eq_true q127
         go_wp2_with (first | ((with_reducible refine gate_dst (N := 7) rfl ?_); (try (refine gate_guard (by rfl) ?_; dsimp only)); refine boxL 7 42 #[.string (⟨#[]⟩ : ByteArray), .int .i64 0] ?_; intro gb128 hg w38 BK128 hb; have GW128 := gw hg (bs2 HB GE121 GE126); have GE128 := gw hg (bs2 HB GE121 GE126); replace HB := Ah (below_step (bs2 HB GE121 GE126) hb); have NB121_128 := nn BK121 hg; have NB128_121 := nm BK121 hg; replace BK121 := nb BK121 hb; have NB126_128 := nn BK126 hg; have NB128_126 := nm BK126 hg; replace BK126 := nb BK126 hb; clear hb hg; have hnb39 := NB128_121.out; have hnc39 := NB121_128.out; have hnb40 := NB128_126.out; have hnc40 := NB126_128.out; obtain ⟨hcz41_0, hcz41_1⟩ := cz2 BK128; obtain ⟨hfz41_0, hfz41_1⟩ := fz2 BK128) | (go_at_call 14; (with_reducible refine (spec_l8Name.calls k3 ((rd_T42 ((rd_T40 l0_0 x36_2).f2) x43_3).f0) true _ A23.out).mono ?_); rintro e w' ⟨rfl, ⟨nd, rfl⟩⟩; (try first | exact ⟨rfl, _, World.drewN_drewN _ _ _⟩ | exact ⟨rfl, _, Eq.trans (World.drewN_drewN _ _ _) (congrArg (World.drewN _) (Nat.add_assoc _ _ _))⟩)) | (go_at_call 13; (with_reducible refine (spec_l1In.calls ((rd_T42 ((rd_T40 l0_0 x36_2).f2) x43_3).f1) 1 (wrap64 ((l0_0.length : Int) - 1)) true _ A25.out).mono ?_); rintro e w' ⟨rfl, ⟨nd, rfl⟩⟩; (try first | exact ⟨rfl, _, World.drewN_drewN _ _ _⟩ | exact ⟨rfl, _, Eq.trans (World.drewN_drewN _ _ _) (congrArg (World.drewN _) (Nat.add_assoc _ _ _))⟩); have hnb42 := NB126_121.out; have hnc42 := NB121_126.out; obtain ⟨hcz43_0, hcz43_1, hcz43_2⟩ := cz3 BK126; obtain ⟨hfz43_0, hfz43_1, hfz43_2⟩ := fz3 BK126; have p131 : 0 ≤ ((ji28) : Int) := od; have q131 : (ji28) < (((rd_T40 l0_0 x36_2).f2).length : Int) := od; obtain ⟨ad131, e131, hx131_0, hx131_1⟩ := at_T42 HR125_2.out (ji28) p131 q131; obtain rfl : ad127 = ad131 := (by injection e131); have hn131_0 : ad127.block ≠ gb128 := Nat.ne_of_lt (Nat.lt_of_lt_of_le (by have := World.block_lt_of_cell? _ _ hx131_0; first | rwa [add_block] at this | exact this) GW128.out); have hn131_1 : ad127.block ≠ gb128 := Nat.ne_of_lt (Nat.lt_of_lt_of_le (by have := World.block_lt_of_cell? _ _ hx131_0; first | rwa [add_block] at this | exact this) GW128.out); replace hx131_0 := (HB.out.cell (World.block_lt_of_cell? w _ hx131_0)).trans hx131_0; replace hx131_1 := (HB.out.cell (World.block_lt_of_cell? w _ hx131_1)).trans hx131_1; replace hx131_0 := (cell_far (p := ⟨gb128, 0, none⟩) (by first | (rw [add_block]; exact hn131_0) | (show (Addr.add _ _).block ≠ _; rw [add_block]; exact hn131_0) | exact hn131_0) (.string ((rd_T42 ((rd_T40 l0_0 x36_2).f2) x43_3).f0))).trans hx131_0; replace hx131_1 := (cell_far (p := ⟨gb128, 0, none⟩) (by first | (rw [add_block]; exact hn131_0) | (show (Addr.add _ _).block ≠ _; rw [add_block]; exact hn131_0) | exact hn131_0) (.string ((rd_T42 ((rd_T40 l0_0 x36_2).f2) x43_3).f0))).trans hx131_1; replace hx131_0 := (cell_far (p := ⟨gb128, 1, none⟩) (by first | (rw [add_block]; exact hn131_1) | (show (Addr.add _ _).block ≠ _; rw [add_block]; exact hn131_1) | exact hn131_1) (.int .i64 ((rd_T42 ((rd_T40 l0_0 x36_2).f2) x43_3).f1))).trans hx131_0; replace hx131_1 := (cell_far (p := ⟨gb128, 1, none⟩) (by first | (rw [add_block]; exact hn131_1) | (show (Addr.add _ _).block ≠ _; rw [add_block]; exact hn131_1) | exact hn131_1) (.int .i64 ((rd_T42 ((rd_T40 l0_0 x36_2).f2) x43_3).f1))).trans hx131_1; (try have hy131_0 := fun (n_ : Nat) => (show ((((w38.drewN n_).setCell ⟨gb128, 0, none⟩ (.string ((rd_T42 ((rd_T40 l0_0 x36_2).f2) x43_3).f0))).setCell ⟨gb128, 1, none⟩ (.int .i64 ((rd_T42 ((rd_T40 l0_0 x36_2).f2) x43_3).f1)))).cell? _ = some _ from hx131_0)); (try have hy131_1 := fun (n_ : Nat) => (show ((((w38.drewN n_).setCell ⟨gb128, 0, none⟩ (.string ((rd_T42 ((rd_T40 l0_0 x36_2).f2) x43_3).f0))).setCell ⟨gb128, 1, none⟩ (.int .i64 ((rd_T42 ((rd_T40 l0_0 x36_2).f2) x43_3).f1)))).cell? _ = some _ from hx131_1)); clear hn131_0; clear hn131_1; replace p131 := eq_true p131; replace q131 := eq_true q131))
         (have hnb42 := NB126_121.out; have hnc42 := NB121_126.out; obtain ⟨hcz43_0, hcz43_1, hcz43_2⟩ := cz3 BK126; obtain ⟨hfz43_0, hfz43_1, hfz43_2⟩ := fz3 BK126; have p131 : 0 ≤ ((ji28) : Int) := od; have q131 : (ji28) < (((rd_T40 l0_0 x36_2).f2).length : Int) := od; obtain ⟨ad131, e131, hx131_0, hx131_1⟩ := at_T42 HR125_2.out (ji28) p131 q131; obtain rfl : ad127 = ad131 := (by injection e131); have hn131_0 : ad127.block ≠ gb128 := Nat.ne_of_lt (Nat.lt_of_lt_of_le (by have := World.block_lt_of_cell? _ _ hx131_0; first | rwa [add_block] at this | exact this) GW128.out); have hn131_1 : ad127.block ≠ gb128 := Nat.ne_of_lt (Nat.lt_of_lt_of_le (by have := World.block_lt_of_cell? _ _ hx131_0; first | rwa [add_block] at this | exact this) GW128.out); replace hx131_0 := (HB.out.cell (World.block_lt_of_cell? w _ hx131_0)).trans hx131_0; replace hx131_1 := (HB.out.cell (World.block_lt_of_cell? w _ hx131_1)).trans hx131_1; replace hx131_0 := (cell_far (p := ⟨gb128, 0, none⟩) (by first | (rw [add_block]; exact hn131_0) | (show (Addr.add _ _).block ≠ _; rw [add_block]; exact hn131_0) | exact hn131_0) (.string ((rd_T42 ((rd_T40 l0_0 x36_2).f2) x43_3).f0))).trans hx131_0; replace hx131_1 := (cell_far (p := ⟨gb128, 0, none⟩) (by first | (rw [add_block]; exact hn131_0) | (show (Addr.add _ _).block ≠ _; rw [add_block]; exact hn131_0) | exact hn131_0) (.string ((rd_T42 ((rd_T40 l0_0 x36_2).f2) x43_3).f0))).trans hx131_1; replace hx131_0 := (cell_far (p := ⟨gb128, 1, none⟩) (by first | (rw [add_block]; exact hn131_1) | (show (Addr.add _ _).block ≠ _; rw [add_block]; exact hn131_1) | exact hn131_1) (.int .i64 ((rd_T42 ((rd_T40 l0_0 x36_2).f2) x43_3).f1))).trans hx131_0; replace hx131_1 := (cell_far (p := ⟨gb128, 1, none⟩) (by first | (rw [add_block]; exact hn131_1) | (show (Addr.add _ _).block ≠ _; rw [add_block]; exact hn131_1) | exact hn131_1) (.int .i64 ((rd_T42 ((rd_T40 l0_0 x36_2).f2) x43_3).f1))).trans hx131_1; (try have hy131_0 := fun (n_ : Nat) => (show ((((w38.drewN n_).setCell ⟨gb128, 0, none⟩ (.string ((rd_T42 ((rd_T40 l0_0 x36_2).f2) x43_3).f0))).setCell ⟨gb128, 1, none⟩ (.int .i64 ((rd_T42 ((rd_T40 l0_0 x36_2).f2) x43_3).f1)))).cell? _ = some _ from hx131_0)); (try have hy131_1 := fun (n_ : Nat) => (show ((((w38.drewN n_).setCell ⟨gb128, 0, none⟩ (.string ((rd_T42 ((rd_T40 l0_0 x36_2).f2) x43_3).f0))).setCell ⟨gb128, 1, none⟩ (.int .i64 ((rd_T42 ((rd_T40 l0_0 x36_2).f2) x43_3).f1)))).cell? _ = some _ from hx131_1)); clear hn131_0; clear hn131_1; replace p131 := eq_true p131; replace q131 := eq_true q131)
         repeat (go_quiet (first | ((with_reducible refine gate_dst (N := 7) rfl ?_); (try (refine gate_guard (by rfl) ?_; dsimp only)); refine boxL 7 42 #[.string (⟨#[]⟩ : ByteArray), .int .i64 0] ?_; intro gb128 hg w38 BK128 hb; have GW128 := gw hg (bs2 HB GE121 GE126); have GE128 := gw hg (bs2 HB GE121 GE126); replace HB := Ah (below_step (bs2 HB GE121 GE126) hb); have NB121_128 := nn BK121 hg; have NB128_121 := nm BK121 hg; replace BK121 := nb BK121 hb; have NB126_128 := nn BK126 hg; have NB128_126 := nm BK126 hg; replace BK126 := nb BK126 hb; clear hb hg; have hnb39 := NB128_121.out; have hnc39 := NB121_128.out; have hnb40 := NB128_126.out; have hnc40 := NB126_128.out; obtain ⟨hcz41_0, hcz41_1⟩ := cz2 BK128; obtain ⟨hfz41_0, hfz41_1⟩ := fz2 BK128) | (go_at_call 14; (with_reducible refine (spec_l8Name.calls k3 ((rd_T42 ((rd_T40 l0_0 x36_2).f2) x43_3).f0) true _ A23.out).mono ?_); rintro e w' ⟨rfl, ⟨nd, rfl⟩⟩; (try first | exact ⟨rfl, _, World.drewN_drewN _ _ _⟩ | exact ⟨rfl, _, Eq.trans (World.drewN_drewN _ _ _) (congrArg (World.drewN _) (Nat.add_assoc _ _ _))⟩)) | (go_at_call 13; (with_reducible refine (spec_l1In.calls ((rd_T42 ((rd_T40 l0_0 x36_2).f2) x43_3).f1) 1 (wrap64 ((l0_0.length : Int) - 1)) true _ A25.out).mono ?_); rintro e w' ⟨rfl, ⟨nd, rfl⟩⟩; (try first | exact ⟨rfl, _, World.drewN_drewN _ _ _⟩ | exact ⟨rfl, _, Eq.trans (World.drewN_drewN _ _ _) (congrArg (World.drewN _) (Nat.add_assoc _ _ _))⟩))); try go_wp2_with (first | ((with_reducible refine gate_dst (N := 7) rfl ?_); (try (refine gate_guard (by rfl) ?_; dsimp only)); refine boxL 7 42 #[.string (⟨#[]⟩ : ByteArray), .int .i64 0] ?_; intro gb128 hg w38 BK128 hb; have GW128 := gw hg (bs2 HB GE121 GE126); have GE128 := gw hg (bs2 HB GE121 GE126); replace HB := Ah (below_step (bs2 HB GE121 GE126) hb); have NB121_128 := nn BK121 hg; have NB128_121 := nm BK121 hg; replace BK121 := nb BK121 hb; have NB126_128 := nn BK126 hg; have NB128_126 := nm BK126 hg; replace BK126 := nb BK126 hb; clear hb hg; have hnb39 := NB128_121.out; have hnc39 := NB121_128.out; have hnb40 := NB128_126.out; have hnc40 := NB126_128.out; obtain ⟨hcz41_0, hcz41_1⟩ := cz2 BK128; obtain ⟨hfz41_0, hfz41_1⟩ := fz2 BK128) | (go_at_call 14; (with_reducible refine (spec_l8Name.calls k3 ((rd_T42 ((rd_T40 l0_0 x36_2).f2) x43_3).f0) true _ A23.out).mono ?_); rintro e w' ⟨rfl, ⟨nd, rfl⟩⟩; (try first | exact ⟨rfl, _, World.drewN_drewN _ _ _⟩ | exact ⟨rfl, _, Eq.trans (World.drewN_drewN _ _ _) (congrArg (World.drewN _) (Nat.add_assoc _ _ _))⟩)) | (go_at_call 13; (with_reducible refine (spec_l1In.calls ((rd_T42 ((rd_T40 l0_0 x36_2).f2) x43_3).f1) 1 (wrap64 ((l0_0.length : Int) - 1)) true _ A25.out).mono ?_); rintro e w' ⟨rfl, ⟨nd, rfl⟩⟩; (try first | exact ⟨rfl, _, World.drewN_drewN _ _ _⟩ | exact ⟨rfl, _, Eq.trans (World.drewN_drewN _ _ _) (congrArg (World.drewN _) (Nat.add_assoc _ _ _))⟩))))
         go_ret
         exact ⟨by first | rfl | (simp [errW_none, errW_some] <;> rfl) | (simp only [← hji28]; first | rfl | (simp [errW_none, errW_some] <;> rfl)) | (simp [*, errW_none, errW_some] <;> rfl), bs3 HB GE121 GE126 GE128⟩
        rw [if_pos c31] at H
        have c31b0 : (Op.bytesLess (((rd_T42 ((rd_T40 l0_0 x36_2).f2) (ji28)).f0).toList) (((rd_T42 ((rd_T40 l0_0 x36_2).f2) x43_3).f0).toList)) = true := c31
        clear c31
        have H' := Ah H
        clear H
        have p127 : 0 ≤ (x43_3 : Int) := od
        have q127 : x43_3 < (((rd_T40 l0_0 x36_2).f2).length : Int) := od
        obtain ⟨ad127, e127, hx127_0, hx127_1⟩ := at_T42 HR125_2.out x43_3 p127 q127
        cases e127
        replace hx127_0 := (HB.out.cell (World.block_lt_of_cell? w _ hx127_0)).trans hx127_0
        replace hx127_1 := (HB.out.cell (World.block_lt_of_cell? w _ hx127_1)).trans hx127_1
        replace p127 := eq_true p127
        replace q127 := eq_true q127
        go_wp2_with (first | ((with_reducible refine gate_dst (N := 7) rfl ?_); (try (refine gate_guard (by rfl) ?_; dsimp only)); refine boxL 7 42 #[.string (⟨#[]⟩ : ByteArray), .int .i64 0] ?_; intro gb128 hg w32 BK128 hb; have GW128 := gw hg (bs2 HB GE121 GE126); have GE128 := gw hg (bs2 HB GE121 GE126); replace HB := Ah (below_step (bs2 HB GE121 GE126) hb); have NB121_128 := nn BK121 hg; have NB128_121 := nm BK121 hg; replace BK121 := nb BK121 hb; have NB126_128 := nn BK126 hg; have NB128_126 := nm BK126 hg; replace BK126 := nb BK126 hb; clear hb hg; have hnb33 := NB128_121.out; have hnc33 := NB121_128.out; have hnb34 := NB128_126.out; have hnc34 := NB126_128.out; obtain ⟨hcz35_0, hcz35_1⟩ := cz2 BK128; obtain ⟨hfz35_0, hfz35_1⟩ := fz2 BK128) | (go_at_call 14; (with_reducible refine (spec_l8Name.calls k3 ((rd_T42 ((rd_T40 l0_0 x36_2).f2) x43_3).f0) true _ A23.out).mono ?_); rintro e w' ⟨rfl, ⟨nd, rfl⟩⟩; (try first | exact ⟨rfl, _, World.drewN_drewN _ _ _⟩ | exact ⟨rfl, _, Eq.trans (World.drewN_drewN _ _ _) (congrArg (World.drewN _) (Nat.add_assoc _ _ _))⟩)) | (go_at_call 13; (with_reducible refine (spec_l1In.calls ((rd_T42 ((rd_T40 l0_0 x36_2).f2) x43_3).f1) 1 (wrap64 ((l0_0.length : Int) - 1)) true _ A25.out).mono ?_); rintro e w' ⟨rfl, ⟨nd, rfl⟩⟩; (try first | exact ⟨rfl, _, World.drewN_drewN _ _ _⟩ | exact ⟨rfl, _, Eq.trans (World.drewN_drewN _ _ _) (congrArg (World.drewN _) (Nat.add_assoc _ _ _))⟩); have hnb36 := NB126_121.out; have hnc36 := NB121_126.out; obtain ⟨hcz37_0, hcz37_1, hcz37_2⟩ := cz3 BK126; obtain ⟨hfz37_0, hfz37_1, hfz37_2⟩ := fz3 BK126; have p131 : 0 ≤ ((ji28) : Int) := od; have q131 : (ji28) < (((rd_T40 l0_0 x36_2).f2).length : Int) := od; obtain ⟨ad131, e131, hx131_0, hx131_1⟩ := at_T42 HR125_2.out (ji28) p131 q131; obtain rfl : ad127 = ad131 := (by injection e131); have hn131_0 : ad127.block ≠ gb128 := Nat.ne_of_lt (Nat.lt_of_lt_of_le (by have := World.block_lt_of_cell? _ _ hx131_0; first | rwa [add_block] at this | exact this) GW128.out); have hn131_1 : ad127.block ≠ gb128 := Nat.ne_of_lt (Nat.lt_of_lt_of_le (by have := World.block_lt_of_cell? _ _ hx131_0; first | rwa [add_block] at this | exact this) GW128.out); replace hx131_0 := (HB.out.cell (World.block_lt_of_cell? w _ hx131_0)).trans hx131_0; replace hx131_1 := (HB.out.cell (World.block_lt_of_cell? w _ hx131_1)).trans hx131_1; replace hx131_0 := (cell_far (p := ⟨gb128, 0, none⟩) (by first | (rw [add_block]; exact hn131_0) | (show (Addr.add _ _).block ≠ _; rw [add_block]; exact hn131_0) | exact hn131_0) (.string ((rd_T42 ((rd_T40 l0_0 x36_2).f2) x43_3).f0))).trans hx131_0; replace hx131_1 := (cell_far (p := ⟨gb128, 0, none⟩) (by first | (rw [add_block]; exact hn131_0) | (show (Addr.add _ _).block ≠ _; rw [add_block]; exact hn131_0) | exact hn131_0) (.string ((rd_T42 ((rd_T40 l0_0 x36_2).f2) x43_3).f0))).trans hx131_1; replace hx131_0 := (cell_far (p := ⟨gb128, 1, none⟩) (by first | (rw [add_block]; exact hn131_1) | (show (Addr.add _ _).block ≠ _; rw [add_block]; exact hn131_1) | exact hn131_1) (.int .i64 ((rd_T42 ((rd_T40 l0_0 x36_2).f2) x43_3).f1))).trans hx131_0; replace hx131_1 := (cell_far (p := ⟨gb128, 1, none⟩) (by first | (rw [add_block]; exact hn131_1) | (show (Addr.add _ _).block ≠ _; rw [add_block]; exact hn131_1) | exact hn131_1) (.int .i64 ((rd_T42 ((rd_T40 l0_0 x36_2).f2) x43_3).f1))).trans hx131_1; (try have hy131_0 := fun (n_ : Nat) => (show ((((w32.drewN n_).setCell ⟨gb128, 0, none⟩ (.string ((rd_T42 ((rd_T40 l0_0 x36_2).f2) x43_3).f0))).setCell ⟨gb128, 1, none⟩ (.int .i64 ((rd_T42 ((rd_T40 l0_0 x36_2).f2) x43_3).f1)))).cell? _ = some _ from hx131_0)); (try have hy131_1 := fun (n_ : Nat) => (show ((((w32.drewN n_).setCell ⟨gb128, 0, none⟩ (.string ((rd_T42 ((rd_T40 l0_0 x36_2).f2) x43_3).f0))).setCell ⟨gb128, 1, none⟩ (.int .i64 ((rd_T42 ((rd_T40 l0_0 x36_2).f2) x43_3).f1)))).cell? _ = some _ from hx131_1)); clear hn131_0; clear hn131_1; replace p131 := eq_true p131; replace q131 := eq_true q131))
        (have hnb36 := NB126_121.out; have hnc36 := NB121_126.out; obtain ⟨hcz37_0, hcz37_1, hcz37_2⟩ := cz3 BK126; obtain ⟨hfz37_0, hfz37_1, hfz37_2⟩ := fz3 BK126; have p131 : 0 ≤ ((ji28) : Int) := od; have q131 : (ji28) < (((rd_T40 l0_0 x36_2).f2).length : Int) := od; obtain ⟨ad131, e131, hx131_0, hx131_1⟩ := at_T42 HR125_2.out (ji28) p131 q131; obtain rfl : ad127 = ad131 := (by injection e131); have hn131_0 : ad127.block ≠ gb128 := Nat.ne_of_lt (Nat.lt_of_lt_of_le (by have := World.block_lt_of_cell? _ _ hx131_0; first | rwa [add_block] at this | exact this) GW128.out); have hn131_1 : ad127.block ≠ gb128 := Nat.ne_of_lt (Nat.lt_of_lt_of_le (by have := World.block_lt_of_cell? _ _ hx131_0; first | rwa [add_block] at this | exact this) GW128.out); replace hx131_0 := (HB.out.cell (World.block_lt_of_cell? w _ hx131_0)).trans hx131_0; replace hx131_1 := (HB.out.cell (World.block_lt_of_cell? w _ hx131_1)).trans hx131_1; replace hx131_0 := (cell_far (p := ⟨gb128, 0, none⟩) (by first | (rw [add_block]; exact hn131_0) | (show (Addr.add _ _).block ≠ _; rw [add_block]; exact hn131_0) | exact hn131_0) (.string ((rd_T42 ((rd_T40 l0_0 x36_2).f2) x43_3).f0))).trans hx131_0; replace hx131_1 := (cell_far (p := ⟨gb128, 0, none⟩) (by first | (rw [add_block]; exact hn131_0) | (show (Addr.add _ _).block ≠ _; rw [add_block]; exact hn131_0) | exact hn131_0) (.string ((rd_T42 ((rd_T40 l0_0 x36_2).f2) x43_3).f0))).trans hx131_1; replace hx131_0 := (cell_far (p := ⟨gb128, 1, none⟩) (by first | (rw [add_block]; exact hn131_1) | (show (Addr.add _ _).block ≠ _; rw [add_block]; exact hn131_1) | exact hn131_1) (.int .i64 ((rd_T42 ((rd_T40 l0_0 x36_2).f2) x43_3).f1))).trans hx131_0; replace hx131_1 := (cell_far (p := ⟨gb128, 1, none⟩) (by first | (rw [add_block]; exact hn131_1) | (show (Addr.add _ _).block ≠ _; rw [add_block]; exact hn131_1) | exact hn131_1) (.int .i64 ((rd_T42 ((rd_T40 l0_0 x36_2).f2) x43_3).f1))).trans hx131_1; (try have hy131_0 := fun (n_ : Nat) => (show ((((w32.drewN n_).setCell ⟨gb128, 0, none⟩ (.string ((rd_T42 ((rd_T40 l0_0 x36_2).f2) x43_3).f0))).setCell ⟨gb128, 1, none⟩ (.int .i64 ((rd_T42 ((rd_T40 l0_0 x36_2).f2) x43_3).f1)))).cell? _ = some _ from hx131_0)); (try have hy131_1 := fun (n_ : Nat) => (show ((((w32.drewN n_).setCell ⟨gb128, 0, none⟩ (.string ((rd_T42 ((rd_T40 l0_0 x36_2).f2) x43_3).f0))).setCell ⟨gb128, 1, none⟩ (.int .i64 ((rd_T42 ((rd_T40 l0_0 x36_2).f2) x43_3).f1)))).cell? _ = some _ from hx131_1)); clear hn131_0; clear hn131_1; replace p131 := eq_true p131; replace q131 := eq_true q131)
        repeat (go_quiet (first | ((with_reducible refine gate_dst (N := 7) rfl ?_); (try (refine gate_guard (by rfl) ?_; dsimp only)); refine boxL 7 42 #[.string (⟨#[]⟩ : ByteArray), .int .i64 0] ?_; intro gb128 hg w32 BK128 hb; have GW128 := gw hg (bs2 HB GE121 GE126); have GE128 := gw hg (bs2 HB GE121 GE126); replace HB := Ah (below_step (bs2 HB GE121 GE126) hb); have NB121_128 := nn BK121 hg; have NB128_121 := nm BK121 hg; replace BK121 := nb BK121 hb; have NB126_128 := nn BK126 hg; have NB128_126 := nm BK126 hg; replace BK126 := nb BK126 hb; clear hb hg; have hnb33 := NB128_121.out; have hnc33 := NB121_128.out; have hnb34 := NB128_126.out; have hnc34 := NB126_128.out; obtain ⟨hcz35_0, hcz35_1⟩ := cz2 BK128; obtain ⟨hfz35_0, hfz35_1⟩ := fz2 BK128) | (go_at_call 14; (with_reducible refine (spec_l8Name.calls k3 ((rd_T42 ((rd_T40 l0_0 x36_2).f2) x43_3).f0) true _ A23.out).mono ?_); rintro e w' ⟨rfl, ⟨nd, rfl⟩⟩; (try first | exact ⟨rfl, _, World.drewN_drewN _ _ _⟩ | exact ⟨rfl, _, Eq.trans (World.drewN_drewN _ _ _) (congrArg (World.drewN _) (Nat.add_assoc _ _ _))⟩)) | (go_at_call 13; (with_reducible refine (spec_l1In.calls ((rd_T42 ((rd_T40 l0_0 x36_2).f2) x43_3).f1) 1 (wrap64 ((l0_0.length : Int) - 1)) true _ A25.out).mono ?_); rintro e w' ⟨rfl, ⟨nd, rfl⟩⟩; (try first | exact ⟨rfl, _, World.drewN_drewN _ _ _⟩ | exact ⟨rfl, _, Eq.trans (World.drewN_drewN _ _ _) (congrArg (World.drewN _) (Nat.add_assoc _ _ _))⟩))); try go_wp2_with (first | ((with_reducible refine gate_dst (N := 7) rfl ?_); (try (refine gate_guard (by rfl) ?_; dsimp only)); refine boxL 7 42 #[.string (⟨#[]⟩ : ByteArray), .int .i64 0] ?_; intro gb128 hg w32 BK128 hb; have GW128 := gw hg (bs2 HB GE121 GE126); have GE128 := gw hg (bs2 HB GE121 GE126); replace HB := Ah (below_step (bs2 HB GE121 GE126) hb); have NB121_128 := nn BK121 hg; have NB128_121 := nm BK121 hg; replace BK121 := nb BK121 hb; have NB126_128 := nn BK126 hg; have NB128_126 := nm BK126 hg; replace BK126 := nb BK126 hb; clear hb hg; have hnb33 := NB128_121.out; have hnc33 := NB121_128.out; have hnb34 := NB128_126.out; have hnc34 := NB126_128.out; obtain ⟨hcz35_0, hcz35_1⟩ := cz2 BK128; obtain ⟨hfz35_0, hfz35_1⟩ := fz2 BK128) | (go_at_call 14; (with_reducible refine (spec_l8Name.calls k3 ((rd_T42 ((rd_T40 l0_0 x36_2).f2) x43_3).f0) true _ A23.out).mono ?_); rintro e w' ⟨rfl, ⟨nd, rfl⟩⟩; (try first | exact ⟨rfl, _, World.drewN_drewN _ _ _⟩ | exact ⟨rfl, _, Eq.trans (World.drewN_drewN _ _ _) (congrArg (World.drewN _) (Nat.add_assoc _ _ _))⟩)) | (go_at_call 13; (with_reducible refine (spec_l1In.calls ((rd_T42 ((rd_T40 l0_0 x36_2).f2) x43_3).f1) 1 (wrap64 ((l0_0.length : Int) - 1)) true _ A25.out).mono ?_); rintro e w' ⟨rfl, ⟨nd, rfl⟩⟩; (try first | exact ⟨rfl, _, World.drewN_drewN _ _ _⟩ | exact ⟨rfl, _, Eq.trans (World.drewN_drewN _ _ _) (congrArg (World.drewN _) (Nat.add_assoc _ _ _))⟩))))
        go_roundg k3
        case measure => have := HJ1.out; have := HK2.out; have := HK3.out; omega
        case rel => exact ⟨(wrap64 (x43_3 + 1)), e3, H', ⟨by have := HJ1.out; have := HK2.out; have := HK3.out; omega⟩, ⟨bf BK121 NB121_128⟩, ⟨bf BK126 NB126_128⟩, ⟨bs3 HB GE121 GE126 GE128⟩⟩
     rw [if_neg c14] at H
     have c14b0 : decide (x36_2 < (l0_0.length : Int)) = false := decide_eq_false c14
     clear c14
     by_cases c70 : 0 ≤ (l0_0.length : Int)
     rotate_left
     ·
      rw [if_neg c70] at H
      exact absurd H (by simp)
     rw [if_pos c70] at H
     have c70b0 := eq_true c70
     have c70b1 : decide (0 ≤ (l0_0.length : Int)) = true := decide_eq_true c70
     clear c70
     by_cases c71 : ((l0_0.length : Int) : Int).toNat ≤ 35184372088832
     rotate_left
     ·
      rw [if_neg c71] at H
      exact absurd H (by simp)
     rw [if_pos c71] at H
     have c71b0 := eq_true c71
     have c71b1 : decide (((l0_0.length : Int) : Int).toNat ≤ 35184372088832) = true := decide_eq_true c71
     clear c71
     obtain ⟨y132, hy132⟩ : ∃ y_ : List Int, y_ = (List.replicate ((l0_0.length : Int) : Int).toNat 0) := ⟨_, rfl⟩
     replace H : ((spec_l13Seen.f k2 l0_0 0 0 y132).bind fun bt135 => (if bt135.1 = true then (spec_GoodNames.l2 k2 bt135.2 l0_0 (l0_0.length : Int) 0) else (some false))) = some r := by first | (rw [hy132]; with_reducible exact H) | (have H2_ := (Option.bind_some _ _).symm.trans H; rw [hy132]; with_reducible exact H2_) | (have H2_ := (Option.bind_some _ _).symm.trans H; with_reducible exact H2_) | with_reducible exact H | (rw [hy132]; exact H) | exact H
     have Ny132 := Ah hy132
     clear hy132
     replace H := Option.bind_eq_some_iff.mp H
     obtain ⟨⟨t135, t136⟩, A720, H⟩ := H
     try dsimp only at H
     have A72 := Ah A720
     clear A720
     by_cases c73 : t135 = true
     rotate_left
     ·
      replace c73 := Bool.eq_false_iff.mpr c73
      subst c73
      rw [if_neg fne] at H
      obtain rfl := Option.some.inj H
      go_wp2_with (first | ((with_reducible refine gate_dst (N := 94) rfl ?_); (try (refine gate_guard (by rfl) ?_; dsimp only)); refine Kd.R_make (Kd.int .i64) _ 3 rfl (N := 94) rfl 44 _ _ rfl (l0_0.length : Int) rfl rfl Tryd.underlying44 (.int .i64 0) 8 info3 rfl (by decide) (by omega) 0 (ok := fun _ => True) (okp := fun _ => True) rfl (fun _ hk => hk) trivial (od) (Nat.le_trans (Nat.mul_le_mul_right _ (od : (l0_0.length : Int).toNat ≤ 35184372088832)) (by omega)) (Below.refl _ _) (Nat.le_refl _) ?_; intro v133 w104 ho105 hb hg_ hnew_; clear hg_ hnew_; (first | rw [← Ny132.out] at ho105 | (simp only [Int.reduceToNat] at ho105; rw [← Ny132.out] at ho105)); have HO134 := Ah (Kd.R_lower ho105 (below_size (bs1 HB GE121))); replace BK121 := nb BK121 hb; replace HB := Ah (below_step (bs1 HB GE121) hb); clear hb ho105; have hcz106_0 := cz1 BK121; have hfz106_0 := fz1 BK121; obtain ⟨Ao107, co107, eo107⟩ := Kd.R_slice HO134.out; subst eo107) | (go_at_call 15; (with_reducible refine (spec_l13Seen.calls k2 _ _ l0_0 0 0 (fun k_ => some k_ = (.slice Ao107 y132.length co107 : Value).ownBlock) (.slice Ao107 y132.length co107) y132 false t136 w _ ?side1 ?side2 ?side3 ?side4 A72.out).mono ?_); (case side1 => repeat (first | (with_reducible first | exact HB.out | apply below_alloc | apply pw_below_drewN | apply below_drew1 | refine below_set ?_ GE121.out) | exact HB.out)); (case side2 => exact HR0_0.out); (case side3 => exact HC0_0.out); (case side4 => exact Kd.R_tight rfl HO134.out); rintro e w108 ⟨rfl, hy0, hb, hkp⟩; replace BK121 := Ah (blk_kept (bk BK121) hkp (fun hs_ => (fun e_ => (Kd.R_ne HO134.out BK121.out (by decide)) e_) hs_)); replace HO134 := Ah (Kd.R_reok rfl hy0 (fun k_ e_ => HO134.out.1 k_ e_)); replace HB := Ah (hb); (try clear hb hkp hy0)))
      repeat (go_quiet (first | ((with_reducible refine gate_dst (N := 94) rfl ?_); (try (refine gate_guard (by rfl) ?_; dsimp only)); refine Kd.R_make (Kd.int .i64) _ 3 rfl (N := 94) rfl 44 _ _ rfl (l0_0.length : Int) rfl rfl Tryd.underlying44 (.int .i64 0) 8 info3 rfl (by decide) (by omega) 0 (ok := fun _ => True) (okp := fun _ => True) rfl (fun _ hk => hk) trivial (od) (Nat.le_trans (Nat.mul_le_mul_right _ (od : (l0_0.length : Int).toNat ≤ 35184372088832)) (by omega)) (Below.refl _ _) (Nat.le_refl _) ?_; intro v133 w104 ho105 hb hg_ hnew_; clear hg_ hnew_; (first | rw [← Ny132.out] at ho105 | (simp only [Int.reduceToNat] at ho105; rw [← Ny132.out] at ho105)); have HO134 := Ah (Kd.R_lower ho105 (below_size (bs1 HB GE121))); replace BK121 := nb BK121 hb; replace HB := Ah (below_step (bs1 HB GE121) hb); clear hb ho105; have hcz106_0 := cz1 BK121; have hfz106_0 := fz1 BK121; obtain ⟨Ao107, co107, eo107⟩ := Kd.R_slice HO134.out; subst eo107) | (go_at_call 15; (with_reducible refine (spec_l13Seen.calls k2 _ _ l0_0 0 0 (fun k_ => some k_ = (.slice Ao107 y132.length co107 : Value).ownBlock) (.slice Ao107 y132.length co107) y132 false t136 w _ ?side1 ?side2 ?side3 ?side4 A72.out).mono ?_); (case side1 => repeat (first | (with_reducible first | exact HB.out | apply below_alloc | apply pw_below_drewN | apply below_drew1 | refine below_set ?_ GE121.out) | exact HB.out)); (case side2 => exact HR0_0.out); (case side3 => exact HC0_0.out); (case side4 => exact Kd.R_tight rfl HO134.out); rintro e w108 ⟨rfl, hy0, hb, hkp⟩; replace BK121 := Ah (blk_kept (bk BK121) hkp (fun hs_ => (fun e_ => (Kd.R_ne HO134.out BK121.out (by decide)) e_) hs_)); replace HO134 := Ah (Kd.R_reok rfl hy0 (fun k_ e_ => HO134.out.1 k_ e_)); replace HB := Ah (hb); (try clear hb hkp hy0))); try go_wp2_with (first | ((with_reducible refine gate_dst (N := 94) rfl ?_); (try (refine gate_guard (by rfl) ?_; dsimp only)); refine Kd.R_make (Kd.int .i64) _ 3 rfl (N := 94) rfl 44 _ _ rfl (l0_0.length : Int) rfl rfl Tryd.underlying44 (.int .i64 0) 8 info3 rfl (by decide) (by omega) 0 (ok := fun _ => True) (okp := fun _ => True) rfl (fun _ hk => hk) trivial (od) (Nat.le_trans (Nat.mul_le_mul_right _ (od : (l0_0.length : Int).toNat ≤ 35184372088832)) (by omega)) (Below.refl _ _) (Nat.le_refl _) ?_; intro v133 w104 ho105 hb hg_ hnew_; clear hg_ hnew_; (first | rw [← Ny132.out] at ho105 | (simp only [Int.reduceToNat] at ho105; rw [← Ny132.out] at ho105)); have HO134 := Ah (Kd.R_lower ho105 (below_size (bs1 HB GE121))); replace BK121 := nb BK121 hb; replace HB := Ah (below_step (bs1 HB GE121) hb); clear hb ho105; have hcz106_0 := cz1 BK121; have hfz106_0 := fz1 BK121; obtain ⟨Ao107, co107, eo107⟩ := Kd.R_slice HO134.out; subst eo107) | (go_at_call 15; (with_reducible refine (spec_l13Seen.calls k2 _ _ l0_0 0 0 (fun k_ => some k_ = (.slice Ao107 y132.length co107 : Value).ownBlock) (.slice Ao107 y132.length co107) y132 false t136 w _ ?side1 ?side2 ?side3 ?side4 A72.out).mono ?_); (case side1 => repeat (first | (with_reducible first | exact HB.out | apply below_alloc | apply pw_below_drewN | apply below_drew1 | refine below_set ?_ GE121.out) | exact HB.out)); (case side2 => exact HR0_0.out); (case side3 => exact HC0_0.out); (case side4 => exact Kd.R_tight rfl HO134.out); rintro e w108 ⟨rfl, hy0, hb, hkp⟩; replace BK121 := Ah (blk_kept (bk BK121) hkp (fun hs_ => (fun e_ => (Kd.R_ne HO134.out BK121.out (by decide)) e_) hs_)); replace HO134 := Ah (Kd.R_reok rfl hy0 (fun k_ e_ => HO134.out.1 k_ e_)); replace HB := Ah (hb); (try clear hb hkp hy0))))
      go_ret
      exact ⟨er, bs1 HB GE121⟩
     subst c73
     rw [if_pos rfl] at H
     have H' := Ah H
     clear H
     go_wp2_with (first | ((with_reducible refine gate_dst (N := 94) rfl ?_); (try (refine gate_guard (by rfl) ?_; dsimp only)); refine Kd.R_make (Kd.int .i64) _ 3 rfl (N := 94) rfl 44 _ _ rfl (l0_0.length : Int) rfl rfl Tryd.underlying44 (.int .i64 0) 8 info3 rfl (by decide) (by omega) 0 (ok := fun _ => True) (okp := fun _ => True) rfl (fun _ hk => hk) trivial (od) (Nat.le_trans (Nat.mul_le_mul_right _ (od : (l0_0.length : Int).toNat ≤ 35184372088832)) (by omega)) (Below.refl _ _) (Nat.le_refl _) ?_; intro v133 w74 ho75 hb hg_ hnew_; clear hg_ hnew_; (first | rw [← Ny132.out] at ho75 | (simp only [Int.reduceToNat] at ho75; rw [← Ny132.out] at ho75)); have HO134 := Ah (Kd.R_lower ho75 (below_size (bs1 HB GE121))); replace BK121 := nb BK121 hb; replace HB := Ah (below_step (bs1 HB GE121) hb); clear hb ho75; have hcz76_0 := cz1 BK121; have hfz76_0 := fz1 BK121; obtain ⟨Ao77, co77, eo77⟩ := Kd.R_slice HO134.out; subst eo77) | (go_at_call 15; (with_reducible refine (spec_l13Seen.calls k2 _ _ l0_0 0 0 (fun k_ => some k_ = (.slice Ao77 y132.length co77 : Value).ownBlock) (.slice Ao77 y132.length co77) y132 true t136 w _ ?side1 ?side2 ?side3 ?side4 A72.out).mono ?_); (case side1 => repeat (first | (with_reducible first | exact HB.out | apply below_alloc | apply pw_below_drewN | apply below_drew1 | refine below_set ?_ GE121.out) | exact HB.out)); (case side2 => exact HR0_0.out); (case side3 => exact HC0_0.out); (case side4 => exact Kd.R_tight rfl HO134.out); rintro e w78 ⟨rfl, hy0, hb, hkp⟩; replace BK121 := Ah (blk_kept (bk BK121) hkp (fun hs_ => (fun e_ => (Kd.R_ne HO134.out BK121.out (by decide)) e_) hs_)); replace HO134 := Ah (Kd.R_reok rfl hy0 (fun k_ e_ => HO134.out.1 k_ e_)); replace HB := Ah (hb); (try clear hb hkp hy0); have hcz79_0 := cz1 BK121; have hfz79_0 := fz1 BK121))
     repeat (go_quiet (first | ((with_reducible refine gate_dst (N := 94) rfl ?_); (try (refine gate_guard (by rfl) ?_; dsimp only)); refine Kd.R_make (Kd.int .i64) _ 3 rfl (N := 94) rfl 44 _ _ rfl (l0_0.length : Int) rfl rfl Tryd.underlying44 (.int .i64 0) 8 info3 rfl (by decide) (by omega) 0 (ok := fun _ => True) (okp := fun _ => True) rfl (fun _ hk => hk) trivial (od) (Nat.le_trans (Nat.mul_le_mul_right _ (od : (l0_0.length : Int).toNat ≤ 35184372088832)) (by omega)) (Below.refl _ _) (Nat.le_refl _) ?_; intro v133 w74 ho75 hb hg_ hnew_; clear hg_ hnew_; (first | rw [← Ny132.out] at ho75 | (simp only [Int.reduceToNat] at ho75; rw [← Ny132.out] at ho75)); have HO134 := Ah (Kd.R_lower ho75 (below_size (bs1 HB GE121))); replace BK121 := nb BK121 hb; replace HB := Ah (below_step (bs1 HB GE121) hb); clear hb ho75; have hcz76_0 := cz1 BK121; have hfz76_0 := fz1 BK121; obtain ⟨Ao77, co77, eo77⟩ := Kd.R_slice HO134.out; subst eo77) | (go_at_call 15; (with_reducible refine (spec_l13Seen.calls k2 _ _ l0_0 0 0 (fun k_ => some k_ = (.slice Ao77 y132.length co77 : Value).ownBlock) (.slice Ao77 y132.length co77) y132 true t136 w _ ?side1 ?side2 ?side3 ?side4 A72.out).mono ?_); (case side1 => repeat (first | (with_reducible first | exact HB.out | apply below_alloc | apply pw_below_drewN | apply below_drew1 | refine below_set ?_ GE121.out) | exact HB.out)); (case side2 => exact HR0_0.out); (case side3 => exact HC0_0.out); (case side4 => exact Kd.R_tight rfl HO134.out); rintro e w78 ⟨rfl, hy0, hb, hkp⟩; replace BK121 := Ah (blk_kept (bk BK121) hkp (fun hs_ => (fun e_ => (Kd.R_ne HO134.out BK121.out (by decide)) e_) hs_)); replace HO134 := Ah (Kd.R_reok rfl hy0 (fun k_ e_ => HO134.out.1 k_ e_)); replace HB := Ah (hb); (try clear hb hkp hy0); have hcz79_0 := cz1 BK121; have hfz79_0 := fz1 BK121)); try go_wp2_with (first | ((with_reducible refine gate_dst (N := 94) rfl ?_); (try (refine gate_guard (by rfl) ?_; dsimp only)); refine Kd.R_make (Kd.int .i64) _ 3 rfl (N := 94) rfl 44 _ _ rfl (l0_0.length : Int) rfl rfl Tryd.underlying44 (.int .i64 0) 8 info3 rfl (by decide) (by omega) 0 (ok := fun _ => True) (okp := fun _ => True) rfl (fun _ hk => hk) trivial (od) (Nat.le_trans (Nat.mul_le_mul_right _ (od : (l0_0.length : Int).toNat ≤ 35184372088832)) (by omega)) (Below.refl _ _) (Nat.le_refl _) ?_; intro v133 w74 ho75 hb hg_ hnew_; clear hg_ hnew_; (first | rw [← Ny132.out] at ho75 | (simp only [Int.reduceToNat] at ho75; rw [← Ny132.out] at ho75)); have HO134 := Ah (Kd.R_lower ho75 (below_size (bs1 HB GE121))); replace BK121 := nb BK121 hb; replace HB := Ah (below_step (bs1 HB GE121) hb); clear hb ho75; have hcz76_0 := cz1 BK121; have hfz76_0 := fz1 BK121; obtain ⟨Ao77, co77, eo77⟩ := Kd.R_slice HO134.out; subst eo77) | (go_at_call 15; (with_reducible refine (spec_l13Seen.calls k2 _ _ l0_0 0 0 (fun k_ => some k_ = (.slice Ao77 y132.length co77 : Value).ownBlock) (.slice Ao77 y132.length co77) y132 true t136 w _ ?side1 ?side2 ?side3 ?side4 A72.out).mono ?_); (case side1 => repeat (first | (with_reducible first | exact HB.out | apply below_alloc | apply pw_below_drewN | apply below_drew1 | refine below_set ?_ GE121.out) | exact HB.out)); (case side2 => exact HR0_0.out); (case side3 => exact HC0_0.out); (case side4 => exact Kd.R_tight rfl HO134.out); rintro e w78 ⟨rfl, hy0, hb, hkp⟩; replace BK121 := Ah (blk_kept (bk BK121) hkp (fun hs_ => (fun e_ => (Kd.R_ne HO134.out BK121.out (by decide)) e_) hs_)); replace HO134 := Ah (Kd.R_reok rfl hy0 (fun k_ e_ => HO134.out.1 k_ e_)); replace HB := Ah (hb); (try clear hb hkp hy0); have hcz79_0 := cz1 BK121; have hfz79_0 := fz1 BK121)))
     go_loopg [102] k2 (fun kq v102 w' => ∃ (x102_3 : Int), v102 = .int .i64 x102_3 ∧ Aside0 (spec_GoodNames.l2 kq t136 l0_0 (l0_0.length : Int) x102_3 = some r) ∧ Aside0 (kq ≤ k2) ∧ Aside0 (Kd.R (Kd.int .i64) 3 w' w.heap.size (fun _ => True) (.slice Ao77 y132.length co77) t136) ∧ Aside0 (w'.heap[gb121]? = some (.cells #[(.slice A0_0 l0_0.length c0_0)] 29 (0, 0))) ∧ Aside0 (Below w.heap.size w w'))
     case atStart => exact ⟨(0), e3, H', ⟨Nat.le_refl _⟩, ⟨rr HO134.out⟩, ⟨bk BK121⟩, ⟨bs1 HB GE121⟩⟩
     case round =>
      clear H'
      try clear c1
      try clear p1
      try clear q1
      try clear hx1
      try clear qi1
      try clear c2
      try clear p2
      try clear c3
      try clear c4
      try clear c5
      try clear c6
      try clear p6
      try clear c7
      try clear c7b0
      try clear c7b1
      try clear q8
      try clear c9
      try clear c12
      try clear p12
      try clear q12
      try clear hx12
      try clear qi12
      try clear p13
      try clear q13
      try clear hx13
      try clear c14
      try clear c14b0
      try clear c15
      try clear c15b0
      try clear c16
      try clear c16b0
      try clear c18
      try clear c20
      try clear c20b0
      try clear c21
      try clear c21b0
      try clear c22
      try clear c22b0
      try clear c24
      try clear c26
      try clear c27
      try clear c27b0
      try clear c29
      try clear c29b0
      try clear c30
      try clear c30b0
      try clear c31
      try clear c31b0
      try clear c33
      try clear c34
      try clear c36
      try clear c39
      try clear c40
      try clear c42
      try clear c45
      try clear c46
      try clear c49
      try clear c50
      try clear c53
      try clear c54
      try clear c56
      try clear c56b0
      try clear c57
      try clear c57b0
      try clear c57b1
      try clear c58
      try clear c60
      try clear c62
      try clear c62b0
      try clear c62b1
      try clear c63
      try clear p64
      try clear c65
      try clear c65b0
      try clear c65b1
      try clear c66
      try clear c68
      try clear c70
      try clear c70b0
      try clear c70b1
      try clear c71
      try clear c71b0
      try clear c71b1
      try clear c73
      try clear hcz10_0
      try clear hcz11_0
      try clear hcz13_0
      try clear hcz19_0 hcz19_1 hcz19_2
      try clear hcz35_0 hcz35_1
      try clear hcz37_0 hcz37_1 hcz37_2
      try clear hcz41_0 hcz41_1
      try clear hcz43_0 hcz43_1 hcz43_2
      try clear hcz47_0 hcz47_1
      try clear hcz4_0
      try clear hcz51_0 hcz51_1
      try clear hcz55_0 hcz55_1
      try clear hcz59_0 hcz59_1 hcz59_2
      try clear hcz61_0 hcz61_1 hcz61_2
      try clear hcz64_0 hcz64_1 hcz64_2
      try clear hcz67_0 hcz67_1 hcz67_2
      try clear hcz69_0 hcz69_1 hcz69_2
      try clear hcz76_0
      try clear hcz79_0
      try clear hfz10_0
      try clear hfz11_0
      try clear hfz13_0
      try clear hfz19_0 hfz19_1 hfz19_2
      try clear hfz35_0 hfz35_1
      try clear hfz37_0 hfz37_1 hfz37_2
      try clear hfz41_0 hfz41_1
      try clear hfz43_0 hfz43_1 hfz43_2
      try clear hfz47_0 hfz47_1
      try clear hfz4_0
      try clear hfz51_0 hfz51_1
      try clear hfz55_0 hfz55_1
      try clear hfz59_0 hfz59_1 hfz59_2
      try clear hfz61_0 hfz61_1 hfz61_2
      try clear hfz64_0 hfz64_1 hfz64_2
      try clear hfz67_0 hfz67_1 hfz67_2
      try clear hfz69_0 hfz69_1 hfz69_2
      try clear hfz76_0
      try clear hfz79_0
      try clear hx123_0
      try clear hx123_1
      try clear hx123_2
      try clear hx124_0
      try clear hx124_1
      try clear hx124_2
      try clear hx125_0
      try clear hx125_1
      try clear hx125_2
      try clear hx127_0
      try clear hx127_1
      try clear hx131_0
      try clear hx131_1
      try clear p1
      try clear p12
      try clear p123
      try clear p124
      try clear p125
      try clear p127
      try clear p131
      try clear p2
      try clear q1
      try clear q12
      try clear q123
      try clear q124
      try clear q125
      try clear q127
      try clear q131
      try clear q8
      obtain ⟨x102_3, rfl, HA, HK3, HO_8, BK121, HB⟩ := hrel
      have hl8_3 := (Kd.R_reads' HO_8.out).1
      rw [hl8_3] at HO_8
      (try simp only [hl8_3])
      (try simp only [hl8_3] at BK121)
      cases gk with
      | zero => exact absurd HA.out (by simp [spec_GoodNames.l2])
      | succ k3 =>
       have H := HA.out
       clear HA
       simp only [spec_GoodNames.l2] at H
       by_cases c80 : x102_3 < (l0_0.length : Int)
       rotate_left
       ·
        rw [if_neg c80] at H
        have c80b0 : decide (x102_3 < (l0_0.length : Int)) = false := decide_eq_false c80
        (try (have c80b0h := c80b0; simp only [hl8_3] at c80b0h))
        clear c80
        obtain rfl := Option.some.inj H
        go_wp2
        repeat (go_quiet (fail); try go_wp2)
        go_ret
        exact ⟨er, bs1 HB GE121⟩
       rw [if_pos c80] at H
       have c80b0 : decide (x102_3 < (l0_0.length : Int)) = true := decide_eq_true c80
       (try (have c80b0h := c80b0; simp only [hl8_3] at c80b0h))
       clear c80
       by_cases c81 : 0 ≤ x102_3
       rotate_left
       ·
        rw [if_neg c81] at H
        exact absurd H (by simp)
       rw [if_pos c81] at H
       have c81b0 : decide (0 ≤ x102_3) = true := decide_eq_true c81
       clear c81
       by_cases c82 : x102_3 < (l0_0.length : Int)
       rotate_left
       ·
        rw [if_neg c82] at H
        exact absurd H (by simp)
       rw [if_pos c82] at H
       have c82b0 : decide (x102_3 < (l0_0.length : Int)) = true := decide_eq_true c82
       (try (have c82b0h := c82b0; simp only [hl8_3] at c82b0h))
       clear c82
       by_cases c83 : x102_3 > 0
       rotate_left
       ·
        rw [if_neg c83] at H
        have c83b0 : decide (0 < x102_3) = false := decide_eq_false c83
        clear c83
        have H' := Ah H
        clear H
        have p137 : 0 ≤ (x102_3 : Int) := od
        have q137 : x102_3 < (l0_0.length : Int) := od
        obtain ⟨ad137, A137_2, c137_2, e137, hx137_0, hx137_1, hx137_2, hl137_2, hi137_2⟩ := at_T40 HR0_0.out x102_3 p137 q137
        cases e137
        replace hx137_0 := (HB.out.cell (World.block_lt_of_cell? w _ hx137_0)).trans hx137_0
        replace hx137_1 := (HB.out.cell (World.block_lt_of_cell? w _ hx137_1)).trans hx137_1
        replace hx137_2 := (HB.out.cell (World.block_lt_of_cell? w _ hx137_2)).trans hx137_2
        have HR137_2 := Ah hi137_2
        have HC137_2 := Ah hl137_2
        clear hi137_2 hl137_2
        replace p137 := eq_true p137
        replace q137 := eq_true q137
        go_wp2_with (first | ((with_reducible refine gate_dst (N := 10) rfl ?_); (try (refine gate_guard (by rfl) ?_; dsimp only)); refine boxL 10 40 #[.bool false, .int .i64 0, .slice none 0 0] ?_; intro gb138 hg w101 BK138 hb; replace HO_8 := nr HO_8 hb; have GW138 := gw hg (bs1 HB GE121); have GE138 := gw hg (bs1 HB GE121); replace HB := Ah (below_step (bs1 HB GE121) hb); have NB121_138 := nn BK121 hg; have NB138_121 := nm BK121 hg; replace BK121 := nb BK121 hb; clear hb hg; have hnb102 := NB138_121.out; have hnc102 := NB121_138.out; obtain ⟨hcz103_0, hcz103_1, hcz103_2⟩ := cz3 BK138; obtain ⟨hfz103_0, hfz103_1, hfz103_2⟩ := fz3 BK138))
        repeat (go_quiet (first | ((with_reducible refine gate_dst (N := 10) rfl ?_); (try (refine gate_guard (by rfl) ?_; dsimp only)); refine boxL 10 40 #[.bool false, .int .i64 0, .slice none 0 0] ?_; intro gb138 hg w101 BK138 hb; replace HO_8 := nr HO_8 hb; have GW138 := gw hg (bs1 HB GE121); have GE138 := gw hg (bs1 HB GE121); replace HB := Ah (below_step (bs1 HB GE121) hb); have NB121_138 := nn BK121 hg; have NB138_121 := nm BK121 hg; replace BK121 := nb BK121 hb; clear hb hg; have hnb102 := NB138_121.out; have hnc102 := NB121_138.out; obtain ⟨hcz103_0, hcz103_1, hcz103_2⟩ := cz3 BK138; obtain ⟨hfz103_0, hfz103_1, hfz103_2⟩ := fz3 BK138)); try go_wp2_with (first | ((with_reducible refine gate_dst (N := 10) rfl ?_); (try (refine gate_guard (by rfl) ?_; dsimp only)); refine boxL 10 40 #[.bool false, .int .i64 0, .slice none 0 0] ?_; intro gb138 hg w101 BK138 hb; replace HO_8 := nr HO_8 hb; have GW138 := gw hg (bs1 HB GE121); have GE138 := gw hg (bs1 HB GE121); replace HB := Ah (below_step (bs1 HB GE121) hb); have NB121_138 := nn BK121 hg; have NB138_121 := nm BK121 hg; replace BK121 := nb BK121 hb; clear hb hg; have hnb102 := NB138_121.out; have hnc102 := NB121_138.out; obtain ⟨hcz103_0, hcz103_1, hcz103_2⟩ := cz3 BK138; obtain ⟨hfz103_0, hfz103_1, hfz103_2⟩ := fz3 BK138)))
        (try simp only [← hl8_3])
        go_roundg k3
        case measure => have := HJ1.out; have := HK2.out; have := HK3.out; omega
        case rel => exact ⟨(wrap64 (x102_3 + 1)), e3, H', ⟨by have := HJ1.out; have := HK2.out; have := HK3.out; omega⟩, ⟨by (try simp only [hl8_3]); (with_reducible repeat (first | apply Kd.R_alloc | apply Kd.R_drewN | apply Kd.R_drew)); exact Kd.R_mono (Kd.R_far (p := ⟨gb138, 2, none⟩) (Kd.R_far (p := ⟨gb138, 1, none⟩) (Kd.R_far (p := ⟨gb138, 0, none⟩) (Kd.R_types HO_8.out BK138.out (by decide)) (fun _ hk => hk.2) (.bool ((rd_T40 l0_0 x102_3).f0))) (fun _ hk => hk.2) (.int .i64 ((rd_T40 l0_0 x102_3).f1))) (fun _ hk => hk.2) (.slice A137_2 ((rd_T40 l0_0 x102_3).f2).length c137_2)) (fun _ hk => trivial)⟩, ⟨by (try simp only [hl8_3]); (with_reducible repeat (first | refine blk_drewN ?_ _ | refine blk_drew ?_ | refine blk_alloc ?_ _)); refine blk_far ?_ NB121_138.out _; (with_reducible repeat (first | refine blk_drewN ?_ _ | refine blk_drew ?_ | refine blk_alloc ?_ _)); refine blk_far ?_ NB121_138.out _; (with_reducible repeat (first | refine blk_drewN ?_ _ | refine blk_drew ?_ | refine blk_alloc ?_ _)); refine blk_far ?_ NB121_138.out _; (with_reducible repeat (first | refine blk_drewN ?_ _ | refine blk_drew ?_ | refine blk_alloc ?_ _)); exact BK121.out⟩, ⟨bs2 HB GE121 GE138⟩⟩
       rw [if_pos c83] at H
       have c83b0 : decide (0 < x102_3) = true := decide_eq_true c83
       clear c83
       by_cases c84 : x102_3 < (t136.length : Int)
       rotate_left
       ·
        rw [if_neg c84] at H
        exact absurd H (by simp)
       rw [if_pos c84] at H
       have c84b0 : decide (x102_3 < (t136.length : Int)) = true := decide_eq_true c84
       (try (have c84b0h := c84b0; simp only [hl8_3] at c84b0h))
       clear c84
       by_cases c85 : ((rd_T40 l0_0 x102_3).f1) = (rd t136 x102_3)
       rotate_left
       ·
        rw [if_neg c85] at H
        have c85b0 : (((rd_T40 l0_0 x102_3).f1) == (rd t136 x102_3)) = false := beq_eq_false_iff_ne.mpr c85
        have c85b1 : (((rd_T40 l0_0 x102_3).f1) != (rd t136 x102_3)) = true := bne_iff_ne.mpr c85
        obtain rfl := Option.some.inj H
        have p137 : 0 ≤ (x102_3 : Int) := od
        have q137 : x102_3 < (l0_0.length : Int) := od
        obtain ⟨ad137, A137_2, c137_2, e137, hx137_0, hx137_1, hx137_2, hl137_2, hi137_2⟩ := at_T40 HR0_0.out x102_3 p137 q137
        cases e137
        replace hx137_0 := (HB.out.cell (World.block_lt_of_cell? w _ hx137_0)).trans hx137_0
        replace hx137_1 := (HB.out.cell (World.block_lt_of_cell? w _ hx137_1)).trans hx137_1
        replace hx137_2 := (HB.out.cell (World.block_lt_of_cell? w _ hx137_2)).trans hx137_2
        have HR137_2 := Ah hi137_2
        have HC137_2 := Ah hl137_2
        clear hi137_2 hl137_2
        replace p137 := eq_true p137
        replace q137 := eq_true q137
        go_wp2_with (first | ((with_reducible refine gate_dst (N := 10) rfl ?_); (try (refine gate_guard (by rfl) ?_; dsimp only)); refine boxL 10 40 #[.bool false, .int .i64 0, .slice none 0 0] ?_; intro gb138 hg w98 BK138 hb; replace HO_8 := nr HO_8 hb; have GW138 := gw hg (bs1 HB GE121); have GE138 := gw hg (bs1 HB GE121); replace HB := Ah (below_step (bs1 HB GE121) hb); have NB121_138 := nn BK121 hg; have NB138_121 := nm BK121 hg; replace BK121 := nb BK121 hb; clear hb hg; have hnb99 := NB138_121.out; have hnc99 := NB121_138.out; obtain ⟨hcz100_0, hcz100_1, hcz100_2⟩ := cz3 BK138; obtain ⟨hfz100_0, hfz100_1, hfz100_2⟩ := fz3 BK138; have p139 : 0 ≤ (x102_3 : Int) := od; have q139 : x102_3 < (t136.length : Int) := od; obtain ⟨ad139, e139, hx139_0⟩ := Kd.at_int (Kd.R_reads' HO_8.out).2.2 x102_3 p139 q139; cases e139; have hn139_0 : ad139.block ≠ gb138 := Kd.own_blk (Kd.R_ne HO_8.out BK138.out (by decide)); have hn139_1 : ad139.block ≠ gb138 := Kd.own_blk (Kd.R_ne HO_8.out BK138.out (by decide)); have hn139_2 : ad139.block ≠ gb138 := Kd.own_blk (Kd.R_ne HO_8.out BK138.out (by decide)); replace hx139_0 := (cell_far (p := ⟨gb138, 0, none⟩) (by first | (rw [add_block]; exact hn139_0) | (show (Addr.add _ _).block ≠ _; rw [add_block]; exact hn139_0) | exact hn139_0) (.bool ((rd_T40 l0_0 x102_3).f0))).trans hx139_0; replace hx139_0 := (cell_far (p := ⟨gb138, 1, none⟩) (by first | (rw [add_block]; exact hn139_1) | (show (Addr.add _ _).block ≠ _; rw [add_block]; exact hn139_1) | exact hn139_1) (.int .i64 ((rd_T40 l0_0 x102_3).f1))).trans hx139_0; replace hx139_0 := (cell_far (p := ⟨gb138, 2, none⟩) (by first | (rw [add_block]; exact hn139_2) | (show (Addr.add _ _).block ≠ _; rw [add_block]; exact hn139_2) | exact hn139_2) (.slice A137_2 ((rd_T40 l0_0 x102_3).f2).length c137_2)).trans hx139_0; (try have hy139_0 := fun (n_ : Nat) => (show (((((w98.drewN n_).setCell ⟨gb138, 0, none⟩ (.bool ((rd_T40 l0_0 x102_3).f0))).setCell ⟨gb138, 1, none⟩ (.int .i64 ((rd_T40 l0_0 x102_3).f1))).setCell ⟨gb138, 2, none⟩ (.slice A137_2 ((rd_T40 l0_0 x102_3).f2).length c137_2))).cell? _ = some _ from hx139_0)); clear hn139_0; clear hn139_1; clear hn139_2; replace p139 := eq_true p139; replace q139 := eq_true q139))
        repeat (go_quiet (first | ((with_reducible refine gate_dst (N := 10) rfl ?_); (try (refine gate_guard (by rfl) ?_; dsimp only)); refine boxL 10 40 #[.bool false, .int .i64 0, .slice none 0 0] ?_; intro gb138 hg w98 BK138 hb; replace HO_8 := nr HO_8 hb; have GW138 := gw hg (bs1 HB GE121); have GE138 := gw hg (bs1 HB GE121); replace HB := Ah (below_step (bs1 HB GE121) hb); have NB121_138 := nn BK121 hg; have NB138_121 := nm BK121 hg; replace BK121 := nb BK121 hb; clear hb hg; have hnb99 := NB138_121.out; have hnc99 := NB121_138.out; obtain ⟨hcz100_0, hcz100_1, hcz100_2⟩ := cz3 BK138; obtain ⟨hfz100_0, hfz100_1, hfz100_2⟩ := fz3 BK138; have p139 : 0 ≤ (x102_3 : Int) := od; have q139 : x102_3 < (t136.length : Int) := od; obtain ⟨ad139, e139, hx139_0⟩ := Kd.at_int (Kd.R_reads' HO_8.out).2.2 x102_3 p139 q139; cases e139; have hn139_0 : ad139.block ≠ gb138 := Kd.own_blk (Kd.R_ne HO_8.out BK138.out (by decide)); have hn139_1 : ad139.block ≠ gb138 := Kd.own_blk (Kd.R_ne HO_8.out BK138.out (by decide)); have hn139_2 : ad139.block ≠ gb138 := Kd.own_blk (Kd.R_ne HO_8.out BK138.out (by decide)); replace hx139_0 := (cell_far (p := ⟨gb138, 0, none⟩) (by first | (rw [add_block]; exact hn139_0) | (show (Addr.add _ _).block ≠ _; rw [add_block]; exact hn139_0) | exact hn139_0) (.bool ((rd_T40 l0_0 x102_3).f0))).trans hx139_0; replace hx139_0 := (cell_far (p := ⟨gb138, 1, none⟩) (by first | (rw [add_block]; exact hn139_1) | (show (Addr.add _ _).block ≠ _; rw [add_block]; exact hn139_1) | exact hn139_1) (.int .i64 ((rd_T40 l0_0 x102_3).f1))).trans hx139_0; replace hx139_0 := (cell_far (p := ⟨gb138, 2, none⟩) (by first | (rw [add_block]; exact hn139_2) | (show (Addr.add _ _).block ≠ _; rw [add_block]; exact hn139_2) | exact hn139_2) (.slice A137_2 ((rd_T40 l0_0 x102_3).f2).length c137_2)).trans hx139_0; (try have hy139_0 := fun (n_ : Nat) => (show (((((w98.drewN n_).setCell ⟨gb138, 0, none⟩ (.bool ((rd_T40 l0_0 x102_3).f0))).setCell ⟨gb138, 1, none⟩ (.int .i64 ((rd_T40 l0_0 x102_3).f1))).setCell ⟨gb138, 2, none⟩ (.slice A137_2 ((rd_T40 l0_0 x102_3).f2).length c137_2))).cell? _ = some _ from hx139_0)); clear hn139_0; clear hn139_1; clear hn139_2; replace p139 := eq_true p139; replace q139 := eq_true q139)); try go_wp2_with (first | ((with_reducible refine gate_dst (N := 10) rfl ?_); (try (refine gate_guard (by rfl) ?_; dsimp only)); refine boxL 10 40 #[.bool false, .int .i64 0, .slice none 0 0] ?_; intro gb138 hg w98 BK138 hb; replace HO_8 := nr HO_8 hb; have GW138 := gw hg (bs1 HB GE121); have GE138 := gw hg (bs1 HB GE121); replace HB := Ah (below_step (bs1 HB GE121) hb); have NB121_138 := nn BK121 hg; have NB138_121 := nm BK121 hg; replace BK121 := nb BK121 hb; clear hb hg; have hnb99 := NB138_121.out; have hnc99 := NB121_138.out; obtain ⟨hcz100_0, hcz100_1, hcz100_2⟩ := cz3 BK138; obtain ⟨hfz100_0, hfz100_1, hfz100_2⟩ := fz3 BK138; have p139 : 0 ≤ (x102_3 : Int) := od; have q139 : x102_3 < (t136.length : Int) := od; obtain ⟨ad139, e139, hx139_0⟩ := Kd.at_int (Kd.R_reads' HO_8.out).2.2 x102_3 p139 q139; cases e139; have hn139_0 : ad139.block ≠ gb138 := Kd.own_blk (Kd.R_ne HO_8.out BK138.out (by decide)); have hn139_1 : ad139.block ≠ gb138 := Kd.own_blk (Kd.R_ne HO_8.out BK138.out (by decide)); have hn139_2 : ad139.block ≠ gb138 := Kd.own_blk (Kd.R_ne HO_8.out BK138.out (by decide)); replace hx139_0 := (cell_far (p := ⟨gb138, 0, none⟩) (by first | (rw [add_block]; exact hn139_0) | (show (Addr.add _ _).block ≠ _; rw [add_block]; exact hn139_0) | exact hn139_0) (.bool ((rd_T40 l0_0 x102_3).f0))).trans hx139_0; replace hx139_0 := (cell_far (p := ⟨gb138, 1, none⟩) (by first | (rw [add_block]; exact hn139_1) | (show (Addr.add _ _).block ≠ _; rw [add_block]; exact hn139_1) | exact hn139_1) (.int .i64 ((rd_T40 l0_0 x102_3).f1))).trans hx139_0; replace hx139_0 := (cell_far (p := ⟨gb138, 2, none⟩) (by first | (rw [add_block]; exact hn139_2) | (show (Addr.add _ _).block ≠ _; rw [add_block]; exact hn139_2) | exact hn139_2) (.slice A137_2 ((rd_T40 l0_0 x102_3).f2).length c137_2)).trans hx139_0; (try have hy139_0 := fun (n_ : Nat) => (show (((((w98.drewN n_).setCell ⟨gb138, 0, none⟩ (.bool ((rd_T40 l0_0 x102_3).f0))).setCell ⟨gb138, 1, none⟩ (.int .i64 ((rd_T40 l0_0 x102_3).f1))).setCell ⟨gb138, 2, none⟩ (.slice A137_2 ((rd_T40 l0_0 x102_3).f2).length c137_2))).cell? _ = some _ from hx139_0)); clear hn139_0; clear hn139_1; clear hn139_2; replace p139 := eq_true p139; replace q139 := eq_true q139)))
        go_ret
        exact ⟨er, bs2 HB GE121 GE138⟩
       rw [if_pos c85] at H
       have c85b0 : (((rd_T40 l0_0 x102_3).f1) == (rd t136 x102_3)) = true := beq_iff_eq.mpr c85
       have c85b1 : (((rd_T40 l0_0 x102_3).f1) != (rd t136 x102_3)) = false := bne_eq_false_iff_eq.mpr c85
       clear c85
       obtain ⟨bq86, hbq86⟩ : ∃ b_ : Bool, b_ = ((rd_T40 l0_0 x102_3).f0) := ⟨_, rfl⟩
       replace H : (if bq86 = true then (if ((rd_T40 l0_0 x102_3).f1) = 1 then (spec_GoodNames.l2 k3 t136 l0_0 (l0_0.length : Int) (wrap64 (x102_3 + 1))) else (some false)) else (spec_GoodNames.l2 k3 t136 l0_0 (l0_0.length : Int) (wrap64 (x102_3 + 1)))) = some r := by rw [← hbq86] at H; exact H
       have Nbq86 := Ah hbq86
       clear hbq86
       by_cases c87 : bq86 = true
       rotate_left
       ·
        replace c87 := Bool.eq_false_iff.mpr c87
        subst c87
        rw [if_neg fne] at H
        have H' := Ah H
        clear H
        have p137 : 0 ≤ (x102_3 : Int) := od
        have q137 : x102_3 < (l0_0.length : Int) := od
        obtain ⟨ad137, A137_2, c137_2, e137, hx137_0, hx137_1, hx137_2, hl137_2, hi137_2⟩ := at_T40 HR0_0.out x102_3 p137 q137
        (try rw [← Nbq86.out] at hx137_0)
        cases e137
        replace hx137_0 := (HB.out.cell (World.block_lt_of_cell? w _ hx137_0)).trans hx137_0
        replace hx137_1 := (HB.out.cell (World.block_lt_of_cell? w _ hx137_1)).trans hx137_1
        replace hx137_2 := (HB.out.cell (World.block_lt_of_cell? w _ hx137_2)).trans hx137_2
        have HR137_2 := Ah hi137_2
        have HC137_2 := Ah hl137_2
        clear hi137_2 hl137_2
        replace p137 := eq_true p137
        replace q137 := eq_true q137
        go_wp2_with (first | ((with_reducible refine gate_dst (N := 10) rfl ?_); (try (refine gate_guard (by rfl) ?_; dsimp only)); refine boxL 10 40 #[.bool false, .int .i64 0, .slice none 0 0] ?_; intro gb138 hg w95 BK138 hb; replace HO_8 := nr HO_8 hb; have GW138 := gw hg (bs1 HB GE121); have GE138 := gw hg (bs1 HB GE121); replace HB := Ah (below_step (bs1 HB GE121) hb); have NB121_138 := nn BK121 hg; have NB138_121 := nm BK121 hg; replace BK121 := nb BK121 hb; clear hb hg; have hnb96 := NB138_121.out; have hnc96 := NB121_138.out; obtain ⟨hcz97_0, hcz97_1, hcz97_2⟩ := cz3 BK138; obtain ⟨hfz97_0, hfz97_1, hfz97_2⟩ := fz3 BK138; have p139 : 0 ≤ (x102_3 : Int) := od; have q139 : x102_3 < (t136.length : Int) := od; obtain ⟨ad139, e139, hx139_0⟩ := Kd.at_int (Kd.R_reads' HO_8.out).2.2 x102_3 p139 q139; cases e139; have hn139_0 : ad139.block ≠ gb138 := Kd.own_blk (Kd.R_ne HO_8.out BK138.out (by decide)); have hn139_1 : ad139.block ≠ gb138 := Kd.own_blk (Kd.R_ne HO_8.out BK138.out (by decide)); have hn139_2 : ad139.block ≠ gb138 := Kd.own_blk (Kd.R_ne HO_8.out BK138.out (by decide)); replace hx139_0 := (cell_far (p := ⟨gb138, 0, none⟩) (by first | (rw [add_block]; exact hn139_0) | (show (Addr.add _ _).block ≠ _; rw [add_block]; exact hn139_0) | exact hn139_0) (.bool false)).trans hx139_0; replace hx139_0 := (cell_far (p := ⟨gb138, 1, none⟩) (by first | (rw [add_block]; exact hn139_1) | (show (Addr.add _ _).block ≠ _; rw [add_block]; exact hn139_1) | exact hn139_1) (.int .i64 ((rd_T40 l0_0 x102_3).f1))).trans hx139_0; replace hx139_0 := (cell_far (p := ⟨gb138, 2, none⟩) (by first | (rw [add_block]; exact hn139_2) | (show (Addr.add _ _).block ≠ _; rw [add_block]; exact hn139_2) | exact hn139_2) (.slice A137_2 ((rd_T40 l0_0 x102_3).f2).length c137_2)).trans hx139_0; (try have hy139_0 := fun (n_ : Nat) => (show (((((w95.drewN n_).setCell ⟨gb138, 0, none⟩ (.bool false)).setCell ⟨gb138, 1, none⟩ (.int .i64 ((rd_T40 l0_0 x102_3).f1))).setCell ⟨gb138, 2, none⟩ (.slice A137_2 ((rd_T40 l0_0 x102_3).f2).length c137_2))).cell? _ = some _ from hx139_0)); clear hn139_0; clear hn139_1; clear hn139_2; replace p139 := eq_true p139; replace q139 := eq_true q139))
        repeat (go_quiet (first | ((with_reducible refine gate_dst (N := 10) rfl ?_); (try (refine gate_guard (by rfl) ?_; dsimp only)); refine boxL 10 40 #[.bool false, .int .i64 0, .slice none 0 0] ?_; intro gb138 hg w95 BK138 hb; replace HO_8 := nr HO_8 hb; have GW138 := gw hg (bs1 HB GE121); have GE138 := gw hg (bs1 HB GE121); replace HB := Ah (below_step (bs1 HB GE121) hb); have NB121_138 := nn BK121 hg; have NB138_121 := nm BK121 hg; replace BK121 := nb BK121 hb; clear hb hg; have hnb96 := NB138_121.out; have hnc96 := NB121_138.out; obtain ⟨hcz97_0, hcz97_1, hcz97_2⟩ := cz3 BK138; obtain ⟨hfz97_0, hfz97_1, hfz97_2⟩ := fz3 BK138; have p139 : 0 ≤ (x102_3 : Int) := od; have q139 : x102_3 < (t136.length : Int) := od; obtain ⟨ad139, e139, hx139_0⟩ := Kd.at_int (Kd.R_reads' HO_8.out).2.2 x102_3 p139 q139; cases e139; have hn139_0 : ad139.block ≠ gb138 := Kd.own_blk (Kd.R_ne HO_8.out BK138.out (by decide)); have hn139_1 : ad139.block ≠ gb138 := Kd.own_blk (Kd.R_ne HO_8.out BK138.out (by decide)); have hn139_2 : ad139.block ≠ gb138 := Kd.own_blk (Kd.R_ne HO_8.out BK138.out (by decide)); replace hx139_0 := (cell_far (p := ⟨gb138, 0, none⟩) (by first | (rw [add_block]; exact hn139_0) | (show (Addr.add _ _).block ≠ _; rw [add_block]; exact hn139_0) | exact hn139_0) (.bool false)).trans hx139_0; replace hx139_0 := (cell_far (p := ⟨gb138, 1, none⟩) (by first | (rw [add_block]; exact hn139_1) | (show (Addr.add _ _).block ≠ _; rw [add_block]; exact hn139_1) | exact hn139_1) (.int .i64 ((rd_T40 l0_0 x102_3).f1))).trans hx139_0; replace hx139_0 := (cell_far (p := ⟨gb138, 2, none⟩) (by first | (rw [add_block]; exact hn139_2) | (show (Addr.add _ _).block ≠ _; rw [add_block]; exact hn139_2) | exact hn139_2) (.slice A137_2 ((rd_T40 l0_0 x102_3).f2).length c137_2)).trans hx139_0; (try have hy139_0 := fun (n_ : Nat) => (show (((((w95.drewN n_).setCell ⟨gb138, 0, none⟩ (.bool false)).setCell ⟨gb138, 1, none⟩ (.int .i64 ((rd_T40 l0_0 x102_3).f1))).setCell ⟨gb138, 2, none⟩ (.slice A137_2 ((rd_T40 l0_0 x102_3).f2).length c137_2))).cell? _ = some _ from hx139_0)); clear hn139_0; clear hn139_1; clear hn139_2; replace p139 := eq_true p139; replace q139 := eq_true q139)); try go_wp2_with (first | ((with_reducible refine gate_dst (N := 10) rfl ?_); (try (refine gate_guard (by rfl) ?_; dsimp only)); refine boxL 10 40 #[.bool false, .int .i64 0, .slice none 0 0] ?_; intro gb138 hg w95 BK138 hb; replace HO_8 := nr HO_8 hb; have GW138 := gw hg (bs1 HB GE121); have GE138 := gw hg (bs1 HB GE121); replace HB := Ah (below_step (bs1 HB GE121) hb); have NB121_138 := nn BK121 hg; have NB138_121 := nm BK121 hg; replace BK121 := nb BK121 hb; clear hb hg; have hnb96 := NB138_121.out; have hnc96 := NB121_138.out; obtain ⟨hcz97_0, hcz97_1, hcz97_2⟩ := cz3 BK138; obtain ⟨hfz97_0, hfz97_1, hfz97_2⟩ := fz3 BK138; have p139 : 0 ≤ (x102_3 : Int) := od; have q139 : x102_3 < (t136.length : Int) := od; obtain ⟨ad139, e139, hx139_0⟩ := Kd.at_int (Kd.R_reads' HO_8.out).2.2 x102_3 p139 q139; cases e139; have hn139_0 : ad139.block ≠ gb138 := Kd.own_blk (Kd.R_ne HO_8.out BK138.out (by decide)); have hn139_1 : ad139.block ≠ gb138 := Kd.own_blk (Kd.R_ne HO_8.out BK138.out (by decide)); have hn139_2 : ad139.block ≠ gb138 := Kd.own_blk (Kd.R_ne HO_8.out BK138.out (by decide)); replace hx139_0 := (cell_far (p := ⟨gb138, 0, none⟩) (by first | (rw [add_block]; exact hn139_0) | (show (Addr.add _ _).block ≠ _; rw [add_block]; exact hn139_0) | exact hn139_0) (.bool false)).trans hx139_0; replace hx139_0 := (cell_far (p := ⟨gb138, 1, none⟩) (by first | (rw [add_block]; exact hn139_1) | (show (Addr.add _ _).block ≠ _; rw [add_block]; exact hn139_1) | exact hn139_1) (.int .i64 ((rd_T40 l0_0 x102_3).f1))).trans hx139_0; replace hx139_0 := (cell_far (p := ⟨gb138, 2, none⟩) (by first | (rw [add_block]; exact hn139_2) | (show (Addr.add _ _).block ≠ _; rw [add_block]; exact hn139_2) | exact hn139_2) (.slice A137_2 ((rd_T40 l0_0 x102_3).f2).length c137_2)).trans hx139_0; (try have hy139_0 := fun (n_ : Nat) => (show (((((w95.drewN n_).setCell ⟨gb138, 0, none⟩ (.bool false)).setCell ⟨gb138, 1, none⟩ (.int .i64 ((rd_T40 l0_0 x102_3).f1))).setCell ⟨gb138, 2, none⟩ (.slice A137_2 ((rd_T40 l0_0 x102_3).f2).length c137_2))).cell? _ = some _ from hx139_0)); clear hn139_0; clear hn139_1; clear hn139_2; replace p139 := eq_true p139; replace q139 := eq_true q139)))
        (try simp only [← hl8_3])
        go_roundg k3
        case measure => have := HJ1.out; have := HK2.out; have := HK3.out; omega
        case rel => exact ⟨(wrap64 (x102_3 + 1)), e3, H', ⟨by have := HJ1.out; have := HK2.out; have := HK3.out; omega⟩, ⟨by (try simp only [hl8_3]); (with_reducible repeat (first | apply Kd.R_alloc | apply Kd.R_drewN | apply Kd.R_drew)); exact Kd.R_mono (Kd.R_far (p := ⟨gb138, 2, none⟩) (Kd.R_far (p := ⟨gb138, 1, none⟩) (Kd.R_far (p := ⟨gb138, 0, none⟩) (Kd.R_types HO_8.out BK138.out (by decide)) (fun _ hk => hk.2) (.bool false)) (fun _ hk => hk.2) (.int .i64 ((rd_T40 l0_0 x102_3).f1))) (fun _ hk => hk.2) (.slice A137_2 ((rd_T40 l0_0 x102_3).f2).length c137_2)) (fun _ hk => trivial)⟩, ⟨by (try simp only [hl8_3]); (with_reducible repeat (first | refine blk_drewN ?_ _ | refine blk_drew ?_ | refine blk_alloc ?_ _)); refine blk_far ?_ NB121_138.out _; (with_reducible repeat (first | refine blk_drewN ?_ _ | refine blk_drew ?_ | refine blk_alloc ?_ _)); refine blk_far ?_ NB121_138.out _; (with_reducible repeat (first | refine blk_drewN ?_ _ | refine blk_drew ?_ | refine blk_alloc ?_ _)); refine blk_far ?_ NB121_138.out _; (with_reducible repeat (first | refine blk_drewN ?_ _ | refine blk_drew ?_ | refine blk_alloc ?_ _)); exact BK121.out⟩, ⟨bs2 HB GE121 GE138⟩⟩
       subst c87
       rw [if_pos rfl] at H
       by_cases c88 : ((rd_T40 l0_0 x102_3).f1) = 1
       rotate_left
       ·
        rw [if_neg c88] at H
        have c88b0 : (((rd_T40 l0_0 x102_3).f1) == 1) = false := beq_eq_false_iff_ne.mpr c88
        have c88b1 : (((rd_T40 l0_0 x102_3).f1) != 1) = true := bne_iff_ne.mpr c88
        obtain rfl := Option.some.inj H
        have p137 : 0 ≤ (x102_3 : Int) := od
        have q137 : x102_3 < (l0_0.length : Int) := od
        obtain ⟨ad137, A137_2, c137_2, e137, hx137_0, hx137_1, hx137_2, hl137_2, hi137_2⟩ := at_T40 HR0_0.out x102_3 p137 q137
        (try rw [← Nbq86.out] at hx137_0)
        cases e137
        replace hx137_0 := (HB.out.cell (World.block_lt_of_cell? w _ hx137_0)).trans hx137_0
        replace hx137_1 := (HB.out.cell (World.block_lt_of_cell? w _ hx137_1)).trans hx137_1
        replace hx137_2 := (HB.out.cell (World.block_lt_of_cell? w _ hx137_2)).trans hx137_2
        have HR137_2 := Ah hi137_2
        have HC137_2 := Ah hl137_2
        clear hi137_2 hl137_2
        replace p137 := eq_true p137
        replace q137 := eq_true q137
        go_wp2_with (first | ((with_reducible refine gate_dst (N := 10) rfl ?_); (try (refine gate_guard (by rfl) ?_; dsimp only)); refine boxL 10 40 #[.bool false, .int .i64 0, .slice none 0 0] ?_; intro gb138 hg w92 BK138 hb; replace HO_8 := nr HO_8 hb; have GW138 := gw hg (bs1 HB GE121); have GE138 := gw hg (bs1 HB GE121); replace HB := Ah (below_step (bs1 HB GE121) hb); have NB121_138 := nn BK121 hg; have NB138_121 := nm BK121 hg; replace BK121 := nb BK121 hb; clear hb hg; have hnb93 := NB138_121.out; have hnc93 := NB121_138.out; obtain ⟨hcz94_0, hcz94_1, hcz94_2⟩ := cz3 BK138; obtain ⟨hfz94_0, hfz94_1, hfz94_2⟩ := fz3 BK138; have p139 : 0 ≤ (x102_3 : Int) := od; have q139 : x102_3 < (t136.length : Int) := od; obtain ⟨ad139, e139, hx139_0⟩ := Kd.at_int (Kd.R_reads' HO_8.out).2.2 x102_3 p139 q139; cases e139; have hn139_0 : ad139.block ≠ gb138 := Kd.own_blk (Kd.R_ne HO_8.out BK138.out (by decide)); have hn139_1 : ad139.block ≠ gb138 := Kd.own_blk (Kd.R_ne HO_8.out BK138.out (by decide)); have hn139_2 : ad139.block ≠ gb138 := Kd.own_blk (Kd.R_ne HO_8.out BK138.out (by decide)); replace hx139_0 := (cell_far (p := ⟨gb138, 0, none⟩) (by first | (rw [add_block]; exact hn139_0) | (show (Addr.add _ _).block ≠ _; rw [add_block]; exact hn139_0) | exact hn139_0) (.bool true)).trans hx139_0; replace hx139_0 := (cell_far (p := ⟨gb138, 1, none⟩) (by first | (rw [add_block]; exact hn139_1) | (show (Addr.add _ _).block ≠ _; rw [add_block]; exact hn139_1) | exact hn139_1) (.int .i64 ((rd_T40 l0_0 x102_3).f1))).trans hx139_0; replace hx139_0 := (cell_far (p := ⟨gb138, 2, none⟩) (by first | (rw [add_block]; exact hn139_2) | (show (Addr.add _ _).block ≠ _; rw [add_block]; exact hn139_2) | exact hn139_2) (.slice A137_2 ((rd_T40 l0_0 x102_3).f2).length c137_2)).trans hx139_0; (try have hy139_0 := fun (n_ : Nat) => (show (((((w92.drewN n_).setCell ⟨gb138, 0, none⟩ (.bool true)).setCell ⟨gb138, 1, none⟩ (.int .i64 ((rd_T40 l0_0 x102_3).f1))).setCell ⟨gb138, 2, none⟩ (.slice A137_2 ((rd_T40 l0_0 x102_3).f2).length c137_2))).cell? _ = some _ from hx139_0)); clear hn139_0; clear hn139_1; clear hn139_2; replace p139 := eq_true p139; replace q139 := eq_true q139))
        repeat (go_quiet (first | ((with_reducible refine gate_dst (N := 10) rfl ?_); (try (refine gate_guard (by rfl) ?_; dsimp only)); refine boxL 10 40 #[.bool false, .int .i64 0, .slice none 0 0] ?_; intro gb138 hg w92 BK138 hb; replace HO_8 := nr HO_8 hb; have GW138 := gw hg (bs1 HB GE121); have GE138 := gw hg (bs1 HB GE121); replace HB := Ah (below_step (bs1 HB GE121) hb); have NB121_138 := nn BK121 hg; have NB138_121 := nm BK121 hg; replace BK121 := nb BK121 hb; clear hb hg; have hnb93 := NB138_121.out; have hnc93 := NB121_138.out; obtain ⟨hcz94_0, hcz94_1, hcz94_2⟩ := cz3 BK138; obtain ⟨hfz94_0, hfz94_1, hfz94_2⟩ := fz3 BK138; have p139 : 0 ≤ (x102_3 : Int) := od; have q139 : x102_3 < (t136.length : Int) := od; obtain ⟨ad139, e139, hx139_0⟩ := Kd.at_int (Kd.R_reads' HO_8.out).2.2 x102_3 p139 q139; cases e139; have hn139_0 : ad139.block ≠ gb138 := Kd.own_blk (Kd.R_ne HO_8.out BK138.out (by decide)); have hn139_1 : ad139.block ≠ gb138 := Kd.own_blk (Kd.R_ne HO_8.out BK138.out (by decide)); have hn139_2 : ad139.block ≠ gb138 := Kd.own_blk (Kd.R_ne HO_8.out BK138.out (by decide)); replace hx139_0 := (cell_far (p := ⟨gb138, 0, none⟩) (by first | (rw [add_block]; exact hn139_0) | (show (Addr.add _ _).block ≠ _; rw [add_block]; exact hn139_0) | exact hn139_0) (.bool true)).trans hx139_0; replace hx139_0 := (cell_far (p := ⟨gb138, 1, none⟩) (by first | (rw [add_block]; exact hn139_1) | (show (Addr.add _ _).block ≠ _; rw [add_block]; exact hn139_1) | exact hn139_1) (.int .i64 ((rd_T40 l0_0 x102_3).f1))).trans hx139_0; replace hx139_0 := (cell_far (p := ⟨gb138, 2, none⟩) (by first | (rw [add_block]; exact hn139_2) | (show (Addr.add _ _).block ≠ _; rw [add_block]; exact hn139_2) | exact hn139_2) (.slice A137_2 ((rd_T40 l0_0 x102_3).f2).length c137_2)).trans hx139_0; (try have hy139_0 := fun (n_ : Nat) => (show (((((w92.drewN n_).setCell ⟨gb138, 0, none⟩ (.bool true)).setCell ⟨gb138, 1, none⟩ (.int .i64 ((rd_T40 l0_0 x102_3).f1))).setCell ⟨gb138, 2, none⟩ (.slice A137_2 ((rd_T40 l0_0 x102_3).f2).length c137_2))).cell? _ = some _ from hx139_0)); clear hn139_0; clear hn139_1; clear hn139_2; replace p139 := eq_true p139; replace q139 := eq_true q139)); try go_wp2_with (first | ((with_reducible refine gate_dst (N := 10) rfl ?_); (try (refine gate_guard (by rfl) ?_; dsimp only)); refine boxL 10 40 #[.bool false, .int .i64 0, .slice none 0 0] ?_; intro gb138 hg w92 BK138 hb; replace HO_8 := nr HO_8 hb; have GW138 := gw hg (bs1 HB GE121); have GE138 := gw hg (bs1 HB GE121); replace HB := Ah (below_step (bs1 HB GE121) hb); have NB121_138 := nn BK121 hg; have NB138_121 := nm BK121 hg; replace BK121 := nb BK121 hb; clear hb hg; have hnb93 := NB138_121.out; have hnc93 := NB121_138.out; obtain ⟨hcz94_0, hcz94_1, hcz94_2⟩ := cz3 BK138; obtain ⟨hfz94_0, hfz94_1, hfz94_2⟩ := fz3 BK138; have p139 : 0 ≤ (x102_3 : Int) := od; have q139 : x102_3 < (t136.length : Int) := od; obtain ⟨ad139, e139, hx139_0⟩ := Kd.at_int (Kd.R_reads' HO_8.out).2.2 x102_3 p139 q139; cases e139; have hn139_0 : ad139.block ≠ gb138 := Kd.own_blk (Kd.R_ne HO_8.out BK138.out (by decide)); have hn139_1 : ad139.block ≠ gb138 := Kd.own_blk (Kd.R_ne HO_8.out BK138.out (by decide)); have hn139_2 : ad139.block ≠ gb138 := Kd.own_blk (Kd.R_ne HO_8.out BK138.out (by decide)); replace hx139_0 := (cell_far (p := ⟨gb138, 0, none⟩) (by first | (rw [add_block]; exact hn139_0) | (show (Addr.add _ _).block ≠ _; rw [add_block]; exact hn139_0) | exact hn139_0) (.bool true)).trans hx139_0; replace hx139_0 := (cell_far (p := ⟨gb138, 1, none⟩) (by first | (rw [add_block]; exact hn139_1) | (show (Addr.add _ _).block ≠ _; rw [add_block]; exact hn139_1) | exact hn139_1) (.int .i64 ((rd_T40 l0_0 x102_3).f1))).trans hx139_0; replace hx139_0 := (cell_far (p := ⟨gb138, 2, none⟩) (by first | (rw [add_block]; exact hn139_2) | (show (Addr.add _ _).block ≠ _; rw [add_block]; exact hn139_2) | exact hn139_2) (.slice A137_2 ((rd_T40 l0_0 x102_3).f2).length c137_2)).trans hx139_0; (try have hy139_0 := fun (n_ : Nat) => (show (((((w92.drewN n_).setCell ⟨gb138, 0, none⟩ (.bool true)).setCell ⟨gb138, 1, none⟩ (.int .i64 ((rd_T40 l0_0 x102_3).f1))).setCell ⟨gb138, 2, none⟩ (.slice A137_2 ((rd_T40 l0_0 x102_3).f2).length c137_2))).cell? _ = some _ from hx139_0)); clear hn139_0; clear hn139_1; clear hn139_2; replace p139 := eq_true p139; replace q139 := eq_true q139)))
        go_ret
        exact ⟨er, bs2 HB GE121 GE138⟩
       rw [if_pos c88] at H
       have c88b0 : (((rd_T40 l0_0 x102_3).f1) == 1) = true := beq_iff_eq.mpr c88
       have c88b1 : (((rd_T40 l0_0 x102_3).f1) != 1) = false := bne_eq_false_iff_eq.mpr c88
       clear c88
       have H' := Ah H
       clear H
       have p137 : 0 ≤ (x102_3 : Int) := od
       have q137 : x102_3 < (l0_0.length : Int) := od
       obtain ⟨ad137, A137_2, c137_2, e137, hx137_0, hx137_1, hx137_2, hl137_2, hi137_2⟩ := at_T40 HR0_0.out x102_3 p137 q137
       (try rw [← Nbq86.out] at hx137_0)
       cases e137
       replace hx137_0 := (HB.out.cell (World.block_lt_of_cell? w _ hx137_0)).trans hx137_0
       replace hx137_1 := (HB.out.cell (World.block_lt_of_cell? w _ hx137_1)).trans hx137_1
       replace hx137_2 := (HB.out.cell (World.block_lt_of_cell? w _ hx137_2)).trans hx137_2
       have HR137_2 := Ah hi137_2
       have HC137_2 := Ah hl137_2
       clear hi137_2 hl137_2
       replace p137 := eq_true p137
       replace q137 := eq_true q137
       go_wp2_with (first | ((with_reducible refine gate_dst (N := 10) rfl ?_); (try (refine gate_guard (by rfl) ?_; dsimp only)); refine boxL 10 40 #[.bool false, .int .i64 0, .slice none 0 0] ?_; intro gb138 hg w89 BK138 hb; replace HO_8 := nr HO_8 hb; have GW138 := gw hg (bs1 HB GE121); have GE138 := gw hg (bs1 HB GE121); replace HB := Ah (below_step (bs1 HB GE121) hb); have NB121_138 := nn BK121 hg; have NB138_121 := nm BK121 hg; replace BK121 := nb BK121 hb; clear hb hg; have hnb90 := NB138_121.out; have hnc90 := NB121_138.out; obtain ⟨hcz91_0, hcz91_1, hcz91_2⟩ := cz3 BK138; obtain ⟨hfz91_0, hfz91_1, hfz91_2⟩ := fz3 BK138; have p139 : 0 ≤ (x102_3 : Int) := od; have q139 : x102_3 < (t136.length : Int) := od; obtain ⟨ad139, e139, hx139_0⟩ := Kd.at_int (Kd.R_reads' HO_8.out).2.2 x102_3 p139 q139; cases e139; have hn139_0 : ad139.block ≠ gb138 := Kd.own_blk (Kd.R_ne HO_8.out BK138.out (by decide)); have hn139_1 : ad139.block ≠ gb138 := Kd.own_blk (Kd.R_ne HO_8.out BK138.out (by decide)); have hn139_2 : ad139.block ≠ gb138 := Kd.own_blk (Kd.R_ne HO_8.out BK138.out (by decide)); replace hx139_0 := (cell_far (p := ⟨gb138, 0, none⟩) (by first | (rw [add_block]; exact hn139_0) | (show (Addr.add _ _).block ≠ _; rw [add_block]; exact hn139_0) | exact hn139_0) (.bool true)).trans hx139_0; replace hx139_0 := (cell_far (p := ⟨gb138, 1, none⟩) (by first | (rw [add_block]; exact hn139_1) | (show (Addr.add _ _).block ≠ _; rw [add_block]; exact hn139_1) | exact hn139_1) (.int .i64 ((rd_T40 l0_0 x102_3).f1))).trans hx139_0; replace hx139_0 := (cell_far (p := ⟨gb138, 2, none⟩) (by first | (rw [add_block]; exact hn139_2) | (show (Addr.add _ _).block ≠ _; rw [add_block]; exact hn139_2) | exact hn139_2) (.slice A137_2 ((rd_T40 l0_0 x102_3).f2).length c137_2)).trans hx139_0; (try have hy139_0 := fun (n_ : Nat) => (show (((((w89.drewN n_).setCell ⟨gb138, 0, none⟩ (.bool true)).setCell ⟨gb138, 1, none⟩ (.int .i64 ((rd_T40 l0_0 x102_3).f1))).setCell ⟨gb138, 2, none⟩ (.slice A137_2 ((rd_T40 l0_0 x102_3).f2).length c137_2))).cell? _ = some _ from hx139_0)); clear hn139_0; clear hn139_1; clear hn139_2; replace p139 := eq_true p139; replace q139 := eq_true q139))
       repeat (go_quiet (first | ((with_reducible refine gate_dst (N := 10) rfl ?_); (try (refine gate_guard (by rfl) ?_; dsimp only)); refine boxL 10 40 #[.bool false, .int .i64 0, .slice none 0 0] ?_; intro gb138 hg w89 BK138 hb; replace HO_8 := nr HO_8 hb; have GW138 := gw hg (bs1 HB GE121); have GE138 := gw hg (bs1 HB GE121); replace HB := Ah (below_step (bs1 HB GE121) hb); have NB121_138 := nn BK121 hg; have NB138_121 := nm BK121 hg; replace BK121 := nb BK121 hb; clear hb hg; have hnb90 := NB138_121.out; have hnc90 := NB121_138.out; obtain ⟨hcz91_0, hcz91_1, hcz91_2⟩ := cz3 BK138; obtain ⟨hfz91_0, hfz91_1, hfz91_2⟩ := fz3 BK138; have p139 : 0 ≤ (x102_3 : Int) := od; have q139 : x102_3 < (t136.length : Int) := od; obtain ⟨ad139, e139, hx139_0⟩ := Kd.at_int (Kd.R_reads' HO_8.out).2.2 x102_3 p139 q139; cases e139; have hn139_0 : ad139.block ≠ gb138 := Kd.own_blk (Kd.R_ne HO_8.out BK138.out (by decide)); have hn139_1 : ad139.block ≠ gb138 := Kd.own_blk (Kd.R_ne HO_8.out BK138.out (by decide)); have hn139_2 : ad139.block ≠ gb138 := Kd.own_blk (Kd.R_ne HO_8.out BK138.out (by decide)); replace hx139_0 := (cell_far (p := ⟨gb138, 0, none⟩) (by first | (rw [add_block]; exact hn139_0) | (show (Addr.add _ _).block ≠ _; rw [add_block]; exact hn139_0) | exact hn139_0) (.bool true)).trans hx139_0; replace hx139_0 := (cell_far (p := ⟨gb138, 1, none⟩) (by first | (rw [add_block]; exact hn139_1) | (show (Addr.add _ _).block ≠ _; rw [add_block]; exact hn139_1) | exact hn139_1) (.int .i64 ((rd_T40 l0_0 x102_3).f1))).trans hx139_0; replace hx139_0 := (cell_far (p := ⟨gb138, 2, none⟩) (by first | (rw [add_block]; exact hn139_2) | (show (Addr.add _ _).block ≠ _; rw [add_block]; exact hn139_2) | exact hn139_2) (.slice A137_2 ((rd_T40 l0_0 x102_3).f2).length c137_2)).trans hx139_0; (try have hy139_0 := fun (n_ : Nat) => (show (((((w89.drewN n_).setCell ⟨gb138, 0, none⟩ (.bool true)).setCell ⟨gb138, 1, none⟩ (.int .i64 ((rd_T40 l0_0 x102_3).f1))).setCell ⟨gb138, 2, none⟩ (.slice A137_2 ((rd_T40 l0_0 x102_3).f2).length c137_2))).cell? _ = some _ from hx139_0)); clear hn139_0; clear hn139_1; clear hn139_2; replace p139 := eq_true p139; replace q139 := eq_true q139)); try go_wp2_with (first | ((with_reducible refine gate_dst (N := 10) rfl ?_); (try (refine gate_guard (by rfl) ?_; dsimp only)); refine boxL 10 40 #[.bool false, .int .i64 0, .slice none 0 0] ?_; intro gb138 hg w89 BK138 hb; replace HO_8 := nr HO_8 hb; have GW138 := gw hg (bs1 HB GE121); have GE138 := gw hg (bs1 HB GE121); replace HB := Ah (below_step (bs1 HB GE121) hb); have NB121_138 := nn BK121 hg; have NB138_121 := nm BK121 hg; replace BK121 := nb BK121 hb; clear hb hg; have hnb90 := NB138_121.out; have hnc90 := NB121_138.out; obtain ⟨hcz91_0, hcz91_1, hcz91_2⟩ := cz3 BK138; obtain ⟨hfz91_0, hfz91_1, hfz91_2⟩ := fz3 BK138; have p139 : 0 ≤ (x102_3 : Int) := od; have q139 : x102_3 < (t136.length : Int) := od; obtain ⟨ad139, e139, hx139_0⟩ := Kd.at_int (Kd.R_reads' HO_8.out).2.2 x102_3 p139 q139; cases e139; have hn139_0 : ad139.block ≠ gb138 := Kd.own_blk (Kd.R_ne HO_8.out BK138.out (by decide)); have hn139_1 : ad139.block ≠ gb138 := Kd.own_blk (Kd.R_ne HO_8.out BK138.out (by decide)); have hn139_2 : ad139.block ≠ gb138 := Kd.own_blk (Kd.R_ne HO_8.out BK138.out (by decide)); replace hx139_0 := (cell_far (p := ⟨gb138, 0, none⟩) (by first | (rw [add_block]; exact hn139_0) | (show (Addr.add _ _).block ≠ _; rw [add_block]; exact hn139_0) | exact hn139_0) (.bool true)).trans hx139_0; replace hx139_0 := (cell_far (p := ⟨gb138, 1, none⟩) (by first | (rw [add_block]; exact hn139_1) | (show (Addr.add _ _).block ≠ _; rw [add_block]; exact hn139_1) | exact hn139_1) (.int .i64 ((rd_T40 l0_0 x102_3).f1))).trans hx139_0; replace hx139_0 := (cell_far (p := ⟨gb138, 2, none⟩) (by first | (rw [add_block]; exact hn139_2) | (show (Addr.add _ _).block ≠ _; rw [add_block]; exact hn139_2) | exact hn139_2) (.slice A137_2 ((rd_T40 l0_0 x102_3).f2).length c137_2)).trans hx139_0; (try have hy139_0 := fun (n_ : Nat) => (show (((((w89.drewN n_).setCell ⟨gb138, 0, none⟩ (.bool true)).setCell ⟨gb138, 1, none⟩ (.int .i64 ((rd_T40 l0_0 x102_3).f1))).setCell ⟨gb138, 2, none⟩ (.slice A137_2 ((rd_T40 l0_0 x102_3).f2).length c137_2))).cell? _ = some _ from hx139_0)); clear hn139_0; clear hn139_1; clear hn139_2; replace p139 := eq_true p139; replace q139 := eq_true q139)))
       (try simp only [← hl8_3])
       go_roundg k3
       case measure => have := HJ1.out; have := HK2.out; have := HK3.out; omega
       case rel => exact ⟨(wrap64 (x102_3 + 1)), e3, H', ⟨by have := HJ1.out; have := HK2.out; have := HK3.out; omega⟩, ⟨by (try simp only [hl8_3]); (with_reducible repeat (first | apply Kd.R_alloc | apply Kd.R_drewN | apply Kd.R_drew)); exact Kd.R_mono (Kd.R_far (p := ⟨gb138, 2, none⟩) (Kd.R_far (p := ⟨gb138, 1, none⟩) (Kd.R_far (p := ⟨gb138, 0, none⟩) (Kd.R_types HO_8.out BK138.out (by decide)) (fun _ hk => hk.2) (.bool true)) (fun _ hk => hk.2) (.int .i64 ((rd_T40 l0_0 x102_3).f1))) (fun _ hk => hk.2) (.slice A137_2 ((rd_T40 l0_0 x102_3).f2).length c137_2)) (fun _ hk => trivial)⟩, ⟨by (try simp only [hl8_3]); (with_reducible repeat (first | refine blk_drewN ?_ _ | refine blk_drew ?_ | refine blk_alloc ?_ _)); refine blk_far ?_ NB121_138.out _; (with_reducible repeat (first | refine blk_drewN ?_ _ | refine blk_drew ?_ | refine blk_alloc ?_ _)); refine blk_far ?_ NB121_138.out _; (with_reducible repeat (first | refine blk_drewN ?_ _ | refine blk_drew ?_ | refine blk_alloc ?_ _)); refine blk_far ?_ NB121_138.out _; (with_reducible repeat (first | refine blk_drewN ?_ _ | refine blk_drew ?_ | refine blk_alloc ?_ _)); exact BK121.out⟩, ⟨bs2 HB GE121 GE138⟩⟩

/-! ### laws_toName: function 44 -/
def laws_toName.f (a0_0 : ByteArray) (a0_1 : Int) : Option (ByteArray × Int) := some (a0_0, a0_1)
set_option maxHeartbeats 8000000 in
set_option maxRecDepth 100000 in
theorem laws_toName.calls (a0_0 : ByteArray) (a0_1 : Int) (r1 : ByteArray) (r2 : Int) (w : World) (h : laws_toName.f a0_0 a0_1 = some (r1, r2)) :
  Calls Tryd.prog 44 #[.agg #[.string a0_0, .int .i64 a0_1]] w fun e w' => e = .returned (.agg #[.string r1, .int .i64 r2]) ∧ Below w.heap.size w w' := by
 have hu80 := Tryd.underlying80
 have hu42 := Tryd.underlying42
 have HB := Ah (Below.refl w.heap.size w)
 have H : (some (a0_0, a0_1)) = some (r1, r2) := h
 clear h
 simp only [Option.some.injEq, Prod.mk.injEq] at H
 obtain ⟨rfl, rfl⟩ := H
 go_enter Tryd.func44, Tryd.ntmps44
 go_wp2_with (first | ((with_reducible refine gate_dst (N := 1) rfl ?_); refine boxL 1 80 #[.string a0_0, .int .i64 a0_1] ?_; intro gb140 hg w2 BK140 hb; have GW140 := gw hg (bs HB); have GE140 := gw hg (bs HB); replace HB := Ah (below_step (bs HB) hb); clear hb hg) | ((with_reducible refine gate_dst (N := 2) rfl ?_); refine boxL 2 42 #[.string (⟨#[]⟩ : ByteArray), .int .i64 0] ?_; intro gb141 hg w3 BK141 hb; have GW141 := gw hg (bs1 HB GE140); have GE141 := gw hg (bs1 HB GE140); replace HB := Ah (below_step (bs1 HB GE140) hb); have NB140_141 := nn BK140 hg; have NB141_140 := nm BK140 hg; replace BK140 := nb BK140 hb; clear hb hg) | ((with_reducible refine gate_dst (N := 3) rfl ?_); refine boxL 3 42 #[.string (⟨#[]⟩ : ByteArray), .int .i64 0] ?_; intro gb142 hg w4 BK142 hb; have GW142 := gw hg (bs2 HB GE140 GE141); have GE142 := gw hg (bs2 HB GE140 GE141); replace HB := Ah (below_step (bs2 HB GE140 GE141) hb); have NB140_142 := nn BK140 hg; have NB142_140 := nm BK140 hg; replace BK140 := nb BK140 hb; have NB141_142 := Ah ((by rw [hg]; exact Nat.ne_of_lt (blk_lt (g := gb141) (o := .cells #[.string (⟨#[]⟩ : ByteArray), .int .i64 0] 42 (0, 0)) (bk BK141)) : gb141 ≠ gb142)); have NB142_141 := Ah ((by rw [hg]; exact Nat.ne_of_gt (blk_lt (g := gb141) (o := .cells #[.string (⟨#[]⟩ : ByteArray), .int .i64 0] 42 (0, 0)) (bk BK141)) : gb142 ≠ gb141)); replace BK141 := Ah (blk_below (g := gb141) (o := .cells #[.string (⟨#[]⟩ : ByteArray), .int .i64 0] 42 (0, 0)) (bk BK141) hb); clear hb hg; have hnb5 := NB140_141.out; have hnc5 := NB141_140.out; have hnb6 := NB140_142.out; have hnc6 := NB142_140.out; obtain ⟨hcz7_0, hcz7_1⟩ := cz2 BK140; obtain ⟨hfz7_0, hfz7_1⟩ := fz2 BK140; have hnb8 := NB142_141.out; have hnc8 := NB141_142.out; obtain ⟨hcz9_0, hcz9_1⟩ := cz2 BK142; obtain ⟨hfz9_0, hfz9_1⟩ := fz2 BK142; obtain ⟨hcz10_0, hcz10_1⟩ := cz2 BK141; obtain ⟨hfz10_0, hfz10_1⟩ := fz2 BK141))
 refine bodyPost_ret (results_cell_row rfl _ _ gb141 42 #[.string a0_0, .int .i64 a0_1] (0, 0) _ rfl (by (with_reducible repeat (first | refine blk_drewN ?_ _ | refine blk_drew ?_ | refine blk_alloc ?_ _)); refine blk_put (cs := #[.string a0_0, .int .i64 0]) ?_ 1 _ rfl; (with_reducible repeat (first | refine blk_drewN ?_ _ | refine blk_drew ?_ | refine blk_alloc ?_ _)); refine blk_put (cs := #[.string (⟨#[]⟩ : ByteArray), .int .i64 0]) ?_ 0 _ rfl; (with_reducible repeat (first | refine blk_drewN ?_ _ | refine blk_drew ?_ | refine blk_alloc ?_ _)); refine blk_far ?_ NB141_142.out _; (with_reducible repeat (first | refine blk_drewN ?_ _ | refine blk_drew ?_ | refine blk_alloc ?_ _)); refine blk_far ?_ NB141_142.out _; (with_reducible repeat (first | refine blk_drewN ?_ _ | refine blk_drew ?_ | refine blk_alloc ?_ _)); exact BK141.out) Tryd.underlying42 rfl (by kernel_rfl)) rfl ?_
 exact ⟨er, bs3 HB GE140 GE141 GE142⟩

/-! ### laws_toNameS: function 35 -/
def laws_toNameS.l0 : Nat → List (S80) → List (S42) → Int → Option ((List (S42)))
 | 0, _, _, _ => none
 | k + 1, x0, x3, x4 => if x4 < (x0.length : Int) then (if 0 ≤ x4 then ((laws_toName.f ((rd_T80 x0 x4).f0) ((rd_T80 x0 x4).f1)).bind fun bt147 => (if x4 < (x3.length : Int) then (laws_toNameS.l0 k x0 (x3.set (x4 : Int).toNat (⟨bt147.1, bt147.2⟩ : S42)) (wrap64 (x4 + 1))) else (none))) else (none)) else (some x3)
def laws_toNameS.f (k : Nat) (l0 : List (S80)) : Option ((List (S42))) := if 0 ≤ (l0.length : Int) then (if ((l0.length : Int) : Int).toNat ≤ 11728124029610 then (laws_toNameS.l0 k l0 (List.replicate ((l0.length : Int) : Int).toNat z42) 0) else (none)) else (none)
theorem laws_toNameS.mono_l : ∀ k, (∀ y0 y1 y2, LeO (laws_toNameS.l0 k y0 y1 y2) (laws_toNameS.l0 (k + 1) y0 y1 y2))
 | 0 => fun _ _ _ r h => by simp [laws_toNameS.l0] at h
 | k + 1 => by
  have ih0 := laws_toNameS.mono_l k
  ·
   intro y0 y1 y2
   unfold laws_toNameS.l0
   repeat' first
   | (with_reducible exact ih0 _ _ _)
   | (with_reducible exact LeO.refl _)
   | (with_reducible exact LeO.none _)
   | (with_reducible refine LeO.ite ?_ ?_)
   | (with_reducible refine LeO.bind ?_ (fun _ => ?_))
   | exact ih0 _ _ _
   | exact LeO.none _
   | refine LeO.ite ?_ ?_
   | refine LeO.bind ?_ (fun _ => ?_)
theorem laws_toNameS.mono : ∀ a0 k, LeO (laws_toNameS.f k a0) (laws_toNameS.f (k + 1) a0) := by
 intro a0 k
 have ih0 := laws_toNameS.mono_l k
 unfold laws_toNameS.f
 repeat' first
   | (with_reducible exact ih0 _ _ _)
   | (with_reducible exact LeO.refl _)
   | (with_reducible exact LeO.none _)
   | (with_reducible refine LeO.ite ?_ ?_)
   | (with_reducible refine LeO.bind ?_ (fun _ => ?_))
   | exact ih0 _ _ _
   | exact LeO.none _
   | refine LeO.ite ?_ ?_
   | refine LeO.bind ?_ (fun _ => ?_)
set_option maxHeartbeats 8000000 in
set_option maxRecDepth 100000 in
theorem laws_toNameS.calls (k : Nat) (A0 : Option Addr) (c0 : Nat) (l0 : List (S80)) (r : List (S42)) (w : World) (hr0 : Kd.C k80 w A0 l0.length l0) (hc0 : l0.length ≤ c0) (h : laws_toNameS.f k l0 = some r) :
  Calls Tryd.prog 35 #[.slice A0 l0.length c0] w fun e w' => ∃ v0_ : Value, e = .returned (v0_) ∧ Kd.R k42 42 w' w.heap.size (fun _ => True) v0_ r ∧ Below w.heap.size w w' := by
 have hu80 := Tryd.underlying80
 have hu42 := Tryd.underlying42
 have HR0 := Ah hr0
 have HC0 := Ah hc0
 clear hr0 hc0
 have HB := Ah (Below.refl w.heap.size w)
 have H : (if 0 ≤ (l0.length : Int) then (if ((l0.length : Int) : Int).toNat ≤ 11728124029610 then (laws_toNameS.l0 k l0 (List.replicate ((l0.length : Int) : Int).toNat z42) 0) else (none)) else (none)) = some r := h
 clear h
 by_cases c2 : 0 ≤ (l0.length : Int)
 rotate_left
 ·
  rw [if_neg c2] at H
  exact absurd H (by simp)
 rw [if_pos c2] at H
 have c2b0 := eq_true c2
 have c2b1 : decide (0 ≤ (l0.length : Int)) = true := decide_eq_true c2
 clear c2
 by_cases c3 : ((l0.length : Int) : Int).toNat ≤ 11728124029610
 rotate_left
 ·
  rw [if_neg c3] at H
  exact absurd H (by simp)
 rw [if_pos c3] at H
 have c3b0 := eq_true c3
 have c3b1 : decide (((l0.length : Int) : Int).toNat ≤ 11728124029610) = true := decide_eq_true c3
 clear c3
 obtain ⟨y143, hy143⟩ : ∃ y_ : List (S42), y_ = (List.replicate ((l0.length : Int) : Int).toNat z42) := ⟨_, rfl⟩
 replace H : (laws_toNameS.l0 k l0 y143 0) = some r := by first | (rw [hy143]; with_reducible exact H) | (have H2_ := (Option.bind_some _ _).symm.trans H; rw [hy143]; with_reducible exact H2_) | (have H2_ := (Option.bind_some _ _).symm.trans H; with_reducible exact H2_) | with_reducible exact H | (rw [hy143]; exact H) | exact H
 have Ny143 := Ah hy143
 clear hy143
 have H' := Ah H
 clear H
 go_enter Tryd.func35, Tryd.ntmps35
 go_wp2_with (first | ((with_reducible refine gate_dst (N := 7) rfl ?_); refine Kd.R_make k42 _ 42 rfl (N := 7) rfl 38 _ _ rfl (l0.length : Int) rfl rfl Tryd.underlying38 (.agg #[(.string ⟨#[]⟩), (.int .i64 0)]) 24 info42 rfl (by decide) (by omega) z42 (ok := fun _ => True) (okp := fun _ => True) (k42_mkM _ _ _ z42 ) (fun _ hk => hk) trivial (od) (Nat.le_trans (Nat.mul_le_mul_right _ (od : (l0.length : Int).toNat ≤ 11728124029610)) (by omega)) (Below.refl _ _) (Nat.le_refl _) ?_; intro v144 w4 ho5 hb hg_ hnew_; clear hg_ hnew_; (first | rw [← Ny143.out] at ho5 | (simp only [Int.reduceToNat] at ho5; rw [← Ny143.out] at ho5)); have HO145 := Ah (Kd.R_lower ho5 (below_size (bs HB))); replace HB := Ah (below_step (bs HB) hb); clear hb ho5))
 go_loopg [4] k (fun kq v4 w' => ∃ (x3_1 : List (S42)) (x4_1 : Int), v4 = .int .i64 x4_1 ∧ Aside0 (laws_toNameS.l0 kq l0 x3_1 x4_1 = some r) ∧ Aside0 (kq ≤ k) ∧ Aside0 (Kd.R k42 42 w' w.heap.size (fun _ => True) v144 x3_1) ∧ Aside0 (Below w.heap.size w w'))
 case atStart => exact ⟨(y143), (0), e3, H', ⟨Nat.le_refl _⟩, ⟨rr HO145.out⟩, ⟨bs HB⟩⟩
 case round =>
  clear H'
  try clear c2
  try clear c2b0
  try clear c2b1
  try clear p2
  try clear c3
  try clear c3b0
  try clear c3b1
  obtain ⟨x3_1, x4_1, rfl, HA, HK1, HO_3, HB⟩ := hrel
  cases gk with
  | zero => exact absurd HA.out (by simp [laws_toNameS.l0])
  | succ k1 =>
   have H := HA.out
   clear HA
   simp only [laws_toNameS.l0] at H
   by_cases c6 : x4_1 < (l0.length : Int)
   rotate_left
   ·
    rw [if_neg c6] at H
    have c6b0 : decide (x4_1 < (l0.length : Int)) = false := decide_eq_false c6
    clear c6
    obtain rfl := Option.some.inj H
    go_wp2
    go_ret
    exact ⟨_, er, by (with_reducible repeat (first | apply Kd.R_alloc | apply Kd.R_drewN | apply Kd.R_drew)); exact HO_3.out, bs HB⟩
   rw [if_pos c6] at H
   have c6b0 : decide (x4_1 < (l0.length : Int)) = true := decide_eq_true c6
   clear c6
   by_cases c7 : 0 ≤ x4_1
   rotate_left
   ·
    rw [if_neg c7] at H
    exact absurd H (by simp)
   rw [if_pos c7] at H
   have c7b0 : decide (0 ≤ x4_1) = true := decide_eq_true c7
   clear c7
   replace H := Option.bind_eq_some_iff.mp H
   obtain ⟨⟨t147, t148⟩, A80, H⟩ := H
   try dsimp only at H
   have A8 := Ah A80
   clear A80
   by_cases c9 : x4_1 < (x3_1.length : Int)
   rotate_left
   ·
    rw [if_neg c9] at H
    exact absurd H (by simp)
   rw [if_pos c9] at H
   have c9b0 : decide (x4_1 < (x3_1.length : Int)) = true := decide_eq_true c9
   clear c9
   obtain ⟨y149, hy149⟩ : ∃ y_ : List (S42), y_ = (x3_1.set (x4_1 : Int).toNat (⟨t147, t148⟩ : S42)) := ⟨_, rfl⟩
   replace H : (laws_toNameS.l0 k1 l0 y149 (wrap64 (x4_1 + 1))) = some r := by first | (rw [hy149]; with_reducible exact H) | (have H2_ := (Option.bind_some _ _).symm.trans H; rw [hy149]; with_reducible exact H2_) | (have H2_ := (Option.bind_some _ _).symm.trans H; with_reducible exact H2_) | with_reducible exact H | (rw [hy149]; exact H) | exact H
   have Ny149 := Ah hy149
   clear hy149
   have H' := Ah H
   clear H
   have p146 : 0 ≤ (x4_1 : Int) := od
   have q146 : x4_1 < (l0.length : Int) := od
   obtain ⟨ad146, e146, hx146_0, hx146_1⟩ := at_T80 HR0.out x4_1 p146 q146
   cases e146
   replace hx146_0 := (HB.out.cell (World.block_lt_of_cell? w _ hx146_0)).trans hx146_0
   replace hx146_1 := (HB.out.cell (World.block_lt_of_cell? w _ hx146_1)).trans hx146_1
   replace p146 := eq_true p146
   replace q146 := eq_true q146
   go_wp2_with (first | ((with_reducible refine gate_callee (f := 44) rfl ?_); refine gL (some 20) rfl rfl Tryd.func44 (by kernel_rfl) rfl #[.agg #[.string ((rd_T80 l0 x4_1).f0), .int .i64 ((rd_T80 l0 x4_1).f1)]] rfl ?_; (with_reducible refine (laws_toName.calls ((rd_T80 l0 x4_1).f0) ((rd_T80 l0 x4_1).f1) t147 t148 _ A8.out).mono ?_); rintro e w11 ⟨rfl, hb⟩; refine ⟨_, rfl, ?_⟩; replace HO_3 := nr HO_3 hb; replace HB := Ah (below_step (bs HB) hb); (try clear hb); have p10 : 0 ≤ (x4_1 : Int) := od; have q10 : (x4_1 : Int) < ((x3_1.length : Int) : Int) := od; obtain ⟨go10, co10, eo10, gb10, gl10, cl10, HG10⟩ := Kd.R_form HO_3.out (by omega); (first | cases eo10 | (injection eo10 with ea_ en_ ec_; (first | subst ea_ | (injection ea_ with ea_; subst ea_)); subst ec_; clear en_)); have GB10 := Ah gb10; have GG10 := Ah HG10; clear gb10 gl10 HG10; obtain ⟨ce10, hcl10, hM10, hcc10, hfr10⟩ := Kd.R_elem HO_3.out z42 (x4_1 : Int) p10 q10; obtain rfl := k42_openM hM10; have hx10_0 : w11.cell? ⟨go10, (x4_1 : Int).toNat * 2, none⟩ = some (.string ((rd_T42 x3_1 x4_1).f0)) := hcc10 0 _ rfl; have hx10_1 : w11.cell? ⟨go10, (x4_1 : Int).toNat * 2 + 1, none⟩ = some (.int .i64 ((rd_T42 x3_1 x4_1).f1)) := hcc10 1 _ rfl; have hf10_0 : w11.frozen? ⟨go10, (x4_1 : Int).toNat * 2, none⟩ = false := hfr10 0; have hf10_1 : w11.frozen? ⟨go10, (x4_1 : Int).toNat * 2 + 1, none⟩ = false := hfr10 1; clear hcl10 hcc10 hfr10 hM10; replace p10 := eq_true p10; replace q10 := eq_true q10; have HX12 := Ah (show Kd.R k42 42 w11 w.heap.size (fun _ => True) (.slice (some ⟨go10, 0, none⟩) x3_1.length co10) x3_1 from (rr HO_3.out)); obtain ⟨ce12, hcl12, hM12, hcc12, hfr12⟩ := Kd.R_elem HX12.out z42 (x4_1 : Int) (od) (by have h_ : (x4_1 : Int) < ((x3_1.length : Int) : Int) := od; first | exact h_ | (have e_ := (Kd.R_reads' HO_3.out).1; omega) | simpa using h_); obtain rfl := k42_openM hM12; have HP12 := Kd.R_seg HX12.out (x4_1 : Int) (od) (by have h_ : (x4_1 : Int) < ((x3_1.length : Int) : Int) := od; first | exact h_ | (have e_ := (Kd.R_reads' HO_3.out).1; omega) | simpa using h_) (seg := [.string t147, .int .i64 t148]) (j := 0) hcl12 hcc12 (show 2 ≤ 2 from by decide) (x' := (⟨t147, t148⟩ : S42)) (k42_mkM _ _ _ (⟨t147, t148⟩ : S42) ) (fun _ hk => hk); have hx12_0 := hcc12 0 _ rfl; (try simp only [show (k42).sz = 2 from rfl, Nat.mul_one, Nat.add_zero] at hx12_0); have hf12_0 := hfr12 0; (try simp only [show (k42).sz = 2 from rfl, Nat.mul_one, Nat.add_zero] at hf12_0); have hx12_1 := hcc12 1 _ rfl; (try simp only [show (k42).sz = 2 from rfl, Nat.mul_one, Nat.add_zero] at hx12_1); have hf12_1 := hfr12 1; (try simp only [show (k42).sz = 2 from rfl, Nat.mul_one, Nat.add_zero] at hf12_1); clear hcl12 hcc12 hfr12 hM12) | ((with_reducible refine gate_store (t := 42) (p := 21) rfl ?_); refine store_event (t := 42) (p := 21) (v := ?vo_w13) (w1 := ((w11.setCell ⟨go10, (x4_1 : Int).toNat * 2, none⟩ (.string t147)).setCell ⟨go10, (x4_1 : Int).toNat * 2 + 1, none⟩ (.int .i64 t148))) ?hg ?ho ?hn ?hr ?_; (case ho => rfl); (case hg => rfl); (case hn => rfl); (case hr => first | (go_simp; done) | (go_simp; rfl)); intro w13 hw; have hg : w11.grownBy w13 (some go10) := (by rw [hw]; exact HP12.2); have hp_ : Kd.R k42 42 w13 w.heap.size (fun _ => True) (.slice (some ⟨go10, 0, none⟩) x3_1.length co10) y149 := (by rw [hw, Ny149.out]; exact HP12.1); clear HP12; replace HO_3 := Ah (hp_); replace HB := Ah ((by rw [hw]; exact below_set (below_set (HB.out) GB10.out) GB10.out : Below w.heap.size w w13)); clear hg hw hp_))
   go_roundg k1
   case measure => have := HK1.out; omega
   case rel => exact ⟨(y149), (wrap64 (x4_1 + 1)), e3, H', ⟨by have := HK1.out; omega⟩, ⟨rr HO_3.out⟩, ⟨bs HB⟩⟩

/-! ### laws_toInode: function 26 -/
def laws_toInode.f (k : Nat) (a0_0 : Bool) (a0_1 : Int) (l0_2 : List (S80)) : Option (Bool × Int × (List (S42))) := (laws_toNameS.f k l0_2).bind fun t153 => (some (a0_0, a0_1, t153))
theorem laws_toInode.mono : ∀ a0 a1 a2 k, LeO (laws_toInode.f k a0 a1 a2) (laws_toInode.f (k + 1) a0 a1 a2) := by
 intro a0 a1 a2 k
 unfold laws_toInode.f
 repeat' first
   | (with_reducible exact laws_toNameS.mono _ _)
   | (with_reducible exact LeO.refl _)
   | (with_reducible exact LeO.none _)
   | (with_reducible refine LeO.ite ?_ ?_)
   | (with_reducible refine LeO.bind ?_ (fun _ => ?_))
   | exact laws_toNameS.mono _ _
   | exact LeO.none _
   | refine LeO.ite ?_ ?_
   | refine LeO.bind ?_ (fun _ => ?_)
set_option maxHeartbeats 8000000 in
set_option maxRecDepth 100000 in
theorem laws_toInode.calls (k : Nat) (a0_0 : Bool) (a0_1 : Int) (A0_2 : Option Addr) (c0_2 : Nat) (l0_2 : List (S80)) (r1 : Bool) (r2 : Int) (r3 : List (S42)) (w : World) (hr0_2 : Kd.C k80 w A0_2 l0_2.length l0_2) (hc0_2 : l0_2.length ≤ c0_2) (h : laws_toInode.f k a0_0 a0_1 l0_2 = some (r1, r2, r3)) :
  Calls Tryd.prog 26 #[.agg #[.bool a0_0, .int .i64 a0_1, .slice A0_2 l0_2.length c0_2]] w fun e w' => ∃ v2_ : Value, e = .returned (.agg #[.bool r1, .int .i64 r2, v2_]) ∧ Kd.R k42 42 w' w.heap.size (fun _ => True) v2_ r3 ∧ Below w.heap.size w w' := by
 have hu59 := Tryd.underlying59
 have hu40 := Tryd.underlying40
 have HR0_2 := Ah hr0_2
 have HC0_2 := Ah hc0_2
 clear hr0_2 hc0_2
 have HB := Ah (Below.refl w.heap.size w)
 have H : ((laws_toNameS.f k l0_2).bind fun t153 => (some (a0_0, a0_1, t153))) = some (r1, r2, r3) := h
 clear h
 replace H := Option.bind_eq_some_iff.mp H
 obtain ⟨t153, A20, H⟩ := H
 try dsimp only at H
 have A2 := Ah A20
 clear A20
 simp only [Option.some.injEq, Prod.mk.injEq] at H
 obtain ⟨rfl, rfl, rfl⟩ := H
 go_enter Tryd.func26, Tryd.ntmps26
 go_wp2_with (first | ((with_reducible refine gate_dst (N := 1) rfl ?_); refine boxL 1 59 #[.bool a0_0, .int .i64 a0_1, .slice A0_2 l0_2.length c0_2] ?_; intro gb150 hg w3 BK150 hb; have GW150 := gw hg (bs HB); have GE150 := gw hg (bs HB); replace HB := Ah (below_step (bs HB) hb); clear hb hg) | ((with_reducible refine gate_dst (N := 2) rfl ?_); refine boxL 2 40 #[.bool false, .int .i64 0, .slice none 0 0] ?_; intro gb151 hg w4 BK151 hb; have GW151 := gw hg (bs1 HB GE150); have GE151 := gw hg (bs1 HB GE150); replace HB := Ah (below_step (bs1 HB GE150) hb); have NB150_151 := nn BK150 hg; have NB151_150 := nm BK150 hg; replace BK150 := nb BK150 hb; clear hb hg) | ((with_reducible refine gate_dst (N := 3) rfl ?_); refine boxL 3 40 #[.bool false, .int .i64 0, .slice none 0 0] ?_; intro gb152 hg w5 BK152 hb; have GW152 := gw hg (bs2 HB GE150 GE151); have GE152 := gw hg (bs2 HB GE150 GE151); replace HB := Ah (below_step (bs2 HB GE150 GE151) hb); have NB150_152 := nn BK150 hg; have NB152_150 := nm BK150 hg; replace BK150 := nb BK150 hb; have NB151_152 := nn BK151 hg; have NB152_151 := nm BK151 hg; replace BK151 := nb BK151 hb; clear hb hg; have hnb6 := NB150_151.out; have hnc6 := NB151_150.out; have hnb7 := NB150_152.out; have hnc7 := NB152_150.out; obtain ⟨hcz8_0, hcz8_1, hcz8_2⟩ := cz3 BK150; obtain ⟨hfz8_0, hfz8_1, hfz8_2⟩ := fz3 BK150; have hnb9 := NB152_151.out; have hnc9 := NB151_152.out; obtain ⟨hcz10_0, hcz10_1, hcz10_2⟩ := cz3 BK152; obtain ⟨hfz10_0, hfz10_1, hfz10_2⟩ := fz3 BK152) | ((with_reducible refine gate_callee (f := 35) rfl ?_); refine gL (some 12) rfl rfl Tryd.func35 (by kernel_rfl) rfl #[.slice A0_2 l0_2.length c0_2] rfl ?_; (with_reducible refine (laws_toNameS.calls k _ _ l0_2 t153 _ ?side1 ?side2 A2.out).mono ?_); (case side1 => exact Kd.C_below HR0_2.out (bs3 HB GE150 GE151 GE152)); (case side2 => exact HC0_2.out); rintro e w11 ⟨v154, rfl, ho0, hb⟩; refine ⟨_, rfl, ?_⟩; have HO155 := Ah (Kd.R_lower ho0 (below_size (bs3 HB GE150 GE151 GE152))); replace BK150 := Ah (blk_below (bf BK150 NB150_152) hb); replace BK151 := Ah (blk_below (bf BK151 NB151_152) hb); replace BK152 := Ah (blk_below (g := gb152) (o := .cells #[.bool a0_0, .int .i64 a0_1, .slice none 0 0] 40 (0, 0)) (by (with_reducible repeat (first | refine blk_drewN ?_ _ | refine blk_drew ?_ | refine blk_alloc ?_ _)); refine blk_put (cs := #[.bool a0_0, .int .i64 0, .slice none 0 0]) ?_ 1 _ rfl; (with_reducible repeat (first | refine blk_drewN ?_ _ | refine blk_drew ?_ | refine blk_alloc ?_ _)); refine blk_put (cs := #[.bool false, .int .i64 0, .slice none 0 0]) ?_ 0 _ rfl; (with_reducible repeat (first | refine blk_drewN ?_ _ | refine blk_drew ?_ | refine blk_alloc ?_ _)); exact BK152.out) hb); replace HB := Ah (below_step (bs3 HB GE150 GE151 GE152) hb); (try clear hb ho0); obtain ⟨Ao12, co12, eo12⟩ := Kd.R_slice HO155.out; subst eo12; obtain ⟨hcz13_0, hcz13_1, hcz13_2⟩ := cz3 BK152; obtain ⟨hfz13_0, hfz13_1, hfz13_2⟩ := fz3 BK152; obtain ⟨hcz14_0, hcz14_1, hcz14_2⟩ := cz3 BK151; obtain ⟨hfz14_0, hfz14_1, hfz14_2⟩ := fz3 BK151))
 refine bodyPost_ret (results_cell_row rfl _ _ gb151 40 #[.bool a0_0, .int .i64 a0_1, .slice Ao12 t153.length co12] (0, 0) _ rfl (by (with_reducible repeat (first | refine blk_drewN ?_ _ | refine blk_drew ?_ | refine blk_alloc ?_ _)); refine blk_put (cs := #[.bool a0_0, .int .i64 a0_1, .slice none 0 0]) ?_ 2 _ rfl; (with_reducible repeat (first | refine blk_drewN ?_ _ | refine blk_drew ?_ | refine blk_alloc ?_ _)); refine blk_put (cs := #[.bool a0_0, .int .i64 0, .slice none 0 0]) ?_ 1 _ rfl; (with_reducible repeat (first | refine blk_drewN ?_ _ | refine blk_drew ?_ | refine blk_alloc ?_ _)); refine blk_put (cs := #[.bool false, .int .i64 0, .slice none 0 0]) ?_ 0 _ rfl; (with_reducible repeat (first | refine blk_drewN ?_ _ | refine blk_drew ?_ | refine blk_alloc ?_ _)); refine blk_far ?_ NB151_152.out _; (with_reducible repeat (first | refine blk_drewN ?_ _ | refine blk_drew ?_ | refine blk_alloc ?_ _)); exact BK151.out) Tryd.underlying40 rfl (by kernel_rfl)) rfl ?_
 exact ⟨_, er, by (with_reducible repeat (first | apply Kd.R_alloc | apply Kd.R_drewN | apply Kd.R_drew)); exact Kd.R_mono (Kd.R_far (p := ⟨gb151, 2, none⟩) (Kd.R_far (p := ⟨gb151, 1, none⟩) (Kd.R_far (p := ⟨gb151, 0, none⟩) (Kd.R_far (p := ⟨gb152, 2, none⟩) (Kd.R_types (Kd.R_types HO155.out BK152.out (by decide)) BK151.out (by decide)) (fun _ hk => hk.1.2) (.slice Ao12 t153.length co12)) (fun _ hk => hk.2) (.bool a0_0)) (fun _ hk => hk.2) (.int .i64 a0_1)) (fun _ hk => hk.2) (.slice Ao12 t153.length co12)) (fun _ hk => trivial), bs3 HB GE150 GE151 GE152⟩

end Go.Proofs.YtoneooblgdoooaaDoor.G
