-- Printed by a program of this session (drive.py, by way of the kit's print). Not trusted: Lean checks it.
import Derived.Test.YtfbjeppfnlfejaaDoorG0
import Derived.Test.YtfbjeppfnlfejaaDoorG4
namespace Go.Proofs.YtfbjeppfnlfejaaDoor.G
open Go.RowKit Go.Proofs.YtfbjeppfnlfejaaDoorW.PrintWords Go.Proofs.YtfbjeppfnlfejaaDoorW.PrintLast Go.Proofs.YtfbjeppfnlfejaaDoorW.PrintMore
attribute [local go_sem] max2_int min2_int max_two min_two max_three min_three max_four min_four   -- for this text's walks alone
set_option linter.unusedVariables false
set_option linter.unusedSimpArgs false

/-! ### slices_BinarySearchFunc_impl_Name_string_at_impl_Dir_find_1: function 44 -/
def slices_BinarySearchFunc_impl_Name_string_at_impl_Dir_find_1.l0 : Nat → List (S53) → ByteArray → Int → Int → Int → Option (Int × Bool)
 | 0, _, _, _, _, _ => none
 | k + 1, x0, x1, x8, x9, x10 => if x9 < x10 then (if 0 ≤ (wrap64 ((IntKind.u64.wrap (wrap64 (x9 + x10))) / 2)) then (if (wrap64 ((IntKind.u64.wrap (wrap64 (x9 + x10))) / 2)) < (x0.length : Int) then ((impl_Dir_find_1.f ((rd_T53 x0 (wrap64 ((IntKind.u64.wrap (wrap64 (x9 + x10))) / 2))).f0) ((rd_T53 x0 (wrap64 ((IntKind.u64.wrap (wrap64 (x9 + x10))) / 2))).f1) x1).bind fun t291 => (if t291 < 0 then (slices_BinarySearchFunc_impl_Name_string_at_impl_Dir_find_1.l0 k x0 x1 x8 (wrap64 ((wrap64 ((IntKind.u64.wrap (wrap64 (x9 + x10))) / 2)) + 1)) x10) else (slices_BinarySearchFunc_impl_Name_string_at_impl_Dir_find_1.l0 k x0 x1 x8 x9 (wrap64 ((IntKind.u64.wrap (wrap64 (x9 + x10))) / 2))))) else (none)) else (none)) else (if x9 < x8 then (if 0 ≤ x9 then (if x9 < (x0.length : Int) then ((impl_Dir_find_1.f ((rd_T53 x0 x9).f0) ((rd_T53 x0 x9).f1) x1).bind fun t293 => (some (x9, (t293 == 0)))) else (none)) else (none)) else (some (x9, false)))
def slices_BinarySearchFunc_impl_Name_string_at_impl_Dir_find_1.f (k : Nat) (l0 : List (S53)) (a1 : ByteArray)  : Option (Int × Bool) := slices_BinarySearchFunc_impl_Name_string_at_impl_Dir_find_1.l0 k l0 a1 (l0.length : Int) 0 (l0.length : Int)
theorem slices_BinarySearchFunc_impl_Name_string_at_impl_Dir_find_1.mono_l : ∀ k, (∀ y0 y1 y2 y3 y4, LeO (slices_BinarySearchFunc_impl_Name_string_at_impl_Dir_find_1.l0 k y0 y1 y2 y3 y4) (slices_BinarySearchFunc_impl_Name_string_at_impl_Dir_find_1.l0 (k + 1) y0 y1 y2 y3 y4))
 | 0 => fun _ _ _ _ _ r h => by simp [slices_BinarySearchFunc_impl_Name_string_at_impl_Dir_find_1.l0] at h
 | k + 1 => by
  have ih0 := slices_BinarySearchFunc_impl_Name_string_at_impl_Dir_find_1.mono_l k
  ·
   intro y0 y1 y2 y3 y4
   unfold slices_BinarySearchFunc_impl_Name_string_at_impl_Dir_find_1.l0
   repeat' first
   | (with_reducible exact ih0 _ _ _ _ _)
   | (with_reducible exact LeO.refl _)
   | (with_reducible exact LeO.none _)
   | (with_reducible refine LeO.ite ?_ ?_)
   | (with_reducible refine LeO.bind ?_ (fun _ => ?_))
   | exact ih0 _ _ _ _ _
   | exact LeO.none _
   | refine LeO.ite ?_ ?_
   | refine LeO.bind ?_ (fun _ => ?_)
theorem slices_BinarySearchFunc_impl_Name_string_at_impl_Dir_find_1.mono : ∀ a0 a1 k, LeO (slices_BinarySearchFunc_impl_Name_string_at_impl_Dir_find_1.f k a0 a1) (slices_BinarySearchFunc_impl_Name_string_at_impl_Dir_find_1.f (k + 1) a0 a1) := by
 intro a0 a1 k
 have ih0 := slices_BinarySearchFunc_impl_Name_string_at_impl_Dir_find_1.mono_l k
 unfold slices_BinarySearchFunc_impl_Name_string_at_impl_Dir_find_1.f
 repeat' first
   | (with_reducible exact ih0 _ _ _ _ _)
   | (with_reducible exact LeO.refl _)
   | (with_reducible exact LeO.none _)
   | (with_reducible refine LeO.ite ?_ ?_)
   | (with_reducible refine LeO.bind ?_ (fun _ => ?_))
   | exact ih0 _ _ _ _ _
   | exact LeO.none _
   | refine LeO.ite ?_ ?_
   | refine LeO.bind ?_ (fun _ => ?_)
set_option maxHeartbeats 8000000 in
set_option maxRecDepth 100000 in
theorem slices_BinarySearchFunc_impl_Name_string_at_impl_Dir_find_1.calls (k : Nat) (A0 : Option Addr) (c0 : Nat) (l0 : List (S53)) (a1 : ByteArray)  (r1 : Int) (r2 : Bool) (w : World) (hr0 : Kd.C k53 w A0 l0.length l0) (hc0 : l0.length ≤ c0) (h : slices_BinarySearchFunc_impl_Name_string_at_impl_Dir_find_1.f k l0 a1 = some (r1, r2)) :
  Calls Tryd.prog 44 #[.slice A0 l0.length c0, .string a1, .func (.func 45) #[] #[]] w fun e w' => e = .returned (.tuple #[.int .i64 r1, .bool r2]) ∧ Below w.heap.size w w' := by
 have hu53 := Tryd.underlying53
 have eg45 := fun (args : Array Value) (w : World) => enters_ (P := Tryd.prog) Tryd.func45 (by kernel_rfl) rfl args w
 have HR0 := Ah hr0
 have HC0 := Ah hc0
 clear hr0 hc0
 have HB := Ah (Below.refl w.heap.size w)
 have H : (slices_BinarySearchFunc_impl_Name_string_at_impl_Dir_find_1.l0 k l0 a1 (l0.length : Int) 0 (l0.length : Int)) = some (r1, r2) := h
 clear h
 have H' := Ah H
 clear H
 go_enter Tryd.func44, Tryd.ntmps44
 go_wp2
 go_loopg [9, 10] k (fun kq v9 v10 w' => ∃ (x9_1 : Int) (x10_1 : Int), v9 = .int .i64 x9_1 ∧ v10 = .int .i64 x10_1 ∧ Aside0 (slices_BinarySearchFunc_impl_Name_string_at_impl_Dir_find_1.l0 kq l0 a1 (l0.length : Int) x9_1 x10_1 = some (r1, r2)) ∧ Aside0 (kq ≤ k) ∧ Aside0 (Below w.heap.size w w'))
 case atStart => exact ⟨(0), ((l0.length : Int)), e3, e3, H', ⟨Nat.le_refl _⟩, ⟨bs HB⟩⟩
 case round =>
  clear H'
  try clear p2
  obtain ⟨x9_1, x10_1, rfl, rfl, HA, HK1, HB⟩ := hrel
  cases gk with
  | zero => exact absurd HA.out (by simp [slices_BinarySearchFunc_impl_Name_string_at_impl_Dir_find_1.l0])
  | succ k1 =>
   have H := HA.out
   clear HA
   simp only [slices_BinarySearchFunc_impl_Name_string_at_impl_Dir_find_1.l0] at H
   by_cases c4 : x9_1 < x10_1
   rotate_left
   ·
    rw [if_neg c4] at H
    have c4b0 : decide (x9_1 < x10_1) = false := decide_eq_false c4
    clear c4
    by_cases c12 : x9_1 < (l0.length : Int)
    rotate_left
    ·
     rw [if_neg c12] at H
     have c12b0 : decide (x9_1 < (l0.length : Int)) = false := decide_eq_false c12
     clear c12
     simp only [Option.some.injEq, Prod.mk.injEq] at H
     obtain ⟨rfl, rfl⟩ := H
     go_wp2
     go_ret2
     exact ⟨er, bs HB⟩
    rw [if_pos c12] at H
    have c12b0 : decide (x9_1 < (l0.length : Int)) = true := decide_eq_true c12
    clear c12
    by_cases c13 : 0 ≤ x9_1
    rotate_left
    ·
     rw [if_neg c13] at H
     exact absurd H (by simp)
    rw [if_pos c13] at H
    have c13b0 : decide (0 ≤ x9_1) = true := decide_eq_true c13
    clear c13
    by_cases c14 : x9_1 < (l0.length : Int)
    rotate_left
    ·
     rw [if_neg c14] at H
     exact absurd H (by simp)
    rw [if_pos c14] at H
    have c14b0 : decide (x9_1 < (l0.length : Int)) = true := decide_eq_true c14
    clear c14
    replace H := Option.bind_eq_some_iff.mp H
    obtain ⟨t293, A150, H⟩ := H
    try dsimp only at H
    have A15 := Ah A150
    clear A150
    simp only [Option.some.injEq, Prod.mk.injEq] at H
    obtain ⟨rfl, rfl⟩ := H
    have p292 : 0 ≤ (x9_1 : Int) := od
    have q292 : x9_1 < (l0.length : Int) := od
    obtain ⟨ad292, e292, hx292_0, hx292_1⟩ := at_T53 HR0.out x9_1 p292 q292
    cases e292
    replace hx292_0 := (HB.out.cell (World.block_lt_of_cell? w _ hx292_0)).trans hx292_0
    replace hx292_1 := (HB.out.cell (World.block_lt_of_cell? w _ hx292_1)).trans hx292_1
    replace p292 := eq_true p292
    replace q292 := eq_true q292
    go_wp2_with (first | (go_at_call 45; (with_reducible refine (impl_Dir_find_1.calls ((rd_T53 l0 x9_1).f0) ((rd_T53 l0 x9_1).f1) a1 t293 _ A15.out).mono ?_); rintro e w16 ⟨rfl, hb⟩; replace HB := Ah (below_step (bs HB) hb); (try clear hb)))
    go_ret2
    exact ⟨er, bs HB⟩
   rw [if_pos c4] at H
   have c4b0 : decide (x9_1 < x10_1) = true := decide_eq_true c4
   clear c4
   obtain ⟨ji5, hji5⟩ : ∃ j_ : Int, (wrap64 ((IntKind.u64.wrap (wrap64 (x9_1 + x10_1))) / 2)) = j_ := ⟨_, rfl⟩
   replace H : (if 0 ≤ (ji5) then (if (ji5) < (l0.length : Int) then ((impl_Dir_find_1.f ((rd_T53 l0 (ji5)).f0) ((rd_T53 l0 (ji5)).f1) a1).bind fun t291 => (if t291 < 0 then (slices_BinarySearchFunc_impl_Name_string_at_impl_Dir_find_1.l0 k1 l0 a1 (l0.length : Int) (wrap64 ((ji5) + 1)) x10_1) else (slices_BinarySearchFunc_impl_Name_string_at_impl_Dir_find_1.l0 k1 l0 a1 (l0.length : Int) x9_1 ji5))) else (none)) else (none)) = some (r1, r2) := by first | (rw [hji5] at H; exact H) | (simp only [hji5] at H ⊢; exact H)
   have hji5w : (IntKind.i64.wrap ((IntKind.u64.wrap (wrap64 (x9_1 + x10_1))) / 2)) = ji5 := (i64_w _).trans hji5
   by_cases c6 : 0 ≤ (ji5)
   rotate_left
   ·
    rw [if_neg c6] at H
    exact absurd H (by simp)
   rw [if_pos c6] at H
   have c6b0 : decide (0 ≤ (ji5)) = true := decide_eq_true c6
   clear c6
   by_cases c7 : (ji5) < (l0.length : Int)
   rotate_left
   ·
    rw [if_neg c7] at H
    exact absurd H (by simp)
   rw [if_pos c7] at H
   have c7b0 : decide ((ji5) < (l0.length : Int)) = true := decide_eq_true c7
   clear c7
   replace H := Option.bind_eq_some_iff.mp H
   obtain ⟨t291, A80, H⟩ := H
   try dsimp only at H
   have A8 := Ah A80
   clear A80
   by_cases c9 : t291 < 0
   rotate_left
   ·
    rw [if_neg c9] at H
    have c9b0 : decide (t291 < 0) = false := decide_eq_false c9
    clear c9
    have H' := Ah H
    clear H
    have p290 : 0 ≤ ((ji5) : Int) := od
    have q290 : (ji5) < (l0.length : Int) := od
    obtain ⟨ad290, e290, hx290_0, hx290_1⟩ := at_T53 HR0.out (ji5) p290 q290
    cases e290
    replace hx290_0 := (HB.out.cell (World.block_lt_of_cell? w _ hx290_0)).trans hx290_0
    replace hx290_1 := (HB.out.cell (World.block_lt_of_cell? w _ hx290_1)).trans hx290_1
    replace p290 := eq_true p290
    replace q290 := eq_true q290
    go_wp2_with (first | ((with_reducible refine gate_value (t := 24) rfl ?_); refine goesV_ (some 30) rfl rfl Tryd.func45 (by kernel_rfl) rfl #[.agg #[.string ((rd_T53 l0 (ji5)).f0), .int .i64 ((rd_T53 l0 (ji5)).f1)], .string a1] rfl rfl (by (try simp only [List.map_toArray, List.map_cons, List.map_nil]); first | done | (simp only [hji5]; rfl) | rfl | (simp only [List.length_drop, List.length_take]; rfl)) ?_; (with_reducible refine (impl_Dir_find_1.calls ((rd_T53 l0 (ji5)).f0) ((rd_T53 l0 (ji5)).f1) a1 t291 _ A8.out).mono ?_); rintro e w11 ⟨rfl, hb⟩; refine ⟨_, rfl, ?_⟩; replace HB := Ah (below_step (bs HB) hb); (try clear hb)))
    go_roundg k1
    case measure => have := HK1.out; omega
    case rel => exact ⟨(x9_1), (ji5), e3, (by first | rfl | (simp; done) | (simp only [← hji5] <;> (first | rfl | simp)) | (simp [*]; done)), H', ⟨by have := HK1.out; omega⟩, ⟨bs HB⟩⟩
   rw [if_pos c9] at H
   have c9b0 : decide (t291 < 0) = true := decide_eq_true c9
   clear c9
   have H' := Ah H
   clear H
   have p290 : 0 ≤ ((ji5) : Int) := od
   have q290 : (ji5) < (l0.length : Int) := od
   obtain ⟨ad290, e290, hx290_0, hx290_1⟩ := at_T53 HR0.out (ji5) p290 q290
   cases e290
   replace hx290_0 := (HB.out.cell (World.block_lt_of_cell? w _ hx290_0)).trans hx290_0
   replace hx290_1 := (HB.out.cell (World.block_lt_of_cell? w _ hx290_1)).trans hx290_1
   replace p290 := eq_true p290
   replace q290 := eq_true q290
   go_wp2_with (first | ((with_reducible refine gate_value (t := 24) rfl ?_); refine goesV_ (some 30) rfl rfl Tryd.func45 (by kernel_rfl) rfl #[.agg #[.string ((rd_T53 l0 (ji5)).f0), .int .i64 ((rd_T53 l0 (ji5)).f1)], .string a1] rfl rfl (by (try simp only [List.map_toArray, List.map_cons, List.map_nil]); first | done | (simp only [hji5]; rfl) | rfl | (simp only [List.length_drop, List.length_take]; rfl)) ?_; (with_reducible refine (impl_Dir_find_1.calls ((rd_T53 l0 (ji5)).f0) ((rd_T53 l0 (ji5)).f1) a1 t291 _ A8.out).mono ?_); rintro e w10 ⟨rfl, hb⟩; refine ⟨_, rfl, ?_⟩; replace HB := Ah (below_step (bs HB) hb); (try clear hb)))
   go_roundg k1
   case measure => have := HK1.out; omega
   case rel => exact ⟨(wrap64 ((ji5) + 1)), (x10_1), (by first | rfl | (simp; done) | (simp only [← hji5] <;> (first | rfl | simp)) | (simp [*]; done)), e3, H', ⟨by have := HK1.out; omega⟩, ⟨bs HB⟩⟩

/-! ### impl_Dir_find: function 23 -/
def impl_Dir_find.f (k : Nat) (a0_0 : Int) (l0_1 : List Int) (l0_2 : List (S46)) (a1 : ByteArray) : Option (Int × Int × Bool) := (impl_Dir_slotOf.f k a0_0 l0_1 l0_2 a1).bind fun t295 => (if 0 ≤ t295 then (if t295 < (l0_1.length : Int) then (if 0 ≤ (rd l0_1 t295) then (if (rd l0_1 t295) < (l0_2.length : Int) then ((slices_BinarySearchFunc_impl_Name_string_at_impl_Dir_find_1.f k ((rd_T46 l0_2 (rd l0_1 t295)).f1) a1).bind fun bt298 => (some (rd l0_1 t295, bt298.1, bt298.2))) else (none)) else (none)) else (none)) else (none))
theorem impl_Dir_find.mono : ∀ a0 a1 a2 a3 k, LeO (impl_Dir_find.f k a0 a1 a2 a3) (impl_Dir_find.f (k + 1) a0 a1 a2 a3) := by
 intro a0 a1 a2 a3 k
 unfold impl_Dir_find.f
 repeat' first
   | (with_reducible exact impl_Dir_slotOf.mono _ _ _ _ _)
   | (with_reducible exact slices_BinarySearchFunc_impl_Name_string_at_impl_Dir_find_1.mono _ _ _)
   | (with_reducible exact LeO.refl _)
   | (with_reducible exact LeO.none _)
   | (with_reducible refine LeO.ite ?_ ?_)
   | (with_reducible refine LeO.bind ?_ (fun _ => ?_))
   | exact impl_Dir_slotOf.mono _ _ _ _ _
   | exact slices_BinarySearchFunc_impl_Name_string_at_impl_Dir_find_1.mono _ _ _
   | exact LeO.none _
   | refine LeO.ite ?_ ?_
   | refine LeO.bind ?_ (fun _ => ?_)
def impl_Dir_find.T1 : Bool × List (List Nat × List Nat) := (true, [([], []), ([0], [0]), ([], []), ([], []), ([2, 3], [2, 3]), ([1, 4], [1, 4]), ([5], [5]), ([6, 4, 0, 1, 2, 3, 4, 5, 6], [6])])
def impl_Dir_find.B1 : List Nat := [0, 1, 0, 0, 12, 31, 63, 127]
theorem impl_Dir_find.tab1 : rtab .any (opsOf Tryd.f23 1) = impl_Dir_find.T1 := by kernel_rfl
theorem impl_Dir_find.bits1 : waitsOk impl_Dir_find.T1.2 impl_Dir_find.B1 = true := by kernel_rfl
set_option maxHeartbeats 8000000 in
set_option maxRecDepth 100000 in
theorem impl_Dir_find.calls (k : Nat) (a0_0 : Int) (A0_1 : Option Addr) (c0_1 : Nat) (l0_1 : List Int) (A0_2 : Option Addr) (c0_2 : Nat) (l0_2 : List (S46)) (a1 : ByteArray) (r1 : Int) (r2 : Int) (r3 : Bool) (w : World) (hr0_1 : Kd.C (Kd.int .i64) w A0_1 l0_1.length l0_1) (hc0_1 : l0_1.length ≤ c0_1) (hr0_2 : Kd.C k46 w A0_2 l0_2.length l0_2) (hc0_2 : l0_2.length ≤ c0_2) (h : impl_Dir_find.f k a0_0 l0_1 l0_2 a1 = some (r1, r2, r3)) :
  Calls Tryd.prog 23 #[.agg #[.int .i64 a0_0, .slice A0_1 l0_1.length c0_1, .slice A0_2 l0_2.length c0_2], .string a1] w fun e w' => e = .returned (.tuple #[.int .i64 r1, .int .i64 r2, .bool r3]) ∧ Below w.heap.size w w' := by
 have hu29 := Tryd.underlying29
 have HR0_1 := Ah hr0_1
 have HC0_1 := Ah hc0_1
 clear hr0_1 hc0_1
 have HR0_2 := Ah hr0_2
 have HC0_2 := Ah hc0_2
 clear hr0_2 hc0_2
 have HB := Ah (Below.refl w.heap.size w)
 have H : ((impl_Dir_slotOf.f k a0_0 l0_1 l0_2 a1).bind fun t295 => (if 0 ≤ t295 then (if t295 < (l0_1.length : Int) then (if 0 ≤ (rd l0_1 t295) then (if (rd l0_1 t295) < (l0_2.length : Int) then ((slices_BinarySearchFunc_impl_Name_string_at_impl_Dir_find_1.f k ((rd_T46 l0_2 (rd l0_1 t295)).f1) a1).bind fun bt298 => (some (rd l0_1 t295, bt298.1, bt298.2))) else (none)) else (none)) else (none)) else (none))) = some (r1, r2, r3) := h
 clear h
 replace H := Option.bind_eq_some_iff.mp H
 obtain ⟨t295, A30, H⟩ := H
 try dsimp only at H
 have A3 := Ah A30
 clear A30
 by_cases c4 : 0 ≤ t295
 rotate_left
 ·
  rw [if_neg c4] at H
  exact absurd H (by simp)
 rw [if_pos c4] at H
 have c4b0 : decide (0 ≤ t295) = true := decide_eq_true c4
 clear c4
 by_cases c5 : t295 < (l0_1.length : Int)
 rotate_left
 ·
  rw [if_neg c5] at H
  exact absurd H (by simp)
 rw [if_pos c5] at H
 have c5b0 : decide (t295 < (l0_1.length : Int)) = true := decide_eq_true c5
 clear c5
 by_cases c6 : 0 ≤ (rd l0_1 t295)
 rotate_left
 ·
  rw [if_neg c6] at H
  exact absurd H (by simp)
 rw [if_pos c6] at H
 have c6b0 : decide (0 ≤ (rd l0_1 t295)) = true := decide_eq_true c6
 clear c6
 by_cases c7 : (rd l0_1 t295) < (l0_2.length : Int)
 rotate_left
 ·
  rw [if_neg c7] at H
  exact absurd H (by simp)
 rw [if_pos c7] at H
 have c7b0 : decide ((rd l0_1 t295) < (l0_2.length : Int)) = true := decide_eq_true c7
 clear c7
 replace H := Option.bind_eq_some_iff.mp H
 obtain ⟨⟨t298, t299⟩, A80, H⟩ := H
 try dsimp only at H
 have A8 := Ah A80
 clear A80
 simp only [Option.some.injEq, Prod.mk.injEq] at H
 obtain ⟨rfl, rfl, rfl⟩ := H
 go_enter Tryd.func23, Tryd.ntmps23
 try go_wp2_with (first | ((with_reducible refine gate_dst (N := 2) rfl ?_); refine boxL 2 29 #[.int .i64 a0_0, .slice A0_1 l0_1.length c0_1, .slice A0_2 l0_2.length c0_2] ?_; intro gb294 hg w9 BK294 hb; have GW294 := gw hg (bs HB); have GE294 := gw hg (bs HB); replace HB := Ah (below_step (bs HB) hb); clear hb hg))
 have n0_ := Ah (blk_drew BK294.out)
 have n1_ := Ah (below_drew1 HB.out)
 clear BK294 HB
 have BK294 := n0_
 have HB := n1_
 clear n0_ n1_
 have p296 : 0 ≤ (t295 : Int) := od
 have q296 : t295 < (l0_1.length : Int) := od
 obtain ⟨ad296, e296, hx296_0⟩ := Kd.at_int HR0_1.out t295 p296 q296
 have hw296_0 := hx296_0
 cases e296
 replace hx296_0 := (HB.out.cell (World.block_lt_of_cell? w _ hx296_0)).trans hx296_0
 replace p296 := eq_true p296
 replace q296 := eq_true q296
 refine start_ (n := 8) (S := fun w' => w'.cell? ⟨gb294, 0, none⟩ = some (.int .i64 a0_0) ∧ w'.cell? ⟨gb294, 1, none⟩ = some (.slice (some ad296) l0_1.length c0_1) ∧ w'.cell? ⟨gb294, 2, none⟩ = some (.slice A0_2 l0_2.length c0_2) ∧ w'.cell? (ad296.add (t295).toNat) = some (.int .i64 (rd l0_1 t295))) (ds := []) #[false, false, false, false, false, false, false, false] (by kernel_rfl) rfl rfl ⟨(blk_cell BK294.out 0).trans rfl, (blk_cell BK294.out 1).trans rfl, (blk_cell BK294.out 2).trans rfl, ((HB.out.cell (World.block_lt_of_cell? w _ hw296_0)).trans hw296_0)⟩ (fun hHeld => ?_); refine with_tabW impl_Dir_find.tab1 impl_Dir_find.bits1 (fun HT_ HW_ => ?_)
 generalize w9.drew = w10 at BK294 HB hx296_0 hHeld ⊢
 refine pureS 0 10 HT_.out ?_
 refine pureS 3 13 HT_.out ?_
 refine takeS 1 11 HT_.out HW_.out hHeld (hr := by rintro w' ⟨s0, s1, s2, s3⟩; go_simp; with_reducible rfl) (h := ?_)
 refine takeS 2 12 HT_.out HW_.out hHeld (hr := by rintro w' ⟨s0, s1, s2, s3⟩; go_simp; with_reducible rfl) (h := ?_)
 refine one_ (i := 4) (N := some 14) #[true, true, true, true, true, false, false, false] rfl rfl (one_of HT_.out (by kernel_rfl)) (by decide) (fun K hK => ?_)
 refine goes_ Tryd.func40 (by kernel_rfl) rfl #[.agg #[.int .i64 a0_0, .slice (some ad296) l0_1.length c0_1, .slice A0_2 l0_2.length c0_2], .string a1] (by rfl) rfl rfl (by (try simp only [List.map_toArray, List.map_cons, List.map_nil]); first | done | rfl | (simp only [List.length_drop, List.length_take]; rfl)) ?_
 with_reducible refine (impl_Dir_slotOf.calls k a0_0 _ _ l0_1 _ _ l0_2 a1 t295 _ ?side1 ?side2 ?side3 ?side4 A3.out).mono ?_
 (case side1 => exact cb HR0_1 HB)
 (case side2 => exact HC0_1.out)
 (case side3 => exact cb HR0_2 HB)
 (case side4 => exact HC0_2.out)
 rintro e w11 ⟨rfl, hb⟩
 refine ⟨_, rfl, ?_⟩
 have n0_ := Ah (bb BK294 hb)
 have n1_ := Ah (below_step (bs1 HB GE294) hb)
 clear BK294 HB
 have BK294 := n0_
 have HB := n1_
 clear n0_ n1_
 (try clear hb)
 (try clear hb2)
 (try clear hk)
 (try clear hi)
 refine hK.out _ _ ⟨(blk_cell BK294.out 0).trans rfl, (blk_cell BK294.out 1).trans rfl, (blk_cell BK294.out 2).trans rfl, ((HB.out.cell (World.block_lt_of_cell? w _ hw296_0)).trans hw296_0)⟩ (fun hHeld => ?_)
 clear hK K
 refine norm_ (a' := ?_) ?_ ?_
 rotate_left
 ·
  show Act.put _ (some 14) _ = _
  simp only [Act.put, List.setIfInBounds_toArray, List.set_cons_zero, List.set_cons_succ, i64_w, i32_w]
  rfl
 refine pureS 5 15 HT_.out ?_
 refine takeS 6 16 HT_.out HW_.out hHeld (hr := by rintro w' ⟨s0, s1, s2, s3⟩; go_simp; with_reducible rfl) (h := ?_)
 refine pureS 7 7 HT_.out ?_
 refine done_ (done_of HT_.out (by kernel_rfl)) ?_
 obtain ⟨hcz12_0, hcz12_1, hcz12_2⟩ := cz3 BK294
 obtain ⟨hfz12_0, hfz12_1, hfz12_2⟩ := fz3 BK294
 have p297 : 0 ≤ ((rd l0_1 t295) : Int) := od
 have q297 : (rd l0_1 t295) < (l0_2.length : Int) := od
 obtain ⟨ad297, A297_1, c297_1, e297, hx297_0, hx297_1, hl297_1, hi297_1⟩ := at_T46 HR0_2.out (rd l0_1 t295) p297 q297
 cases e297
 replace hx297_0 := (HB.out.cell (World.block_lt_of_cell? w _ hx297_0)).trans hx297_0
 replace hx297_1 := (HB.out.cell (World.block_lt_of_cell? w _ hx297_1)).trans hx297_1
 have HR297_1 := Ah hi297_1
 have HC297_1 := Ah hl297_1
 clear hi297_1 hl297_1
 replace p297 := eq_true p297
 replace q297 := eq_true q297
 try go_wp2_with (first | ((with_reducible refine gate_callee (f := 44) rfl ?_); refine gL (some 25) rfl rfl Tryd.func44 (by kernel_rfl) rfl #[.slice A297_1 ((rd_T46 l0_2 (rd l0_1 t295)).f1).length c297_1, .string a1, .func (.func 45) #[] #[]] rfl ?_; (with_reducible refine (slices_BinarySearchFunc_impl_Name_string_at_impl_Dir_find_1.calls k _ _ ((rd_T46 l0_2 (rd l0_1 t295)).f1) a1  t298 t299 _ ?side1 ?side2 A8.out).mono ?_); (case side1 => exact cb HR297_1 HB); (case side2 => exact HC297_1.out); rintro e w13 ⟨rfl, hb⟩; refine ⟨_, rfl, ?_⟩; replace BK294 := nb BK294 hb; replace HB := Ah (below_step (bs1 HB GE294) hb); (try clear hb)))
 go_ret3
 exact ⟨er, bs1 HB GE294⟩

/-! ### impl_Name_24: function 24 -/
-- slices.Delete on a row of the call's own: the elements from i up to j go.
def impl_Name_24.f (l0 : List (S53)) (a1 a2 : Int) : Option (List (S53)) := if 0 ≤ a1 ∧ a1 < a2 ∧ a2 ≤ (l0.length : Int) then some (l0.take a1.toNat ++ l0.drop a2.toNat) else none
set_option maxHeartbeats 1600000 in
set_option maxRecDepth 100000 in
theorem impl_Name_24.calls (P0_ : Nat → Prop) (u9000_ : Value) (l0 : List (S53)) (a1 a2 : Int) (r : List (S53)) (w0 w : World) (hB : Below w0.heap.size w0 w) (ho0 : Kd.R k53 53 w w0.heap.size P0_ u9000_ l0) (h : impl_Name_24.f l0 a1 a2 = some r) :
    Calls Tryd.prog 24 #[u9000_, .int .i64 a1, .int .i64 a2] w fun e w' => ∃ v0_ : Value, e = .returned (v0_) ∧ Kd.R k53 53 w' w0.heap.size P0_ v0_ r ∧ v0_.ownBlock = u9000_.ownBlock ∧ Below w0.heap.size w0 w' ∧ Kept w w' (fun k_ => P0_ k_) := by
  unfold impl_Name_24.f at h
  by_cases hc : 0 ≤ a1 ∧ a1 < a2 ∧ a2 ≤ (l0.length : Int)
  case neg => rw [if_neg hc] at h; cases h
  rw [if_pos hc] at h
  obtain rfl := Option.some.inj h
  clear h
  obtain ⟨h1, h2, h3⟩ := hc
  obtain ⟨i, rfl⟩ : ∃ i : Nat, a1 = i := ⟨a1.toNat, by omega⟩
  obtain ⟨j, rfl⟩ : ∃ j : Nat, a2 = j := ⟨a2.toNat, by omega⟩
  have hij : i < j := by omega
  have hjn : j ≤ l0.length := by omega
  obtain ⟨g, c, rfl, hbg, hlt, _⟩ := Kd.R_form ho0 (by omega)
  have hnc := (Kd.R_reads' ho0).2.1
  have hcm : c ≤ 9223372036854775807 := Kd.R_capm ho0 (by omega)
  obtain ⟨i0, hi0, hz0, hz1, hz2⟩ := info_parts info53
  obtain ⟨news, hl, hn1, hn2, hn3, hR, hG⟩ := Kd.R_moved k53 (Kd.R_drew ho0) (i := i) (j := j) (Nat.le_of_lt hij) hjn
  have hP := ho0.1
  have hE := Aside0.mk ho0
  have s1 : Aside0 (news.length = (l0.length - j) * 2) := ⟨hl⟩
  have s2 : Aside0 (∀ u ∈ news, u.oneCell' = true) := ⟨hn2⟩
  have s3 : Aside0 (∀ q, q < news.length → (w.drew.cell? ⟨g, 0 + i * 2 + q, none⟩).isSome = true ∧ w.drew.frozen? ⟨g, 0 + i * 2 + q, none⟩ = false) := Aside0.mk (fun q hq => by rw [Nat.zero_add]; exact hn3 q hq)
  obtain ⟨A, hA, hnews⟩ : ∃ A : Addr, (if c = j then some (⟨g, 0, none⟩ : Addr) else some ⟨g, j * 2, none⟩) = some A ∧ Aside0 (∀ q u, news[q]? = some u → w.drew.cell? (A.add q) = some u) := by
    by_cases h : c = j
    · refine ⟨⟨g, 0, none⟩, by simp [h], ⟨fun q u hu => ?_⟩⟩
      have h0 : news.length = 0 := by rw [hl, show l0.length - j = 0 by omega, Nat.zero_mul]
      rw [List.length_eq_zero_iff.1 h0] at hu
      simp at hu
    · refine ⟨⟨g, j * 2, none⟩, by simp [h], ⟨fun q u hu => ?_⟩⟩
      rw [Addr.add_lit]
      exact hn1 q u hu
  have hR' := Aside0.mk (show Kd.R k53 53 (w.drew.setCells g (i * 2) news) w0.heap.size P0_ (.slice (some ⟨g, 0, none⟩) l0.length c) (l0.take i ++ l0.drop j ++ l0.drop (l0.length - (j - i))) from by first | exact hR | (have hR2 := hR; rw [show i * (k53).sz = i from Nat.mul_one i] at hR2; exact hR2))
  have hG' := Aside0.mk (show w.drew.grownBy (w.drew.setCells g (i * 2) news) (some g) from by first | exact hG | (have hG2 := hG; rw [show i * (k53).sz = i from Nat.mul_one i] at hG2; exact hG2))
  have HB := Aside0.mk hB
  clear hR hG hl hn1 hn2 hn3 hB ho0 h2 h3
  have p1 : (i : Int) ≤ (j : Int) := by omega
  have p2 : (j : Int) ≤ (l0.length : Int) := by omega
  have p3 : (l0.length : Int) ≤ (c : Int) := by omega
  have p4 : ((i : Int) == (j : Int)) = false := by simp; omega
  have p5 : i ≤ c := by omega
  have p6 : i ≤ l0.length := by omega
  have hus := Tryd.underlying44
  go_enter Tryd.func24, Tryd.ntmps24
  go_wp2_with fail
  go_region_law (refine step_append_room rfl (.tmp 22) (.tmp 25) 44 rfl 53 i0 2 hus hi0 hz1 g 0 i c (by simp [Act.eval, Act.put]) A (l0.length - j) (c - j) news (by simp [Act.eval, Act.put]) s1.out hnews.out s2.out (by omega) s3.out ?_)
  (try simp only [Nat.zero_add, Nat.mul_one])
  generalize (w.drew.setCells g (i * 2) news) = W1 at hR' hG' ⊢
  have B1 := Aside0.mk (HB.out.drew.grown hG'.out (Nat.le_trans HB.out.size (Nat.le_refl _)) (fun k hk => by injection hk with hk; omega))
  have K1 := Aside0.mk (Kept.of_grown (S := (fun k_ => P0_ k_)) hG'.out (Kept.drew (Kept.refl w _)) (fun k_ e_ => by injection e_ with e_; exact .inl (e_ ▸ hP g rfl)))
  go_wp2_with (first | ((with_reducible refine gate_builtin (b := .clear) (xs := #[.tmp 31]) rfl ?_); refine Kd.R_clear k53 (w0 := w0) w0.heap.size rfl (.tmp 31) 44 53 rfl hus (.agg #[(.string ⟨#[]⟩), (.int .i64 0)]) 24 info53 rfl (by decide) z53 (k53_mkM _ _ _ z53) (n := l0.length) (c := c) (k := i + (l0.length - j)) (m := l0.length - (i + (l0.length - j))) rfl ?hA hR'.out ?hkm B1.out ?hb ?_; (case hA => rw [if_neg (by omega), Option.map_some, Addr.add_lit, Nat.zero_add]; first | rfl | exact congrArg (fun x => some (⟨g, x, none⟩ : Addr)) (Nat.mul_one _).symm); (case hkm => omega); (case hb => exact B1.out.size); intro w2 ho hb hg; have M1 := Aside0.mk ho; have M2 := Aside0.mk hb; have M3 := Aside0.mk hg; clear ho hb hg))
  go_ret
  have e1 : l0.take i ++ l0.drop j ++ l0.drop (l0.length - (j - i)) = (l0.take i ++ l0.drop j) ++ l0.drop (l0.length - (j - i)) := rfl
  have e2 : (l0.take i ++ l0.drop j).length = i + (l0.length - j) := by rw [List.length_append, List.length_take, List.length_drop, Nat.min_eq_left p6]
  have hr := M1.out
  rw [List.take_left' e2] at hr
  refine ⟨_, rfl, ?_, ?_, M2.out, ?_⟩
  · have hq := Kd.R_take (m := i + (l0.length - j)) hr (by rw [List.length_append, List.length_append, e2]; omega)
    rw [List.append_assoc, List.take_left' e2] at hq
    exact hq
  · simp [Value.ownBlock]
  · exact Kept.of_grown (S := (fun k_ => P0_ k_)) M3.out K1.out (fun k_ e_ => by simp only [Value.ownBlock, Option.map_some, Option.some.injEq] at e_; exact .inl (e_ ▸ hP g rfl))

-- NOT PRINTED: function 7 (impl_DropName)

/-! ### laws_eqIntS: function 25 -/
def laws_eqIntS.l0 : Nat → List Int → List Int → Int → Option (Bool)
 | 0, _, _, _ => none
 | k + 1, x0, x1, x5 => if x5 < (x0.length : Int) then (if 0 ≤ x5 then (if x5 < (x1.length : Int) then (if (rd x0 x5) = (rd x1 x5) then (laws_eqIntS.l0 k x0 x1 (wrap64 (x5 + 1))) else (some false)) else (none)) else (none)) else (some true)
def laws_eqIntS.f (k : Nat) (l0 : List Int) (l1 : List Int) : Option (Bool) := if (l0.length : Int) = (l1.length : Int) then (laws_eqIntS.l0 k l0 l1 0) else (some false)
theorem laws_eqIntS.mono_l : ∀ k, (∀ y0 y1 y2, LeO (laws_eqIntS.l0 k y0 y1 y2) (laws_eqIntS.l0 (k + 1) y0 y1 y2))
 | 0 => fun _ _ _ r h => by simp [laws_eqIntS.l0] at h
 | k + 1 => by
  have ih0 := laws_eqIntS.mono_l k
  ·
   intro y0 y1 y2
   unfold laws_eqIntS.l0
   repeat' first
   | (with_reducible exact ih0 _ _ _)
   | (with_reducible exact LeO.refl _)
   | (with_reducible exact LeO.none _)
   | (with_reducible refine LeO.ite ?_ ?_)
   | (with_reducible refine LeO.bind ?_ (fun _ => ?_))
   | exact ih0 _ _ _
   | exact LeO.none _
   | refine LeO.ite ?_ ?_
   | refine LeO.bind ?_ (fun _ => ?_)
theorem laws_eqIntS.mono : ∀ a0 a1 k, LeO (laws_eqIntS.f k a0 a1) (laws_eqIntS.f (k + 1) a0 a1) := by
 intro a0 a1 k
 have ih0 := laws_eqIntS.mono_l k
 unfold laws_eqIntS.f
 repeat' first
   | (with_reducible exact ih0 _ _ _)
   | (with_reducible exact LeO.refl _)
   | (with_reducible exact LeO.none _)
   | (with_reducible refine LeO.ite ?_ ?_)
   | (with_reducible refine LeO.bind ?_ (fun _ => ?_))
   | exact ih0 _ _ _
   | exact LeO.none _
   | refine LeO.ite ?_ ?_
   | refine LeO.bind ?_ (fun _ => ?_)
set_option maxHeartbeats 8000000 in
set_option maxRecDepth 100000 in
theorem laws_eqIntS.calls (k : Nat) (A0 : Option Addr) (c0 : Nat) (l0 : List Int) (A1 : Option Addr) (c1 : Nat) (l1 : List Int) (r : Bool) (w : World) (hr0 : Kd.C (Kd.int .i64) w A0 l0.length l0) (hc0 : l0.length ≤ c0) (hr1 : Kd.C (Kd.int .i64) w A1 l1.length l1) (hc1 : l1.length ≤ c1) (h : laws_eqIntS.f k l0 l1 = some r) :
  Calls Tryd.prog 25 #[.slice A0 l0.length c0, .slice A1 l1.length c1] w fun e w' => e = .returned (.bool r) ∧ Drawn0 w w' := by
 have HR0 := Ah hr0
 have HC0 := Ah hc0
 clear hr0 hc0
 have HR1 := Ah hr1
 have HC1 := Ah hc1
 clear hr1 hc1
 have H : (if (l0.length : Int) = (l1.length : Int) then (laws_eqIntS.l0 k l0 l1 0) else (some false)) = some r := h
 clear h
 by_cases c3 : (l0.length : Int) = (l1.length : Int)
 rotate_left
 ·
  rw [if_neg c3] at H
  have c3b0 : ((l0.length : Int) == (l1.length : Int)) = false := beq_eq_false_iff_ne.mpr c3
  have c3b1 : ((l0.length : Int) != (l1.length : Int)) = true := bne_iff_ne.mpr c3
  have c3b2 : (l0.length == l1.length) = false := by first | simpa using c3 | (simp at c3 ⊢; omega)
  obtain rfl := Option.some.inj H
  go_enter Tryd.func25, Tryd.ntmps25
  go_wp2
  repeat (go_quiet (fail); try go_wp2)
  go_ret
  exact ⟨e3, by repeat (first | exact Drawn0.refl _ | apply Drawn0.step)⟩
 rw [if_pos c3] at H
 have c3b0 : ((l0.length : Int) == (l1.length : Int)) = true := beq_iff_eq.mpr c3
 have c3b1 : ((l0.length : Int) != (l1.length : Int)) = false := bne_eq_false_iff_eq.mpr c3
 have c3b2 : (l0.length == l1.length) = true := by first | simpa using c3 | (simp at c3 ⊢; omega)
 clear c3
 have H' := Ah H
 clear H
 go_enter Tryd.func25, Tryd.ntmps25
 go_wp2
 repeat (go_quiet (fail); try go_wp2)
 go_loopg [5] k (fun kq v5 w' => ∃ (x5_1 : Int), v5 = .int .i64 x5_1 ∧ Aside0 (laws_eqIntS.l0 kq l0 l1 x5_1 = some r) ∧ Aside0 (kq ≤ k) ∧ Drawn0 w w')
 case atStart => exact ⟨(0), e3, H', ⟨Nat.le_refl _⟩, by repeat (first | exact Drawn0.refl _ | apply Drawn0.step)⟩
 case round =>
  clear H'
  try clear c1
  try clear c2
  try clear p2
  try clear c3
  try clear c3b0
  try clear c3b1
  try clear c3b2
  obtain ⟨x5_1, rfl, HA, HK1, ⟨m1, rfl⟩⟩ := hrel
  cases gk with
  | zero => exact absurd HA.out (by simp [laws_eqIntS.l0])
  | succ k1 =>
   have H := HA.out
   clear HA
   simp only [laws_eqIntS.l0] at H
   by_cases c4 : x5_1 < (l0.length : Int)
   rotate_left
   ·
    rw [if_neg c4] at H
    have c4b0 : decide (x5_1 < (l0.length : Int)) = false := decide_eq_false c4
    clear c4
    obtain rfl := Option.some.inj H
    go_wp2
    repeat (go_quiet (fail); try go_wp2)
    go_ret
    exact ⟨e3, by repeat (first | exact Drawn0.refl _ | apply Drawn0.step)⟩
   rw [if_pos c4] at H
   have c4b0 : decide (x5_1 < (l0.length : Int)) = true := decide_eq_true c4
   clear c4
   by_cases c5 : 0 ≤ x5_1
   rotate_left
   ·
    rw [if_neg c5] at H
    exact absurd H (by simp)
   rw [if_pos c5] at H
   have c5b0 : decide (0 ≤ x5_1) = true := decide_eq_true c5
   clear c5
   by_cases c6 : x5_1 < (l1.length : Int)
   rotate_left
   ·
    rw [if_neg c6] at H
    exact absurd H (by simp)
   rw [if_pos c6] at H
   have c6b0 : decide (x5_1 < (l1.length : Int)) = true := decide_eq_true c6
   clear c6
   by_cases c7 : (rd l0 x5_1) = (rd l1 x5_1)
   rotate_left
   ·
    rw [if_neg c7] at H
    have c7b0 : ((rd l0 x5_1) == (rd l1 x5_1)) = false := beq_eq_false_iff_ne.mpr c7
    have c7b1 : ((rd l0 x5_1) != (rd l1 x5_1)) = true := bne_iff_ne.mpr c7
    obtain rfl := Option.some.inj H
    have p316 : 0 ≤ (x5_1 : Int) := od
    have q316 : x5_1 < (l0.length : Int) := od
    obtain ⟨ad316, e316, hx316_0⟩ := Kd.at_int HR0.out x5_1 p316 q316
    cases e316
    replace p316 := eq_true p316
    replace q316 := eq_true q316
    have p317 : 0 ≤ (x5_1 : Int) := od
    have q317 : x5_1 < (l1.length : Int) := od
    obtain ⟨ad317, e317, hx317_0⟩ := Kd.at_int HR1.out x5_1 p317 q317
    cases e317
    replace p317 := eq_true p317
    replace q317 := eq_true q317
    go_wp2
    repeat (go_quiet (fail); try go_wp2)
    go_ret
    exact ⟨e3, by repeat (first | exact Drawn0.refl _ | apply Drawn0.step)⟩
   rw [if_pos c7] at H
   have c7b0 : ((rd l0 x5_1) == (rd l1 x5_1)) = true := beq_iff_eq.mpr c7
   have c7b1 : ((rd l0 x5_1) != (rd l1 x5_1)) = false := bne_eq_false_iff_eq.mpr c7
   clear c7
   have H' := Ah H
   clear H
   have p316 : 0 ≤ (x5_1 : Int) := od
   have q316 : x5_1 < (l0.length : Int) := od
   obtain ⟨ad316, e316, hx316_0⟩ := Kd.at_int HR0.out x5_1 p316 q316
   cases e316
   replace p316 := eq_true p316
   replace q316 := eq_true q316
   have p317 : 0 ≤ (x5_1 : Int) := od
   have q317 : x5_1 < (l1.length : Int) := od
   obtain ⟨ad317, e317, hx317_0⟩ := Kd.at_int HR1.out x5_1 p317 q317
   cases e317
   replace p317 := eq_true p317
   replace q317 := eq_true q317
   go_wp2
   repeat (go_quiet (fail); try go_wp2)
   go_roundg k1
   case measure => have := HK1.out; omega
   case rel => exact ⟨(wrap64 (x5_1 + 1)), e3, H', ⟨by have := HK1.out; omega⟩, by repeat (first | exact Drawn0.refl _ | apply Drawn0.step)⟩

/-! ### laws_eqName: function 70 -/
def laws_eqName.f (a0_0 : ByteArray) (a0_1 : Int) (a1_0 : ByteArray) (a1_1 : Int) : Option (Bool) := if a0_0.toList = a1_0.toList then (if a0_1 = a1_1 then (some true) else (some false)) else (some false)
set_option maxHeartbeats 8000000 in
set_option maxRecDepth 100000 in
theorem laws_eqName.calls (a0_0 : ByteArray) (a0_1 : Int) (a1_0 : ByteArray) (a1_1 : Int) (r : Bool) (w : World) (h : laws_eqName.f a0_0 a0_1 a1_0 a1_1 = some r) :
  Calls Tryd.prog 70 #[.agg #[.string a0_0, .int .i64 a0_1], .agg #[.string a1_0, .int .i64 a1_1]] w fun e w' => e = .returned (.bool r) ∧ Below w.heap.size w w' := by
 have hu53 := Tryd.underlying53
 have HB := Ah (Below.refl w.heap.size w)
 have H : (if a0_0.toList = a1_0.toList then (if a0_1 = a1_1 then (some true) else (some false)) else (some false)) = some r := h
 clear h
 by_cases c3 : a0_0.toList = a1_0.toList
 rotate_left
 ·
  rw [if_neg c3] at H
  have c3b0 : (a0_0.toList == a1_0.toList) = false := beq_eq_false_iff_ne.mpr c3
  have c3b1 : (a0_0.toList != a1_0.toList) = true := bne_iff_ne.mpr c3
  obtain rfl := Option.some.inj H
  go_enter Tryd.func70, Tryd.ntmps70
  go_wp2_with (first | ((with_reducible refine gate_dst (N := 2) rfl ?_); refine boxL 2 53 #[.string a0_0, .int .i64 a0_1] ?_; intro gb318 hg w15 BK318 hb; have GW318 := gw hg (bs HB); have GE318 := gw hg (bs HB); replace HB := Ah (below_step (bs HB) hb); clear hb hg) | ((with_reducible refine gate_dst (N := 3) rfl ?_); refine boxL 3 53 #[.string a1_0, .int .i64 a1_1] ?_; intro gb319 hg w16 BK319 hb; have GW319 := gw hg (bs1 HB GE318); have GE319 := gw hg (bs1 HB GE318); replace HB := Ah (below_step (bs1 HB GE318) hb); have NB318_319 := nn BK318 hg; have NB319_318 := nm BK318 hg; replace BK318 := nb BK318 hb; clear hb hg; have hnb17 := NB318_319.out; have hnc17 := NB319_318.out; obtain ⟨hcz18_0, hcz18_1⟩ := cz2 BK318; obtain ⟨hfz18_0, hfz18_1⟩ := fz2 BK318; obtain ⟨hcz19_0, hcz19_1⟩ := cz2 BK319; obtain ⟨hfz19_0, hfz19_1⟩ := fz2 BK319))
  go_ret
  exact ⟨er, bs2 HB GE318 GE319⟩
 rw [if_pos c3] at H
 have c3b0 : (a0_0.toList == a1_0.toList) = true := beq_iff_eq.mpr c3
 have c3b1 : (a0_0.toList != a1_0.toList) = false := bne_eq_false_iff_eq.mpr c3
 clear c3
 by_cases c4 : a0_1 = a1_1
 ·
  rw [if_pos c4] at H
  have c4b0 : (a0_1 == a1_1) = true := beq_iff_eq.mpr c4
  have c4b1 : (a0_1 != a1_1) = false := bne_eq_false_iff_eq.mpr c4
  clear c4
  obtain rfl := Option.some.inj H
  go_enter Tryd.func70, Tryd.ntmps70
  go_wp2_with (first | ((with_reducible refine gate_dst (N := 2) rfl ?_); refine boxL 2 53 #[.string a0_0, .int .i64 a0_1] ?_; intro gb318 hg w5 BK318 hb; have GW318 := gw hg (bs HB); have GE318 := gw hg (bs HB); replace HB := Ah (below_step (bs HB) hb); clear hb hg) | ((with_reducible refine gate_dst (N := 3) rfl ?_); refine boxL 3 53 #[.string a1_0, .int .i64 a1_1] ?_; intro gb319 hg w6 BK319 hb; have GW319 := gw hg (bs1 HB GE318); have GE319 := gw hg (bs1 HB GE318); replace HB := Ah (below_step (bs1 HB GE318) hb); have NB318_319 := nn BK318 hg; have NB319_318 := nm BK318 hg; replace BK318 := nb BK318 hb; clear hb hg; have hnb7 := NB318_319.out; have hnc7 := NB319_318.out; obtain ⟨hcz8_0, hcz8_1⟩ := cz2 BK318; obtain ⟨hfz8_0, hfz8_1⟩ := fz2 BK318; obtain ⟨hcz9_0, hcz9_1⟩ := cz2 BK319; obtain ⟨hfz9_0, hfz9_1⟩ := fz2 BK319))
  go_ret
  exact ⟨er, bs2 HB GE318 GE319⟩
 rw [if_neg c4] at H
 have c4b0 : (a0_1 == a1_1) = false := beq_eq_false_iff_ne.mpr c4
 have c4b1 : (a0_1 != a1_1) = true := bne_iff_ne.mpr c4
 obtain rfl := Option.some.inj H
 go_enter Tryd.func70, Tryd.ntmps70
 go_wp2_with (first | ((with_reducible refine gate_dst (N := 2) rfl ?_); refine boxL 2 53 #[.string a0_0, .int .i64 a0_1] ?_; intro gb318 hg w10 BK318 hb; have GW318 := gw hg (bs HB); have GE318 := gw hg (bs HB); replace HB := Ah (below_step (bs HB) hb); clear hb hg) | ((with_reducible refine gate_dst (N := 3) rfl ?_); refine boxL 3 53 #[.string a1_0, .int .i64 a1_1] ?_; intro gb319 hg w11 BK319 hb; have GW319 := gw hg (bs1 HB GE318); have GE319 := gw hg (bs1 HB GE318); replace HB := Ah (below_step (bs1 HB GE318) hb); have NB318_319 := nn BK318 hg; have NB319_318 := nm BK318 hg; replace BK318 := nb BK318 hb; clear hb hg; have hnb12 := NB318_319.out; have hnc12 := NB319_318.out; obtain ⟨hcz13_0, hcz13_1⟩ := cz2 BK318; obtain ⟨hfz13_0, hfz13_1⟩ := fz2 BK318; obtain ⟨hcz14_0, hcz14_1⟩ := cz2 BK319; obtain ⟨hfz14_0, hfz14_1⟩ := fz2 BK319))
 go_ret
 exact ⟨er, bs2 HB GE318 GE319⟩

/-! ### laws_eqNameS: function 61 -/
def laws_eqNameS.l0 : Nat → List (S53) → List (S53) → Int → Option (Bool)
 | 0, _, _, _ => none
 | k + 1, x0, x1, x5 => if x5 < (x0.length : Int) then (if 0 ≤ x5 then (if x5 < (x1.length : Int) then ((laws_eqName.f ((rd_T53 x0 x5).f0) ((rd_T53 x0 x5).f1) ((rd_T53 x1 x5).f0) ((rd_T53 x1 x5).f1)).bind fun t322 => (if t322 = true then (laws_eqNameS.l0 k x0 x1 (wrap64 (x5 + 1))) else (some false))) else (none)) else (none)) else (some true)
def laws_eqNameS.f (k : Nat) (l0 : List (S53)) (l1 : List (S53)) : Option (Bool) := if (l0.length : Int) = (l1.length : Int) then (laws_eqNameS.l0 k l0 l1 0) else (some false)
theorem laws_eqNameS.mono_l : ∀ k, (∀ y0 y1 y2, LeO (laws_eqNameS.l0 k y0 y1 y2) (laws_eqNameS.l0 (k + 1) y0 y1 y2))
 | 0 => fun _ _ _ r h => by simp [laws_eqNameS.l0] at h
 | k + 1 => by
  have ih0 := laws_eqNameS.mono_l k
  ·
   intro y0 y1 y2
   unfold laws_eqNameS.l0
   repeat' first
   | (with_reducible exact ih0 _ _ _)
   | (with_reducible exact LeO.refl _)
   | (with_reducible exact LeO.none _)
   | (with_reducible refine LeO.ite ?_ ?_)
   | (with_reducible refine LeO.bind ?_ (fun _ => ?_))
   | exact ih0 _ _ _
   | exact LeO.none _
   | refine LeO.ite ?_ ?_
   | refine LeO.bind ?_ (fun _ => ?_)
theorem laws_eqNameS.mono : ∀ a0 a1 k, LeO (laws_eqNameS.f k a0 a1) (laws_eqNameS.f (k + 1) a0 a1) := by
 intro a0 a1 k
 have ih0 := laws_eqNameS.mono_l k
 unfold laws_eqNameS.f
 repeat' first
   | (with_reducible exact ih0 _ _ _)
   | (with_reducible exact LeO.refl _)
   | (with_reducible exact LeO.none _)
   | (with_reducible refine LeO.ite ?_ ?_)
   | (with_reducible refine LeO.bind ?_ (fun _ => ?_))
   | exact ih0 _ _ _
   | exact LeO.none _
   | refine LeO.ite ?_ ?_
   | refine LeO.bind ?_ (fun _ => ?_)
def laws_eqNameS.T6 : Bool × List (List Nat × List Nat) := (true, [([], []), ([], []), ([0, 1], [0, 1]), ([2], [2]), ([], []), ([], []), ([4, 5], [4, 5]), ([6], [6]), ([3, 7], [3, 7]), ([8], [8])])
def laws_eqNameS.B6 : List Nat := [0, 0, 3, 7, 0, 0, 48, 112, 255, 511]
theorem laws_eqNameS.tab6 : rtab .any (opsOf Tryd.f61 6) = laws_eqNameS.T6 := by kernel_rfl
theorem laws_eqNameS.bits6 : waitsOk laws_eqNameS.T6.2 laws_eqNameS.B6 = true := by kernel_rfl
set_option maxHeartbeats 8000000 in
set_option maxRecDepth 100000 in
theorem laws_eqNameS.calls (k : Nat) (A0 : Option Addr) (c0 : Nat) (l0 : List (S53)) (A1 : Option Addr) (c1 : Nat) (l1 : List (S53)) (r : Bool) (w : World) (hr0 : Kd.C k53 w A0 l0.length l0) (hc0 : l0.length ≤ c0) (hr1 : Kd.C k53 w A1 l1.length l1) (hc1 : l1.length ≤ c1) (h : laws_eqNameS.f k l0 l1 = some r) :
  Calls Tryd.prog 61 #[.slice A0 l0.length c0, .slice A1 l1.length c1] w fun e w' => e = .returned (.bool r) ∧ Below w.heap.size w w' := by
 have hu53 := Tryd.underlying53
 have HR0 := Ah hr0
 have HC0 := Ah hc0
 clear hr0 hc0
 have HR1 := Ah hr1
 have HC1 := Ah hc1
 clear hr1 hc1
 have HB := Ah (Below.refl w.heap.size w)
 have H : (if (l0.length : Int) = (l1.length : Int) then (laws_eqNameS.l0 k l0 l1 0) else (some false)) = some r := h
 clear h
 by_cases c3 : (l0.length : Int) = (l1.length : Int)
 rotate_left
 ·
  rw [if_neg c3] at H
  have c3b0 : ((l0.length : Int) == (l1.length : Int)) = false := beq_eq_false_iff_ne.mpr c3
  have c3b1 : ((l0.length : Int) != (l1.length : Int)) = true := bne_iff_ne.mpr c3
  have c3b2 : (l0.length == l1.length) = false := by first | simpa using c3 | (simp at c3 ⊢; omega)
  obtain rfl := Option.some.inj H
  go_enter Tryd.func61, Tryd.ntmps61
  go_wp2
  go_ret
  exact ⟨er, bs HB⟩
 rw [if_pos c3] at H
 have c3b0 : ((l0.length : Int) == (l1.length : Int)) = true := beq_iff_eq.mpr c3
 have c3b1 : ((l0.length : Int) != (l1.length : Int)) = false := bne_eq_false_iff_eq.mpr c3
 have c3b2 : (l0.length == l1.length) = true := by first | simpa using c3 | (simp at c3 ⊢; omega)
 clear c3
 have H' := Ah H
 clear H
 go_enter Tryd.func61, Tryd.ntmps61
 go_wp2
 go_loopg [5] k (fun kq v5 w' => ∃ (x5_1 : Int), v5 = .int .i64 x5_1 ∧ Aside0 (laws_eqNameS.l0 kq l0 l1 x5_1 = some r) ∧ Aside0 (kq ≤ k) ∧ Aside0 (Below w.heap.size w w'))
 case atStart => exact ⟨(0), e3, H', ⟨Nat.le_refl _⟩, ⟨bs HB⟩⟩
 case round =>
  clear H'
  try clear c1
  try clear p2
  try clear c3
  try clear c3b0
  try clear c3b1
  try clear c3b2
  obtain ⟨x5_1, rfl, HA, HK1, HB⟩ := hrel
  cases gk with
  | zero => exact absurd HA.out (by simp [laws_eqNameS.l0])
  | succ k1 =>
   have H := HA.out
   clear HA
   simp only [laws_eqNameS.l0] at H
   by_cases c4 : x5_1 < (l0.length : Int)
   rotate_left
   ·
    rw [if_neg c4] at H
    have c4b0 : decide (x5_1 < (l0.length : Int)) = false := decide_eq_false c4
    clear c4
    obtain rfl := Option.some.inj H
    go_wp2
    go_ret
    exact ⟨er, bs HB⟩
   rw [if_pos c4] at H
   have c4b0 : decide (x5_1 < (l0.length : Int)) = true := decide_eq_true c4
   clear c4
   by_cases c5 : 0 ≤ x5_1
   rotate_left
   ·
    rw [if_neg c5] at H
    exact absurd H (by simp)
   rw [if_pos c5] at H
   have c5b0 : decide (0 ≤ x5_1) = true := decide_eq_true c5
   clear c5
   by_cases c6 : x5_1 < (l1.length : Int)
   rotate_left
   ·
    rw [if_neg c6] at H
    exact absurd H (by simp)
   rw [if_pos c6] at H
   have c6b0 : decide (x5_1 < (l1.length : Int)) = true := decide_eq_true c6
   clear c6
   replace H := Option.bind_eq_some_iff.mp H
   obtain ⟨t322, A70, H⟩ := H
   try dsimp only at H
   have A7 := Ah A70
   clear A70
   have H_ := Ah H
   clear H
   try go_wp2
   have n0_ := Ah (below_drew1 HB.out)
   clear HB
   have HB := n0_
   clear n0_
   have p320 : 0 ≤ (x5_1 : Int) := od
   have q320 : x5_1 < (l0.length : Int) := od
   obtain ⟨ad320, e320, hx320_0, hx320_1⟩ := at_T53 HR0.out x5_1 p320 q320
   have hw320_1 := hx320_1
   have hw320_0 := hx320_0
   cases e320
   replace hx320_0 := (HB.out.cell (World.block_lt_of_cell? w _ hx320_0)).trans hx320_0
   replace hx320_1 := (HB.out.cell (World.block_lt_of_cell? w _ hx320_1)).trans hx320_1
   replace p320 := eq_true p320
   replace q320 := eq_true q320
   have p321 : 0 ≤ (x5_1 : Int) := od
   have q321 : x5_1 < (l1.length : Int) := od
   obtain ⟨ad321, e321, hx321_0, hx321_1⟩ := at_T53 HR1.out x5_1 p321 q321
   have hw321_1 := hx321_1
   have hw321_0 := hx321_0
   cases e321
   replace hx321_0 := (HB.out.cell (World.block_lt_of_cell? w _ hx321_0)).trans hx321_0
   replace hx321_1 := (HB.out.cell (World.block_lt_of_cell? w _ hx321_1)).trans hx321_1
   replace p321 := eq_true p321
   replace q321 := eq_true q321
   refine start_ (n := 10) (S := fun w' => w'.cell? (ad320.add ((x5_1).toNat * 2)) = some (.string ((rd_T53 l0 x5_1).f0)) ∧ w'.cell? ⟨(ad320.add ((x5_1).toNat * 2)).block, (ad320.add ((x5_1).toNat * 2)).off + 1, none⟩ = some (.int .i64 ((rd_T53 l0 x5_1).f1)) ∧ w'.cell? (ad321.add ((x5_1).toNat * 2)) = some (.string ((rd_T53 l1 x5_1).f0)) ∧ w'.cell? ⟨(ad321.add ((x5_1).toNat * 2)).block, (ad321.add ((x5_1).toNat * 2)).off + 1, none⟩ = some (.int .i64 ((rd_T53 l1 x5_1).f1))) (ds := []) #[false, false, false, false, false, false, false, false, false, false] (by kernel_rfl) rfl rfl ⟨((HB.out.cell (World.block_lt_of_cell? w _ hw320_0)).trans hw320_0), ((HB.out.cell (World.block_lt_of_cell? w _ hw320_1)).trans hw320_1), ((HB.out.cell (World.block_lt_of_cell? w _ hw321_0)).trans hw321_0), ((HB.out.cell (World.block_lt_of_cell? w _ hw321_1)).trans hw321_1)⟩ (fun hHeld => ?_); refine with_tabW laws_eqNameS.tab6 laws_eqNameS.bits6 (fun HT_ HW_ => ?_)
   generalize wr.drew = w9 at HB hx320_0 hx320_1 hx321_0 hx321_1 hHeld ⊢
   refine pureS 0 17 HT_.out ?_
   refine pureS 1 18 HT_.out ?_
   refine pureS 2 19 HT_.out ?_
   refine pureS 4 21 HT_.out ?_
   refine pureS 5 22 HT_.out ?_
   refine pureS 6 23 HT_.out ?_
   refine takeS 3 20 HT_.out HW_.out hHeld (hr := by rintro w' ⟨s0, s1, s2, s3⟩; go_simp; with_reducible rfl) (h := ?_)
   refine takeS 7 24 HT_.out HW_.out hHeld (hr := by rintro w' ⟨s0, s1, s2, s3⟩; go_simp; with_reducible rfl) (h := ?_)
   refine one_ (i := 8) (N := some 25) #[true, true, true, true, true, true, true, true, true, false] rfl rfl (one_of HT_.out (by kernel_rfl)) (by decide) (fun K hK => ?_)
   refine goes_ Tryd.func70 (by kernel_rfl) rfl #[.agg #[.string ((rd_T53 l0 x5_1).f0), .int .i64 ((rd_T53 l0 x5_1).f1)], .agg #[.string ((rd_T53 l1 x5_1).f0), .int .i64 ((rd_T53 l1 x5_1).f1)]] (by rfl) rfl rfl (by (try simp only [List.map_toArray, List.map_cons, List.map_nil]); first | done | rfl | (simp only [List.length_drop, List.length_take]; rfl)) ?_
   have H := H_.out
   clear H_
   by_cases c8 : t322 = true
   rotate_left
   ·
    replace c8 := Bool.eq_false_iff.mpr c8
    subst c8
    rw [if_neg fne] at H
    obtain rfl := Option.some.inj H
    with_reducible refine (laws_eqName.calls ((rd_T53 l0 x5_1).f0) ((rd_T53 l0 x5_1).f1) ((rd_T53 l1 x5_1).f0) ((rd_T53 l1 x5_1).f1) false _ A7.out).mono ?_
    rintro e w12 ⟨rfl, hb⟩
    refine ⟨_, rfl, ?_⟩
    have n0_ := Ah (below_step (bs HB) hb)
    clear HB
    have HB := n0_
    clear n0_
    (try clear hb)
    (try clear hb2)
    (try clear hk)
    (try clear hi)
    refine hK.out _ _ ⟨((HB.out.cell (World.block_lt_of_cell? w _ hw320_0)).trans hw320_0), ((HB.out.cell (World.block_lt_of_cell? w _ hw320_1)).trans hw320_1), ((HB.out.cell (World.block_lt_of_cell? w _ hw321_0)).trans hw321_0), ((HB.out.cell (World.block_lt_of_cell? w _ hw321_1)).trans hw321_1)⟩ (fun hHeld => ?_)
    clear hK K
    refine norm_ (a' := ?_) ?_ ?_
    rotate_left
    ·
     show Act.put _ (some 25) _ = _
     simp only [Act.put, List.setIfInBounds_toArray, List.set_cons_zero, List.set_cons_succ, i64_w, i32_w]
     rfl
    refine pureS 9 26 HT_.out ?_
    refine done_ (done_of HT_.out (by kernel_rfl)) ?_
    try go_wp2
    go_ret
    exact ⟨er, bs HB⟩
   subst c8
   rw [if_pos rfl] at H
   have H' := Ah H
   clear H
   with_reducible refine (laws_eqName.calls ((rd_T53 l0 x5_1).f0) ((rd_T53 l0 x5_1).f1) ((rd_T53 l1 x5_1).f0) ((rd_T53 l1 x5_1).f1) true _ A7.out).mono ?_
   rintro e w10 ⟨rfl, hb⟩
   refine ⟨_, rfl, ?_⟩
   have n0_ := Ah (below_step (bs HB) hb)
   clear HB
   have HB := n0_
   clear n0_
   (try clear hb)
   (try clear hb2)
   (try clear hk)
   (try clear hi)
   refine hK.out _ _ ⟨((HB.out.cell (World.block_lt_of_cell? w _ hw320_0)).trans hw320_0), ((HB.out.cell (World.block_lt_of_cell? w _ hw320_1)).trans hw320_1), ((HB.out.cell (World.block_lt_of_cell? w _ hw321_0)).trans hw321_0), ((HB.out.cell (World.block_lt_of_cell? w _ hw321_1)).trans hw321_1)⟩ (fun hHeld => ?_)
   clear hK K
   refine norm_ (a' := ?_) ?_ ?_
   rotate_left
   ·
    show Act.put _ (some 25) _ = _
    simp only [Act.put, List.setIfInBounds_toArray, List.set_cons_zero, List.set_cons_succ, i64_w, i32_w]
    rfl
   refine pureS 9 26 HT_.out ?_
   refine done_ (done_of HT_.out (by kernel_rfl)) ?_
   try go_wp2
   go_roundg k1
   case measure => have := HK1.out; omega
   case rel => exact ⟨(wrap64 (x5_1 + 1)), e3, H', ⟨by have := HK1.out; omega⟩, ⟨bs HB⟩⟩

/-! ### laws_eqBucket: function 47 -/
def laws_eqBucket.f (k : Nat) (a0_0 : Int) (l0_1 : List (S53)) (a1_0 : Int) (l1_1 : List (S53)) : Option (Bool) := if a0_0 = a1_0 then ((laws_eqNameS.f k l0_1 l1_1).bind fun t325 => (if t325 = true then (some true) else (some false))) else (some false)
theorem laws_eqBucket.mono : ∀ a0 a1 a2 a3 k, LeO (laws_eqBucket.f k a0 a1 a2 a3) (laws_eqBucket.f (k + 1) a0 a1 a2 a3) := by
 intro a0 a1 a2 a3 k
 unfold laws_eqBucket.f
 repeat' first
   | (with_reducible exact laws_eqNameS.mono _ _ _)
   | (with_reducible exact LeO.refl _)
   | (with_reducible exact LeO.none _)
   | (with_reducible refine LeO.ite ?_ ?_)
   | (with_reducible refine LeO.bind ?_ (fun _ => ?_))
   | exact laws_eqNameS.mono _ _ _
   | exact LeO.none _
   | refine LeO.ite ?_ ?_
   | refine LeO.bind ?_ (fun _ => ?_)
set_option maxHeartbeats 8000000 in
set_option maxRecDepth 100000 in
theorem laws_eqBucket.calls (k : Nat) (a0_0 : Int) (A0_1 : Option Addr) (c0_1 : Nat) (l0_1 : List (S53)) (a1_0 : Int) (A1_1 : Option Addr) (c1_1 : Nat) (l1_1 : List (S53)) (r : Bool) (w : World) (hr0_1 : Kd.C k53 w A0_1 l0_1.length l0_1) (hc0_1 : l0_1.length ≤ c0_1) (hr1_1 : Kd.C k53 w A1_1 l1_1.length l1_1) (hc1_1 : l1_1.length ≤ c1_1) (h : laws_eqBucket.f k a0_0 l0_1 a1_0 l1_1 = some r) :
  Calls Tryd.prog 47 #[.agg #[.int .i64 a0_0, .slice A0_1 l0_1.length c0_1], .agg #[.int .i64 a1_0, .slice A1_1 l1_1.length c1_1]] w fun e w' => e = .returned (.bool r) ∧ Below w.heap.size w w' := by
 have hu46 := Tryd.underlying46
 have HR0_1 := Ah hr0_1
 have HC0_1 := Ah hc0_1
 clear hr0_1 hc0_1
 have HR1_1 := Ah hr1_1
 have HC1_1 := Ah hc1_1
 clear hr1_1 hc1_1
 have HB := Ah (Below.refl w.heap.size w)
 have H : (if a0_0 = a1_0 then ((laws_eqNameS.f k l0_1 l1_1).bind fun t325 => (if t325 = true then (some true) else (some false))) else (some false)) = some r := h
 clear h
 by_cases c3 : a0_0 = a1_0
 rotate_left
 ·
  rw [if_neg c3] at H
  have c3b0 : (a0_0 == a1_0) = false := beq_eq_false_iff_ne.mpr c3
  have c3b1 : (a0_0 != a1_0) = true := bne_iff_ne.mpr c3
  obtain rfl := Option.some.inj H
  go_enter Tryd.func47, Tryd.ntmps47
  go_wp2_with (first | ((with_reducible refine gate_dst (N := 2) rfl ?_); refine boxL 2 46 #[.int .i64 a0_0, .slice A0_1 l0_1.length c0_1] ?_; intro gb323 hg w18 BK323 hb; have GW323 := gw hg (bs HB); have GE323 := gw hg (bs HB); replace HB := Ah (below_step (bs HB) hb); clear hb hg) | ((with_reducible refine gate_dst (N := 3) rfl ?_); refine boxL 3 46 #[.int .i64 a1_0, .slice A1_1 l1_1.length c1_1] ?_; intro gb324 hg w19 BK324 hb; have GW324 := gw hg (bs1 HB GE323); have GE324 := gw hg (bs1 HB GE323); replace HB := Ah (below_step (bs1 HB GE323) hb); have NB323_324 := nn BK323 hg; have NB324_323 := nm BK323 hg; replace BK323 := nb BK323 hb; clear hb hg; have hnb20 := NB323_324.out; have hnc20 := NB324_323.out; obtain ⟨hcz21_0, hcz21_1⟩ := cz2 BK323; obtain ⟨hfz21_0, hfz21_1⟩ := fz2 BK323; obtain ⟨hcz22_0, hcz22_1⟩ := cz2 BK324; obtain ⟨hfz22_0, hfz22_1⟩ := fz2 BK324))
  go_ret
  exact ⟨er, bs2 HB GE323 GE324⟩
 rw [if_pos c3] at H
 have c3b0 : (a0_0 == a1_0) = true := beq_iff_eq.mpr c3
 have c3b1 : (a0_0 != a1_0) = false := bne_eq_false_iff_eq.mpr c3
 clear c3
 replace H := Option.bind_eq_some_iff.mp H
 obtain ⟨t325, A40, H⟩ := H
 try dsimp only at H
 have A4 := Ah A40
 clear A40
 by_cases c5 : t325 = true
 ·
  subst c5
  rw [if_pos rfl] at H
  obtain rfl := Option.some.inj H
  go_enter Tryd.func47, Tryd.ntmps47
  go_wp2_with (first | ((with_reducible refine gate_dst (N := 2) rfl ?_); refine boxL 2 46 #[.int .i64 a0_0, .slice A0_1 l0_1.length c0_1] ?_; intro gb323 hg w6 BK323 hb; have GW323 := gw hg (bs HB); have GE323 := gw hg (bs HB); replace HB := Ah (below_step (bs HB) hb); clear hb hg) | ((with_reducible refine gate_dst (N := 3) rfl ?_); refine boxL 3 46 #[.int .i64 a1_0, .slice A1_1 l1_1.length c1_1] ?_; intro gb324 hg w7 BK324 hb; have GW324 := gw hg (bs1 HB GE323); have GE324 := gw hg (bs1 HB GE323); replace HB := Ah (below_step (bs1 HB GE323) hb); have NB323_324 := nn BK323 hg; have NB324_323 := nm BK323 hg; replace BK323 := nb BK323 hb; clear hb hg; have hnb8 := NB323_324.out; have hnc8 := NB324_323.out; obtain ⟨hcz9_0, hcz9_1⟩ := cz2 BK323; obtain ⟨hfz9_0, hfz9_1⟩ := fz2 BK323; obtain ⟨hcz10_0, hcz10_1⟩ := cz2 BK324; obtain ⟨hfz10_0, hfz10_1⟩ := fz2 BK324) | ((with_reducible refine gate_callee (f := 61) rfl ?_); refine gL (some 14) rfl rfl Tryd.func61 (by kernel_rfl) rfl #[.slice A0_1 l0_1.length c0_1, .slice A1_1 l1_1.length c1_1] rfl ?_; (with_reducible refine (laws_eqNameS.calls k _ _ l0_1 _ _ l1_1 true _ ?side1 ?side2 ?side3 ?side4 A4.out).mono ?_); (case side1 => exact cb HR0_1 HB); (case side2 => exact HC0_1.out); (case side3 => exact cb HR1_1 HB); (case side4 => exact HC1_1.out); rintro e w11 ⟨rfl, hb⟩; refine ⟨_, rfl, ?_⟩; replace BK323 := nb BK323 hb; replace BK324 := nb BK324 hb; replace HB := Ah (below_step (bs2 HB GE323 GE324) hb); (try clear hb)))
  go_ret
  exact ⟨er, bs2 HB GE323 GE324⟩
 replace c5 := Bool.eq_false_iff.mpr c5
 subst c5
 rw [if_neg fne] at H
 obtain rfl := Option.some.inj H
 go_enter Tryd.func47, Tryd.ntmps47
 go_wp2_with (first | ((with_reducible refine gate_dst (N := 2) rfl ?_); refine boxL 2 46 #[.int .i64 a0_0, .slice A0_1 l0_1.length c0_1] ?_; intro gb323 hg w12 BK323 hb; have GW323 := gw hg (bs HB); have GE323 := gw hg (bs HB); replace HB := Ah (below_step (bs HB) hb); clear hb hg) | ((with_reducible refine gate_dst (N := 3) rfl ?_); refine boxL 3 46 #[.int .i64 a1_0, .slice A1_1 l1_1.length c1_1] ?_; intro gb324 hg w13 BK324 hb; have GW324 := gw hg (bs1 HB GE323); have GE324 := gw hg (bs1 HB GE323); replace HB := Ah (below_step (bs1 HB GE323) hb); have NB323_324 := nn BK323 hg; have NB324_323 := nm BK323 hg; replace BK323 := nb BK323 hb; clear hb hg; have hnb14 := NB323_324.out; have hnc14 := NB324_323.out; obtain ⟨hcz15_0, hcz15_1⟩ := cz2 BK323; obtain ⟨hfz15_0, hfz15_1⟩ := fz2 BK323; obtain ⟨hcz16_0, hcz16_1⟩ := cz2 BK324; obtain ⟨hfz16_0, hfz16_1⟩ := fz2 BK324) | ((with_reducible refine gate_callee (f := 61) rfl ?_); refine gL (some 14) rfl rfl Tryd.func61 (by kernel_rfl) rfl #[.slice A0_1 l0_1.length c0_1, .slice A1_1 l1_1.length c1_1] rfl ?_; (with_reducible refine (laws_eqNameS.calls k _ _ l0_1 _ _ l1_1 false _ ?side1 ?side2 ?side3 ?side4 A4.out).mono ?_); (case side1 => exact cb HR0_1 HB); (case side2 => exact HC0_1.out); (case side3 => exact cb HR1_1 HB); (case side4 => exact HC1_1.out); rintro e w17 ⟨rfl, hb⟩; refine ⟨_, rfl, ?_⟩; replace BK323 := nb BK323 hb; replace BK324 := nb BK324 hb; replace HB := Ah (below_step (bs2 HB GE323 GE324) hb); (try clear hb)))
 go_ret
 exact ⟨er, bs2 HB GE323 GE324⟩

/-! ### laws_eqBucketS: function 26 -/
def laws_eqBucketS.l0 : Nat → List (S46) → List (S46) → Int → Option (Bool)
 | 0, _, _, _ => none
 | k + 1, x0, x1, x5 => if x5 < (x0.length : Int) then (if 0 ≤ x5 then (if x5 < (x1.length : Int) then ((laws_eqBucket.f k ((rd_T46 x0 x5).f0) ((rd_T46 x0 x5).f1) ((rd_T46 x1 x5).f0) ((rd_T46 x1 x5).f1)).bind fun t328 => (if t328 = true then (laws_eqBucketS.l0 k x0 x1 (wrap64 (x5 + 1))) else (some false))) else (none)) else (none)) else (some true)
def laws_eqBucketS.f (k : Nat) (l0 : List (S46)) (l1 : List (S46)) : Option (Bool) := if (l0.length : Int) = (l1.length : Int) then (laws_eqBucketS.l0 k l0 l1 0) else (some false)
theorem laws_eqBucketS.mono_l : ∀ k, (∀ y0 y1 y2, LeO (laws_eqBucketS.l0 k y0 y1 y2) (laws_eqBucketS.l0 (k + 1) y0 y1 y2))
 | 0 => fun _ _ _ r h => by simp [laws_eqBucketS.l0] at h
 | k + 1 => by
  have ih0 := laws_eqBucketS.mono_l k
  ·
   intro y0 y1 y2
   unfold laws_eqBucketS.l0
   repeat' first
   | (with_reducible exact ih0 _ _ _)
   | (with_reducible exact laws_eqBucket.mono _ _ _ _ _)
   | (with_reducible exact LeO.refl _)
   | (with_reducible exact LeO.none _)
   | (with_reducible refine LeO.ite ?_ ?_)
   | (with_reducible refine LeO.bind ?_ (fun _ => ?_))
   | exact ih0 _ _ _
   | exact laws_eqBucket.mono _ _ _ _ _
   | exact LeO.none _
   | refine LeO.ite ?_ ?_
   | refine LeO.bind ?_ (fun _ => ?_)
theorem laws_eqBucketS.mono : ∀ a0 a1 k, LeO (laws_eqBucketS.f k a0 a1) (laws_eqBucketS.f (k + 1) a0 a1) := by
 intro a0 a1 k
 have ih0 := laws_eqBucketS.mono_l k
 unfold laws_eqBucketS.f
 repeat' first
   | (with_reducible exact ih0 _ _ _)
   | (with_reducible exact laws_eqBucket.mono _ _ _ _ _)
   | (with_reducible exact LeO.refl _)
   | (with_reducible exact LeO.none _)
   | (with_reducible refine LeO.ite ?_ ?_)
   | (with_reducible refine LeO.bind ?_ (fun _ => ?_))
   | exact ih0 _ _ _
   | exact laws_eqBucket.mono _ _ _ _ _
   | exact LeO.none _
   | refine LeO.ite ?_ ?_
   | refine LeO.bind ?_ (fun _ => ?_)
def laws_eqBucketS.T6 : Bool × List (List Nat × List Nat) := (true, [([], []), ([], []), ([0, 1], [0, 1]), ([2], [2]), ([], []), ([], []), ([4, 5], [4, 5]), ([6], [6]), ([3, 7], [3, 7]), ([8], [8])])
def laws_eqBucketS.B6 : List Nat := [0, 0, 3, 7, 0, 0, 48, 112, 255, 511]
theorem laws_eqBucketS.tab6 : rtab .any (opsOf Tryd.f26 6) = laws_eqBucketS.T6 := by kernel_rfl
theorem laws_eqBucketS.bits6 : waitsOk laws_eqBucketS.T6.2 laws_eqBucketS.B6 = true := by kernel_rfl
set_option maxHeartbeats 8000000 in
set_option maxRecDepth 100000 in
theorem laws_eqBucketS.calls (k : Nat) (A0 : Option Addr) (c0 : Nat) (l0 : List (S46)) (A1 : Option Addr) (c1 : Nat) (l1 : List (S46)) (r : Bool) (w : World) (hr0 : Kd.C k46 w A0 l0.length l0) (hc0 : l0.length ≤ c0) (hr1 : Kd.C k46 w A1 l1.length l1) (hc1 : l1.length ≤ c1) (h : laws_eqBucketS.f k l0 l1 = some r) :
  Calls Tryd.prog 26 #[.slice A0 l0.length c0, .slice A1 l1.length c1] w fun e w' => e = .returned (.bool r) ∧ Below w.heap.size w w' := by
 have hu46 := Tryd.underlying46
 have HR0 := Ah hr0
 have HC0 := Ah hc0
 clear hr0 hc0
 have HR1 := Ah hr1
 have HC1 := Ah hc1
 clear hr1 hc1
 have HB := Ah (Below.refl w.heap.size w)
 have H : (if (l0.length : Int) = (l1.length : Int) then (laws_eqBucketS.l0 k l0 l1 0) else (some false)) = some r := h
 clear h
 by_cases c3 : (l0.length : Int) = (l1.length : Int)
 rotate_left
 ·
  rw [if_neg c3] at H
  have c3b0 : ((l0.length : Int) == (l1.length : Int)) = false := beq_eq_false_iff_ne.mpr c3
  have c3b1 : ((l0.length : Int) != (l1.length : Int)) = true := bne_iff_ne.mpr c3
  have c3b2 : (l0.length == l1.length) = false := by first | simpa using c3 | (simp at c3 ⊢; omega)
  obtain rfl := Option.some.inj H
  go_enter Tryd.func26, Tryd.ntmps26
  go_wp2
  go_ret
  exact ⟨er, bs HB⟩
 rw [if_pos c3] at H
 have c3b0 : ((l0.length : Int) == (l1.length : Int)) = true := beq_iff_eq.mpr c3
 have c3b1 : ((l0.length : Int) != (l1.length : Int)) = false := bne_eq_false_iff_eq.mpr c3
 have c3b2 : (l0.length == l1.length) = true := by first | simpa using c3 | (simp at c3 ⊢; omega)
 clear c3
 have H' := Ah H
 clear H
 go_enter Tryd.func26, Tryd.ntmps26
 go_wp2
 go_loopg [5] k (fun kq v5 w' => ∃ (x5_1 : Int), v5 = .int .i64 x5_1 ∧ Aside0 (laws_eqBucketS.l0 kq l0 l1 x5_1 = some r) ∧ Aside0 (kq ≤ k) ∧ Aside0 (Below w.heap.size w w'))
 case atStart => exact ⟨(0), e3, H', ⟨Nat.le_refl _⟩, ⟨bs HB⟩⟩
 case round =>
  clear H'
  try clear c1
  try clear c2
  try clear p2
  try clear c3
  try clear c3b0
  try clear c3b1
  try clear c3b2
  obtain ⟨x5_1, rfl, HA, HK1, HB⟩ := hrel
  cases gk with
  | zero => exact absurd HA.out (by simp [laws_eqBucketS.l0])
  | succ k1 =>
   have H := HA.out
   clear HA
   simp only [laws_eqBucketS.l0] at H
   by_cases c4 : x5_1 < (l0.length : Int)
   rotate_left
   ·
    rw [if_neg c4] at H
    have c4b0 : decide (x5_1 < (l0.length : Int)) = false := decide_eq_false c4
    clear c4
    obtain rfl := Option.some.inj H
    go_wp2
    go_ret
    exact ⟨er, bs HB⟩
   rw [if_pos c4] at H
   have c4b0 : decide (x5_1 < (l0.length : Int)) = true := decide_eq_true c4
   clear c4
   by_cases c5 : 0 ≤ x5_1
   rotate_left
   ·
    rw [if_neg c5] at H
    exact absurd H (by simp)
   rw [if_pos c5] at H
   have c5b0 : decide (0 ≤ x5_1) = true := decide_eq_true c5
   clear c5
   by_cases c6 : x5_1 < (l1.length : Int)
   rotate_left
   ·
    rw [if_neg c6] at H
    exact absurd H (by simp)
   rw [if_pos c6] at H
   have c6b0 : decide (x5_1 < (l1.length : Int)) = true := decide_eq_true c6
   clear c6
   replace H := Option.bind_eq_some_iff.mp H
   obtain ⟨t328, A70, H⟩ := H
   try dsimp only at H
   have A7 := Ah A70
   clear A70
   have H_ := Ah H
   clear H
   try go_wp2
   have n0_ := Ah (below_drew1 HB.out)
   clear HB
   have HB := n0_
   clear n0_
   have p326 : 0 ≤ (x5_1 : Int) := od
   have q326 : x5_1 < (l0.length : Int) := od
   obtain ⟨ad326, A326_1, c326_1, e326, hx326_0, hx326_1, hl326_1, hi326_1⟩ := at_T46 HR0.out x5_1 p326 q326
   have hw326_1 := hx326_1
   have hw326_0 := hx326_0
   cases e326
   replace hx326_0 := (HB.out.cell (World.block_lt_of_cell? w _ hx326_0)).trans hx326_0
   replace hx326_1 := (HB.out.cell (World.block_lt_of_cell? w _ hx326_1)).trans hx326_1
   have HR326_1 := Ah hi326_1
   have HC326_1 := Ah hl326_1
   clear hi326_1 hl326_1
   replace p326 := eq_true p326
   replace q326 := eq_true q326
   have p327 : 0 ≤ (x5_1 : Int) := od
   have q327 : x5_1 < (l1.length : Int) := od
   obtain ⟨ad327, A327_1, c327_1, e327, hx327_0, hx327_1, hl327_1, hi327_1⟩ := at_T46 HR1.out x5_1 p327 q327
   have hw327_1 := hx327_1
   have hw327_0 := hx327_0
   cases e327
   replace hx327_0 := (HB.out.cell (World.block_lt_of_cell? w _ hx327_0)).trans hx327_0
   replace hx327_1 := (HB.out.cell (World.block_lt_of_cell? w _ hx327_1)).trans hx327_1
   have HR327_1 := Ah hi327_1
   have HC327_1 := Ah hl327_1
   clear hi327_1 hl327_1
   replace p327 := eq_true p327
   replace q327 := eq_true q327
   refine start_ (n := 10) (S := fun w' => w'.cell? (ad326.add ((x5_1).toNat * 2)) = some (.int .i64 ((rd_T46 l0 x5_1).f0)) ∧ w'.cell? ⟨(ad326.add ((x5_1).toNat * 2)).block, (ad326.add ((x5_1).toNat * 2)).off + 1, none⟩ = some (.slice A326_1 ((rd_T46 l0 x5_1).f1).length c326_1) ∧ w'.cell? (ad327.add ((x5_1).toNat * 2)) = some (.int .i64 ((rd_T46 l1 x5_1).f0)) ∧ w'.cell? ⟨(ad327.add ((x5_1).toNat * 2)).block, (ad327.add ((x5_1).toNat * 2)).off + 1, none⟩ = some (.slice A327_1 ((rd_T46 l1 x5_1).f1).length c327_1)) (ds := []) #[false, false, false, false, false, false, false, false, false, false] (by kernel_rfl) rfl rfl ⟨((HB.out.cell (World.block_lt_of_cell? w _ hw326_0)).trans hw326_0), ((HB.out.cell (World.block_lt_of_cell? w _ hw326_1)).trans hw326_1), ((HB.out.cell (World.block_lt_of_cell? w _ hw327_0)).trans hw327_0), ((HB.out.cell (World.block_lt_of_cell? w _ hw327_1)).trans hw327_1)⟩ (fun hHeld => ?_); refine with_tabW laws_eqBucketS.tab6 laws_eqBucketS.bits6 (fun HT_ HW_ => ?_)
   generalize wr.drew = w9 at HB HR326_1 HR327_1 hx326_0 hx326_1 hx327_0 hx327_1 hHeld ⊢
   refine pureS 0 17 HT_.out ?_
   refine pureS 1 18 HT_.out ?_
   refine pureS 2 19 HT_.out ?_
   refine pureS 4 21 HT_.out ?_
   refine pureS 5 22 HT_.out ?_
   refine pureS 6 23 HT_.out ?_
   refine takeS 3 20 HT_.out HW_.out hHeld (hr := by rintro w' ⟨s0, s1, s2, s3⟩; go_simp; with_reducible rfl) (h := ?_)
   refine takeS 7 24 HT_.out HW_.out hHeld (hr := by rintro w' ⟨s0, s1, s2, s3⟩; go_simp; with_reducible rfl) (h := ?_)
   refine one_ (i := 8) (N := some 25) #[true, true, true, true, true, true, true, true, true, false] rfl rfl (one_of HT_.out (by kernel_rfl)) (by decide) (fun K hK => ?_)
   refine goes_ Tryd.func47 (by kernel_rfl) rfl #[.agg #[.int .i64 ((rd_T46 l0 x5_1).f0), .slice A326_1 ((rd_T46 l0 x5_1).f1).length c326_1], .agg #[.int .i64 ((rd_T46 l1 x5_1).f0), .slice A327_1 ((rd_T46 l1 x5_1).f1).length c327_1]] (by rfl) rfl rfl (by (try simp only [List.map_toArray, List.map_cons, List.map_nil]); first | done | rfl | (simp only [List.length_drop, List.length_take]; rfl)) ?_
   have H := H_.out
   clear H_
   by_cases c8 : t328 = true
   rotate_left
   ·
    replace c8 := Bool.eq_false_iff.mpr c8
    subst c8
    rw [if_neg fne] at H
    obtain rfl := Option.some.inj H
    with_reducible refine (laws_eqBucket.calls k1 ((rd_T46 l0 x5_1).f0) _ _ ((rd_T46 l0 x5_1).f1) ((rd_T46 l1 x5_1).f0) _ _ ((rd_T46 l1 x5_1).f1) false _ ?side1 ?side2 ?side3 ?side4 A7.out).mono ?_
    (case side1 => exact cb HR326_1 HB)
    (case side2 => exact HC326_1.out)
    (case side3 => exact cb HR327_1 HB)
    (case side4 => exact HC327_1.out)
    rintro e w12 ⟨rfl, hb⟩
    refine ⟨_, rfl, ?_⟩
    have n0_ := Ah (below_step (bs HB) hb)
    clear HB
    have HB := n0_
    clear n0_
    (try clear hb)
    (try clear hb2)
    (try clear hk)
    (try clear hi)
    refine hK.out _ _ ⟨((HB.out.cell (World.block_lt_of_cell? w _ hw326_0)).trans hw326_0), ((HB.out.cell (World.block_lt_of_cell? w _ hw326_1)).trans hw326_1), ((HB.out.cell (World.block_lt_of_cell? w _ hw327_0)).trans hw327_0), ((HB.out.cell (World.block_lt_of_cell? w _ hw327_1)).trans hw327_1)⟩ (fun hHeld => ?_)
    clear hK K
    refine norm_ (a' := ?_) ?_ ?_
    rotate_left
    ·
     show Act.put _ (some 25) _ = _
     simp only [Act.put, List.setIfInBounds_toArray, List.set_cons_zero, List.set_cons_succ, i64_w, i32_w]
     rfl
    refine pureS 9 26 HT_.out ?_
    refine done_ (done_of HT_.out (by kernel_rfl)) ?_
    try go_wp2
    go_ret
    exact ⟨er, bs HB⟩
   subst c8
   rw [if_pos rfl] at H
   have H' := Ah H
   clear H
   with_reducible refine (laws_eqBucket.calls k1 ((rd_T46 l0 x5_1).f0) _ _ ((rd_T46 l0 x5_1).f1) ((rd_T46 l1 x5_1).f0) _ _ ((rd_T46 l1 x5_1).f1) true _ ?side1 ?side2 ?side3 ?side4 A7.out).mono ?_
   (case side1 => exact cb HR326_1 HB)
   (case side2 => exact HC326_1.out)
   (case side3 => exact cb HR327_1 HB)
   (case side4 => exact HC327_1.out)
   rintro e w10 ⟨rfl, hb⟩
   refine ⟨_, rfl, ?_⟩
   have n0_ := Ah (below_step (bs HB) hb)
   clear HB
   have HB := n0_
   clear n0_
   (try clear hb)
   (try clear hb2)
   (try clear hk)
   (try clear hi)
   refine hK.out _ _ ⟨((HB.out.cell (World.block_lt_of_cell? w _ hw326_0)).trans hw326_0), ((HB.out.cell (World.block_lt_of_cell? w _ hw326_1)).trans hw326_1), ((HB.out.cell (World.block_lt_of_cell? w _ hw327_0)).trans hw327_0), ((HB.out.cell (World.block_lt_of_cell? w _ hw327_1)).trans hw327_1)⟩ (fun hHeld => ?_)
   clear hK K
   refine norm_ (a' := ?_) ?_ ?_
   rotate_left
   ·
    show Act.put _ (some 25) _ = _
    simp only [Act.put, List.setIfInBounds_toArray, List.set_cons_zero, List.set_cons_succ, i64_w, i32_w]
    rfl
   refine pureS 9 26 HT_.out ?_
   refine done_ (done_of HT_.out (by kernel_rfl)) ?_
   try go_wp2
   go_roundg k1
   case measure => have := HK1.out; omega
   case rel => exact ⟨(wrap64 (x5_1 + 1)), e3, H', ⟨by have := HK1.out; omega⟩, ⟨bs HB⟩⟩

/-! ### laws_eqDir: function 8 -/
def laws_eqDir.f (k : Nat) (a0_0 : Int) (l0_1 : List Int) (l0_2 : List (S46)) (a1_0 : Int) (l1_1 : List Int) (l1_2 : List (S46)) : Option (Bool) := if a0_0 = a1_0 then ((laws_eqIntS.f k l0_1 l1_1).bind fun t331 => (if t331 = true then ((laws_eqBucketS.f k l0_2 l1_2).bind fun t332 => (if t332 = true then (some true) else (some false))) else (some false))) else (some false)
theorem laws_eqDir.mono : ∀ a0 a1 a2 a3 a4 a5 k, LeO (laws_eqDir.f k a0 a1 a2 a3 a4 a5) (laws_eqDir.f (k + 1) a0 a1 a2 a3 a4 a5) := by
 intro a0 a1 a2 a3 a4 a5 k
 unfold laws_eqDir.f
 repeat' first
   | (with_reducible exact laws_eqBucketS.mono _ _ _)
   | (with_reducible exact laws_eqIntS.mono _ _ _)
   | (with_reducible exact LeO.refl _)
   | (with_reducible exact LeO.none _)
   | (with_reducible refine LeO.ite ?_ ?_)
   | (with_reducible refine LeO.bind ?_ (fun _ => ?_))
   | exact laws_eqBucketS.mono _ _ _
   | exact laws_eqIntS.mono _ _ _
   | exact LeO.none _
   | refine LeO.ite ?_ ?_
   | refine LeO.bind ?_ (fun _ => ?_)
set_option maxHeartbeats 8000000 in
set_option maxRecDepth 100000 in
theorem laws_eqDir.calls (k : Nat) (a0_0 : Int) (A0_1 : Option Addr) (c0_1 : Nat) (l0_1 : List Int) (A0_2 : Option Addr) (c0_2 : Nat) (l0_2 : List (S46)) (a1_0 : Int) (A1_1 : Option Addr) (c1_1 : Nat) (l1_1 : List Int) (A1_2 : Option Addr) (c1_2 : Nat) (l1_2 : List (S46)) (r : Bool) (w : World) (hr0_1 : Kd.C (Kd.int .i64) w A0_1 l0_1.length l0_1) (hc0_1 : l0_1.length ≤ c0_1) (hr0_2 : Kd.C k46 w A0_2 l0_2.length l0_2) (hc0_2 : l0_2.length ≤ c0_2) (hr1_1 : Kd.C (Kd.int .i64) w A1_1 l1_1.length l1_1) (hc1_1 : l1_1.length ≤ c1_1) (hr1_2 : Kd.C k46 w A1_2 l1_2.length l1_2) (hc1_2 : l1_2.length ≤ c1_2) (h : laws_eqDir.f k a0_0 l0_1 l0_2 a1_0 l1_1 l1_2 = some r) :
  Calls Tryd.prog 8 #[.agg #[.int .i64 a0_0, .slice A0_1 l0_1.length c0_1, .slice A0_2 l0_2.length c0_2], .agg #[.int .i64 a1_0, .slice A1_1 l1_1.length c1_1, .slice A1_2 l1_2.length c1_2]] w fun e w' => e = .returned (.bool r) ∧ Below w.heap.size w w' := by
 have hu29 := Tryd.underlying29
 have HR0_1 := Ah hr0_1
 have HC0_1 := Ah hc0_1
 clear hr0_1 hc0_1
 have HR0_2 := Ah hr0_2
 have HC0_2 := Ah hc0_2
 clear hr0_2 hc0_2
 have HR1_1 := Ah hr1_1
 have HC1_1 := Ah hc1_1
 clear hr1_1 hc1_1
 have HR1_2 := Ah hr1_2
 have HC1_2 := Ah hc1_2
 clear hr1_2 hc1_2
 have HB := Ah (Below.refl w.heap.size w)
 have H : (if a0_0 = a1_0 then ((laws_eqIntS.f k l0_1 l1_1).bind fun t331 => (if t331 = true then ((laws_eqBucketS.f k l0_2 l1_2).bind fun t332 => (if t332 = true then (some true) else (some false))) else (some false))) else (some false)) = some r := h
 clear h
 by_cases c3 : a0_0 = a1_0
 rotate_left
 ·
  rw [if_neg c3] at H
  have c3b0 : (a0_0 == a1_0) = false := beq_eq_false_iff_ne.mpr c3
  have c3b1 : (a0_0 != a1_0) = true := bne_iff_ne.mpr c3
  obtain rfl := Option.some.inj H
  go_enter Tryd.func8, Tryd.ntmps8
  go_wp2_with (first | ((with_reducible refine gate_dst (N := 2) rfl ?_); refine boxL 2 29 #[.int .i64 a0_0, .slice A0_1 l0_1.length c0_1, .slice A0_2 l0_2.length c0_2] ?_; intro gb329 hg w25 BK329 hb; have GW329 := gw hg (bs HB); have GE329 := gw hg (bs HB); replace HB := Ah (below_step (bs HB) hb); clear hb hg) | ((with_reducible refine gate_dst (N := 3) rfl ?_); refine boxL 3 29 #[.int .i64 a1_0, .slice A1_1 l1_1.length c1_1, .slice A1_2 l1_2.length c1_2] ?_; intro gb330 hg w26 BK330 hb; have GW330 := gw hg (bs1 HB GE329); have GE330 := gw hg (bs1 HB GE329); replace HB := Ah (below_step (bs1 HB GE329) hb); have NB329_330 := nn BK329 hg; have NB330_329 := nm BK329 hg; replace BK329 := nb BK329 hb; clear hb hg; have hnb27 := NB329_330.out; have hnc27 := NB330_329.out; obtain ⟨hcz28_0, hcz28_1, hcz28_2⟩ := cz3 BK329; obtain ⟨hfz28_0, hfz28_1, hfz28_2⟩ := fz3 BK329; obtain ⟨hcz29_0, hcz29_1, hcz29_2⟩ := cz3 BK330; obtain ⟨hfz29_0, hfz29_1, hfz29_2⟩ := fz3 BK330))
  go_ret
  exact ⟨er, bs2 HB GE329 GE330⟩
 rw [if_pos c3] at H
 have c3b0 : (a0_0 == a1_0) = true := beq_iff_eq.mpr c3
 have c3b1 : (a0_0 != a1_0) = false := bne_eq_false_iff_eq.mpr c3
 clear c3
 replace H := Option.bind_eq_some_iff.mp H
 obtain ⟨t331, A40, H⟩ := H
 try dsimp only at H
 have A4 := Ah A40
 clear A40
 by_cases c5 : t331 = true
 rotate_left
 ·
  replace c5 := Bool.eq_false_iff.mpr c5
  subst c5
  rw [if_neg fne] at H
  obtain rfl := Option.some.inj H
  go_enter Tryd.func8, Tryd.ntmps8
  go_wp2_with (first | ((with_reducible refine gate_dst (N := 2) rfl ?_); refine boxL 2 29 #[.int .i64 a0_0, .slice A0_1 l0_1.length c0_1, .slice A0_2 l0_2.length c0_2] ?_; intro gb329 hg w20 BK329 hb; have GW329 := gw hg (bs HB); have GE329 := gw hg (bs HB); replace HB := Ah (below_step (bs HB) hb); clear hb hg) | ((with_reducible refine gate_dst (N := 3) rfl ?_); refine boxL 3 29 #[.int .i64 a1_0, .slice A1_1 l1_1.length c1_1, .slice A1_2 l1_2.length c1_2] ?_; intro gb330 hg w21 BK330 hb; have GW330 := gw hg (bs1 HB GE329); have GE330 := gw hg (bs1 HB GE329); replace HB := Ah (below_step (bs1 HB GE329) hb); have NB329_330 := nn BK329 hg; have NB330_329 := nm BK329 hg; replace BK329 := nb BK329 hb; clear hb hg; have hnb22 := NB329_330.out; have hnc22 := NB330_329.out; obtain ⟨hcz23_0, hcz23_1, hcz23_2⟩ := cz3 BK329; obtain ⟨hfz23_0, hfz23_1, hfz23_2⟩ := fz3 BK329; obtain ⟨hcz24_0, hcz24_1, hcz24_2⟩ := cz3 BK330; obtain ⟨hfz24_0, hfz24_1, hfz24_2⟩ := fz3 BK330) | ((with_reducible refine gate_callee (f := 25) rfl ?_); refine gL (some 14) rfl rfl Tryd.func25 (by kernel_rfl) rfl #[.slice A0_1 l0_1.length c0_1, .slice A1_1 l1_1.length c1_1] rfl ?_; (with_reducible refine (laws_eqIntS.calls k _ _ l0_1 _ _ l1_1 false _ ?side1 ?side2 ?side3 ?side4 A4.out).mono ?_); (case side1 => exact cb HR0_1 HB); (case side2 => exact HC0_1.out); (case side3 => exact cb HR1_1 HB); (case side4 => exact HC1_1.out); rintro e w' ⟨rfl, ⟨nd, rfl⟩⟩; refine ⟨_, rfl, ?_⟩))
  go_ret
  exact ⟨er, bs2 HB GE329 GE330⟩
 subst c5
 rw [if_pos rfl] at H
 replace H := Option.bind_eq_some_iff.mp H
 obtain ⟨t332, A60, H⟩ := H
 try dsimp only at H
 have A6 := Ah A60
 clear A60
 by_cases c7 : t332 = true
 ·
  subst c7
  rw [if_pos rfl] at H
  obtain rfl := Option.some.inj H
  go_enter Tryd.func8, Tryd.ntmps8
  go_wp2_with (first | ((with_reducible refine gate_dst (N := 2) rfl ?_); refine boxL 2 29 #[.int .i64 a0_0, .slice A0_1 l0_1.length c0_1, .slice A0_2 l0_2.length c0_2] ?_; intro gb329 hg w8 BK329 hb; have GW329 := gw hg (bs HB); have GE329 := gw hg (bs HB); replace HB := Ah (below_step (bs HB) hb); clear hb hg) | ((with_reducible refine gate_dst (N := 3) rfl ?_); refine boxL 3 29 #[.int .i64 a1_0, .slice A1_1 l1_1.length c1_1, .slice A1_2 l1_2.length c1_2] ?_; intro gb330 hg w9 BK330 hb; have GW330 := gw hg (bs1 HB GE329); have GE330 := gw hg (bs1 HB GE329); replace HB := Ah (below_step (bs1 HB GE329) hb); have NB329_330 := nn BK329 hg; have NB330_329 := nm BK329 hg; replace BK329 := nb BK329 hb; clear hb hg; have hnb10 := NB329_330.out; have hnc10 := NB330_329.out; obtain ⟨hcz11_0, hcz11_1, hcz11_2⟩ := cz3 BK329; obtain ⟨hfz11_0, hfz11_1, hfz11_2⟩ := fz3 BK329; obtain ⟨hcz12_0, hcz12_1, hcz12_2⟩ := cz3 BK330; obtain ⟨hfz12_0, hfz12_1, hfz12_2⟩ := fz3 BK330) | ((with_reducible refine gate_callee (f := 25) rfl ?_); refine gL (some 14) rfl rfl Tryd.func25 (by kernel_rfl) rfl #[.slice A0_1 l0_1.length c0_1, .slice A1_1 l1_1.length c1_1] rfl ?_; (with_reducible refine (laws_eqIntS.calls k _ _ l0_1 _ _ l1_1 true _ ?side1 ?side2 ?side3 ?side4 A4.out).mono ?_); (case side1 => exact cb HR0_1 HB); (case side2 => exact HC0_1.out); (case side3 => exact cb HR1_1 HB); (case side4 => exact HC1_1.out); rintro e w' ⟨rfl, ⟨nd, rfl⟩⟩; refine ⟨_, rfl, ?_⟩) | ((with_reducible refine gate_callee (f := 26) rfl ?_); refine gL (some 20) rfl rfl Tryd.func26 (by kernel_rfl) rfl #[.slice A0_2 l0_2.length c0_2, .slice A1_2 l1_2.length c1_2] rfl ?_; (with_reducible refine (laws_eqBucketS.calls k _ _ l0_2 _ _ l1_2 true _ ?side1 ?side2 ?side3 ?side4 A6.out).mono ?_); (case side1 => repeat (first | exact (Kd.C_below HR0_2.out (bs2 HB GE329 GE330)) | (with_reducible refine Kd.C_alloc ?_ _) | (with_reducible refine Kd.C_drewN ?_ _) | (with_reducible refine Kd.C_drew ?_))); (case side2 => exact HC0_2.out); (case side3 => repeat (first | exact (Kd.C_below HR1_2.out (bs2 HB GE329 GE330)) | (with_reducible refine Kd.C_alloc ?_ _) | (with_reducible refine Kd.C_drewN ?_ _) | (with_reducible refine Kd.C_drew ?_))); (case side4 => exact HC1_2.out); rintro e w13 ⟨rfl, hb⟩; refine ⟨_, rfl, ?_⟩; replace BK329 := nb BK329 hb; replace BK330 := nb BK330 hb; replace HB := Ah (below_step (bs2 HB GE329 GE330) hb); (try clear hb)))
  go_ret
  exact ⟨er, bs2 HB GE329 GE330⟩
 replace c7 := Bool.eq_false_iff.mpr c7
 subst c7
 rw [if_neg fne] at H
 obtain rfl := Option.some.inj H
 go_enter Tryd.func8, Tryd.ntmps8
 go_wp2_with (first | ((with_reducible refine gate_dst (N := 2) rfl ?_); refine boxL 2 29 #[.int .i64 a0_0, .slice A0_1 l0_1.length c0_1, .slice A0_2 l0_2.length c0_2] ?_; intro gb329 hg w14 BK329 hb; have GW329 := gw hg (bs HB); have GE329 := gw hg (bs HB); replace HB := Ah (below_step (bs HB) hb); clear hb hg) | ((with_reducible refine gate_dst (N := 3) rfl ?_); refine boxL 3 29 #[.int .i64 a1_0, .slice A1_1 l1_1.length c1_1, .slice A1_2 l1_2.length c1_2] ?_; intro gb330 hg w15 BK330 hb; have GW330 := gw hg (bs1 HB GE329); have GE330 := gw hg (bs1 HB GE329); replace HB := Ah (below_step (bs1 HB GE329) hb); have NB329_330 := nn BK329 hg; have NB330_329 := nm BK329 hg; replace BK329 := nb BK329 hb; clear hb hg; have hnb16 := NB329_330.out; have hnc16 := NB330_329.out; obtain ⟨hcz17_0, hcz17_1, hcz17_2⟩ := cz3 BK329; obtain ⟨hfz17_0, hfz17_1, hfz17_2⟩ := fz3 BK329; obtain ⟨hcz18_0, hcz18_1, hcz18_2⟩ := cz3 BK330; obtain ⟨hfz18_0, hfz18_1, hfz18_2⟩ := fz3 BK330) | ((with_reducible refine gate_callee (f := 25) rfl ?_); refine gL (some 14) rfl rfl Tryd.func25 (by kernel_rfl) rfl #[.slice A0_1 l0_1.length c0_1, .slice A1_1 l1_1.length c1_1] rfl ?_; (with_reducible refine (laws_eqIntS.calls k _ _ l0_1 _ _ l1_1 true _ ?side1 ?side2 ?side3 ?side4 A4.out).mono ?_); (case side1 => exact cb HR0_1 HB); (case side2 => exact HC0_1.out); (case side3 => exact cb HR1_1 HB); (case side4 => exact HC1_1.out); rintro e w' ⟨rfl, ⟨nd, rfl⟩⟩; refine ⟨_, rfl, ?_⟩) | ((with_reducible refine gate_callee (f := 26) rfl ?_); refine gL (some 20) rfl rfl Tryd.func26 (by kernel_rfl) rfl #[.slice A0_2 l0_2.length c0_2, .slice A1_2 l1_2.length c1_2] rfl ?_; (with_reducible refine (laws_eqBucketS.calls k _ _ l0_2 _ _ l1_2 false _ ?side1 ?side2 ?side3 ?side4 A6.out).mono ?_); (case side1 => repeat (first | exact (Kd.C_below HR0_2.out (bs2 HB GE329 GE330)) | (with_reducible refine Kd.C_alloc ?_ _) | (with_reducible refine Kd.C_drewN ?_ _) | (with_reducible refine Kd.C_drew ?_))); (case side2 => exact HC0_2.out); (case side3 => repeat (first | exact (Kd.C_below HR1_2.out (bs2 HB GE329 GE330)) | (with_reducible refine Kd.C_alloc ?_ _) | (with_reducible refine Kd.C_drewN ?_ _) | (with_reducible refine Kd.C_drew ?_))); (case side4 => exact HC1_2.out); rintro e w19 ⟨rfl, hb⟩; refine ⟨_, rfl, ?_⟩; replace BK329 := nb BK329 hb; replace BK330 := nb BK330 hb; replace HB := Ah (below_step (bs2 HB GE329 GE330) hb); (try clear hb)))
 go_ret
 exact ⟨er, bs2 HB GE329 GE330⟩

/-! ### laws_markIntS: function 27 -/
def laws_markIntS.l0 : Nat → List Int → Int → Int → Option (Int × List Int)
 | 0, _, _, _ => none
 | k + 1, x0, x1, x5 => if x5 < (x0.length : Int) then (if 0 ≤ x5 then (laws_markIntS.l0 k (x0.set (x5 : Int).toNat x1) (wrap64 (x1 + 1)) (wrap64 (x5 + 1))) else (none)) else (some (x1, x0))
def laws_markIntS.f (k : Nat) (l0 : List Int) (a1 : Int) : Option (Int × List Int) := laws_markIntS.l0 k l0 a1 0
theorem laws_markIntS.mono_l : ∀ k, (∀ y0 y1 y2, LeO (laws_markIntS.l0 k y0 y1 y2) (laws_markIntS.l0 (k + 1) y0 y1 y2))
 | 0 => fun _ _ _ r h => by simp [laws_markIntS.l0] at h
 | k + 1 => by
  have ih0 := laws_markIntS.mono_l k
  ·
   intro y0 y1 y2
   unfold laws_markIntS.l0
   repeat' first
   | (with_reducible exact ih0 _ _ _)
   | (with_reducible exact LeO.refl _)
   | (with_reducible exact LeO.none _)
   | (with_reducible refine LeO.ite ?_ ?_)
   | (with_reducible refine LeO.bind ?_ (fun _ => ?_))
   | exact ih0 _ _ _
   | exact LeO.none _
   | refine LeO.ite ?_ ?_
   | refine LeO.bind ?_ (fun _ => ?_)
theorem laws_markIntS.mono : ∀ a0 a1 k, LeO (laws_markIntS.f k a0 a1) (laws_markIntS.f (k + 1) a0 a1) := by
 intro a0 a1 k
 have ih0 := laws_markIntS.mono_l k
 unfold laws_markIntS.f
 repeat' first
   | (with_reducible exact ih0 _ _ _)
   | (with_reducible exact LeO.refl _)
   | (with_reducible exact LeO.none _)
   | (with_reducible refine LeO.ite ?_ ?_)
   | (with_reducible refine LeO.bind ?_ (fun _ => ?_))
   | exact ih0 _ _ _
   | exact LeO.none _
   | refine LeO.ite ?_ ?_
   | refine LeO.bind ?_ (fun _ => ?_)
set_option maxHeartbeats 8000000 in
set_option maxRecDepth 100000 in
theorem laws_markIntS.calls (k : Nat) (P0_ : Nat → Prop) (u9000_ : Value) (l0 : List Int) (a1 : Int) (r1 : Int) (r2 : List Int) (w0 w : World) (hB : Below w0.heap.size w0 w) (ho0 : Kd.R (Kd.int .i64) 3 w w0.heap.size P0_ u9000_ l0) (h : laws_markIntS.f k l0 a1 = some (r1, r2)) :
  Calls Tryd.prog 27 #[u9000_, .int .i64 a1] w fun e w' => e = .returned (.int .i64 r1) ∧ Kd.R (Kd.int .i64) 3 w' w0.heap.size (fun k_ => (P0_ k_ ∨ w.heap.size ≤ k_)) u9000_ r2 ∧ Below w0.heap.size w0 w' ∧ Kept w w' (fun k_ => P0_ k_) := by
 have HO0 := Ah (show Kd.R (Kd.int .i64) 3 w w0.heap.size (fun k_ => (P0_ k_ ∨ w.heap.size ≤ k_)) u9000_ l0 from Kd.R_mono ho0 (fun k_ hk => (.inl hk)))
 have HK := Ah (Kept.refl w (fun k_ => P0_ k_))
 have HW0 := Ah hB.size
 have HB := Ah hB
 clear hB
 have H : (laws_markIntS.l0 k l0 a1 0) = some (r1, r2) := h
 clear h
 have H' := Ah H
 clear H
 go_enter Tryd.func27, Tryd.ntmps27
 go_wp2
 go_loopg [1, 5] k (fun kq v1 v5 w' => ∃ (x0_1 : List Int) (x1_1 : Int) (x5_1 : Int), v1 = .int .i64 x1_1 ∧ v5 = .int .i64 x5_1 ∧ Aside0 (laws_markIntS.l0 kq x0_1 x1_1 x5_1 = some (r1, r2)) ∧ Aside0 (kq ≤ k) ∧ Aside0 (Kd.R (Kd.int .i64) 3 w' w0.heap.size (fun k_ => (P0_ k_ ∨ w.heap.size ≤ k_)) u9000_ x0_1) ∧ Aside0 (Kept w w' (fun k_ => P0_ k_)) ∧ Aside0 (Below w0.heap.size w0 w'))
 case atStart => exact ⟨(l0), (a1), (0), e3, e3, H', ⟨Nat.le_refl _⟩, ⟨rr HO0.out⟩, ⟨by repeat (first | (with_reducible first | exact HK.out | apply Kept.alloc | apply Kept.drewN | apply Kept.drew) | exact HK.out)⟩, ⟨bs HB⟩⟩
 case round =>
  clear H'
  try clear c2
  try clear p2
  obtain ⟨x0_1, x1_1, x5_1, rfl, rfl, HA, HK1, HO_0, HK, HB⟩ := hrel
  cases gk with
  | zero => exact absurd HA.out (by simp [laws_markIntS.l0])
  | succ k1 =>
   have H := HA.out
   clear HA
   simp only [laws_markIntS.l0] at H
   by_cases c3 : x5_1 < (x0_1.length : Int)
   rotate_left
   ·
    rw [if_neg c3] at H
    have c3b0 : decide (x5_1 < (x0_1.length : Int)) = false := decide_eq_false c3
    clear c3
    simp only [Option.some.injEq, Prod.mk.injEq] at H
    obtain ⟨rfl, rfl⟩ := H
    obtain ⟨Ao9, co9, eo9⟩ := Kd.R_slice HO_0.out
    subst eo9
    go_wp2
    go_ret
    exact ⟨er, by (with_reducible repeat (first | apply Kd.R_alloc | apply Kd.R_drewN | apply Kd.R_drew)); exact HO_0.out, bs HB, by repeat (first | (with_reducible first | exact HK.out | apply Kept.alloc | apply Kept.drewN | apply Kept.drew) | exact HK.out)⟩
   rw [if_pos c3] at H
   have c3b0 : decide (x5_1 < (x0_1.length : Int)) = true := decide_eq_true c3
   clear c3
   by_cases c4 : 0 ≤ x5_1
   rotate_left
   ·
    rw [if_neg c4] at H
    exact absurd H (by simp)
   rw [if_pos c4] at H
   have c4b0 : decide (0 ≤ x5_1) = true := decide_eq_true c4
   clear c4
   obtain ⟨y333, hy333⟩ : ∃ y_ : List Int, y_ = (x0_1.set (x5_1 : Int).toNat x1_1) := ⟨_, rfl⟩
   replace H : (laws_markIntS.l0 k1 y333 (wrap64 (x1_1 + 1)) (wrap64 (x5_1 + 1))) = some (r1, r2) := by first | (rw [hy333]; with_reducible exact H) | (have H2_ := (Option.bind_some _ _).symm.trans H; rw [hy333]; with_reducible exact H2_) | (have H2_ := (Option.bind_some _ _).symm.trans H; with_reducible exact H2_) | with_reducible exact H | (rw [hy333]; exact H) | exact H
   have Ny333 := Ah hy333
   clear hy333
   have H' := Ah H
   clear H
   obtain ⟨Ao6, co6, eo6⟩ := Kd.R_slice HO_0.out
   subst eo6
   have p5 : 0 ≤ (x5_1 : Int) := od
   have q5 : (x5_1 : Int) < ((x0_1.length : Int) : Int) := od
   obtain ⟨go5, co5, eo5, gb5, gl5, cl5, HG5⟩ := Kd.R_form HO_0.out (by omega)
   (first | cases eo5 | (injection eo5 with ea_ en_ ec_; (first | subst ea_ | (injection ea_ with ea_; subst ea_)); subst ec_; clear en_))
   have GB5 := Ah gb5
   have GG5 := Ah HG5
   clear gb5 gl5 HG5
   have HMgo5 := Ah (show (P0_ go5 ∨ w.heap.size ≤ go5) from (HO_0.out.1 _ rfl))
   obtain ⟨hx5_0, hf5_0⟩ := Kd.R_celln 0 HO_0.out (x5_1 : Int) p5 q5
   replace p5 := eq_true p5
   replace q5 := eq_true q5
   have HP7 := Kd.R_putg HO_0.out (x5_1 : Int) x1_1
   go_wp2_with (first | ((with_reducible refine gate_store (t := 3) (p := 15) rfl ?_); refine store_event (t := 3) (p := 15) (v := ?vo_w8) (w1 := (wr.setCell ⟨go5, (x5_1 : Int).toNat, none⟩ (.int .i64 x1_1))) ?hg ?ho ?hn ?hr ?_; (case ho => rfl); (case hg => rfl); (case hn => rfl); (case hr => first | (go_simp; done) | (go_simp; rfl)); intro w8 hw; have hg : wr.grownBy w8 (some go5) := (by rw [hw]; exact HP7.2); have hp_ : Kd.R (Kd.int .i64) 3 w8 w0.heap.size (fun k_ => (P0_ k_ ∨ w.heap.size ≤ k_)) (.slice (some ⟨go5, 0, none⟩) x0_1.length co6) y333 := (by rw [hw, Ny333.out]; exact HP7.1); clear HP7; replace HB := Ah ((by rw [hw]; exact below_set (HB.out) GB5.out : Below w0.heap.size w0 w8)); replace HK := Ah (Kept.of_grown (S := (fun k_ => P0_ k_)) hg (by repeat (first | (with_reducible first | exact HK.out | apply Kept.alloc | apply Kept.drewN | apply Kept.drew) | exact HK.out)) (fun k_ e_ => (HO_0.out.1 k_ e_))); replace HO_0 := Ah (hp_); clear hg hw hp_))
   go_roundg k1
   case measure => have := HK1.out; omega
   case rel => exact ⟨(y333), (wrap64 (x1_1 + 1)), (wrap64 (x5_1 + 1)), e3, e3, H', ⟨by have := HK1.out; omega⟩, ⟨rr HO_0.out⟩, ⟨by repeat (first | (with_reducible first | exact HK.out | apply Kept.alloc | apply Kept.drewN | apply Kept.drew) | exact HK.out)⟩, ⟨bs HB⟩⟩

/-! ### laws_markText: function 62 -/
def laws_markText.l0 : Nat → Int → ByteArray → Option (ByteArray)
 | 0, _, _ => none
 | k + 1, x0, x3 => if x0 > 0 then ((some (([(wrap64 (48 + (Int.tmod x0 10))) % 256] : List Int) : List Int)).bind fun y334 => (if (strOfNums y334).size + x3.size ≤ 9223372036854775807 then (laws_markText.l0 k (wrap64 (Int.tdiv x0 10)) ((strOfNums y334) ++ x3)) else (none))) else (if 1 + x3.size ≤ 9223372036854775807 then (some ((⟨#[109]⟩ : ByteArray) ++ x3)) else (none))
def laws_markText.f (k : Nat) (a0 : Int) : Option (ByteArray) := if a0 ≤ 0 then (some (⟨#[109, 48]⟩ : ByteArray)) else (laws_markText.l0 k a0 (⟨#[]⟩ : ByteArray))
theorem laws_markText.mono_l : ∀ k, (∀ y0 y1, LeO (laws_markText.l0 k y0 y1) (laws_markText.l0 (k + 1) y0 y1))
 | 0 => fun _ _ r h => by simp [laws_markText.l0] at h
 | k + 1 => by
  have ih0 := laws_markText.mono_l k
  ·
   intro y0 y1
   unfold laws_markText.l0
   repeat' first
   | (with_reducible exact ih0 _ _)
   | (with_reducible exact LeO.refl _)
   | (with_reducible exact LeO.none _)
   | (with_reducible refine LeO.ite ?_ ?_)
   | (with_reducible refine LeO.bind ?_ (fun _ => ?_))
   | exact ih0 _ _
   | exact LeO.none _
   | refine LeO.ite ?_ ?_
   | refine LeO.bind ?_ (fun _ => ?_)
theorem laws_markText.mono : ∀ a0 k, LeO (laws_markText.f k a0) (laws_markText.f (k + 1) a0) := by
 intro a0 k
 have ih0 := laws_markText.mono_l k
 unfold laws_markText.f
 repeat' first
   | (with_reducible exact ih0 _ _)
   | (with_reducible exact LeO.refl _)
   | (with_reducible exact LeO.none _)
   | (with_reducible refine LeO.ite ?_ ?_)
   | (with_reducible refine LeO.bind ?_ (fun _ => ?_))
   | exact ih0 _ _
   | exact LeO.none _
   | refine LeO.ite ?_ ?_
   | refine LeO.bind ?_ (fun _ => ?_)
set_option maxHeartbeats 8000000 in
set_option maxRecDepth 100000 in
theorem laws_markText.calls (k : Nat) (a0 : Int) (r : ByteArray) (w : World) (h : laws_markText.f k a0 = some r) :
  Calls Tryd.prog 62 #[.int .i64 a0] w fun e w' => e = .returned (.string r) ∧ Below w.heap.size w w' := by
 have HB := Ah (Below.refl w.heap.size w)
 have H : (if a0 ≤ 0 then (some (⟨#[109, 48]⟩ : ByteArray)) else (laws_markText.l0 k a0 (⟨#[]⟩ : ByteArray))) = some r := h
 clear h
 by_cases c2 : a0 ≤ 0
 ·
  rw [if_pos c2] at H
  have c2b0 : decide (a0 ≤ 0) = true := decide_eq_true c2
  clear c2
  obtain rfl := Option.some.inj H
  go_enter Tryd.func62, Tryd.ntmps62
  go_wp2
  go_ret
  exact ⟨er, bs HB⟩
 rw [if_neg c2] at H
 have c2b0 : decide (a0 ≤ 0) = false := decide_eq_false c2
 clear c2
 have H' := Ah H
 clear H
 go_enter Tryd.func62, Tryd.ntmps62
 go_wp2
 go_loopg [0, 3] k (fun kq v0 v3 w' => ∃ (x0_1 : Int) (x3_1 : ByteArray), v0 = .int .i64 x0_1 ∧ v3 = .string x3_1 ∧ Aside0 (laws_markText.l0 kq x0_1 x3_1 = some r) ∧ Aside0 (kq ≤ k) ∧ Aside0 (Below w.heap.size w w'))
 case atStart => exact ⟨(a0), ((⟨#[]⟩ : ByteArray)), e3, e3, H', ⟨Nat.le_refl _⟩, ⟨bs HB⟩⟩
 case round =>
  clear H'
  try clear c2
  try clear c2b0
  try clear p2
  obtain ⟨x0_1, x3_1, rfl, rfl, HA, HK1, HB⟩ := hrel
  cases gk with
  | zero => exact absurd HA.out (by simp [laws_markText.l0])
  | succ k1 =>
   have H := HA.out
   clear HA
   simp only [laws_markText.l0] at H
   by_cases c3 : x0_1 > 0
   rotate_left
   ·
    rw [if_neg c3] at H
    have c3b0 : decide (0 < x0_1) = false := decide_eq_false c3
    clear c3
    by_cases c8 : 1 + x3_1.size ≤ 9223372036854775807
    rotate_left
    ·
     rw [if_neg c8] at H
     exact absurd H (by simp)
    rw [if_pos c8] at H
    have c8b0 := eq_true c8
    have c8b1 : decide (1 + x3_1.size ≤ 9223372036854775807) = true := decide_eq_true c8
    try have c8b2 : (9223372036854775807 < 1 + x3_1.size) = False := eq_false (Nat.not_lt.2 c8)
    obtain rfl := Option.some.inj H
    go_wp2
    go_ret
    exact ⟨er, bs HB⟩
   rw [if_pos c3] at H
   have c3b0 : decide (0 < x0_1) = true := decide_eq_true c3
   clear c3
   obtain ⟨y334, hy334⟩ : ∃ y_ : List Int, y_ = (([(wrap64 (48 + (Int.tmod x0_1 10))) % 256] : List Int)) := ⟨_, rfl⟩
   replace H : (if (strOfNums y334).size + x3_1.size ≤ 9223372036854775807 then (laws_markText.l0 k1 (wrap64 (Int.tdiv x0_1 10)) ((strOfNums y334) ++ x3_1)) else (none)) = some r := by first | (rw [hy334]; with_reducible exact H) | (have H2_ := (Option.bind_some _ _).symm.trans H; rw [hy334]; with_reducible exact H2_) | (have H2_ := (Option.bind_some _ _).symm.trans H; with_reducible exact H2_) | with_reducible exact H | (rw [hy334]; exact H) | exact H
   have Ny334 := Ah hy334
   clear hy334
   by_cases c4 : (strOfNums y334).size + x3_1.size ≤ 9223372036854775807
   rotate_left
   ·
    rw [if_neg c4] at H
    exact absurd H (by simp)
   rw [if_pos c4] at H
   have c4b0 := eq_true c4
   have c4b1 : decide ((strOfNums y334).size + x3_1.size ≤ 9223372036854775807) = true := decide_eq_true c4
   try have c4b2 : (9223372036854775807 < (strOfNums y334).size + x3_1.size) = False := eq_false (Nat.not_lt.2 c4)
   have H' := Ah H
   clear H
   go_wp2_with (first | ((with_reducible refine gate_dst (N := 12) rfl ?_); refine Kd.R_lit (Kd.int .u8) _ 5 ?hg (N := 12) ?hd (xs := ([(wrap64 (48 + (Int.tmod x0_1 10))) % 256] : List Int)) (inner := [.int .u8 ((wrap64 (48 + (Int.tmod x0_1 10))) % 256)]) (ok := fun _ => True) (okp := fun _ => True) ?hr ?hp (fun _ hk => hk) trivial (Below.refl _ _) (Nat.le_refl _) (by simp) ?_; (case hd => rfl); (case hg => rfl); (case hr => first | (go_simp; done) | (go_simp; rfl)); (case hp => exact (Reps.one (show Kd.M (Kd.int .u8) _ _ _ ((wrap64 (48 + (Int.tmod x0_1 10))) % 256) [.int .u8 ((wrap64 (48 + (Int.tmod x0_1 10))) % 256)] from rfl) (Reps.none _ _))); intro v335 w5 ho6 hb hg_ hnew_; clear hg_ hnew_; (first | rw [← Ny334.out] at ho6 | (simp only [Int.reduceToNat] at ho6; rw [← Ny334.out] at ho6)); have HO336 := Ah (Kd.R_lower ho6 (below_size (bs HB))); replace HB := Ah (below_step (bs HB) hb); clear hb ho6; have hcv7 := own_string (P := Tryd.prog) Tryd.underlying94 Tryd.underlying5 Tryd.underlying9 (Kd.own_of_R HO336.out)))
   go_roundg k1
   case measure => have := HK1.out; omega
   case rel => exact ⟨(wrap64 (Int.tdiv x0_1 10)), ((strOfNums y334) ++ x3_1), e3, e3, H', ⟨by have := HK1.out; omega⟩, ⟨bs HB⟩⟩

/-! ### laws_markNameS: function 48 -/
def laws_markNameS.l0 : Nat → List (S53) → Int → Int → Option (Int × (List (S53)))
 | 0, _, _, _ => none
 | k + 1, x0, x1, x5 => if x5 < (x0.length : Int) then ((laws_markText.f k x1).bind fun t337 => (if 0 ≤ x5 then ((some (x0.set (x5 : Int).toNat (⟨t337, (rd_T53 x0 x5).f1⟩ : S53) : List (S53))).bind fun y338 => (laws_markNameS.l0 k (y338.set (x5 : Int).toNat (⟨(rd_T53 y338 x5).f0, wrap64 (x1 + 1)⟩ : S53)) (wrap64 ((wrap64 (x1 + 1)) + 1)) (wrap64 (x5 + 1)))) else (none))) else (some (x1, x0))
def laws_markNameS.f (k : Nat) (l0 : List (S53)) (a1 : Int) : Option (Int × (List (S53))) := laws_markNameS.l0 k l0 a1 0
theorem laws_markNameS.mono_l : ∀ k, (∀ y0 y1 y2, LeO (laws_markNameS.l0 k y0 y1 y2) (laws_markNameS.l0 (k + 1) y0 y1 y2))
 | 0 => fun _ _ _ r h => by simp [laws_markNameS.l0] at h
 | k + 1 => by
  have ih0 := laws_markNameS.mono_l k
  ·
   intro y0 y1 y2
   unfold laws_markNameS.l0
   repeat' first
   | (with_reducible exact ih0 _ _ _)
   | (with_reducible exact laws_markText.mono _ _)
   | (with_reducible exact LeO.refl _)
   | (with_reducible exact LeO.none _)
   | (with_reducible refine LeO.ite ?_ ?_)
   | (with_reducible refine LeO.bind ?_ (fun _ => ?_))
   | exact ih0 _ _ _
   | exact laws_markText.mono _ _
   | exact LeO.none _
   | refine LeO.ite ?_ ?_
   | refine LeO.bind ?_ (fun _ => ?_)
theorem laws_markNameS.mono : ∀ a0 a1 k, LeO (laws_markNameS.f k a0 a1) (laws_markNameS.f (k + 1) a0 a1) := by
 intro a0 a1 k
 have ih0 := laws_markNameS.mono_l k
 unfold laws_markNameS.f
 repeat' first
   | (with_reducible exact ih0 _ _ _)
   | (with_reducible exact laws_markText.mono _ _)
   | (with_reducible exact LeO.refl _)
   | (with_reducible exact LeO.none _)
   | (with_reducible refine LeO.ite ?_ ?_)
   | (with_reducible refine LeO.bind ?_ (fun _ => ?_))
   | exact ih0 _ _ _
   | exact laws_markText.mono _ _
   | exact LeO.none _
   | refine LeO.ite ?_ ?_
   | refine LeO.bind ?_ (fun _ => ?_)
set_option maxHeartbeats 8000000 in
set_option maxRecDepth 100000 in
theorem laws_markNameS.calls (k : Nat) (P0_ : Nat → Prop) (u9000_ : Value) (l0 : List (S53)) (a1 : Int) (r1 : Int) (r2 : List (S53)) (w0 w : World) (hB : Below w0.heap.size w0 w) (ho0 : Kd.R k53 53 w w0.heap.size P0_ u9000_ l0) (h : laws_markNameS.f k l0 a1 = some (r1, r2)) :
  Calls Tryd.prog 48 #[u9000_, .int .i64 a1] w fun e w' => e = .returned (.int .i64 r1) ∧ Kd.R k53 53 w' w0.heap.size (fun k_ => (P0_ k_ ∨ w.heap.size ≤ k_)) u9000_ r2 ∧ Below w0.heap.size w0 w' ∧ Kept w w' (fun k_ => P0_ k_) := by
 have HO0 := Ah (show Kd.R k53 53 w w0.heap.size (fun k_ => (P0_ k_ ∨ w.heap.size ≤ k_)) u9000_ l0 from Kd.R_mono ho0 (fun k_ hk => (.inl hk)))
 have HK := Ah (Kept.refl w (fun k_ => P0_ k_))
 have HW0 := Ah hB.size
 have HB := Ah hB
 clear hB
 have H : (laws_markNameS.l0 k l0 a1 0) = some (r1, r2) := h
 clear h
 have H' := Ah H
 clear H
 go_enter Tryd.func48, Tryd.ntmps48
 go_wp2
 go_loopg [1, 5] k (fun kq v1 v5 w' => ∃ (x0_1 : List (S53)) (x1_1 : Int) (x5_1 : Int), v1 = .int .i64 x1_1 ∧ v5 = .int .i64 x5_1 ∧ Aside0 (laws_markNameS.l0 kq x0_1 x1_1 x5_1 = some (r1, r2)) ∧ Aside0 (kq ≤ k) ∧ Aside0 (Kd.R k53 53 w' w0.heap.size (fun k_ => (P0_ k_ ∨ w.heap.size ≤ k_)) u9000_ x0_1) ∧ Aside0 (Kept w w' (fun k_ => P0_ k_)) ∧ Aside0 (Below w0.heap.size w0 w'))
 case atStart => exact ⟨(l0), (a1), (0), e3, e3, H', ⟨Nat.le_refl _⟩, ⟨rr HO0.out⟩, ⟨by repeat (first | (with_reducible first | exact HK.out | apply Kept.alloc | apply Kept.drewN | apply Kept.drew) | exact HK.out)⟩, ⟨bs HB⟩⟩
 case round =>
  clear H'
  try clear p2
  obtain ⟨x0_1, x1_1, x5_1, rfl, rfl, HA, HK1, HO_0, HK, HB⟩ := hrel
  cases gk with
  | zero => exact absurd HA.out (by simp [laws_markNameS.l0])
  | succ k1 =>
   have H := HA.out
   clear HA
   simp only [laws_markNameS.l0] at H
   by_cases c3 : x5_1 < (x0_1.length : Int)
   rotate_left
   ·
    rw [if_neg c3] at H
    have c3b0 : decide (x5_1 < (x0_1.length : Int)) = false := decide_eq_false c3
    clear c3
    simp only [Option.some.injEq, Prod.mk.injEq] at H
    obtain ⟨rfl, rfl⟩ := H
    obtain ⟨Ao14, co14, eo14⟩ := Kd.R_slice HO_0.out
    subst eo14
    go_wp2
    go_ret
    exact ⟨er, by (with_reducible repeat (first | apply Kd.R_alloc | apply Kd.R_drewN | apply Kd.R_drew)); exact HO_0.out, bs HB, by repeat (first | (with_reducible first | exact HK.out | apply Kept.alloc | apply Kept.drewN | apply Kept.drew) | exact HK.out)⟩
   rw [if_pos c3] at H
   have c3b0 : decide (x5_1 < (x0_1.length : Int)) = true := decide_eq_true c3
   clear c3
   replace H := Option.bind_eq_some_iff.mp H
   obtain ⟨t337, A40, H⟩ := H
   try dsimp only at H
   have A4 := Ah A40
   clear A40
   by_cases c5 : 0 ≤ x5_1
   rotate_left
   ·
    rw [if_neg c5] at H
    exact absurd H (by simp)
   rw [if_pos c5] at H
   have c5b0 : decide (0 ≤ x5_1) = true := decide_eq_true c5
   clear c5
   obtain ⟨y338, hy338⟩ : ∃ y_ : List (S53), y_ = (x0_1.set (x5_1 : Int).toNat (⟨t337, (rd_T53 x0_1 x5_1).f1⟩ : S53)) := ⟨_, rfl⟩
   replace H : (laws_markNameS.l0 k1 (y338.set (x5_1 : Int).toNat (⟨(rd_T53 y338 x5_1).f0, wrap64 (x1_1 + 1)⟩ : S53)) (wrap64 ((wrap64 (x1_1 + 1)) + 1)) (wrap64 (x5_1 + 1))) = some (r1, r2) := by first | (rw [hy338]; with_reducible exact H) | (have H2_ := (Option.bind_some _ _).symm.trans H; rw [hy338]; with_reducible exact H2_) | (have H2_ := (Option.bind_some _ _).symm.trans H; with_reducible exact H2_) | with_reducible exact H | (rw [hy338]; exact H) | exact H
   have Ny338 := Ah hy338
   clear hy338
   obtain ⟨y339, hy339⟩ : ∃ y_ : List (S53), y_ = (y338.set (x5_1 : Int).toNat (⟨(rd_T53 y338 x5_1).f0, wrap64 (x1_1 + 1)⟩ : S53)) := ⟨_, rfl⟩
   replace H : (laws_markNameS.l0 k1 y339 (wrap64 ((wrap64 (x1_1 + 1)) + 1)) (wrap64 (x5_1 + 1))) = some (r1, r2) := by first | (rw [hy339]; with_reducible exact H) | (have H2_ := (Option.bind_some _ _).symm.trans H; rw [hy339]; with_reducible exact H2_) | (have H2_ := (Option.bind_some _ _).symm.trans H; with_reducible exact H2_) | with_reducible exact H | (rw [hy339]; exact H) | exact H
   have Ny339 := Ah hy339
   clear hy339
   have H' := Ah H
   clear H
   obtain ⟨Ao8, co8, eo8⟩ := Kd.R_slice HO_0.out
   subst eo8
   go_wp2_with (first | ((with_reducible refine gate_callee (f := 62) rfl ?_); refine gL (some 15) rfl rfl Tryd.func62 (by kernel_rfl) rfl #[.int .i64 x1_1] rfl ?_; (with_reducible refine (laws_markText.calls k1 x1_1 t337 _ A4.out).mono ?_); rintro e w9 ⟨rfl, hb⟩; refine ⟨_, rfl, ?_⟩; replace HO_0 := nr HO_0 hb; replace HK := Ah (Kept.below (S := (fun k_ => P0_ k_)) (by repeat (first | (with_reducible first | exact HK.out | apply Kept.alloc | apply Kept.drewN | apply Kept.drew) | exact HK.out)) hb); replace HB := Ah (below_step (bs HB) hb); (try clear hb); have p6 : 0 ≤ (x5_1 : Int) := od; have q6 : (x5_1 : Int) < ((x0_1.length : Int) : Int) := od; obtain ⟨go6, co6, eo6, gb6, gl6, cl6, HG6⟩ := Kd.R_form HO_0.out (by omega); (first | cases eo6 | (injection eo6 with ea_ en_ ec_; (first | subst ea_ | (injection ea_ with ea_; subst ea_)); subst ec_; clear en_)); have GB6 := Ah gb6; have GG6 := Ah HG6; clear gb6 gl6 HG6; have HMgo6 := Ah (show (P0_ go6 ∨ w.heap.size ≤ go6) from (HO_0.out.1 _ rfl)); obtain ⟨ce6, hcl6, hM6, hcc6, hfr6⟩ := Kd.R_elem HO_0.out z53 (x5_1 : Int) p6 q6; obtain rfl := k53_openM hM6; have hx6_0 : w9.cell? ⟨go6, (x5_1 : Int).toNat * 2, none⟩ = some (.string ((rd_T53 x0_1 x5_1).f0)) := hcc6 0 _ rfl; have hx6_1 : w9.cell? ⟨go6, (x5_1 : Int).toNat * 2 + 1, none⟩ = some (.int .i64 ((rd_T53 x0_1 x5_1).f1)) := hcc6 1 _ rfl; have hf6_0 : w9.frozen? ⟨go6, (x5_1 : Int).toNat * 2, none⟩ = false := hfr6 0; have hf6_1 : w9.frozen? ⟨go6, (x5_1 : Int).toNat * 2 + 1, none⟩ = false := hfr6 1; clear hcl6 hcc6 hfr6 hM6; replace p6 := eq_true p6; replace q6 := eq_true q6; have HX10 := Ah (show Kd.R k53 53 w9 w0.heap.size (fun k_ => (P0_ k_ ∨ w.heap.size ≤ k_)) (.slice (some ⟨go6, 0, none⟩) x0_1.length co8) x0_1 from (rr HO_0.out)); obtain ⟨ce10, hcl10, hM10, hcc10, hfr10⟩ := Kd.R_elem HX10.out z53 (x5_1 : Int) (od) (by have h_ : (x5_1 : Int) < ((x0_1.length : Int) : Int) := od; first | exact h_ | (have e_ := (Kd.R_reads' HO_0.out).1; omega) | simpa using h_); obtain rfl := k53_openM hM10; have HP10 := Kd.R_seg HX10.out (x5_1 : Int) (od) (by have h_ : (x5_1 : Int) < ((x0_1.length : Int) : Int) := od; first | exact h_ | (have e_ := (Kd.R_reads' HO_0.out).1; omega) | simpa using h_) (seg := [.string t337]) (j := 0) hcl10 hcc10 (show 1 ≤ 2 from by decide) (x' := (⟨t337, (rd_T53 x0_1 x5_1).f1⟩ : S53)) (k53_mkM _ _ _ (⟨t337, (rd_T53 x0_1 x5_1).f1⟩ : S53) ) (fun _ hk => hk); have hx10_0 := hcc10 0 _ rfl; (try simp only [show (k53).sz = 2 from rfl, Nat.mul_one, Nat.add_zero] at hx10_0); have hf10_0 := hfr10 0; (try simp only [show (k53).sz = 2 from rfl, Nat.mul_one, Nat.add_zero] at hf10_0); clear hcl10 hcc10 hfr10 hM10) | ((with_reducible refine gate_store (t := 9) (p := 17) rfl ?_); refine store_event (t := 9) (p := 17) (v := ?vo_w11) (w1 := (w9.setCell ⟨go6, (x5_1 : Int).toNat * 2, none⟩ (.string t337))) ?hg ?ho ?hn ?hr ?_; (case ho => rfl); (case hg => rfl); (case hn => rfl); (case hr => first | (go_simp; done) | (go_simp; rfl)); intro w11 hw; have hg : w9.grownBy w11 (some go6) := (by rw [hw]; exact HP10.2); have hp_ : Kd.R k53 53 w11 w0.heap.size (fun k_ => (P0_ k_ ∨ w.heap.size ≤ k_)) (.slice (some ⟨go6, 0, none⟩) x0_1.length co8) y338 := (by rw [hw, Ny338.out]; exact HP10.1); clear HP10; replace HB := Ah ((by rw [hw]; exact below_set (HB.out) GB6.out : Below w0.heap.size w0 w11)); replace HK := Ah (Kept.of_grown (S := (fun k_ => P0_ k_)) hg (by repeat (first | (with_reducible first | exact HK.out | apply Kept.alloc | apply Kept.drewN | apply Kept.drew) | exact HK.out)) (fun k_ e_ => (HO_0.out.1 k_ e_))); replace HO_0 := Ah (hp_); clear hg hw hp_; have p7 : 0 ≤ (x5_1 : Int) := od; have q7 : (x5_1 : Int) < ((x0_1.length : Int) : Int) := od; obtain ⟨ce7, hcl7, hM7, hcc7, hfr7⟩ := Kd.R_elem HO_0.out z53 (x5_1 : Int) p7 q7; obtain rfl := k53_openM hM7; have hx7_0 : w11.cell? ⟨go6, (x5_1 : Int).toNat * 2, none⟩ = some (.string ((rd_T53 y338 x5_1).f0)) := hcc7 0 _ rfl; have hx7_1 : w11.cell? ⟨go6, (x5_1 : Int).toNat * 2 + 1, none⟩ = some (.int .i64 ((rd_T53 y338 x5_1).f1)) := hcc7 1 _ rfl; have hf7_0 : w11.frozen? ⟨go6, (x5_1 : Int).toNat * 2, none⟩ = false := hfr7 0; have hf7_1 : w11.frozen? ⟨go6, (x5_1 : Int).toNat * 2 + 1, none⟩ = false := hfr7 1; clear hcl7 hcc7 hfr7 hM7; replace p7 := eq_true p7; replace q7 := eq_true q7; have HX12 := Ah (show Kd.R k53 53 w11 w0.heap.size (fun k_ => (P0_ k_ ∨ w.heap.size ≤ k_)) (.slice (some ⟨go6, 0, none⟩) x0_1.length co8) y338 from (rr HO_0.out)); obtain ⟨ce12, hcl12, hM12, hcc12, hfr12⟩ := Kd.R_elem HX12.out z53 (x5_1 : Int) (od) (by have h_ : (x5_1 : Int) < ((x0_1.length : Int) : Int) := od; first | exact h_ | (have e_ := (Kd.R_reads' HO_0.out).1; omega) | simpa using h_); obtain rfl := k53_openM hM12; have HP12 := Kd.R_seg HX12.out (x5_1 : Int) (od) (by have h_ : (x5_1 : Int) < ((x0_1.length : Int) : Int) := od; first | exact h_ | (have e_ := (Kd.R_reads' HO_0.out).1; omega) | simpa using h_) (seg := [.int .i64 (wrap64 (x1_1 + 1))]) (j := 1) hcl12 hcc12 (show 2 ≤ 2 from by decide) (x' := (⟨(rd_T53 y338 x5_1).f0, wrap64 (x1_1 + 1)⟩ : S53)) (k53_mkM _ _ _ (⟨(rd_T53 y338 x5_1).f0, wrap64 (x1_1 + 1)⟩ : S53) ) (fun _ hk => hk); have hx12_1 := hcc12 1 _ rfl; (try simp only [show (k53).sz = 2 from rfl, Nat.mul_one, Nat.add_zero] at hx12_1); have hf12_1 := hfr12 1; (try simp only [show (k53).sz = 2 from rfl, Nat.mul_one, Nat.add_zero] at hf12_1); clear hcl12 hcc12 hfr12 hM12) | ((with_reducible refine gate_store (t := 3) (p := 24) rfl ?_); refine store_event (t := 3) (p := 24) (v := ?vo_w13) (w1 := (w11.setCell ⟨go6, (x5_1 : Int).toNat * 2 + 1, none⟩ (.int .i64 (wrap64 (x1_1 + 1))))) ?hg ?ho ?hn ?hr ?_; (case ho => rfl); (case hg => rfl); (case hn => rfl); (case hr => first | (go_simp; done) | (go_simp; rfl)); intro w13 hw; have hg : w11.grownBy w13 (some go6) := (by rw [hw]; exact HP12.2); have hp_ : Kd.R k53 53 w13 w0.heap.size (fun k_ => (P0_ k_ ∨ w.heap.size ≤ k_)) (.slice (some ⟨go6, 0, none⟩) x0_1.length co8) y339 := (by rw [hw, Ny339.out]; exact HP12.1); clear HP12; replace HB := Ah ((by rw [hw]; exact below_set (HB.out) GB6.out : Below w0.heap.size w0 w13)); replace HK := Ah (Kept.of_grown (S := (fun k_ => P0_ k_)) hg (by repeat (first | (with_reducible first | exact HK.out | apply Kept.alloc | apply Kept.drewN | apply Kept.drew) | exact HK.out)) (fun k_ e_ => (HO_0.out.1 k_ e_))); replace HO_0 := Ah (hp_); clear hg hw hp_))
   go_roundg k1
   case measure => have := HK1.out; omega
   case rel => exact ⟨(y339), (wrap64 ((wrap64 (x1_1 + 1)) + 1)), (wrap64 (x5_1 + 1)), e3, e3, H', ⟨by have := HK1.out; omega⟩, ⟨rr HO_0.out⟩, ⟨by repeat (first | (with_reducible first | exact HK.out | apply Kept.alloc | apply Kept.drewN | apply Kept.drew) | exact HK.out)⟩, ⟨bs HB⟩⟩

-- NOT PRINTED: function 28 (laws_markBucketS)

-- NOT PRINTED: function 9 (laws_markDir)

/-! ### laws_heldIntS: function 29 -/
def laws_heldIntS.l0 : Nat → List Int → Int → Int → Option (Int)
 | 0, _, _, _ => none
 | k + 1, x0, x1, x5 => if x5 < (x0.length : Int) then (if 0 ≤ x5 then (if (rd x0 x5) = x1 then (laws_heldIntS.l0 k x0 (wrap64 (x1 + 1)) (wrap64 (x5 + 1))) else (some (-1))) else (none)) else (some x1)
def laws_heldIntS.f (k : Nat) (l0 : List Int) (a1 : Int) : Option (Int) := laws_heldIntS.l0 k l0 a1 0
theorem laws_heldIntS.mono_l : ∀ k, (∀ y0 y1 y2, LeO (laws_heldIntS.l0 k y0 y1 y2) (laws_heldIntS.l0 (k + 1) y0 y1 y2))
 | 0 => fun _ _ _ r h => by simp [laws_heldIntS.l0] at h
 | k + 1 => by
  have ih0 := laws_heldIntS.mono_l k
  ·
   intro y0 y1 y2
   unfold laws_heldIntS.l0
   repeat' first
   | (with_reducible exact ih0 _ _ _)
   | (with_reducible exact LeO.refl _)
   | (with_reducible exact LeO.none _)
   | (with_reducible refine LeO.ite ?_ ?_)
   | (with_reducible refine LeO.bind ?_ (fun _ => ?_))
   | exact ih0 _ _ _
   | exact LeO.none _
   | refine LeO.ite ?_ ?_
   | refine LeO.bind ?_ (fun _ => ?_)
theorem laws_heldIntS.mono : ∀ a0 a1 k, LeO (laws_heldIntS.f k a0 a1) (laws_heldIntS.f (k + 1) a0 a1) := by
 intro a0 a1 k
 have ih0 := laws_heldIntS.mono_l k
 unfold laws_heldIntS.f
 repeat' first
   | (with_reducible exact ih0 _ _ _)
   | (with_reducible exact LeO.refl _)
   | (with_reducible exact LeO.none _)
   | (with_reducible refine LeO.ite ?_ ?_)
   | (with_reducible refine LeO.bind ?_ (fun _ => ?_))
   | exact ih0 _ _ _
   | exact LeO.none _
   | refine LeO.ite ?_ ?_
   | refine LeO.bind ?_ (fun _ => ?_)
set_option maxHeartbeats 8000000 in
set_option maxRecDepth 100000 in
theorem laws_heldIntS.calls (k : Nat) (A0 : Option Addr) (c0 : Nat) (l0 : List Int) (a1 : Int) (r : Int) (w : World) (hr0 : Kd.C (Kd.int .i64) w A0 l0.length l0) (hc0 : l0.length ≤ c0) (h : laws_heldIntS.f k l0 a1 = some r) :
  Calls Tryd.prog 29 #[.slice A0 l0.length c0, .int .i64 a1] w fun e w' => e = .returned (.int .i64 r) ∧ Drawn0 w w' := by
 have HR0 := Ah hr0
 have HC0 := Ah hc0
 clear hr0 hc0
 have H : (laws_heldIntS.l0 k l0 a1 0) = some r := h
 clear h
 have H' := Ah H
 clear H
 go_enter Tryd.func29, Tryd.ntmps29
 go_wp2
 go_loopg [1, 5] k (fun kq v1 v5 w' => ∃ (x1_1 : Int) (x5_1 : Int), v1 = .int .i64 x1_1 ∧ v5 = .int .i64 x5_1 ∧ Aside0 (laws_heldIntS.l0 kq l0 x1_1 x5_1 = some r) ∧ Aside0 (kq ≤ k) ∧ Drawn0 w w')
 case atStart => exact ⟨(a1), (0), e3, e3, H', ⟨Nat.le_refl _⟩, by repeat (first | exact Drawn0.refl _ | apply Drawn0.step)⟩
 case round =>
  clear H'
  try clear c2
  try clear p2
  obtain ⟨x1_1, x5_1, rfl, rfl, HA, HK1, ⟨m1, rfl⟩⟩ := hrel
  cases gk with
  | zero => exact absurd HA.out (by simp [laws_heldIntS.l0])
  | succ k1 =>
   have H := HA.out
   clear HA
   simp only [laws_heldIntS.l0] at H
   by_cases c3 : x5_1 < (l0.length : Int)
   rotate_left
   ·
    rw [if_neg c3] at H
    have c3b0 : decide (x5_1 < (l0.length : Int)) = false := decide_eq_false c3
    clear c3
    obtain rfl := Option.some.inj H
    go_wp2
    go_ret
    exact ⟨e3, by repeat (first | exact Drawn0.refl _ | apply Drawn0.step)⟩
   rw [if_pos c3] at H
   have c3b0 : decide (x5_1 < (l0.length : Int)) = true := decide_eq_true c3
   clear c3
   by_cases c4 : 0 ≤ x5_1
   rotate_left
   ·
    rw [if_neg c4] at H
    exact absurd H (by simp)
   rw [if_pos c4] at H
   have c4b0 : decide (0 ≤ x5_1) = true := decide_eq_true c4
   clear c4
   by_cases c5 : (rd l0 x5_1) = x1_1
   rotate_left
   ·
    rw [if_neg c5] at H
    have c5b0 : ((rd l0 x5_1) == x1_1) = false := beq_eq_false_iff_ne.mpr c5
    have c5b1 : ((rd l0 x5_1) != x1_1) = true := bne_iff_ne.mpr c5
    obtain rfl := Option.some.inj H
    have p345 : 0 ≤ (x5_1 : Int) := od
    have q345 : x5_1 < (l0.length : Int) := od
    obtain ⟨ad345, e345, hx345_0⟩ := Kd.at_int HR0.out x5_1 p345 q345
    cases e345
    replace p345 := eq_true p345
    replace q345 := eq_true q345
    go_wp2
    go_ret
    exact ⟨e3, by repeat (first | exact Drawn0.refl _ | apply Drawn0.step)⟩
   rw [if_pos c5] at H
   have c5b0 : ((rd l0 x5_1) == x1_1) = true := beq_iff_eq.mpr c5
   have c5b1 : ((rd l0 x5_1) != x1_1) = false := bne_eq_false_iff_eq.mpr c5
   clear c5
   have H' := Ah H
   clear H
   have p345 : 0 ≤ (x5_1 : Int) := od
   have q345 : x5_1 < (l0.length : Int) := od
   obtain ⟨ad345, e345, hx345_0⟩ := Kd.at_int HR0.out x5_1 p345 q345
   cases e345
   replace p345 := eq_true p345
   replace q345 := eq_true q345
   go_wp2
   go_roundg k1
   case measure => have := HK1.out; omega
   case rel => exact ⟨(wrap64 (x1_1 + 1)), (wrap64 (x5_1 + 1)), e3, e3, H', ⟨by have := HK1.out; omega⟩, by repeat (first | exact Drawn0.refl _ | apply Drawn0.step)⟩

/-! ### laws_heldNameS: function 49 -/
def laws_heldNameS.l0 : Nat → List (S53) → Int → Int → Option (Int)
 | 0, _, _, _ => none
 | k + 1, x0, x1, x5 => if x5 < (x0.length : Int) then (if 0 ≤ x5 then ((laws_markText.f k x1).bind fun t347 => (if ((rd_T53 x0 x5).f0).toList = t347.toList then (if ((rd_T53 x0 x5).f1) = (wrap64 (x1 + 1)) then (laws_heldNameS.l0 k x0 (wrap64 ((wrap64 (x1 + 1)) + 1)) (wrap64 (x5 + 1))) else (some (-1))) else (some (-1)))) else (none)) else (some x1)
def laws_heldNameS.f (k : Nat) (l0 : List (S53)) (a1 : Int) : Option (Int) := laws_heldNameS.l0 k l0 a1 0
theorem laws_heldNameS.mono_l : ∀ k, (∀ y0 y1 y2, LeO (laws_heldNameS.l0 k y0 y1 y2) (laws_heldNameS.l0 (k + 1) y0 y1 y2))
 | 0 => fun _ _ _ r h => by simp [laws_heldNameS.l0] at h
 | k + 1 => by
  have ih0 := laws_heldNameS.mono_l k
  ·
   intro y0 y1 y2
   unfold laws_heldNameS.l0
   repeat' first
   | (with_reducible exact ih0 _ _ _)
   | (with_reducible exact laws_markText.mono _ _)
   | (with_reducible exact LeO.refl _)
   | (with_reducible exact LeO.none _)
   | (with_reducible refine LeO.ite ?_ ?_)
   | (with_reducible refine LeO.bind ?_ (fun _ => ?_))
   | exact ih0 _ _ _
   | exact laws_markText.mono _ _
   | exact LeO.none _
   | refine LeO.ite ?_ ?_
   | refine LeO.bind ?_ (fun _ => ?_)
theorem laws_heldNameS.mono : ∀ a0 a1 k, LeO (laws_heldNameS.f k a0 a1) (laws_heldNameS.f (k + 1) a0 a1) := by
 intro a0 a1 k
 have ih0 := laws_heldNameS.mono_l k
 unfold laws_heldNameS.f
 repeat' first
   | (with_reducible exact ih0 _ _ _)
   | (with_reducible exact laws_markText.mono _ _)
   | (with_reducible exact LeO.refl _)
   | (with_reducible exact LeO.none _)
   | (with_reducible refine LeO.ite ?_ ?_)
   | (with_reducible refine LeO.bind ?_ (fun _ => ?_))
   | exact ih0 _ _ _
   | exact laws_markText.mono _ _
   | exact LeO.none _
   | refine LeO.ite ?_ ?_
   | refine LeO.bind ?_ (fun _ => ?_)
def laws_heldNameS.T4 : Bool × List (List Nat × List Nat) := (true, [([], []), ([], []), ([0, 1], [0, 1]), ([2], [2]), ([3], [3]), ([], []), ([5], [5]), ([4, 6], [4, 6])])
def laws_heldNameS.B4 : List Nat := [0, 0, 3, 7, 15, 0, 32, 127]
theorem laws_heldNameS.tab4 : rtab .any (opsOf Tryd.f49 4) = laws_heldNameS.T4 := by kernel_rfl
theorem laws_heldNameS.bits4 : waitsOk laws_heldNameS.T4.2 laws_heldNameS.B4 = true := by kernel_rfl
set_option maxHeartbeats 8000000 in
set_option maxRecDepth 100000 in
theorem laws_heldNameS.calls (k : Nat) (A0 : Option Addr) (c0 : Nat) (l0 : List (S53)) (a1 : Int) (r : Int) (w : World) (hr0 : Kd.C k53 w A0 l0.length l0) (hc0 : l0.length ≤ c0) (h : laws_heldNameS.f k l0 a1 = some r) :
  Calls Tryd.prog 49 #[.slice A0 l0.length c0, .int .i64 a1] w fun e w' => e = .returned (.int .i64 r) ∧ Below w.heap.size w w' := by
 have HR0 := Ah hr0
 have HC0 := Ah hc0
 clear hr0 hc0
 have HB := Ah (Below.refl w.heap.size w)
 have H : (laws_heldNameS.l0 k l0 a1 0) = some r := h
 clear h
 have H' := Ah H
 clear H
 go_enter Tryd.func49, Tryd.ntmps49
 go_wp2
 go_loopg [1, 5] k (fun kq v1 v5 w' => ∃ (x1_1 : Int) (x5_1 : Int), v1 = .int .i64 x1_1 ∧ v5 = .int .i64 x5_1 ∧ Aside0 (laws_heldNameS.l0 kq l0 x1_1 x5_1 = some r) ∧ Aside0 (kq ≤ k) ∧ Aside0 (Below w.heap.size w w'))
 case atStart => exact ⟨(a1), (0), e3, e3, H', ⟨Nat.le_refl _⟩, ⟨bs HB⟩⟩
 case round =>
  clear H'
  try clear p2
  obtain ⟨x1_1, x5_1, rfl, rfl, HA, HK1, HB⟩ := hrel
  cases gk with
  | zero => exact absurd HA.out (by simp [laws_heldNameS.l0])
  | succ k1 =>
   have H := HA.out
   clear HA
   simp only [laws_heldNameS.l0] at H
   by_cases c3 : x5_1 < (l0.length : Int)
   rotate_left
   ·
    rw [if_neg c3] at H
    have c3b0 : decide (x5_1 < (l0.length : Int)) = false := decide_eq_false c3
    clear c3
    obtain rfl := Option.some.inj H
    go_wp2
    go_ret
    exact ⟨er, bs HB⟩
   rw [if_pos c3] at H
   have c3b0 : decide (x5_1 < (l0.length : Int)) = true := decide_eq_true c3
   clear c3
   by_cases c4 : 0 ≤ x5_1
   rotate_left
   ·
    rw [if_neg c4] at H
    exact absurd H (by simp)
   rw [if_pos c4] at H
   have c4b0 : decide (0 ≤ x5_1) = true := decide_eq_true c4
   clear c4
   replace H := Option.bind_eq_some_iff.mp H
   obtain ⟨t347, A50, H⟩ := H
   try dsimp only at H
   have A5 := Ah A50
   clear A50
   by_cases c6 : ((rd_T53 l0 x5_1).f0).toList = t347.toList
   rotate_left
   ·
    rw [if_neg c6] at H
    have c6b0 : (((rd_T53 l0 x5_1).f0).toList == t347.toList) = false := beq_eq_false_iff_ne.mpr c6
    have c6b1 : (((rd_T53 l0 x5_1).f0).toList != t347.toList) = true := bne_iff_ne.mpr c6
    obtain rfl := Option.some.inj H
    try go_wp2
    have n0_ := Ah (below_drew1 HB.out)
    clear HB
    have HB := n0_
    clear n0_
    have p346 : 0 ≤ (x5_1 : Int) := od
    have q346 : x5_1 < (l0.length : Int) := od
    obtain ⟨ad346, e346, hx346_0, hx346_1⟩ := at_T53 HR0.out x5_1 p346 q346
    have hw346_1 := hx346_1
    have hw346_0 := hx346_0
    cases e346
    replace hx346_0 := (HB.out.cell (World.block_lt_of_cell? w _ hx346_0)).trans hx346_0
    replace hx346_1 := (HB.out.cell (World.block_lt_of_cell? w _ hx346_1)).trans hx346_1
    replace p346 := eq_true p346
    replace q346 := eq_true q346
    refine start_ (n := 8) (S := fun w' => w'.cell? (ad346.add ((x5_1).toNat * 2)) = some (.string ((rd_T53 l0 x5_1).f0)) ∧ w'.cell? ⟨(ad346.add ((x5_1).toNat * 2)).block, (ad346.add ((x5_1).toNat * 2)).off + 1, none⟩ = some (.int .i64 ((rd_T53 l0 x5_1).f1))) (ds := []) #[false, false, false, false, false, false, false, false] (by kernel_rfl) rfl rfl ⟨((HB.out.cell (World.block_lt_of_cell? w _ hw346_0)).trans hw346_0), ((HB.out.cell (World.block_lt_of_cell? w _ hw346_1)).trans hw346_1)⟩ (fun hHeld => ?_); refine with_tabW laws_heldNameS.tab4 laws_heldNameS.bits4 (fun HT_ HW_ => ?_)
    generalize wr.drew = w12 at HB hx346_0 hx346_1 hHeld ⊢
    refine pureS 0 12 HT_.out ?_
    refine pureS 1 13 HT_.out ?_
    refine pureS 2 14 HT_.out ?_
    refine pureS 3 15 HT_.out ?_
    refine pureS 5 17 HT_.out ?_
    refine takeS 4 16 HT_.out HW_.out hHeld (hr := by rintro w' ⟨s0, s1⟩; go_simp; with_reducible rfl) (h := ?_)
    refine one_ (i := 6) (N := some 18) #[true, true, true, true, true, true, true, false] rfl rfl (one_of HT_.out (by kernel_rfl)) (by decide) (fun K hK => ?_)
    refine goes_ Tryd.func62 (by kernel_rfl) rfl #[.int .i64 x1_1] (by rfl) rfl rfl (by (try simp only [List.map_toArray, List.map_cons, List.map_nil]); first | done | rfl | (simp only [List.length_drop, List.length_take]; rfl)) ?_
    with_reducible refine (laws_markText.calls k1 x1_1 t347 _ A5.out).mono ?_
    rintro e w13 ⟨rfl, hb⟩
    refine ⟨_, rfl, ?_⟩
    have n0_ := Ah (below_step (bs HB) hb)
    clear HB
    have HB := n0_
    clear n0_
    (try clear hb)
    (try clear hb2)
    (try clear hk)
    (try clear hi)
    refine hK.out _ _ ⟨((HB.out.cell (World.block_lt_of_cell? w _ hw346_0)).trans hw346_0), ((HB.out.cell (World.block_lt_of_cell? w _ hw346_1)).trans hw346_1)⟩ (fun hHeld => ?_)
    clear hK K
    refine norm_ (a' := ?_) ?_ ?_
    rotate_left
    ·
     show Act.put _ (some 18) _ = _
     simp only [Act.put, List.setIfInBounds_toArray, List.set_cons_zero, List.set_cons_succ, i64_w, i32_w]
     rfl
    refine pureS 7 19 HT_.out ?_
    refine done_ (done_of HT_.out (by kernel_rfl)) ?_
    try go_wp2
    go_ret
    exact ⟨er, bs HB⟩
   rw [if_pos c6] at H
   have c6b0 : (((rd_T53 l0 x5_1).f0).toList == t347.toList) = true := beq_iff_eq.mpr c6
   have c6b1 : (((rd_T53 l0 x5_1).f0).toList != t347.toList) = false := bne_eq_false_iff_eq.mpr c6
   clear c6
   by_cases c7 : ((rd_T53 l0 x5_1).f1) = (wrap64 (x1_1 + 1))
   rotate_left
   ·
    rw [if_neg c7] at H
    have c7b0 : (((rd_T53 l0 x5_1).f1) == (wrap64 (x1_1 + 1))) = false := beq_eq_false_iff_ne.mpr c7
    have c7b1 : (((rd_T53 l0 x5_1).f1) != (wrap64 (x1_1 + 1))) = true := bne_iff_ne.mpr c7
    obtain rfl := Option.some.inj H
    try go_wp2
    have n0_ := Ah (below_drew1 HB.out)
    clear HB
    have HB := n0_
    clear n0_
    have p346 : 0 ≤ (x5_1 : Int) := od
    have q346 : x5_1 < (l0.length : Int) := od
    obtain ⟨ad346, e346, hx346_0, hx346_1⟩ := at_T53 HR0.out x5_1 p346 q346
    have hw346_1 := hx346_1
    have hw346_0 := hx346_0
    cases e346
    replace hx346_0 := (HB.out.cell (World.block_lt_of_cell? w _ hx346_0)).trans hx346_0
    replace hx346_1 := (HB.out.cell (World.block_lt_of_cell? w _ hx346_1)).trans hx346_1
    replace p346 := eq_true p346
    replace q346 := eq_true q346
    refine start_ (n := 8) (S := fun w' => w'.cell? (ad346.add ((x5_1).toNat * 2)) = some (.string ((rd_T53 l0 x5_1).f0)) ∧ w'.cell? ⟨(ad346.add ((x5_1).toNat * 2)).block, (ad346.add ((x5_1).toNat * 2)).off + 1, none⟩ = some (.int .i64 ((rd_T53 l0 x5_1).f1))) (ds := []) #[false, false, false, false, false, false, false, false] (by kernel_rfl) rfl rfl ⟨((HB.out.cell (World.block_lt_of_cell? w _ hw346_0)).trans hw346_0), ((HB.out.cell (World.block_lt_of_cell? w _ hw346_1)).trans hw346_1)⟩ (fun hHeld => ?_); refine with_tabW laws_heldNameS.tab4 laws_heldNameS.bits4 (fun HT_ HW_ => ?_)
    generalize wr.drew = w10 at HB hx346_0 hx346_1 hHeld ⊢
    refine pureS 0 12 HT_.out ?_
    refine pureS 1 13 HT_.out ?_
    refine pureS 2 14 HT_.out ?_
    refine pureS 3 15 HT_.out ?_
    refine pureS 5 17 HT_.out ?_
    refine takeS 4 16 HT_.out HW_.out hHeld (hr := by rintro w' ⟨s0, s1⟩; go_simp; with_reducible rfl) (h := ?_)
    refine one_ (i := 6) (N := some 18) #[true, true, true, true, true, true, true, false] rfl rfl (one_of HT_.out (by kernel_rfl)) (by decide) (fun K hK => ?_)
    refine goes_ Tryd.func62 (by kernel_rfl) rfl #[.int .i64 x1_1] (by rfl) rfl rfl (by (try simp only [List.map_toArray, List.map_cons, List.map_nil]); first | done | rfl | (simp only [List.length_drop, List.length_take]; rfl)) ?_
    with_reducible refine (laws_markText.calls k1 x1_1 t347 _ A5.out).mono ?_
    rintro e w11 ⟨rfl, hb⟩
    refine ⟨_, rfl, ?_⟩
    have n0_ := Ah (below_step (bs HB) hb)
    clear HB
    have HB := n0_
    clear n0_
    (try clear hb)
    (try clear hb2)
    (try clear hk)
    (try clear hi)
    refine hK.out _ _ ⟨((HB.out.cell (World.block_lt_of_cell? w _ hw346_0)).trans hw346_0), ((HB.out.cell (World.block_lt_of_cell? w _ hw346_1)).trans hw346_1)⟩ (fun hHeld => ?_)
    clear hK K
    refine norm_ (a' := ?_) ?_ ?_
    rotate_left
    ·
     show Act.put _ (some 18) _ = _
     simp only [Act.put, List.setIfInBounds_toArray, List.set_cons_zero, List.set_cons_succ, i64_w, i32_w]
     rfl
    refine pureS 7 19 HT_.out ?_
    refine done_ (done_of HT_.out (by kernel_rfl)) ?_
    have p348 : 0 ≤ (x5_1 : Int) := od
    have q348 : x5_1 < (l0.length : Int) := od
    obtain ⟨ad348, e348, hx348_0, hx348_1⟩ := at_T53 HR0.out x5_1 p348 q348
    obtain rfl : ad346 = ad348 := (by injection e348)
    replace hx348_0 := (HB.out.cell (World.block_lt_of_cell? w _ hx348_0)).trans hx348_0
    replace hx348_1 := (HB.out.cell (World.block_lt_of_cell? w _ hx348_1)).trans hx348_1
    replace p348 := eq_true p348
    replace q348 := eq_true q348
    try go_wp2
    go_ret
    exact ⟨er, bs HB⟩
   rw [if_pos c7] at H
   have c7b0 : (((rd_T53 l0 x5_1).f1) == (wrap64 (x1_1 + 1))) = true := beq_iff_eq.mpr c7
   have c7b1 : (((rd_T53 l0 x5_1).f1) != (wrap64 (x1_1 + 1))) = false := bne_eq_false_iff_eq.mpr c7
   clear c7
   have H' := Ah H
   clear H
   try go_wp2
   have n0_ := Ah (below_drew1 HB.out)
   clear HB
   have HB := n0_
   clear n0_
   have p346 : 0 ≤ (x5_1 : Int) := od
   have q346 : x5_1 < (l0.length : Int) := od
   obtain ⟨ad346, e346, hx346_0, hx346_1⟩ := at_T53 HR0.out x5_1 p346 q346
   have hw346_1 := hx346_1
   have hw346_0 := hx346_0
   cases e346
   replace hx346_0 := (HB.out.cell (World.block_lt_of_cell? w _ hx346_0)).trans hx346_0
   replace hx346_1 := (HB.out.cell (World.block_lt_of_cell? w _ hx346_1)).trans hx346_1
   replace p346 := eq_true p346
   replace q346 := eq_true q346
   refine start_ (n := 8) (S := fun w' => w'.cell? (ad346.add ((x5_1).toNat * 2)) = some (.string ((rd_T53 l0 x5_1).f0)) ∧ w'.cell? ⟨(ad346.add ((x5_1).toNat * 2)).block, (ad346.add ((x5_1).toNat * 2)).off + 1, none⟩ = some (.int .i64 ((rd_T53 l0 x5_1).f1))) (ds := []) #[false, false, false, false, false, false, false, false] (by kernel_rfl) rfl rfl ⟨((HB.out.cell (World.block_lt_of_cell? w _ hw346_0)).trans hw346_0), ((HB.out.cell (World.block_lt_of_cell? w _ hw346_1)).trans hw346_1)⟩ (fun hHeld => ?_); refine with_tabW laws_heldNameS.tab4 laws_heldNameS.bits4 (fun HT_ HW_ => ?_)
   generalize wr.drew = w8 at HB hx346_0 hx346_1 hHeld ⊢
   refine pureS 0 12 HT_.out ?_
   refine pureS 1 13 HT_.out ?_
   refine pureS 2 14 HT_.out ?_
   refine pureS 3 15 HT_.out ?_
   refine pureS 5 17 HT_.out ?_
   refine takeS 4 16 HT_.out HW_.out hHeld (hr := by rintro w' ⟨s0, s1⟩; go_simp; with_reducible rfl) (h := ?_)
   refine one_ (i := 6) (N := some 18) #[true, true, true, true, true, true, true, false] rfl rfl (one_of HT_.out (by kernel_rfl)) (by decide) (fun K hK => ?_)
   refine goes_ Tryd.func62 (by kernel_rfl) rfl #[.int .i64 x1_1] (by rfl) rfl rfl (by (try simp only [List.map_toArray, List.map_cons, List.map_nil]); first | done | rfl | (simp only [List.length_drop, List.length_take]; rfl)) ?_
   with_reducible refine (laws_markText.calls k1 x1_1 t347 _ A5.out).mono ?_
   rintro e w9 ⟨rfl, hb⟩
   refine ⟨_, rfl, ?_⟩
   have n0_ := Ah (below_step (bs HB) hb)
   clear HB
   have HB := n0_
   clear n0_
   (try clear hb)
   (try clear hb2)
   (try clear hk)
   (try clear hi)
   refine hK.out _ _ ⟨((HB.out.cell (World.block_lt_of_cell? w _ hw346_0)).trans hw346_0), ((HB.out.cell (World.block_lt_of_cell? w _ hw346_1)).trans hw346_1)⟩ (fun hHeld => ?_)
   clear hK K
   refine norm_ (a' := ?_) ?_ ?_
   rotate_left
   ·
    show Act.put _ (some 18) _ = _
    simp only [Act.put, List.setIfInBounds_toArray, List.set_cons_zero, List.set_cons_succ, i64_w, i32_w]
    rfl
   refine pureS 7 19 HT_.out ?_
   refine done_ (done_of HT_.out (by kernel_rfl)) ?_
   have p348 : 0 ≤ (x5_1 : Int) := od
   have q348 : x5_1 < (l0.length : Int) := od
   obtain ⟨ad348, e348, hx348_0, hx348_1⟩ := at_T53 HR0.out x5_1 p348 q348
   obtain rfl : ad346 = ad348 := (by injection e348)
   replace hx348_0 := (HB.out.cell (World.block_lt_of_cell? w _ hx348_0)).trans hx348_0
   replace hx348_1 := (HB.out.cell (World.block_lt_of_cell? w _ hx348_1)).trans hx348_1
   replace p348 := eq_true p348
   replace q348 := eq_true q348
   try go_wp2
   go_roundg k1
   case measure => have := HK1.out; omega
   case rel => exact ⟨(wrap64 ((wrap64 (x1_1 + 1)) + 1)), (wrap64 (x5_1 + 1)), e3, e3, H', ⟨by have := HK1.out; omega⟩, ⟨bs HB⟩⟩

/-! ### laws_heldBucketS: function 30 -/
def laws_heldBucketS.l0 : Nat → List (S46) → Int → Int → Option (Int)
 | 0, _, _, _ => none
 | k + 1, x0, x1, x5 => if x5 < (x0.length : Int) then (if 0 ≤ x5 then (if ((rd_T46 x0 x5).f0) = x1 then ((laws_heldNameS.f k ((rd_T46 x0 x5).f1) (wrap64 (x1 + 1))).bind fun t351 => (if t351 < 0 then (some (-1)) else (laws_heldBucketS.l0 k x0 t351 (wrap64 (x5 + 1))))) else (some (-1))) else (none)) else (some x1)
def laws_heldBucketS.f (k : Nat) (l0 : List (S46)) (a1 : Int) : Option (Int) := laws_heldBucketS.l0 k l0 a1 0
theorem laws_heldBucketS.mono_l : ∀ k, (∀ y0 y1 y2, LeO (laws_heldBucketS.l0 k y0 y1 y2) (laws_heldBucketS.l0 (k + 1) y0 y1 y2))
 | 0 => fun _ _ _ r h => by simp [laws_heldBucketS.l0] at h
 | k + 1 => by
  have ih0 := laws_heldBucketS.mono_l k
  ·
   intro y0 y1 y2
   unfold laws_heldBucketS.l0
   repeat' first
   | (with_reducible exact ih0 _ _ _)
   | (with_reducible exact laws_heldNameS.mono _ _ _)
   | (with_reducible exact LeO.refl _)
   | (with_reducible exact LeO.none _)
   | (with_reducible refine LeO.ite ?_ ?_)
   | (with_reducible refine LeO.bind ?_ (fun _ => ?_))
   | exact ih0 _ _ _
   | exact laws_heldNameS.mono _ _ _
   | exact LeO.none _
   | refine LeO.ite ?_ ?_
   | refine LeO.bind ?_ (fun _ => ?_)
theorem laws_heldBucketS.mono : ∀ a0 a1 k, LeO (laws_heldBucketS.f k a0 a1) (laws_heldBucketS.f (k + 1) a0 a1) := by
 intro a0 a1 k
 have ih0 := laws_heldBucketS.mono_l k
 unfold laws_heldBucketS.f
 repeat' first
   | (with_reducible exact ih0 _ _ _)
   | (with_reducible exact laws_heldNameS.mono _ _ _)
   | (with_reducible exact LeO.refl _)
   | (with_reducible exact LeO.none _)
   | (with_reducible refine LeO.ite ?_ ?_)
   | (with_reducible refine LeO.bind ?_ (fun _ => ?_))
   | exact ih0 _ _ _
   | exact laws_heldNameS.mono _ _ _
   | exact LeO.none _
   | refine LeO.ite ?_ ?_
   | refine LeO.bind ?_ (fun _ => ?_)
set_option maxHeartbeats 8000000 in
set_option maxRecDepth 100000 in
theorem laws_heldBucketS.calls (k : Nat) (A0 : Option Addr) (c0 : Nat) (l0 : List (S46)) (a1 : Int) (r : Int) (w : World) (hr0 : Kd.C k46 w A0 l0.length l0) (hc0 : l0.length ≤ c0) (h : laws_heldBucketS.f k l0 a1 = some r) :
  Calls Tryd.prog 30 #[.slice A0 l0.length c0, .int .i64 a1] w fun e w' => e = .returned (.int .i64 r) ∧ Below w.heap.size w w' := by
 have HR0 := Ah hr0
 have HC0 := Ah hc0
 clear hr0 hc0
 have HB := Ah (Below.refl w.heap.size w)
 have H : (laws_heldBucketS.l0 k l0 a1 0) = some r := h
 clear h
 have H' := Ah H
 clear H
 go_enter Tryd.func30, Tryd.ntmps30
 go_wp2
 go_loopg [1, 5] k (fun kq v1 v5 w' => ∃ (x1_1 : Int) (x5_1 : Int), v1 = .int .i64 x1_1 ∧ v5 = .int .i64 x5_1 ∧ Aside0 (laws_heldBucketS.l0 kq l0 x1_1 x5_1 = some r) ∧ Aside0 (kq ≤ k) ∧ Aside0 (Below w.heap.size w w'))
 case atStart => exact ⟨(a1), (0), e3, e3, H', ⟨Nat.le_refl _⟩, ⟨bs HB⟩⟩
 case round =>
  clear H'
  try clear p2
  obtain ⟨x1_1, x5_1, rfl, rfl, HA, HK1, HB⟩ := hrel
  cases gk with
  | zero => exact absurd HA.out (by simp [laws_heldBucketS.l0])
  | succ k1 =>
   have H := HA.out
   clear HA
   simp only [laws_heldBucketS.l0] at H
   by_cases c3 : x5_1 < (l0.length : Int)
   rotate_left
   ·
    rw [if_neg c3] at H
    have c3b0 : decide (x5_1 < (l0.length : Int)) = false := decide_eq_false c3
    clear c3
    obtain rfl := Option.some.inj H
    go_wp2
    go_ret
    exact ⟨er, bs HB⟩
   rw [if_pos c3] at H
   have c3b0 : decide (x5_1 < (l0.length : Int)) = true := decide_eq_true c3
   clear c3
   by_cases c4 : 0 ≤ x5_1
   rotate_left
   ·
    rw [if_neg c4] at H
    exact absurd H (by simp)
   rw [if_pos c4] at H
   have c4b0 : decide (0 ≤ x5_1) = true := decide_eq_true c4
   clear c4
   by_cases c5 : ((rd_T46 l0 x5_1).f0) = x1_1
   rotate_left
   ·
    rw [if_neg c5] at H
    have c5b0 : (((rd_T46 l0 x5_1).f0) == x1_1) = false := beq_eq_false_iff_ne.mpr c5
    have c5b1 : (((rd_T46 l0 x5_1).f0) != x1_1) = true := bne_iff_ne.mpr c5
    obtain rfl := Option.some.inj H
    have p349 : 0 ≤ (x5_1 : Int) := od
    have q349 : x5_1 < (l0.length : Int) := od
    obtain ⟨ad349, A349_1, c349_1, e349, hx349_0, hx349_1, hl349_1, hi349_1⟩ := at_T46 HR0.out x5_1 p349 q349
    cases e349
    replace hx349_0 := (HB.out.cell (World.block_lt_of_cell? w _ hx349_0)).trans hx349_0
    replace hx349_1 := (HB.out.cell (World.block_lt_of_cell? w _ hx349_1)).trans hx349_1
    have HR349_1 := Ah hi349_1
    have HC349_1 := Ah hl349_1
    clear hi349_1 hl349_1
    replace p349 := eq_true p349
    replace q349 := eq_true q349
    go_wp2
    go_ret
    exact ⟨er, bs HB⟩
   rw [if_pos c5] at H
   have c5b0 : (((rd_T46 l0 x5_1).f0) == x1_1) = true := beq_iff_eq.mpr c5
   have c5b1 : (((rd_T46 l0 x5_1).f0) != x1_1) = false := bne_eq_false_iff_eq.mpr c5
   clear c5
   replace H := Option.bind_eq_some_iff.mp H
   obtain ⟨t351, A60, H⟩ := H
   try dsimp only at H
   have A6 := Ah A60
   clear A60
   by_cases c7 : t351 < 0
   ·
    rw [if_pos c7] at H
    have c7b0 : decide (t351 < 0) = true := decide_eq_true c7
    clear c7
    obtain rfl := Option.some.inj H
    have p349 : 0 ≤ (x5_1 : Int) := od
    have q349 : x5_1 < (l0.length : Int) := od
    obtain ⟨ad349, A349_1, c349_1, e349, hx349_0, hx349_1, hl349_1, hi349_1⟩ := at_T46 HR0.out x5_1 p349 q349
    cases e349
    replace hx349_0 := (HB.out.cell (World.block_lt_of_cell? w _ hx349_0)).trans hx349_0
    replace hx349_1 := (HB.out.cell (World.block_lt_of_cell? w _ hx349_1)).trans hx349_1
    have HR349_1 := Ah hi349_1
    have HC349_1 := Ah hl349_1
    clear hi349_1 hl349_1
    replace p349 := eq_true p349
    replace q349 := eq_true q349
    have p350 : 0 ≤ (x5_1 : Int) := od
    have q350 : x5_1 < (l0.length : Int) := od
    obtain ⟨ad350, A350_1, c350_1, e350, hx350_0, hx350_1, hl350_1, hi350_1⟩ := at_T46 HR0.out x5_1 p350 q350
    obtain rfl : ad349 = ad350 := (by injection e350)
    replace hx350_0 := (HB.out.cell (World.block_lt_of_cell? w _ hx350_0)).trans hx350_0
    replace hx350_1 := (HB.out.cell (World.block_lt_of_cell? w _ hx350_1)).trans hx350_1
    have HR350_1 := Ah hi350_1
    have HC350_1 := Ah hl350_1
    clear hi350_1 hl350_1
    replace p350 := eq_true p350
    replace q350 := eq_true q350
    have ea_ := Option.some.inj (hx349_1.symm.trans hx350_1)
    injection ea_ with ea_ en_ ec_
    subst ea_
    subst ec_
    clear en_
    go_wp2_with (first | ((with_reducible refine gate_callee (f := 49) rfl ?_); refine gL (some 27) rfl rfl Tryd.func49 (by kernel_rfl) rfl #[.slice A349_1 ((rd_T46 l0 x5_1).f1).length c349_1, .int .i64 (wrap64 (x1_1 + 1))] rfl ?_; (with_reducible refine (laws_heldNameS.calls k1 _ _ ((rd_T46 l0 x5_1).f1) (wrap64 (x1_1 + 1)) t351 _ ?side1 ?side2 A6.out).mono ?_); (case side1 => exact cb HR350_1 HB); (case side2 => exact HC350_1.out); rintro e w8 ⟨rfl, hb⟩; refine ⟨_, rfl, ?_⟩; replace HB := Ah (below_step (bs HB) hb); (try clear hb)))
    go_ret
    exact ⟨er, bs HB⟩
   rw [if_neg c7] at H
   have c7b0 : decide (t351 < 0) = false := decide_eq_false c7
   clear c7
   have H' := Ah H
   clear H
   have p349 : 0 ≤ (x5_1 : Int) := od
   have q349 : x5_1 < (l0.length : Int) := od
   obtain ⟨ad349, A349_1, c349_1, e349, hx349_0, hx349_1, hl349_1, hi349_1⟩ := at_T46 HR0.out x5_1 p349 q349
   cases e349
   replace hx349_0 := (HB.out.cell (World.block_lt_of_cell? w _ hx349_0)).trans hx349_0
   replace hx349_1 := (HB.out.cell (World.block_lt_of_cell? w _ hx349_1)).trans hx349_1
   have HR349_1 := Ah hi349_1
   have HC349_1 := Ah hl349_1
   clear hi349_1 hl349_1
   replace p349 := eq_true p349
   replace q349 := eq_true q349
   have p350 : 0 ≤ (x5_1 : Int) := od
   have q350 : x5_1 < (l0.length : Int) := od
   obtain ⟨ad350, A350_1, c350_1, e350, hx350_0, hx350_1, hl350_1, hi350_1⟩ := at_T46 HR0.out x5_1 p350 q350
   obtain rfl : ad349 = ad350 := (by injection e350)
   replace hx350_0 := (HB.out.cell (World.block_lt_of_cell? w _ hx350_0)).trans hx350_0
   replace hx350_1 := (HB.out.cell (World.block_lt_of_cell? w _ hx350_1)).trans hx350_1
   have HR350_1 := Ah hi350_1
   have HC350_1 := Ah hl350_1
   clear hi350_1 hl350_1
   replace p350 := eq_true p350
   replace q350 := eq_true q350
   have ea_ := Option.some.inj (hx349_1.symm.trans hx350_1)
   injection ea_ with ea_ en_ ec_
   subst ea_
   subst ec_
   clear en_
   go_wp2_with (first | ((with_reducible refine gate_callee (f := 49) rfl ?_); refine gL (some 27) rfl rfl Tryd.func49 (by kernel_rfl) rfl #[.slice A349_1 ((rd_T46 l0 x5_1).f1).length c349_1, .int .i64 (wrap64 (x1_1 + 1))] rfl ?_; (with_reducible refine (laws_heldNameS.calls k1 _ _ ((rd_T46 l0 x5_1).f1) (wrap64 (x1_1 + 1)) t351 _ ?side1 ?side2 A6.out).mono ?_); (case side1 => exact cb HR350_1 HB); (case side2 => exact HC350_1.out); rintro e w9 ⟨rfl, hb⟩; refine ⟨_, rfl, ?_⟩; replace HB := Ah (below_step (bs HB) hb); (try clear hb)))
   go_roundg k1
   case measure => have := HK1.out; omega
   case rel => exact ⟨(t351), (wrap64 (x5_1 + 1)), e3, e3, H', ⟨by have := HK1.out; omega⟩, ⟨bs HB⟩⟩

/-! ### laws_heldDir: function 10 -/
def laws_heldDir.f (k : Nat) (a0_0 : Int) (l0_1 : List Int) (l0_2 : List (S46)) (a1 : Int) : Option (Int) := (laws_heldIntS.f k l0_1 a1).bind fun t353 => (if t353 < 0 then (some (-1)) else ((laws_heldBucketS.f k l0_2 t353).bind fun t354 => (if t354 < 0 then (some (-1)) else (some t354))))
theorem laws_heldDir.mono : ∀ a0 a1 a2 a3 k, LeO (laws_heldDir.f k a0 a1 a2 a3) (laws_heldDir.f (k + 1) a0 a1 a2 a3) := by
 intro a0 a1 a2 a3 k
 unfold laws_heldDir.f
 repeat' first
   | (with_reducible exact laws_heldBucketS.mono _ _ _)
   | (with_reducible exact laws_heldIntS.mono _ _ _)
   | (with_reducible exact LeO.refl _)
   | (with_reducible exact LeO.none _)
   | (with_reducible refine LeO.ite ?_ ?_)
   | (with_reducible refine LeO.bind ?_ (fun _ => ?_))
   | exact laws_heldBucketS.mono _ _ _
   | exact laws_heldIntS.mono _ _ _
   | exact LeO.none _
   | refine LeO.ite ?_ ?_
   | refine LeO.bind ?_ (fun _ => ?_)
set_option maxHeartbeats 8000000 in
set_option maxRecDepth 100000 in
theorem laws_heldDir.calls (k : Nat) (a0_0 : Int) (A0_1 : Option Addr) (c0_1 : Nat) (l0_1 : List Int) (A0_2 : Option Addr) (c0_2 : Nat) (l0_2 : List (S46)) (a1 : Int) (r : Int) (w : World) (hr0_1 : Kd.C (Kd.int .i64) w A0_1 l0_1.length l0_1) (hc0_1 : l0_1.length ≤ c0_1) (hr0_2 : Kd.C k46 w A0_2 l0_2.length l0_2) (hc0_2 : l0_2.length ≤ c0_2) (h : laws_heldDir.f k a0_0 l0_1 l0_2 a1 = some r) :
  Calls Tryd.prog 10 #[.agg #[.int .i64 a0_0, .slice A0_1 l0_1.length c0_1, .slice A0_2 l0_2.length c0_2], .int .i64 a1] w fun e w' => e = .returned (.int .i64 r) ∧ Below w.heap.size w w' := by
 have hu29 := Tryd.underlying29
 have HR0_1 := Ah hr0_1
 have HC0_1 := Ah hc0_1
 clear hr0_1 hc0_1
 have HR0_2 := Ah hr0_2
 have HC0_2 := Ah hc0_2
 clear hr0_2 hc0_2
 have HB := Ah (Below.refl w.heap.size w)
 have H : ((laws_heldIntS.f k l0_1 a1).bind fun t353 => (if t353 < 0 then (some (-1)) else ((laws_heldBucketS.f k l0_2 t353).bind fun t354 => (if t354 < 0 then (some (-1)) else (some t354))))) = some r := h
 clear h
 replace H := Option.bind_eq_some_iff.mp H
 obtain ⟨t353, A30, H⟩ := H
 try dsimp only at H
 have A3 := Ah A30
 clear A30
 by_cases c4 : t353 < 0
 ·
  rw [if_pos c4] at H
  have c4b0 : decide (t353 < 0) = true := decide_eq_true c4
  clear c4
  obtain rfl := Option.some.inj H
  go_enter Tryd.func10, Tryd.ntmps10
  go_wp2_with (first | ((with_reducible refine gate_dst (N := 2) rfl ?_); refine boxL 2 29 #[.int .i64 a0_0, .slice A0_1 l0_1.length c0_1, .slice A0_2 l0_2.length c0_2] ?_; intro gb352 hg w5 BK352 hb; have GW352 := gw hg (bs HB); have GE352 := gw hg (bs HB); replace HB := Ah (below_step (bs HB) hb); clear hb hg; obtain ⟨hcz6_0, hcz6_1, hcz6_2⟩ := cz3 BK352; obtain ⟨hfz6_0, hfz6_1, hfz6_2⟩ := fz3 BK352) | ((with_reducible refine gate_callee (f := 29) rfl ?_); refine gL (some 8) rfl rfl Tryd.func29 (by kernel_rfl) rfl #[.slice A0_1 l0_1.length c0_1, .int .i64 a1] rfl ?_; (with_reducible refine (laws_heldIntS.calls k _ _ l0_1 a1 t353 _ ?side1 ?side2 A3.out).mono ?_); (case side1 => exact cb HR0_1 HB); (case side2 => exact HC0_1.out); rintro e w' ⟨rfl, ⟨nd, rfl⟩⟩; refine ⟨_, rfl, ?_⟩))
  go_ret
  exact ⟨er, bs1 HB GE352⟩
 rw [if_neg c4] at H
 have c4b0 : decide (t353 < 0) = false := decide_eq_false c4
 clear c4
 replace H := Option.bind_eq_some_iff.mp H
 obtain ⟨t354, A70, H⟩ := H
 try dsimp only at H
 have A7 := Ah A70
 clear A70
 by_cases c8 : t354 < 0
 ·
  rw [if_pos c8] at H
  have c8b0 : decide (t354 < 0) = true := decide_eq_true c8
  clear c8
  obtain rfl := Option.some.inj H
  go_enter Tryd.func10, Tryd.ntmps10
  go_wp2_with (first | ((with_reducible refine gate_dst (N := 2) rfl ?_); refine boxL 2 29 #[.int .i64 a0_0, .slice A0_1 l0_1.length c0_1, .slice A0_2 l0_2.length c0_2] ?_; intro gb352 hg w9 BK352 hb; have GW352 := gw hg (bs HB); have GE352 := gw hg (bs HB); replace HB := Ah (below_step (bs HB) hb); clear hb hg; obtain ⟨hcz10_0, hcz10_1, hcz10_2⟩ := cz3 BK352; obtain ⟨hfz10_0, hfz10_1, hfz10_2⟩ := fz3 BK352) | ((with_reducible refine gate_callee (f := 29) rfl ?_); refine gL (some 8) rfl rfl Tryd.func29 (by kernel_rfl) rfl #[.slice A0_1 l0_1.length c0_1, .int .i64 a1] rfl ?_; (with_reducible refine (laws_heldIntS.calls k _ _ l0_1 a1 t353 _ ?side1 ?side2 A3.out).mono ?_); (case side1 => exact cb HR0_1 HB); (case side2 => exact HC0_1.out); rintro e w' ⟨rfl, ⟨nd, rfl⟩⟩; refine ⟨_, rfl, ?_⟩) | ((with_reducible refine gate_callee (f := 30) rfl ?_); refine gL (some 14) rfl rfl Tryd.func30 (by kernel_rfl) rfl #[.slice A0_2 l0_2.length c0_2, .int .i64 t353] rfl ?_; (with_reducible refine (laws_heldBucketS.calls k _ _ l0_2 t353 t354 _ ?side1 ?side2 A7.out).mono ?_); (case side1 => repeat (first | exact (Kd.C_below HR0_2.out (bs1 HB GE352)) | (with_reducible refine Kd.C_alloc ?_ _) | (with_reducible refine Kd.C_drewN ?_ _) | (with_reducible refine Kd.C_drew ?_))); (case side2 => exact HC0_2.out); rintro e w11 ⟨rfl, hb⟩; refine ⟨_, rfl, ?_⟩; replace BK352 := nb BK352 hb; replace HB := Ah (below_step (bs1 HB GE352) hb); (try clear hb)))
  go_ret
  exact ⟨er, bs1 HB GE352⟩
 rw [if_neg c8] at H
 have c8b0 : decide (t354 < 0) = false := decide_eq_false c8
 clear c8
 obtain rfl := Option.some.inj H
 go_enter Tryd.func10, Tryd.ntmps10
 go_wp2_with (first | ((with_reducible refine gate_dst (N := 2) rfl ?_); refine boxL 2 29 #[.int .i64 a0_0, .slice A0_1 l0_1.length c0_1, .slice A0_2 l0_2.length c0_2] ?_; intro gb352 hg w12 BK352 hb; have GW352 := gw hg (bs HB); have GE352 := gw hg (bs HB); replace HB := Ah (below_step (bs HB) hb); clear hb hg; obtain ⟨hcz13_0, hcz13_1, hcz13_2⟩ := cz3 BK352; obtain ⟨hfz13_0, hfz13_1, hfz13_2⟩ := fz3 BK352) | ((with_reducible refine gate_callee (f := 29) rfl ?_); refine gL (some 8) rfl rfl Tryd.func29 (by kernel_rfl) rfl #[.slice A0_1 l0_1.length c0_1, .int .i64 a1] rfl ?_; (with_reducible refine (laws_heldIntS.calls k _ _ l0_1 a1 t353 _ ?side1 ?side2 A3.out).mono ?_); (case side1 => exact cb HR0_1 HB); (case side2 => exact HC0_1.out); rintro e w' ⟨rfl, ⟨nd, rfl⟩⟩; refine ⟨_, rfl, ?_⟩) | ((with_reducible refine gate_callee (f := 30) rfl ?_); refine gL (some 14) rfl rfl Tryd.func30 (by kernel_rfl) rfl #[.slice A0_2 l0_2.length c0_2, .int .i64 t353] rfl ?_; (with_reducible refine (laws_heldBucketS.calls k _ _ l0_2 t353 t354 _ ?side1 ?side2 A7.out).mono ?_); (case side1 => repeat (first | exact (Kd.C_below HR0_2.out (bs1 HB GE352)) | (with_reducible refine Kd.C_alloc ?_ _) | (with_reducible refine Kd.C_drewN ?_ _) | (with_reducible refine Kd.C_drew ?_))); (case side2 => exact HC0_2.out); rintro e w14 ⟨rfl, hb⟩; refine ⟨_, rfl, ?_⟩; replace BK352 := nb BK352 hb; replace HB := Ah (below_step (bs1 HB GE352) hb); (try clear hb)))
 go_ret
 exact ⟨er, bs1 HB GE352⟩

-- NOT PRINTED: function 3 (laws_FnExactDropName)

end Go.Proofs.YtfbjeppfnlfejaaDoor.G
