-- Printed by a program of this session (drive.py, by way of the kit's print). Not trusted: Lean checks it.
import Derived.Test.YthlifcbkpafofaaDoorG0
import Derived.Test.YthlifcbkpafofaaDoorG1
import Derived.Test.YthlifcbkpafofaaDoorG2
namespace Go.Proofs.YthlifcbkpafofaaDoor.G
open Go.RowKit Go.Proofs.YthlifcbkpafofaaDoorW.PrintWords Go.Proofs.YthlifcbkpafofaaDoorW.PrintLast Go.Proofs.YthlifcbkpafofaaDoorW.PrintMore
attribute [local go_sem] max2_int min2_int max_two min_two max_three min_three max_four min_four   -- for this text's walks alone
set_option linter.unusedVariables false
set_option linter.unusedSimpArgs false

attribute [local go_sem high] eqA26
/-! ### laws_szSlot: function 13 -/
def laws_szSlot.f (a0_0 : Int) (a0_1 : Int) (a0_2 : ByteArray) (a0_3 : Int) (a1 : Int) : Option (Int) := if (wrap64 (a1 - (a0_2.size : Int))) < 0 then (some (-1)) else (some (wrap64 (a1 - (a0_2.size : Int))))
set_option maxHeartbeats 8000000 in
set_option maxRecDepth 100000 in
theorem laws_szSlot.calls (a0_0 : Int) (a0_1 : Int) (a0_2 : ByteArray) (a0_3 : Int) (a1 : Int) (r : Int) (w : World) (h : laws_szSlot.f a0_0 a0_1 a0_2 a0_3 a1 = some r) :
  Calls Tryd.prog 13 #[.agg #[.int .i64 a0_0, .int .i64 a0_1, .string a0_2, .int .i64 a0_3], .int .i64 a1] w fun e w' => e = .returned (.int .i64 r) ∧ Below w.heap.size w w' := by
 have hu23 := Tryd.underlying23
 have HB := Aside0.mk (Below.refl w.heap.size w)
 have H : (if (wrap64 (a1 - (a0_2.size : Int))) < 0 then (some (-1)) else (some (wrap64 (a1 - (a0_2.size : Int))))) = some r := h
 clear h
 by_cases c3 : (wrap64 (a1 - (a0_2.size : Int))) < 0
 ·
  rw [if_pos c3] at H
  have c3b0 : decide ((wrap64 (a1 - (a0_2.size : Int))) < 0) = true := decide_eq_true c3
  clear c3
  obtain rfl := Option.some.inj H
  go_enter Tryd.func13, Tryd.ntmps13
  go_wp2_with (first | ((with_reducible refine gate_dst (N := 2) rfl ?_); refine box_event ?hg (N := 2) ?hd (cs := #[.int .i64 a0_0, .int .i64 a0_1, .string a0_2, .int .i64 a0_3]) (t := 23) ?hr ?_; (case hd => rfl); (case hg => rfl); (case hr => first | (go_simp; done) | (go_simp; rfl)); intro gb231 hg w4 hbox hb; have BK231 := Aside0.mk (hbox); have GW231 := Aside0.mk ((by rw [hg]; exact (below_size (bs HB)) : w.heap.size ≤ gb231)); have GE231 := Aside0.mk ((by rw [hg]; exact (below_size (bs HB)) : w.heap.size ≤ gb231)); replace HB := Aside0.mk (below_step (bs HB) hb); clear hb hbox hg; obtain ⟨hcz5_0, hcz5_1, hcz5_2, hcz5_3⟩ := cz4 BK231; obtain ⟨hfz5_0, hfz5_1, hfz5_2, hfz5_3⟩ := fz4 BK231))
  go_ret
  exact ⟨by first | rfl | (simp [errW_none, errW_some] <;> rfl) | (simp [*, errW_none, errW_some] <;> rfl), bs1 HB GE231⟩
 ·
  rw [if_neg c3] at H
  have c3b0 : decide ((wrap64 (a1 - (a0_2.size : Int))) < 0) = false := decide_eq_false c3
  clear c3
  obtain rfl := Option.some.inj H
  go_enter Tryd.func13, Tryd.ntmps13
  go_wp2_with (first | ((with_reducible refine gate_dst (N := 2) rfl ?_); refine box_event ?hg (N := 2) ?hd (cs := #[.int .i64 a0_0, .int .i64 a0_1, .string a0_2, .int .i64 a0_3]) (t := 23) ?hr ?_; (case hd => rfl); (case hg => rfl); (case hr => first | (go_simp; done) | (go_simp; rfl)); intro gb231 hg w6 hbox hb; have BK231 := Aside0.mk (hbox); have GW231 := Aside0.mk ((by rw [hg]; exact (below_size (bs HB)) : w.heap.size ≤ gb231)); have GE231 := Aside0.mk ((by rw [hg]; exact (below_size (bs HB)) : w.heap.size ≤ gb231)); replace HB := Aside0.mk (below_step (bs HB) hb); clear hb hbox hg; obtain ⟨hcz7_0, hcz7_1, hcz7_2, hcz7_3⟩ := cz4 BK231; obtain ⟨hfz7_0, hfz7_1, hfz7_2, hfz7_3⟩ := fz4 BK231))
  go_ret
  exact ⟨by first | rfl | (simp [errW_none, errW_some] <;> rfl) | (simp [*, errW_none, errW_some] <;> rfl), bs1 HB GE231⟩

/-! ### laws_toSlot: function 15 -/
def laws_toSlot.f (a0_0 : Int) (a0_1 : Int) (a0_2 : ByteArray) (a0_3 : Int) : Option (Int × Int × ByteArray × Int) := some (a0_0, a0_1, a0_2, a0_3)
set_option maxHeartbeats 8000000 in
set_option maxRecDepth 100000 in
theorem laws_toSlot.calls (a0_0 : Int) (a0_1 : Int) (a0_2 : ByteArray) (a0_3 : Int) (r1 : Int) (r2 : Int) (r3 : ByteArray) (r4 : Int) (w : World) (h : laws_toSlot.f a0_0 a0_1 a0_2 a0_3 = some (r1, r2, r3, r4)) :
  Calls Tryd.prog 15 #[.agg #[.int .i64 a0_0, .int .i64 a0_1, .string a0_2, .int .i64 a0_3]] w fun e w' => e = .returned (.agg #[.int .i64 r1, .int .i64 r2, .string r3, .int .i64 r4]) ∧ Below w.heap.size w w' := by
 have hu23 := Tryd.underlying23
 have hu26 := Tryd.underlying26
 have HB := Aside0.mk (Below.refl w.heap.size w)
 have H : (some (a0_0, a0_1, a0_2, a0_3)) = some (r1, r2, r3, r4) := h
 clear h
 simp only [Option.some.injEq, Prod.mk.injEq] at H
 obtain ⟨rfl, rfl, rfl, rfl⟩ := H
 go_enter Tryd.func15, Tryd.ntmps15
 go_wp2_with (first | ((with_reducible refine gate_dst (N := 1) rfl ?_); refine box_event ?hg (N := 1) ?hd (cs := #[.int .i64 a0_0, .int .i64 a0_1, .string a0_2, .int .i64 a0_3]) (t := 23) ?hr ?_; (case hd => rfl); (case hg => rfl); (case hr => first | (go_simp; done) | (go_simp; rfl)); intro gb232 hg w2 hbox hb; have BK232 := Aside0.mk (hbox); have GW232 := Aside0.mk ((by rw [hg]; exact (below_size (bs HB)) : w.heap.size ≤ gb232)); have GE232 := Aside0.mk ((by rw [hg]; exact (below_size (bs HB)) : w.heap.size ≤ gb232)); replace HB := Aside0.mk (below_step (bs HB) hb); clear hb hbox hg) | ((with_reducible refine gate_dst (N := 2) rfl ?_); refine box_event ?hg (N := 2) ?hd (cs := #[.int .i64 0, .int .i64 0, .string (⟨#[]⟩ : ByteArray), .int .i64 0]) (t := 26) ?hr ?_; (case hd => rfl); (case hg => rfl); (case hr => first | (go_simp; done) | (go_simp; rfl)); intro gb233 hg w3 hbox hb; have BK233 := Aside0.mk (hbox); have GW233 := Aside0.mk ((by rw [hg]; exact (below_size (bs1 HB GE232)) : w.heap.size ≤ gb233)); have GE233 := Aside0.mk ((by rw [hg]; exact (below_size (bs1 HB GE232)) : w.heap.size ≤ gb233)); replace HB := Aside0.mk (below_step (bs1 HB GE232) hb); have NB232_233 := Aside0.mk ((bn BK232 hg : gb232 ≠ gb233)); have NB233_232 := Aside0.mk ((bm BK232 hg : gb233 ≠ gb232)); replace BK232 := nb BK232 hb; clear hb hbox hg) | ((with_reducible refine gate_dst (N := 3) rfl ?_); refine box_event ?hg (N := 3) ?hd (cs := #[.int .i64 0, .int .i64 0, .string (⟨#[]⟩ : ByteArray), .int .i64 0]) (t := 26) ?hr ?_; (case hd => rfl); (case hg => rfl); (case hr => first | (go_simp; done) | (go_simp; rfl)); intro gb234 hg w4 hbox hb; have BK234 := Aside0.mk (hbox); have GW234 := Aside0.mk ((by rw [hg]; exact (below_size (bs2 HB GE232 GE233)) : w.heap.size ≤ gb234)); have GE234 := Aside0.mk ((by rw [hg]; exact (below_size (bs2 HB GE232 GE233)) : w.heap.size ≤ gb234)); replace HB := Aside0.mk (below_step (bs2 HB GE232 GE233) hb); have NB232_234 := Aside0.mk ((bn BK232 hg : gb232 ≠ gb234)); have NB234_232 := Aside0.mk ((bm BK232 hg : gb234 ≠ gb232)); replace BK232 := nb BK232 hb; have NB233_234 := Aside0.mk ((by rw [hg]; exact Nat.ne_of_lt (blk_lt (g := gb233) (o := .cells #[.int .i64 0, .int .i64 0, .string (⟨#[]⟩ : ByteArray), .int .i64 0] 26 (0, 0)) (bk BK233)) : gb233 ≠ gb234)); have NB234_233 := Aside0.mk ((by rw [hg]; exact Nat.ne_of_gt (blk_lt (g := gb233) (o := .cells #[.int .i64 0, .int .i64 0, .string (⟨#[]⟩ : ByteArray), .int .i64 0] 26 (0, 0)) (bk BK233)) : gb234 ≠ gb233)); replace BK233 := Aside0.mk (blk_below (g := gb233) (o := .cells #[.int .i64 0, .int .i64 0, .string (⟨#[]⟩ : ByteArray), .int .i64 0] 26 (0, 0)) (bk BK233) hb); clear hb hbox hg; have hnb5 := NB232_233.out; have hnc5 := NB233_232.out; have hnb6 := NB232_234.out; have hnc6 := NB234_232.out; obtain ⟨hcz7_0, hcz7_1, hcz7_2, hcz7_3⟩ := cz4 BK232; obtain ⟨hfz7_0, hfz7_1, hfz7_2, hfz7_3⟩ := fz4 BK232; have hnb8 := NB234_233.out; have hnc8 := NB233_234.out; obtain ⟨hcz9_0, hcz9_1, hcz9_2, hcz9_3⟩ := cz4 BK234; obtain ⟨hfz9_0, hfz9_1, hfz9_2, hfz9_3⟩ := fz4 BK234; obtain ⟨hcz10_0, hcz10_1, hcz10_2, hcz10_3⟩ := cz4 BK233; obtain ⟨hfz10_0, hfz10_1, hfz10_2, hfz10_3⟩ := fz4 BK233))
 refine bodyPost_ret (results_cell_row rfl _ _ gb233 26 #[.int .i64 a0_0, .int .i64 a0_1, .string a0_2, .int .i64 a0_3] (0, 0) _ rfl (by (with_reducible repeat (first | refine blk_drewN ?_ _ | refine blk_drew ?_ | refine blk_alloc ?_ _)); refine blk_put (cs := #[.int .i64 a0_0, .int .i64 a0_1, .string a0_2, .int .i64 0]) ?_ 3 _ rfl; (with_reducible repeat (first | refine blk_drewN ?_ _ | refine blk_drew ?_ | refine blk_alloc ?_ _)); refine blk_put (cs := #[.int .i64 a0_0, .int .i64 a0_1, .string (⟨#[]⟩ : ByteArray), .int .i64 0]) ?_ 2 _ rfl; (with_reducible repeat (first | refine blk_drewN ?_ _ | refine blk_drew ?_ | refine blk_alloc ?_ _)); refine blk_put (cs := #[.int .i64 a0_0, .int .i64 0, .string (⟨#[]⟩ : ByteArray), .int .i64 0]) ?_ 1 _ rfl; (with_reducible repeat (first | refine blk_drewN ?_ _ | refine blk_drew ?_ | refine blk_alloc ?_ _)); refine blk_put (cs := #[.int .i64 0, .int .i64 0, .string (⟨#[]⟩ : ByteArray), .int .i64 0]) ?_ 0 _ rfl; (with_reducible repeat (first | refine blk_drewN ?_ _ | refine blk_drew ?_ | refine blk_alloc ?_ _)); refine blk_far ?_ NB233_234.out _; (with_reducible repeat (first | refine blk_drewN ?_ _ | refine blk_drew ?_ | refine blk_alloc ?_ _)); refine blk_far ?_ NB233_234.out _; (with_reducible repeat (first | refine blk_drewN ?_ _ | refine blk_drew ?_ | refine blk_alloc ?_ _)); refine blk_far ?_ NB233_234.out _; (with_reducible repeat (first | refine blk_drewN ?_ _ | refine blk_drew ?_ | refine blk_alloc ?_ _)); refine blk_far ?_ NB233_234.out _; (with_reducible repeat (first | refine blk_drewN ?_ _ | refine blk_drew ?_ | refine blk_alloc ?_ _)); exact BK233.out) Tryd.underlying26 rfl (by kernel_rfl)) rfl ?_
 exact ⟨by first | rfl | (simp [errW_none, errW_some] <;> rfl) | (simp [*, errW_none, errW_some] <;> rfl), bs3 HB GE232 GE233 GE234⟩

/-! ### laws_szSlotS: function 41 -/
def laws_szSlotS.l0 : Nat → List (S23) → Int → Int → Option (Int)
 | 0, _, _, _ => none
 | k + 1, x0, x1, x5 => if x5 < (x0.length : Int) then (if 0 ≤ x5 then ((laws_szSlot.f ((rd_T23 x0 x5).f0) ((rd_T23 x0 x5).f1) ((rd_T23 x0 x5).f2) ((rd_T23 x0 x5).f3) x1).bind fun t236 => (if t236 < 0 then (some (-1)) else (laws_szSlotS.l0 k x0 t236 (wrap64 (x5 + 1))))) else (none)) else (some x1)
def laws_szSlotS.f (k : Nat) (l0 : List (S23)) (a1 : Int) : Option (Int) := if (wrap64 (a1 - (l0.length : Int))) < 0 then (some (-1)) else (laws_szSlotS.l0 k l0 (wrap64 (a1 - (l0.length : Int))) 0)
theorem laws_szSlotS.mono_l : ∀ k, (∀ y0 y1 y2, LeO (laws_szSlotS.l0 k y0 y1 y2) (laws_szSlotS.l0 (k + 1) y0 y1 y2))
 | 0 => fun _ _ _ r h => by simp [laws_szSlotS.l0] at h
 | k + 1 => by
  have ih0 := laws_szSlotS.mono_l k
  ·
   intro y0 y1 y2
   unfold laws_szSlotS.l0
   repeat' first
   | (with_reducible exact ih0 _ _ _)
   | (with_reducible exact LeO.refl _)
   | (with_reducible exact LeO.none _)
   | (with_reducible refine LeO.ite ?_ ?_)
   | (with_reducible refine LeO.bind ?_ (fun _ => ?_))
   | exact ih0 _ _ _
   | exact LeO.none _
   | refine LeO.ite ?_ ?_
   | refine LeO.bind ?_ (fun _ => ?_)
theorem laws_szSlotS.mono : ∀ a0 a1 k, LeO (laws_szSlotS.f k a0 a1) (laws_szSlotS.f (k + 1) a0 a1) := by
 intro a0 a1 k
 have ih0 := laws_szSlotS.mono_l k
 unfold laws_szSlotS.f
 repeat' first
   | (with_reducible exact ih0 _ _ _)
   | (with_reducible exact LeO.refl _)
   | (with_reducible exact LeO.none _)
   | (with_reducible refine LeO.ite ?_ ?_)
   | (with_reducible refine LeO.bind ?_ (fun _ => ?_))
   | exact ih0 _ _ _
   | exact LeO.none _
   | refine LeO.ite ?_ ?_
   | refine LeO.bind ?_ (fun _ => ?_)
set_option maxHeartbeats 8000000 in
set_option maxRecDepth 100000 in
theorem laws_szSlotS.calls (k : Nat) (A0 : Option Addr) (c0 : Nat) (l0 : List (S23)) (a1 : Int) (r : Int) (w : World) (hr0 : Kd.C k23 w A0 l0.length l0) (hc0 : l0.length ≤ c0) (h : laws_szSlotS.f k l0 a1 = some r) :
  Calls Tryd.prog 41 #[.slice A0 l0.length c0, .int .i64 a1] w fun e w' => e = .returned (.int .i64 r) ∧ Below w.heap.size w w' := by
 have hu23 := Tryd.underlying23
 have HR0 := Aside0.mk hr0
 have HC0 := Aside0.mk hc0
 clear hr0 hc0
 have HB := Aside0.mk (Below.refl w.heap.size w)
 have H : (if (wrap64 (a1 - (l0.length : Int))) < 0 then (some (-1)) else (laws_szSlotS.l0 k l0 (wrap64 (a1 - (l0.length : Int))) 0)) = some r := h
 clear h
 by_cases c3 : (wrap64 (a1 - (l0.length : Int))) < 0
 ·
  rw [if_pos c3] at H
  have c3b0 : decide ((wrap64 (a1 - (l0.length : Int))) < 0) = true := decide_eq_true c3
  clear c3
  obtain rfl := Option.some.inj H
  go_enter Tryd.func41, Tryd.ntmps41
  go_wp2
  go_ret
  exact ⟨by first | rfl | (simp [errW_none, errW_some] <;> rfl) | (simp [*, errW_none, errW_some] <;> rfl), bs HB⟩
 ·
  rw [if_neg c3] at H
  have c3b0 : decide ((wrap64 (a1 - (l0.length : Int))) < 0) = false := decide_eq_false c3
  clear c3
  have H' := Aside0.mk H
  clear H
  go_enter Tryd.func41, Tryd.ntmps41
  go_wp2
  go_loopg [1, 5] k (fun kq v1 v5 w' => ∃ (x1_1 : Int) (x5_1 : Int), v1 = .int .i64 x1_1 ∧ v5 = .int .i64 x5_1 ∧ Aside0 (laws_szSlotS.l0 kq l0 x1_1 x5_1 = some r) ∧ Aside0 (kq ≤ k) ∧ Aside0 (Below w.heap.size w w'))
  case atStart => exact ⟨(wrap64 (a1 - (l0.length : Int))), (0), (by first | rfl | (simp; done) | (simp [*]; done)), (by first | rfl | (simp; done) | (simp [*]; done)), H', ⟨Nat.le_refl _⟩, ⟨bs HB⟩⟩
  case round =>
   clear H'
   try clear p2
   try clear c3
   try clear c3b0
   obtain ⟨x1_1, x5_1, rfl, rfl, HA, HK1, HB⟩ := hrel
   cases gk with
   | zero => exact absurd HA.out (by simp [laws_szSlotS.l0])
   | succ k1 =>
    have H := HA.out
    clear HA
    simp only [laws_szSlotS.l0] at H
    by_cases c4 : x5_1 < (l0.length : Int)
    ·
     rw [if_pos c4] at H
     have c4b0 : decide (x5_1 < (l0.length : Int)) = true := decide_eq_true c4
     clear c4
     by_cases c5 : 0 ≤ x5_1
     ·
      rw [if_pos c5] at H
      have c5b0 : decide (0 ≤ x5_1) = true := decide_eq_true c5
      clear c5
      replace H := Option.bind_eq_some_iff.mp H
      obtain ⟨t236, A60, H⟩ := H
      replace H : (if t236 < 0 then (some (-1)) else (laws_szSlotS.l0 k1 l0 t236 (wrap64 (x5_1 + 1)))) = some r := H
      have A6 := Aside0.mk A60
      clear A60
      by_cases c7 : t236 < 0
      ·
       rw [if_pos c7] at H
       have c7b0 : decide (t236 < 0) = true := decide_eq_true c7
       clear c7
       obtain rfl := Option.some.inj H
       have p235 : 0 ≤ (x5_1 : Int) := of_decide_eq_true (by first | (with_reducible assumption) | assumption)
       have q235 : x5_1 < (l0.length : Int) := of_decide_eq_true (by first | (with_reducible assumption) | assumption)
       obtain ⟨ad235, e235, hx235_0, hx235_1, hx235_2, hx235_3⟩ := at_T23 HR0.out x5_1 p235 q235
       cases e235
       replace hx235_0 := (HB.out.cell (World.block_lt_of_cell? w _ hx235_0)).trans hx235_0
       replace hx235_1 := (HB.out.cell (World.block_lt_of_cell? w _ hx235_1)).trans hx235_1
       replace hx235_2 := (HB.out.cell (World.block_lt_of_cell? w _ hx235_2)).trans hx235_2
       replace hx235_3 := (HB.out.cell (World.block_lt_of_cell? w _ hx235_3)).trans hx235_3
       replace p235 := eq_true p235
       replace q235 := eq_true q235
       go_wp2_with (first | ((with_reducible refine gate_callee (f := 13) rfl ?_); refine gL (some 23) rfl rfl Tryd.func13 (by kernel_rfl) rfl #[.agg #[.int .i64 ((rd_T23 l0 x5_1).f0), .int .i64 ((rd_T23 l0 x5_1).f1), .string ((rd_T23 l0 x5_1).f2), .int .i64 ((rd_T23 l0 x5_1).f3)], .int .i64 x1_1] rfl ?_; (with_reducible refine (laws_szSlot.calls ((rd_T23 l0 x5_1).f0) ((rd_T23 l0 x5_1).f1) ((rd_T23 l0 x5_1).f2) ((rd_T23 l0 x5_1).f3) x1_1 t236 _ A6.out).mono ?_); rintro e w8 ⟨rfl, hb⟩; refine ⟨_, rfl, ?_⟩; replace HB := Aside0.mk (below_step (bs HB) hb); (try clear hb); (try clear hb2); (try clear hk); (try clear hi)))
       go_ret
       exact ⟨by first | rfl | (simp [errW_none, errW_some] <;> rfl) | (simp [*, errW_none, errW_some] <;> rfl), bs HB⟩
      ·
       rw [if_neg c7] at H
       have c7b0 : decide (t236 < 0) = false := decide_eq_false c7
       clear c7
       have H' := Aside0.mk H
       clear H
       have p235 : 0 ≤ (x5_1 : Int) := of_decide_eq_true (by first | (with_reducible assumption) | assumption)
       have q235 : x5_1 < (l0.length : Int) := of_decide_eq_true (by first | (with_reducible assumption) | assumption)
       obtain ⟨ad235, e235, hx235_0, hx235_1, hx235_2, hx235_3⟩ := at_T23 HR0.out x5_1 p235 q235
       cases e235
       replace hx235_0 := (HB.out.cell (World.block_lt_of_cell? w _ hx235_0)).trans hx235_0
       replace hx235_1 := (HB.out.cell (World.block_lt_of_cell? w _ hx235_1)).trans hx235_1
       replace hx235_2 := (HB.out.cell (World.block_lt_of_cell? w _ hx235_2)).trans hx235_2
       replace hx235_3 := (HB.out.cell (World.block_lt_of_cell? w _ hx235_3)).trans hx235_3
       replace p235 := eq_true p235
       replace q235 := eq_true q235
       go_wp2_with (first | ((with_reducible refine gate_callee (f := 13) rfl ?_); refine gL (some 23) rfl rfl Tryd.func13 (by kernel_rfl) rfl #[.agg #[.int .i64 ((rd_T23 l0 x5_1).f0), .int .i64 ((rd_T23 l0 x5_1).f1), .string ((rd_T23 l0 x5_1).f2), .int .i64 ((rd_T23 l0 x5_1).f3)], .int .i64 x1_1] rfl ?_; (with_reducible refine (laws_szSlot.calls ((rd_T23 l0 x5_1).f0) ((rd_T23 l0 x5_1).f1) ((rd_T23 l0 x5_1).f2) ((rd_T23 l0 x5_1).f3) x1_1 t236 _ A6.out).mono ?_); rintro e w9 ⟨rfl, hb⟩; refine ⟨_, rfl, ?_⟩; replace HB := Aside0.mk (below_step (bs HB) hb); (try clear hb); (try clear hb2); (try clear hk); (try clear hi)))
       go_roundg k1
       case measure => have := HK1.out; omega
       case rel => exact ⟨(t236), (wrap64 (x5_1 + 1)), (by first | rfl | (simp; done) | (simp [*]; done)), (by first | rfl | (simp; done) | (simp [*]; done)), H', ⟨by have := HK1.out; omega⟩, ⟨bs HB⟩⟩
     ·
      rw [if_neg c5] at H
      exact absurd H (by simp)
    ·
     rw [if_neg c4] at H
     have c4b0 : decide (x5_1 < (l0.length : Int)) = false := decide_eq_false c4
     clear c4
     obtain rfl := Option.some.inj H
     go_wp2
     go_ret
     exact ⟨by first | rfl | (simp [errW_none, errW_some] <;> rfl) | (simp [*, errW_none, errW_some] <;> rfl), bs HB⟩

/-! ### spec_l10Whole: function 57 -/
def spec_l10Whole.f (k : Nat) (a0_0 : Int) (a0_1 : Int) (a0_2 : ByteArray) (a0_3 : Int) : Option (Bool) := (spec_l10Slot.f a0_0 a0_1 a0_2 a0_3).bind fun t240 => (if t240 = true then ((spec_SlotSum.f k a0_0 a0_1 a0_2 a0_3).bind fun t241 => (some (a0_3 == t241))) else (some false))
theorem spec_l10Whole.mono : ∀ a0 a1 a2 a3 k, LeO (spec_l10Whole.f k a0 a1 a2 a3) (spec_l10Whole.f (k + 1) a0 a1 a2 a3) := by
 intro a0 a1 a2 a3 k
 unfold spec_l10Whole.f
 repeat' first
   | (with_reducible exact spec_SlotSum.mono _ _ _ _ _)
   | (with_reducible exact LeO.refl _)
   | (with_reducible exact LeO.none _)
   | (with_reducible refine LeO.ite ?_ ?_)
   | (with_reducible refine LeO.bind ?_ (fun _ => ?_))
   | exact spec_SlotSum.mono _ _ _ _ _
   | exact LeO.none _
   | refine LeO.ite ?_ ?_
   | refine LeO.bind ?_ (fun _ => ?_)
def spec_l10Whole.T1 : Bool × List (List Nat × List Nat) := (true, [([], []), ([0], [0]), ([1, 1], [1]), ([2], [2]), ([3, 2], [2, 3]), ([2], [2]), ([5, 2, 2], [2, 5]), ([4, 6, 2], [2, 4, 6]), ([2, 7], [2, 7]), ([8, 6, 0, 1, 2, 3, 4, 5, 6, 7, 8], [8])])
def spec_l10Whole.B1 : List Nat := [0, 1, 3, 7, 15, 7, 39, 127, 255, 511]
theorem spec_l10Whole.tab1 : rtab .any (opsOf Tryd.f57 1) = spec_l10Whole.T1 := by kernel_rfl
theorem spec_l10Whole.bits1 : waitsOk spec_l10Whole.T1.2 spec_l10Whole.B1 = true := by kernel_rfl
set_option maxHeartbeats 8000000 in
set_option maxRecDepth 100000 in
theorem spec_l10Whole.calls (k : Nat) (a0_0 : Int) (a0_1 : Int) (a0_2 : ByteArray) (a0_3 : Int) (r : Bool) (w : World) (h : spec_l10Whole.f k a0_0 a0_1 a0_2 a0_3 = some r) :
  Calls Tryd.prog 57 #[.agg #[.int .i64 a0_0, .int .i64 a0_1, .string a0_2, .int .i64 a0_3]] w fun e w' => e = .returned (.bool r) ∧ Below w.heap.size w w' := by
 have hu26 := Tryd.underlying26
 have HB := Aside0.mk (Below.refl w.heap.size w)
 have H : ((spec_l10Slot.f a0_0 a0_1 a0_2 a0_3).bind fun t240 => (if t240 = true then ((spec_SlotSum.f k a0_0 a0_1 a0_2 a0_3).bind fun t241 => (some (a0_3 == t241))) else (some false))) = some r := h
 clear h
 replace H := Option.bind_eq_some_iff.mp H
 obtain ⟨t240, A20, H⟩ := H
 replace H : (if t240 = true then ((spec_SlotSum.f k a0_0 a0_1 a0_2 a0_3).bind fun t241 => (some (a0_3 == t241))) else (some false)) = some r := H
 have A2 := Aside0.mk A20
 clear A20
 by_cases c3 : t240 = true
 ·
  subst c3
  rw [if_pos rfl] at H
  replace H := Option.bind_eq_some_iff.mp H
  obtain ⟨t241, A40, H⟩ := H
  replace H : (some (a0_3 == t241)) = some r := H
  have A4 := Aside0.mk A40
  clear A40
  obtain rfl := Option.some.inj H
  go_enter Tryd.func57, Tryd.ntmps57
  try go_wp2_with (first | ((with_reducible refine gate_dst (N := 1) rfl ?_); refine box_event ?hg (N := 1) ?hd (cs := #[.int .i64 a0_0, .int .i64 a0_1, .string a0_2, .int .i64 a0_3]) (t := 26) ?hr ?_; (case hd => rfl); (case hg => rfl); (case hr => first | (go_simp; done) | (go_simp; rfl)); intro gb239 hg w5 hbox hb; have BK239 := Aside0.mk (hbox); have GW239 := Aside0.mk ((by rw [hg]; exact (below_size (bs HB)) : w.heap.size ≤ gb239)); have GE239 := Aside0.mk ((by rw [hg]; exact (below_size (bs HB)) : w.heap.size ≤ gb239)); replace HB := Aside0.mk (below_step (bs HB) hb); clear hb hbox hg))
  have n0_ := Aside0.mk (blk_drew BK239.out)
  have n1_ := Aside0.mk (below_drew1 HB.out)
  clear BK239
  clear HB
  have BK239 := n0_
  have HB := n1_
  clear n0_ n1_
  refine start_ (n := 10) (S := fun w' => w'.cell? ⟨gb239, 0, none⟩ = some (.int .i64 a0_0) ∧ w'.cell? ⟨gb239, 1, none⟩ = some (.int .i64 a0_1) ∧ w'.cell? ⟨gb239, 2, none⟩ = some (.string a0_2) ∧ w'.cell? ⟨gb239, 3, none⟩ = some (.int .i64 a0_3)) (ds := []) #[false, false, false, false, false, false, false, false, false, false] (by kernel_rfl) rfl rfl ⟨(blk_cell BK239.out 0).trans rfl, (blk_cell BK239.out 1).trans rfl, (blk_cell BK239.out 2).trans rfl, (blk_cell BK239.out 3).trans rfl⟩ (fun hHeld => ?_); refine with_tabW spec_l10Whole.tab1 spec_l10Whole.bits1 (fun HT_ HW_ => ?_)
  generalize w5.drew = w6 at BK239 HB hHeld ⊢
  refine takeS 0 3 HT_.out HW_.out hHeld (hr := by rintro w' ⟨s0, s1, s2, s3⟩; go_simp; with_reducible rfl) (h := ?_)
  refine one_ (i := 1) (N := some 4) #[true, true, false, false, false, false, false, false, false, false] rfl rfl (one_of HT_.out (by kernel_rfl)) (by decide) (fun K hK => ?_)
  refine goes_ Tryd.func51 (by kernel_rfl) rfl #[.agg #[.int .i64 a0_0, .int .i64 a0_1, .string a0_2, .int .i64 a0_3]] (by rfl) rfl rfl (by (try simp only [List.map_toArray, List.map_cons, List.map_nil]); first | done | rfl | (simp only [List.length_drop, List.length_take]; rfl)) ?_
  with_reducible refine (spec_l10Slot.calls a0_0 a0_1 a0_2 a0_3 true _ A2.out).mono ?_
  rintro e w7 ⟨rfl, hb⟩
  refine ⟨_, rfl, ?_⟩
  have n0_ := Aside0.mk (bb BK239 hb)
  have n1_ := Aside0.mk (below_step (bs1 HB GE239) hb)
  clear BK239
  clear HB
  have BK239 := n0_
  have HB := n1_
  clear n0_ n1_
  (try clear hb)
  (try clear hb2)
  (try clear hk)
  (try clear hi)
  refine hK.out _ _ ⟨(blk_cell BK239.out 0).trans rfl, (blk_cell BK239.out 1).trans rfl, (blk_cell BK239.out 2).trans rfl, (blk_cell BK239.out 3).trans rfl⟩ (fun hHeld => ?_)
  clear hK K
  refine norm_ (a' := ?_) ?_ ?_
  rotate_left
  ·
   show Act.put _ (some 4) _ = _
   simp only [Act.put, List.setIfInBounds_toArray, List.set_cons_zero, List.set_cons_succ, i64_w, i32_w]
   rfl
  refine pureS 2 5 HT_.out ?_
  refine pureS 3 6 HT_.out ?_
  refine takeS 4 7 HT_.out HW_.out hHeld (hr := by rintro w' ⟨s0, s1, s2, s3⟩; go_simp; with_reducible rfl) (h := ?_)
  refine takeS 5 8 HT_.out HW_.out hHeld (hr := by rintro w' ⟨s0, s1, s2, s3⟩; go_simp; with_reducible rfl) (h := ?_)
  refine one_ (i := 6) (N := some 9) #[true, true, true, true, true, true, true, false, false, false] rfl rfl (one_of HT_.out (by kernel_rfl)) (by decide) (fun K hK => ?_)
  refine goes_ Tryd.func14 (by kernel_rfl) rfl #[.agg #[.int .i64 a0_0, .int .i64 a0_1, .string a0_2, .int .i64 a0_3]] (by rfl) rfl rfl (by (try simp only [List.map_toArray, List.map_cons, List.map_nil]); first | done | rfl | (simp only [List.length_drop, List.length_take]; rfl)) ?_
  with_reducible refine (spec_SlotSum.calls k a0_0 a0_1 a0_2 a0_3 t241 _ A4.out).mono ?_
  rintro e w8 ⟨rfl, hb⟩
  refine ⟨_, rfl, ?_⟩
  have n0_ := Aside0.mk (bb BK239 hb)
  have n1_ := Aside0.mk (below_step (bs1 HB GE239) hb)
  clear BK239
  clear HB
  have BK239 := n0_
  have HB := n1_
  clear n0_ n1_
  (try clear hb)
  (try clear hb2)
  (try clear hk)
  (try clear hi)
  refine hK.out _ _ ⟨(blk_cell BK239.out 0).trans rfl, (blk_cell BK239.out 1).trans rfl, (blk_cell BK239.out 2).trans rfl, (blk_cell BK239.out 3).trans rfl⟩ (fun hHeld => ?_)
  clear hK K
  refine norm_ (a' := ?_) ?_ ?_
  rotate_left
  ·
   show Act.put _ (some 9) _ = _
   simp only [Act.put, List.setIfInBounds_toArray, List.set_cons_zero, List.set_cons_succ, i64_w, i32_w]
   rfl
  refine pureS 7 10 HT_.out ?_
  refine pureS 8 11 HT_.out ?_
  refine pureS 9 2 HT_.out ?_
  refine done_ (done_of HT_.out (by kernel_rfl)) ?_
  try go_wp2
  go_ret
  exact ⟨by first | rfl | (simp [errW_none, errW_some] <;> rfl) | (simp [*, errW_none, errW_some] <;> rfl), bs1 HB GE239⟩
 ·
  replace c3 := Bool.eq_false_iff.mpr c3
  subst c3
  rw [if_neg (show ¬ (false = true) by decide)] at H
  obtain rfl := Option.some.inj H
  go_enter Tryd.func57, Tryd.ntmps57
  try go_wp2_with (first | ((with_reducible refine gate_dst (N := 1) rfl ?_); refine box_event ?hg (N := 1) ?hd (cs := #[.int .i64 a0_0, .int .i64 a0_1, .string a0_2, .int .i64 a0_3]) (t := 26) ?hr ?_; (case hd => rfl); (case hg => rfl); (case hr => first | (go_simp; done) | (go_simp; rfl)); intro gb239 hg w9 hbox hb; have BK239 := Aside0.mk (hbox); have GW239 := Aside0.mk ((by rw [hg]; exact (below_size (bs HB)) : w.heap.size ≤ gb239)); have GE239 := Aside0.mk ((by rw [hg]; exact (below_size (bs HB)) : w.heap.size ≤ gb239)); replace HB := Aside0.mk (below_step (bs HB) hb); clear hb hbox hg))
  have n0_ := Aside0.mk (blk_drew BK239.out)
  have n1_ := Aside0.mk (below_drew1 HB.out)
  clear BK239
  clear HB
  have BK239 := n0_
  have HB := n1_
  clear n0_ n1_
  refine start_ (n := 10) (S := fun w' => w'.cell? ⟨gb239, 0, none⟩ = some (.int .i64 a0_0) ∧ w'.cell? ⟨gb239, 1, none⟩ = some (.int .i64 a0_1) ∧ w'.cell? ⟨gb239, 2, none⟩ = some (.string a0_2) ∧ w'.cell? ⟨gb239, 3, none⟩ = some (.int .i64 a0_3)) (ds := []) #[false, false, false, false, false, false, false, false, false, false] (by kernel_rfl) rfl rfl ⟨(blk_cell BK239.out 0).trans rfl, (blk_cell BK239.out 1).trans rfl, (blk_cell BK239.out 2).trans rfl, (blk_cell BK239.out 3).trans rfl⟩ (fun hHeld => ?_); refine with_tabW spec_l10Whole.tab1 spec_l10Whole.bits1 (fun HT_ HW_ => ?_)
  generalize w9.drew = w10 at BK239 HB hHeld ⊢
  refine takeS 0 3 HT_.out HW_.out hHeld (hr := by rintro w' ⟨s0, s1, s2, s3⟩; go_simp; with_reducible rfl) (h := ?_)
  refine one_ (i := 1) (N := some 4) #[true, true, false, false, false, false, false, false, false, false] rfl rfl (one_of HT_.out (by kernel_rfl)) (by decide) (fun K hK => ?_)
  refine goes_ Tryd.func51 (by kernel_rfl) rfl #[.agg #[.int .i64 a0_0, .int .i64 a0_1, .string a0_2, .int .i64 a0_3]] (by rfl) rfl rfl (by (try simp only [List.map_toArray, List.map_cons, List.map_nil]); first | done | rfl | (simp only [List.length_drop, List.length_take]; rfl)) ?_
  with_reducible refine (spec_l10Slot.calls a0_0 a0_1 a0_2 a0_3 false _ A2.out).mono ?_
  rintro e w11 ⟨rfl, hb⟩
  refine ⟨_, rfl, ?_⟩
  have n0_ := Aside0.mk (bb BK239 hb)
  have n1_ := Aside0.mk (below_step (bs1 HB GE239) hb)
  clear BK239
  clear HB
  have BK239 := n0_
  have HB := n1_
  clear n0_ n1_
  (try clear hb)
  (try clear hb2)
  (try clear hk)
  (try clear hi)
  refine hK.out _ _ ⟨(blk_cell BK239.out 0).trans rfl, (blk_cell BK239.out 1).trans rfl, (blk_cell BK239.out 2).trans rfl, (blk_cell BK239.out 3).trans rfl⟩ (fun hHeld => ?_)
  clear hK K
  refine norm_ (a' := ?_) ?_ ?_
  rotate_left
  ·
   show Act.put _ (some 4) _ = _
   simp only [Act.put, List.setIfInBounds_toArray, List.set_cons_zero, List.set_cons_succ, i64_w, i32_w]
   rfl
  refine pureS 2 5 HT_.out ?_
  refine pureU 3 6 HT_.out ?_
  refine pureU 4 7 HT_.out ?_
  refine pureU 5 8 HT_.out ?_
  refine pureU 6 9 HT_.out ?_
  refine pureU 7 10 HT_.out ?_
  refine pureS 8 11 HT_.out ?_
  refine pureS 9 2 HT_.out ?_
  refine done_ (done_of HT_.out (by kernel_rfl)) ?_
  try go_wp2
  go_ret
  exact ⟨by first | rfl | (simp [errW_none, errW_some] <;> rfl) | (simp [*, errW_none, errW_some] <;> rfl), bs1 HB GE239⟩

/-! ### spec_GoodRing: function 18 -/
mutual
def spec_GoodRing.j0 : Nat → Int → Bool → List (S26) → Int → Int → Int → Option (Bool)
 | 0, _, _, _, _, _, _ => none
 | k + 1, x3, x45, x243000, x243001, x243002, x243003 => if x45 = true then (some false) else (spec_GoodRing.l0 k x3 0 (wrap64 (x243001 - x3)) x243000 x243001 x243002 x243003)
def spec_GoodRing.l0 : Nat → Int → Int → Int → List (S26) → Int → Int → Int → Option (Bool)
 | 0, _, _, _, _, _, _, _ => none
 | k + 1, x3, x4, x5, x243000, x243001, x243002, x243003 => if x5 < x243001 then (if x5 < 0 then (if 0 ≤ (wrap64 (x5 + x3)) then (if (wrap64 (x5 + x3)) < (x243000.length : Int) then ((spec_l10Zero.f k).bind fun bt247 => (if (!(((rd_T26 x243000 (wrap64 (x5 + x3))).f0) == bt247.1) || (!(((rd_T26 x243000 (wrap64 (x5 + x3))).f1) == bt247.2.1) || (!((((rd_T26 x243000 (wrap64 (x5 + x3))).f2).toList) == bt247.2.2.1.toList) || (!(((rd_T26 x243000 (wrap64 (x5 + x3))).f3) == bt247.2.2.2))))) = true then (some false) else (spec_GoodRing.l0 k x3 x4 (wrap64 (x5 + 1)) x243000 x243001 x243002 x243003))) else (none)) else (none)) else (if x3 = 0 then (none) else (if 0 ≤ (Int.tmod x5 x3) then (if (Int.tmod x5 x3) < (x243000.length : Int) then (if x5 < x243003 then ((spec_l10Zero.f k).bind fun bt253 => (spec_GoodRing.j2 k x3 x4 x5 (((rd_T26 x243000 (Int.tmod x5 x3)).f0) == bt253.1 && (((rd_T26 x243000 (Int.tmod x5 x3)).f1) == bt253.2.1 && ((((rd_T26 x243000 (Int.tmod x5 x3)).f2).toList) == bt253.2.2.1.toList && (((rd_T26 x243000 (Int.tmod x5 x3)).f3) == bt253.2.2.2)))) x243000 x243001 x243002 x243003 ((rd_T26 x243000 (Int.tmod x5 x3)).f0) ((rd_T26 x243000 (Int.tmod x5 x3)).f1) ((rd_T26 x243000 (Int.tmod x5 x3)).f2) ((rd_T26 x243000 (Int.tmod x5 x3)).f3))) else (spec_GoodRing.j2 k x3 x4 x5 false x243000 x243001 x243002 x243003 ((rd_T26 x243000 (Int.tmod x5 x3)).f0) ((rd_T26 x243000 (Int.tmod x5 x3)).f1) ((rd_T26 x243000 (Int.tmod x5 x3)).f2) ((rd_T26 x243000 (Int.tmod x5 x3)).f3))) else (none)) else (none)))) else (some true)
def spec_GoodRing.j2 : Nat → Int → Int → Int → Bool → List (S26) → Int → Int → Int → Int → Int → ByteArray → Int → Option (Bool)
 | 0, _, _, _, _, _, _, _, _, _, _, _, _ => none
 | k + 1, x3, x4, x5, x82, x243000, x243001, x243002, x243003, x253000, x253001, x253002, x253003 => if x82 = true then (spec_GoodRing.l0 k x3 x4 (wrap64 (x5 + 1)) x243000 x243001 x243002 x243003) else ((spec_l10Whole.f k x253000 x253001 x253002 x253003).bind fun t257 => (if t257 = true then (if x3 = 0 then (none) else (spec_GoodRing.j3 k x3 x4 x5 (x253000 != (wrap64 ((wrap64 (Int.tdiv x5 x3)) + 1))) x243000 x243001 x243002 x243003 x253000 x253001 x253002 x253003)) else (spec_GoodRing.j3 k x3 x4 x5 true x243000 x243001 x243002 x243003 x253000 x253001 x253002 x253003)))
def spec_GoodRing.j3 : Nat → Int → Int → Int → Bool → List (S26) → Int → Int → Int → Int → Int → ByteArray → Int → Option (Bool)
 | 0, _, _, _, _, _, _, _, _, _, _, _, _ => none
 | k + 1, x3, x4, x5, x94, x243000, x243001, x243002, x243003, x253000, x253001, x253002, x253003 => if x94 = true then (some false) else (if x253001 < x4 then (some false) else (if x253001 > x5 then (some false) else (if x253001 > x243003 then (some false) else (spec_GoodRing.l0 k x3 x253001 (wrap64 (x5 + 1)) x243000 x243001 x243002 x243003))))
end
def spec_GoodRing.f (k : Nat) (l0_0 : List (S26)) (a0_1 : Int) (a0_2 : Int) (a0_3 : Int) : Option (Bool) := (spec_l1In.f (l0_0.length : Int) 2 24).bind fun t243 => (if t243 = true then ((spec_l1In.f a0_1 0 10000000).bind fun t244 => (if t244 = true then ((spec_l1In.f a0_3 0 a0_1).bind fun t245 => (if t245 = true then (if (wrap64 (a0_1 - a0_3)) > (l0_0.length : Int) then (spec_GoodRing.j0 k (l0_0.length : Int) true l0_0 a0_1 a0_2 a0_3) else (if (l0_0.length : Int) = 0 then (none) else (spec_GoodRing.j0 k (l0_0.length : Int) (a0_2 != (wrap64 ((wrap64 (Int.tdiv a0_1 (l0_0.length : Int))) + 1))) l0_0 a0_1 a0_2 a0_3))) else (spec_GoodRing.j0 k (l0_0.length : Int) true l0_0 a0_1 a0_2 a0_3))) else (spec_GoodRing.j0 k (l0_0.length : Int) true l0_0 a0_1 a0_2 a0_3))) else (spec_GoodRing.j0 k (l0_0.length : Int) true l0_0 a0_1 a0_2 a0_3))
theorem spec_GoodRing.mono_l : ∀ k, (∀ y0 y1 y2 y3 y4 y5, LeO (spec_GoodRing.j0 k y0 y1 y2 y3 y4 y5) (spec_GoodRing.j0 (k + 1) y0 y1 y2 y3 y4 y5)) ∧ (∀ y0 y1 y2 y3 y4 y5 y6, LeO (spec_GoodRing.l0 k y0 y1 y2 y3 y4 y5 y6) (spec_GoodRing.l0 (k + 1) y0 y1 y2 y3 y4 y5 y6)) ∧ (∀ y0 y1 y2 y3 y4 y5 y6 y7 y8 y9 y10 y11, LeO (spec_GoodRing.j2 k y0 y1 y2 y3 y4 y5 y6 y7 y8 y9 y10 y11) (spec_GoodRing.j2 (k + 1) y0 y1 y2 y3 y4 y5 y6 y7 y8 y9 y10 y11)) ∧ (∀ y0 y1 y2 y3 y4 y5 y6 y7 y8 y9 y10 y11, LeO (spec_GoodRing.j3 k y0 y1 y2 y3 y4 y5 y6 y7 y8 y9 y10 y11) (spec_GoodRing.j3 (k + 1) y0 y1 y2 y3 y4 y5 y6 y7 y8 y9 y10 y11))
 | 0 => ⟨fun _ _ _ _ _ _ r h => by simp [spec_GoodRing.j0] at h, fun _ _ _ _ _ _ _ r h => by simp [spec_GoodRing.l0] at h, fun _ _ _ _ _ _ _ _ _ _ _ _ r h => by simp [spec_GoodRing.j2] at h, fun _ _ _ _ _ _ _ _ _ _ _ _ r h => by simp [spec_GoodRing.j3] at h⟩
 | k + 1 => by
  obtain ⟨ih0, ih1, ih2, ih3⟩ := spec_GoodRing.mono_l k
  refine ⟨?_, ?_, ?_, ?_⟩
  ·
   intro y0 y1 y2 y3 y4 y5
   unfold spec_GoodRing.j0
   repeat' first
   | (with_reducible exact ih0 _ _ _ _ _ _)
   | (with_reducible exact ih1 _ _ _ _ _ _ _)
   | (with_reducible exact ih2 _ _ _ _ _ _ _ _ _ _ _ _)
   | (with_reducible exact ih3 _ _ _ _ _ _ _ _ _ _ _ _)
   | (with_reducible exact spec_l10Whole.mono _ _ _ _ _)
   | (with_reducible exact spec_l10Zero.mono _)
   | (with_reducible exact LeO.refl _)
   | (with_reducible exact LeO.none _)
   | (with_reducible refine LeO.ite ?_ ?_)
   | (with_reducible refine LeO.bind ?_ (fun _ => ?_))
   | exact ih0 _ _ _ _ _ _
   | exact ih1 _ _ _ _ _ _ _
   | exact ih2 _ _ _ _ _ _ _ _ _ _ _ _
   | exact ih3 _ _ _ _ _ _ _ _ _ _ _ _
   | exact spec_l10Whole.mono _ _ _ _ _
   | exact spec_l10Zero.mono _
   | exact LeO.none _
   | refine LeO.ite ?_ ?_
   | refine LeO.bind ?_ (fun _ => ?_)
  ·
   intro y0 y1 y2 y3 y4 y5 y6
   unfold spec_GoodRing.l0
   repeat' first
   | (with_reducible exact ih0 _ _ _ _ _ _)
   | (with_reducible exact ih1 _ _ _ _ _ _ _)
   | (with_reducible exact ih2 _ _ _ _ _ _ _ _ _ _ _ _)
   | (with_reducible exact ih3 _ _ _ _ _ _ _ _ _ _ _ _)
   | (with_reducible exact spec_l10Whole.mono _ _ _ _ _)
   | (with_reducible exact spec_l10Zero.mono _)
   | (with_reducible exact LeO.refl _)
   | (with_reducible exact LeO.none _)
   | (with_reducible refine LeO.ite ?_ ?_)
   | (with_reducible refine LeO.bind ?_ (fun _ => ?_))
   | exact ih0 _ _ _ _ _ _
   | exact ih1 _ _ _ _ _ _ _
   | exact ih2 _ _ _ _ _ _ _ _ _ _ _ _
   | exact ih3 _ _ _ _ _ _ _ _ _ _ _ _
   | exact spec_l10Whole.mono _ _ _ _ _
   | exact spec_l10Zero.mono _
   | exact LeO.none _
   | refine LeO.ite ?_ ?_
   | refine LeO.bind ?_ (fun _ => ?_)
  ·
   intro y0 y1 y2 y3 y4 y5 y6 y7 y8 y9 y10 y11
   unfold spec_GoodRing.j2
   repeat' first
   | (with_reducible exact ih0 _ _ _ _ _ _)
   | (with_reducible exact ih1 _ _ _ _ _ _ _)
   | (with_reducible exact ih2 _ _ _ _ _ _ _ _ _ _ _ _)
   | (with_reducible exact ih3 _ _ _ _ _ _ _ _ _ _ _ _)
   | (with_reducible exact spec_l10Whole.mono _ _ _ _ _)
   | (with_reducible exact spec_l10Zero.mono _)
   | (with_reducible exact LeO.refl _)
   | (with_reducible exact LeO.none _)
   | (with_reducible refine LeO.ite ?_ ?_)
   | (with_reducible refine LeO.bind ?_ (fun _ => ?_))
   | exact ih0 _ _ _ _ _ _
   | exact ih1 _ _ _ _ _ _ _
   | exact ih2 _ _ _ _ _ _ _ _ _ _ _ _
   | exact ih3 _ _ _ _ _ _ _ _ _ _ _ _
   | exact spec_l10Whole.mono _ _ _ _ _
   | exact spec_l10Zero.mono _
   | exact LeO.none _
   | refine LeO.ite ?_ ?_
   | refine LeO.bind ?_ (fun _ => ?_)
  ·
   intro y0 y1 y2 y3 y4 y5 y6 y7 y8 y9 y10 y11
   unfold spec_GoodRing.j3
   repeat' first
   | (with_reducible exact ih0 _ _ _ _ _ _)
   | (with_reducible exact ih1 _ _ _ _ _ _ _)
   | (with_reducible exact ih2 _ _ _ _ _ _ _ _ _ _ _ _)
   | (with_reducible exact ih3 _ _ _ _ _ _ _ _ _ _ _ _)
   | (with_reducible exact spec_l10Whole.mono _ _ _ _ _)
   | (with_reducible exact spec_l10Zero.mono _)
   | (with_reducible exact LeO.refl _)
   | (with_reducible exact LeO.none _)
   | (with_reducible refine LeO.ite ?_ ?_)
   | (with_reducible refine LeO.bind ?_ (fun _ => ?_))
   | exact ih0 _ _ _ _ _ _
   | exact ih1 _ _ _ _ _ _ _
   | exact ih2 _ _ _ _ _ _ _ _ _ _ _ _
   | exact ih3 _ _ _ _ _ _ _ _ _ _ _ _
   | exact spec_l10Whole.mono _ _ _ _ _
   | exact spec_l10Zero.mono _
   | exact LeO.none _
   | refine LeO.ite ?_ ?_
   | refine LeO.bind ?_ (fun _ => ?_)
theorem spec_GoodRing.mono : ∀ a0 a1 a2 a3 k, LeO (spec_GoodRing.f k a0 a1 a2 a3) (spec_GoodRing.f (k + 1) a0 a1 a2 a3) := by
 intro a0 a1 a2 a3 k
 obtain ⟨ih0, ih1, ih2, ih3⟩ := spec_GoodRing.mono_l k
 unfold spec_GoodRing.f
 repeat' first
   | (with_reducible exact ih0 _ _ _ _ _ _)
   | (with_reducible exact ih1 _ _ _ _ _ _ _)
   | (with_reducible exact ih2 _ _ _ _ _ _ _ _ _ _ _ _)
   | (with_reducible exact ih3 _ _ _ _ _ _ _ _ _ _ _ _)
   | (with_reducible exact spec_l10Whole.mono _ _ _ _ _)
   | (with_reducible exact spec_l10Zero.mono _)
   | (with_reducible exact LeO.refl _)
   | (with_reducible exact LeO.none _)
   | (with_reducible refine LeO.ite ?_ ?_)
   | (with_reducible refine LeO.bind ?_ (fun _ => ?_))
   | exact ih0 _ _ _ _ _ _
   | exact ih1 _ _ _ _ _ _ _
   | exact ih2 _ _ _ _ _ _ _ _ _ _ _ _
   | exact ih3 _ _ _ _ _ _ _ _ _ _ _ _
   | exact spec_l10Whole.mono _ _ _ _ _
   | exact spec_l10Zero.mono _
   | exact LeO.none _
   | refine LeO.ite ?_ ?_
   | refine LeO.bind ?_ (fun _ => ?_)
def spec_GoodRing.T2 : Bool × List (List Nat × List Nat) := (true, [([], []), ([0], [0]), ([1], [1]), ([2, 1], [2]), ([3], [3]), ([4, 3], [3, 4]), ([5, 3, 3], [3, 5]), ([6, 3], [3, 6]), ([3, 7], [3, 7]), ([8, 6], [8]), ([9], [9]), ([10, 9], [9, 10]), ([9], [9]), ([12, 9], [9, 12]), ([11, 13, 9, 9], [9, 11, 13]), ([14, 9], [9, 14]), ([9, 15], [9, 15]), ([16, 14], [16]), ([17], [17]), ([18, 17], [17, 18]), ([17], [17]), ([20, 17], [17, 20]), ([19, 21, 17], [17, 19, 21]), ([17], [17]), ([22, 23, 17], [17, 22, 23]), ([17, 24], [17, 24]), ([25, 17], [25]), ([26], [26]), ([27, 26], [26, 27]), ([26], [26]), ([29, 26], [26, 29]), ([26], [26]), ([30, 31, 26], [26, 30, 31]), ([32, 26], [26, 32]), ([28, 33, 26], [26, 28, 33]), ([26, 34], [26, 34])])
def spec_GoodRing.B2 : List Nat := [0, 1, 3, 7, 15, 31, 63, 127, 255, 511, 1023, 2047, 1023, 5119, 16383, 32767, 65535, 131071, 262143, 524287, 262143, 1310719, 4194303, 262143, 16777215, 33554431, 67108863, 134217727, 268435455, 134217727, 671088639, 134217727, 3892314111, 8187281407, 17179869183, 34359738367]
theorem spec_GoodRing.tab2 : rtab .any (opsOf Tryd.f18 2) = spec_GoodRing.T2 := by kernel_rfl
theorem spec_GoodRing.bits2 : waitsOk spec_GoodRing.T2.2 spec_GoodRing.B2 = true := by kernel_rfl
def spec_GoodRing.T9 : Bool × List (List Nat × List Nat) := (true, [([], []), ([0], [0]), ([], []), ([], []), ([2, 3], [2, 3]), ([1, 4], [1, 4]), ([5], [5]), ([], []), ([6, 7], [6, 7])])
def spec_GoodRing.B9 : List Nat := [0, 1, 0, 0, 12, 31, 63, 0, 255]
theorem spec_GoodRing.tab9 : rtab .any (opsOf Tryd.f18 9) = spec_GoodRing.T9 := by kernel_rfl
theorem spec_GoodRing.bits9 : waitsOk spec_GoodRing.T9.2 spec_GoodRing.B9 = true := by kernel_rfl
def spec_GoodRing.T11 : Bool × List (List Nat × List Nat) := (true, [([], []), ([0], [0]), ([], []), ([], []), ([2, 3], [2, 3]), ([1, 4], [1, 4]), ([5], [5]), ([], []), ([7, 6, 0, 1, 2, 3, 4, 5, 6, 7], [6, 7])])
def spec_GoodRing.B11 : List Nat := [0, 1, 0, 0, 12, 31, 63, 0, 255]
theorem spec_GoodRing.tab11 : rtab .any (opsOf Tryd.f18 11) = spec_GoodRing.T11 := by kernel_rfl
theorem spec_GoodRing.bits11 : waitsOk spec_GoodRing.T11.2 spec_GoodRing.B11 = true := by kernel_rfl
def spec_GoodRing.T12 : Bool × List (List Nat × List Nat) := (true, [([], []), ([], []), ([1], [1]), ([0, 2], [0, 2]), ([3], [3]), ([4], [4]), ([4, 4], [4]), ([5, 6, 4], [4, 5, 6]), ([4, 7], [4, 7])])
def spec_GoodRing.B12 : List Nat := [0, 0, 2, 7, 15, 31, 31, 127, 255]
theorem spec_GoodRing.tab12 : rtab .any (opsOf Tryd.f18 12) = spec_GoodRing.T12 := by kernel_rfl
theorem spec_GoodRing.bits12 : waitsOk spec_GoodRing.T12.2 spec_GoodRing.B12 = true := by kernel_rfl
def spec_GoodRing.T13 : Bool × List (List Nat × List Nat) := (true, [([], []), ([0], [0]), ([1], [1]), ([2, 1], [2]), ([3], [3]), ([4, 3], [3, 4]), ([3], [3]), ([3], [3]), ([6, 7, 3], [3, 6, 7]), ([8, 3], [3, 8]), ([5, 9, 3], [3, 5, 9]), ([3, 10], [3, 10])])
def spec_GoodRing.B13 : List Nat := [0, 1, 3, 7, 15, 31, 15, 15, 207, 463, 1023, 2047]
theorem spec_GoodRing.tab13 : rtab .any (opsOf Tryd.f18 13) = spec_GoodRing.T13 := by kernel_rfl
theorem spec_GoodRing.bits13 : waitsOk spec_GoodRing.T13.2 spec_GoodRing.B13 = true := by kernel_rfl
set_option maxHeartbeats 8000000 in
set_option maxRecDepth 100000 in
theorem spec_GoodRing.calls (k : Nat) (A0_0 : Option Addr) (c0_0 : Nat) (l0_0 : List (S26)) (a0_1 : Int) (a0_2 : Int) (a0_3 : Int) (r : Bool) (w : World) (hr0_0 : Kd.C k26 w A0_0 l0_0.length l0_0) (hc0_0 : l0_0.length ≤ c0_0) (h : spec_GoodRing.f k l0_0 a0_1 a0_2 a0_3 = some r) :
  Calls Tryd.prog 18 #[.agg #[.slice A0_0 l0_0.length c0_0, .int .i64 a0_1, .int .i64 a0_2, .int .i64 a0_3]] w fun e w' => e = .returned (.bool r) ∧ Below w.heap.size w w' := by
 have hu36 := Tryd.underlying36
 have hu26 := Tryd.underlying26
 have HR0_0 := Aside0.mk hr0_0
 have HC0_0 := Aside0.mk hc0_0
 clear hr0_0 hc0_0
 have HB := Aside0.mk (Below.refl w.heap.size w)
 have H : ((spec_l1In.f (l0_0.length : Int) 2 24).bind fun t243 => (if t243 = true then ((spec_l1In.f a0_1 0 10000000).bind fun t244 => (if t244 = true then ((spec_l1In.f a0_3 0 a0_1).bind fun t245 => (if t245 = true then (if (wrap64 (a0_1 - a0_3)) > (l0_0.length : Int) then (spec_GoodRing.j0 k (l0_0.length : Int) true l0_0 a0_1 a0_2 a0_3) else (if (l0_0.length : Int) = 0 then (none) else (spec_GoodRing.j0 k (l0_0.length : Int) (a0_2 != (wrap64 ((wrap64 (Int.tdiv a0_1 (l0_0.length : Int))) + 1))) l0_0 a0_1 a0_2 a0_3))) else (spec_GoodRing.j0 k (l0_0.length : Int) true l0_0 a0_1 a0_2 a0_3))) else (spec_GoodRing.j0 k (l0_0.length : Int) true l0_0 a0_1 a0_2 a0_3))) else (spec_GoodRing.j0 k (l0_0.length : Int) true l0_0 a0_1 a0_2 a0_3))) = some r := h
 clear h
 have HC2 := Aside0.mk H
 clear H
 go_enter Tryd.func18, Tryd.ntmps18
 go_upto_region 2 with (first | ((with_reducible refine gate_dst (N := 1) rfl ?_); refine box_event ?hg (N := 1) ?hd (cs := #[.slice A0_0 l0_0.length c0_0, .int .i64 a0_1, .int .i64 a0_2, .int .i64 a0_3]) (t := 36) ?hr ?_; (case hd => rfl); (case hg => rfl); (case hr => first | (go_simp; done) | (go_simp; rfl)); intro gb242 hg w3 hbox hb; have BK242 := Aside0.mk (hbox); have GW242 := Aside0.mk ((by rw [hg]; exact (below_size (bs HB)) : w.heap.size ≤ gb242)); have GE242 := Aside0.mk ((by rw [hg]; exact (below_size (bs HB)) : w.heap.size ≤ gb242)); replace HB := Aside0.mk (below_step (bs HB) hb); clear hb hbox hg; obtain ⟨hcz4_0, hcz4_1, hcz4_2, hcz4_3⟩ := cz4 BK242; obtain ⟨hfz4_0, hfz4_1, hfz4_2, hfz4_3⟩ := fz4 BK242))
 (try simp only [Act.put, List.setIfInBounds_toArray, List.set_cons_zero, List.set_cons_succ])
 go_cut [45] (fun v45 wc => ∃ (kq : Nat) (x45_1 : Bool), v45 = .bool x45_1 ∧ Aside0 (spec_GoodRing.j0 kq (l0_0.length : Int) x45_1 l0_0 a0_1 a0_2 a0_3 = some r) ∧ Aside0 (kq ≤ k) ∧ Aside0 (wc.heap[gb242]? = some (.cells #[(.slice A0_0 l0_0.length c0_0), .int .i64 a0_1, .int .i64 a0_2, .int .i64 a0_3] 36 (0, 0))) ∧ Aside0 (Below w.heap.size w wc))
 case first =>
  have H := HC2.out
  clear HC2
  replace H := Option.bind_eq_some_iff.mp H
  obtain ⟨t243, A50, H⟩ := H
  replace H : (if t243 = true then ((spec_l1In.f a0_1 0 10000000).bind fun t244 => (if t244 = true then ((spec_l1In.f a0_3 0 a0_1).bind fun t245 => (if t245 = true then (if (wrap64 (a0_1 - a0_3)) > (l0_0.length : Int) then (spec_GoodRing.j0 k (l0_0.length : Int) true l0_0 a0_1 a0_2 a0_3) else (if (l0_0.length : Int) = 0 then (none) else (spec_GoodRing.j0 k (l0_0.length : Int) (a0_2 != (wrap64 ((wrap64 (Int.tdiv a0_1 (l0_0.length : Int))) + 1))) l0_0 a0_1 a0_2 a0_3))) else (spec_GoodRing.j0 k (l0_0.length : Int) true l0_0 a0_1 a0_2 a0_3))) else (spec_GoodRing.j0 k (l0_0.length : Int) true l0_0 a0_1 a0_2 a0_3))) else (spec_GoodRing.j0 k (l0_0.length : Int) true l0_0 a0_1 a0_2 a0_3)) = some r := H
  have A5 := Aside0.mk A50
  clear A50
  by_cases c6 : t243 = true
  ·
   subst c6
   rw [if_pos rfl] at H
   replace H := Option.bind_eq_some_iff.mp H
   obtain ⟨t244, A70, H⟩ := H
   replace H : (if t244 = true then ((spec_l1In.f a0_3 0 a0_1).bind fun t245 => (if t245 = true then (if (wrap64 (a0_1 - a0_3)) > (l0_0.length : Int) then (spec_GoodRing.j0 k (l0_0.length : Int) true l0_0 a0_1 a0_2 a0_3) else (if (l0_0.length : Int) = 0 then (none) else (spec_GoodRing.j0 k (l0_0.length : Int) (a0_2 != (wrap64 ((wrap64 (Int.tdiv a0_1 (l0_0.length : Int))) + 1))) l0_0 a0_1 a0_2 a0_3))) else (spec_GoodRing.j0 k (l0_0.length : Int) true l0_0 a0_1 a0_2 a0_3))) else (spec_GoodRing.j0 k (l0_0.length : Int) true l0_0 a0_1 a0_2 a0_3)) = some r := H
   have A7 := Aside0.mk A70
   clear A70
   by_cases c8 : t244 = true
   ·
    subst c8
    rw [if_pos rfl] at H
    replace H := Option.bind_eq_some_iff.mp H
    obtain ⟨t245, A90, H⟩ := H
    replace H : (if t245 = true then (if (wrap64 (a0_1 - a0_3)) > (l0_0.length : Int) then (spec_GoodRing.j0 k (l0_0.length : Int) true l0_0 a0_1 a0_2 a0_3) else (if (l0_0.length : Int) = 0 then (none) else (spec_GoodRing.j0 k (l0_0.length : Int) (a0_2 != (wrap64 ((wrap64 (Int.tdiv a0_1 (l0_0.length : Int))) + 1))) l0_0 a0_1 a0_2 a0_3))) else (spec_GoodRing.j0 k (l0_0.length : Int) true l0_0 a0_1 a0_2 a0_3)) = some r := H
    have A9 := Aside0.mk A90
    clear A90
    by_cases c10 : t245 = true
    ·
     subst c10
     rw [if_pos rfl] at H
     by_cases c11 : (wrap64 (a0_1 - a0_3)) > (l0_0.length : Int)
     ·
      rw [if_pos c11] at H
      have c11b0 : decide ((l0_0.length : Int) < (wrap64 (a0_1 - a0_3))) = true := decide_eq_true c11
      clear c11
      (first | rw [c11b0] | (simp only [i64_w, i32_w]; rw [c11b0]) | (simp only [c11b2, Bool.not_false, Bool.not_true]) | skip)
      have H' := Aside0.mk H
      clear H
      try go_wp2
      have n0_ := Aside0.mk (blk_drew BK242.out)
      have n1_ := Aside0.mk (below_drew1 HB.out)
      clear BK242
      clear HB
      have BK242 := n0_
      have HB := n1_
      clear n0_ n1_
      refine start_ (n := 36) (S := fun w' => w'.cell? ⟨gb242, 0, none⟩ = some (.slice A0_0 l0_0.length c0_0) ∧ w'.cell? ⟨gb242, 1, none⟩ = some (.int .i64 a0_1) ∧ w'.cell? ⟨gb242, 2, none⟩ = some (.int .i64 a0_2) ∧ w'.cell? ⟨gb242, 3, none⟩ = some (.int .i64 a0_3)) (ds := []) #[false, false, false, false, false, false, false, false, false, false, false, false, false, false, false, false, false, false, false, false, false, false, false, false, false, false, false, false, false, false, false, false, false, false, false, false] (by kernel_rfl) rfl rfl ⟨(blk_cell BK242.out 0).trans rfl, (blk_cell BK242.out 1).trans rfl, (blk_cell BK242.out 2).trans rfl, (blk_cell BK242.out 3).trans rfl⟩ (fun hHeld => ?_); refine with_tabW spec_GoodRing.tab2 spec_GoodRing.bits2 (fun HT_ HW_ => ?_)
      generalize w3.drew = w12 at BK242 HB hHeld ⊢
      refine pureS 0 10 HT_.out ?_
      refine one_ (i := 1) (N := some 11) #[true, true, false, false, false, false, false, false, false, false, false, false, false, false, false, false, false, false, false, false, false, false, false, false, false, false, false, false, false, false, false, false, false, false, false, false] rfl rfl (one_of HT_.out (by kernel_rfl)) (by decide) (fun K hK => ?_)
      refine goes_ Tryd.func55 (by kernel_rfl) rfl #[.int .i64 (l0_0.length : Int), .int .i64 2, .int .i64 24] (by rfl) rfl rfl (by (try simp only [List.map_toArray, List.map_cons, List.map_nil]); first | done | rfl | (simp only [List.length_drop, List.length_take]; rfl)) ?_
      with_reducible refine (spec_l1In.calls (l0_0.length : Int) 2 24 true _ A5.out).mono ?_
      rintro e w' ⟨rfl, ⟨nd, rfl⟩⟩
      refine ⟨_, rfl, ?_⟩
      refine hK.out _ _ ⟨(blk_cell BK242.out 0).trans rfl, (blk_cell BK242.out 1).trans rfl, (blk_cell BK242.out 2).trans rfl, (blk_cell BK242.out 3).trans rfl⟩ (fun hHeld => ?_)
      clear hK K
      refine norm_ (a' := ?_) ?_ ?_
      rotate_left
      ·
       show Act.put _ (some 11) _ = _
       simp only [Act.put, List.setIfInBounds_toArray, List.set_cons_zero, List.set_cons_succ, i64_w, i32_w]
       rfl
      refine pureS 2 12 HT_.out ?_
      refine pureS 3 13 HT_.out ?_
      refine pureS 4 14 HT_.out ?_
      refine takeS 5 15 HT_.out HW_.out hHeld (hr := by rintro w' ⟨s0, s1, s2, s3⟩; go_simp; with_reducible rfl) (h := ?_)
      refine one_ (i := 6) (N := some 16) #[true, true, true, true, true, true, true, false, false, false, false, false, false, false, false, false, false, false, false, false, false, false, false, false, false, false, false, false, false, false, false, false, false, false, false, false] rfl rfl (one_of HT_.out (by kernel_rfl)) (by decide) (fun K hK => ?_)
      refine goes_ Tryd.func55 (by kernel_rfl) rfl #[.int .i64 a0_1, .int .i64 0, .int .i64 10000000] (by rfl) rfl rfl (by (try simp only [List.map_toArray, List.map_cons, List.map_nil]); first | done | rfl | (simp only [List.length_drop, List.length_take]; rfl)) ?_
      with_reducible refine (spec_l1In.calls a0_1 0 10000000 true _ A7.out).mono ?_
      rintro e w' ⟨rfl, ⟨nd, rfl⟩⟩
      refine ⟨_, rfl, ?_⟩
      refine hK.out _ _ ⟨(blk_cell BK242.out 0).trans rfl, (blk_cell BK242.out 1).trans rfl, (blk_cell BK242.out 2).trans rfl, (blk_cell BK242.out 3).trans rfl⟩ (fun hHeld => ?_)
      clear hK K
      refine norm_ (a' := ?_) ?_ ?_
      rotate_left
      ·
       show Act.put _ (some 16) _ = _
       simp only [Act.put, List.setIfInBounds_toArray, List.set_cons_zero, List.set_cons_succ, i64_w, i32_w]
       rfl
      refine pureS 7 17 HT_.out ?_
      refine pureS 8 18 HT_.out ?_
      refine pureS 9 19 HT_.out ?_
      refine pureS 10 20 HT_.out ?_
      refine pureS 12 22 HT_.out ?_
      refine takeS 11 21 HT_.out HW_.out hHeld (hr := by rintro w' ⟨s0, s1, s2, s3⟩; go_simp; with_reducible rfl) (h := ?_)
      refine takeS 13 23 HT_.out HW_.out hHeld (hr := by rintro w' ⟨s0, s1, s2, s3⟩; go_simp; with_reducible rfl) (h := ?_)
      refine one_ (i := 14) (N := some 24) #[true, true, true, true, true, true, true, true, true, true, true, true, true, true, true, false, false, false, false, false, false, false, false, false, false, false, false, false, false, false, false, false, false, false, false, false] rfl rfl (one_of HT_.out (by kernel_rfl)) (by decide) (fun K hK => ?_)
      refine goes_ Tryd.func55 (by kernel_rfl) rfl #[.int .i64 a0_3, .int .i64 0, .int .i64 a0_1] (by rfl) rfl rfl (by (try simp only [List.map_toArray, List.map_cons, List.map_nil]); first | done | rfl | (simp only [List.length_drop, List.length_take]; rfl)) ?_
      with_reducible refine (spec_l1In.calls a0_3 0 a0_1 true _ A9.out).mono ?_
      rintro e w' ⟨rfl, ⟨nd, rfl⟩⟩
      refine ⟨_, rfl, ?_⟩
      refine hK.out _ _ ⟨(blk_cell BK242.out 0).trans rfl, (blk_cell BK242.out 1).trans rfl, (blk_cell BK242.out 2).trans rfl, (blk_cell BK242.out 3).trans rfl⟩ (fun hHeld => ?_)
      clear hK K
      refine norm_ (a' := ?_) ?_ ?_
      rotate_left
      ·
       show Act.put _ (some 24) _ = _
       simp only [Act.put, List.setIfInBounds_toArray, List.set_cons_zero, List.set_cons_succ, i64_w, i32_w]
       rfl
      refine pureS 15 25 HT_.out ?_
      refine pureS 16 26 HT_.out ?_
      refine pureS 17 27 HT_.out ?_
      refine pureS 18 28 HT_.out ?_
      refine pureS 20 30 HT_.out ?_
      refine pureS 23 33 HT_.out ?_
      refine takeS 19 29 HT_.out HW_.out hHeld (hr := by rintro w' ⟨s0, s1, s2, s3⟩; go_simp; with_reducible rfl) (h := ?_)
      refine takeS 21 31 HT_.out HW_.out hHeld (hr := by rintro w' ⟨s0, s1, s2, s3⟩; go_simp; with_reducible rfl) (h := ?_)
      refine pureS 22 32 HT_.out ?_
      refine pureS 24 34 HT_.out ?_
      refine pureS 25 35 HT_.out ?_
      refine pureS 26 36 HT_.out ?_
      refine pureU 27 37 HT_.out ?_
      refine pureU 28 38 HT_.out ?_
      refine pureU 29 39 HT_.out ?_
      refine pureU 30 40 HT_.out ?_
      refine pureU 31 41 HT_.out ?_
      refine pureU 32 42 HT_.out ?_
      refine pureU 33 43 HT_.out ?_
      refine pureU 34 44 HT_.out ?_
      refine pureS 35 45 HT_.out ?_
      refine done_ (done_of HT_.out (by kernel_rfl)) ?_
      try go_wp2
      go_meet
      case rel => exact ⟨_, (true), (by first | rfl | (simp; done) | (simp [*]; done)), H', ⟨by first | omega | exact Nat.le_refl _⟩, ⟨bk BK242⟩, ⟨bs1 HB GE242⟩⟩
     ·
      rw [if_neg c11] at H
      have c11b0 : decide ((l0_0.length : Int) < (wrap64 (a0_1 - a0_3))) = false := decide_eq_false c11
      clear c11
      (first | rw [c11b0] | (simp only [i64_w, i32_w]; rw [c11b0]) | (simp only [c11b2, Bool.not_false, Bool.not_true]) | skip)
      by_cases c13 : (l0_0.length : Int) = 0
      ·
       rw [if_pos c13] at H
       exact absurd H (by simp)
      ·
       rw [if_neg c13] at H
       have c13b0 : ((l0_0.length : Int) == 0) = false := beq_eq_false_iff_ne.mpr c13
       have c13b1 : ((l0_0.length : Int) != 0) = true := bne_iff_ne.mpr c13
       have c13b2 : ¬ (l0_0 = []) := fun h_ => c13 (by rw [h_]; rfl)
       have H' := Aside0.mk H
       clear H
       try go_wp2
       have n0_ := Aside0.mk (blk_drew BK242.out)
       have n1_ := Aside0.mk (below_drew1 HB.out)
       clear BK242
       clear HB
       have BK242 := n0_
       have HB := n1_
       clear n0_ n1_
       refine start_ (n := 36) (S := fun w' => w'.cell? ⟨gb242, 0, none⟩ = some (.slice A0_0 l0_0.length c0_0) ∧ w'.cell? ⟨gb242, 1, none⟩ = some (.int .i64 a0_1) ∧ w'.cell? ⟨gb242, 2, none⟩ = some (.int .i64 a0_2) ∧ w'.cell? ⟨gb242, 3, none⟩ = some (.int .i64 a0_3)) (ds := []) #[false, false, false, false, false, false, false, false, false, false, false, false, false, false, false, false, false, false, false, false, false, false, false, false, false, false, false, false, false, false, false, false, false, false, false, false] (by kernel_rfl) rfl rfl ⟨(blk_cell BK242.out 0).trans rfl, (blk_cell BK242.out 1).trans rfl, (blk_cell BK242.out 2).trans rfl, (blk_cell BK242.out 3).trans rfl⟩ (fun hHeld => ?_); refine with_tabW spec_GoodRing.tab2 spec_GoodRing.bits2 (fun HT_ HW_ => ?_)
       generalize w3.drew = w14 at BK242 HB hHeld ⊢
       refine pureS 0 10 HT_.out ?_
       refine one_ (i := 1) (N := some 11) #[true, true, false, false, false, false, false, false, false, false, false, false, false, false, false, false, false, false, false, false, false, false, false, false, false, false, false, false, false, false, false, false, false, false, false, false] rfl rfl (one_of HT_.out (by kernel_rfl)) (by decide) (fun K hK => ?_)
       refine goes_ Tryd.func55 (by kernel_rfl) rfl #[.int .i64 (l0_0.length : Int), .int .i64 2, .int .i64 24] (by rfl) rfl rfl (by (try simp only [List.map_toArray, List.map_cons, List.map_nil]); first | done | rfl | (simp only [List.length_drop, List.length_take]; rfl)) ?_
       with_reducible refine (spec_l1In.calls (l0_0.length : Int) 2 24 true _ A5.out).mono ?_
       rintro e w' ⟨rfl, ⟨nd, rfl⟩⟩
       refine ⟨_, rfl, ?_⟩
       refine hK.out _ _ ⟨(blk_cell BK242.out 0).trans rfl, (blk_cell BK242.out 1).trans rfl, (blk_cell BK242.out 2).trans rfl, (blk_cell BK242.out 3).trans rfl⟩ (fun hHeld => ?_)
       clear hK K
       refine norm_ (a' := ?_) ?_ ?_
       rotate_left
       ·
        show Act.put _ (some 11) _ = _
        simp only [Act.put, List.setIfInBounds_toArray, List.set_cons_zero, List.set_cons_succ, i64_w, i32_w]
        rfl
       refine pureS 2 12 HT_.out ?_
       refine pureS 3 13 HT_.out ?_
       refine pureS 4 14 HT_.out ?_
       refine takeS 5 15 HT_.out HW_.out hHeld (hr := by rintro w' ⟨s0, s1, s2, s3⟩; go_simp; with_reducible rfl) (h := ?_)
       refine one_ (i := 6) (N := some 16) #[true, true, true, true, true, true, true, false, false, false, false, false, false, false, false, false, false, false, false, false, false, false, false, false, false, false, false, false, false, false, false, false, false, false, false, false] rfl rfl (one_of HT_.out (by kernel_rfl)) (by decide) (fun K hK => ?_)
       refine goes_ Tryd.func55 (by kernel_rfl) rfl #[.int .i64 a0_1, .int .i64 0, .int .i64 10000000] (by rfl) rfl rfl (by (try simp only [List.map_toArray, List.map_cons, List.map_nil]); first | done | rfl | (simp only [List.length_drop, List.length_take]; rfl)) ?_
       with_reducible refine (spec_l1In.calls a0_1 0 10000000 true _ A7.out).mono ?_
       rintro e w' ⟨rfl, ⟨nd, rfl⟩⟩
       refine ⟨_, rfl, ?_⟩
       refine hK.out _ _ ⟨(blk_cell BK242.out 0).trans rfl, (blk_cell BK242.out 1).trans rfl, (blk_cell BK242.out 2).trans rfl, (blk_cell BK242.out 3).trans rfl⟩ (fun hHeld => ?_)
       clear hK K
       refine norm_ (a' := ?_) ?_ ?_
       rotate_left
       ·
        show Act.put _ (some 16) _ = _
        simp only [Act.put, List.setIfInBounds_toArray, List.set_cons_zero, List.set_cons_succ, i64_w, i32_w]
        rfl
       refine pureS 7 17 HT_.out ?_
       refine pureS 8 18 HT_.out ?_
       refine pureS 9 19 HT_.out ?_
       refine pureS 10 20 HT_.out ?_
       refine pureS 12 22 HT_.out ?_
       refine takeS 11 21 HT_.out HW_.out hHeld (hr := by rintro w' ⟨s0, s1, s2, s3⟩; go_simp; with_reducible rfl) (h := ?_)
       refine takeS 13 23 HT_.out HW_.out hHeld (hr := by rintro w' ⟨s0, s1, s2, s3⟩; go_simp; with_reducible rfl) (h := ?_)
       refine one_ (i := 14) (N := some 24) #[true, true, true, true, true, true, true, true, true, true, true, true, true, true, true, false, false, false, false, false, false, false, false, false, false, false, false, false, false, false, false, false, false, false, false, false] rfl rfl (one_of HT_.out (by kernel_rfl)) (by decide) (fun K hK => ?_)
       refine goes_ Tryd.func55 (by kernel_rfl) rfl #[.int .i64 a0_3, .int .i64 0, .int .i64 a0_1] (by rfl) rfl rfl (by (try simp only [List.map_toArray, List.map_cons, List.map_nil]); first | done | rfl | (simp only [List.length_drop, List.length_take]; rfl)) ?_
       with_reducible refine (spec_l1In.calls a0_3 0 a0_1 true _ A9.out).mono ?_
       rintro e w' ⟨rfl, ⟨nd, rfl⟩⟩
       refine ⟨_, rfl, ?_⟩
       refine hK.out _ _ ⟨(blk_cell BK242.out 0).trans rfl, (blk_cell BK242.out 1).trans rfl, (blk_cell BK242.out 2).trans rfl, (blk_cell BK242.out 3).trans rfl⟩ (fun hHeld => ?_)
       clear hK K
       refine norm_ (a' := ?_) ?_ ?_
       rotate_left
       ·
        show Act.put _ (some 24) _ = _
        simp only [Act.put, List.setIfInBounds_toArray, List.set_cons_zero, List.set_cons_succ, i64_w, i32_w]
        rfl
       refine pureS 15 25 HT_.out ?_
       refine pureS 16 26 HT_.out ?_
       refine pureS 17 27 HT_.out ?_
       refine pureS 18 28 HT_.out ?_
       refine pureS 20 30 HT_.out ?_
       refine pureS 23 33 HT_.out ?_
       refine takeS 19 29 HT_.out HW_.out hHeld (hr := by rintro w' ⟨s0, s1, s2, s3⟩; go_simp; with_reducible rfl) (h := ?_)
       refine takeS 21 31 HT_.out HW_.out hHeld (hr := by rintro w' ⟨s0, s1, s2, s3⟩; go_simp; with_reducible rfl) (h := ?_)
       refine pureS 22 32 HT_.out ?_
       refine pureS 24 34 HT_.out ?_
       refine pureS 25 35 HT_.out ?_
       refine pureS 26 36 HT_.out ?_
       refine pureS 27 37 HT_.out ?_
       refine pureS 29 39 HT_.out ?_
       refine pureS 31 41 HT_.out ?_
       refine takeS 28 38 HT_.out HW_.out hHeld (hr := by rintro w' ⟨s0, s1, s2, s3⟩; go_simp; with_reducible rfl) (h := ?_)
       refine takeS 30 40 HT_.out HW_.out hHeld (hr := by rintro w' ⟨s0, s1, s2, s3⟩; go_simp; with_reducible rfl) (h := ?_)
       refine pureS 32 42 HT_.out ?_
       refine pureS 33 43 HT_.out ?_
       refine pureS 34 44 HT_.out ?_
       refine pureS 35 45 HT_.out ?_
       refine done_ (done_of HT_.out (by kernel_rfl)) ?_
       try go_wp2
       go_meet
       case rel => exact ⟨_, ((a0_2 != (wrap64 ((wrap64 (Int.tdiv a0_1 (l0_0.length : Int))) + 1)))), (by first | rfl | (simp; done) | (simp [*]; done)), H', ⟨by first | omega | exact Nat.le_refl _⟩, ⟨bk BK242⟩, ⟨bs1 HB GE242⟩⟩
    ·
     replace c10 := Bool.eq_false_iff.mpr c10
     subst c10
     rw [if_neg (show ¬ (false = true) by decide)] at H
     have H' := Aside0.mk H
     clear H
     try go_wp2
     have n0_ := Aside0.mk (blk_drew BK242.out)
     have n1_ := Aside0.mk (below_drew1 HB.out)
     clear BK242
     clear HB
     have BK242 := n0_
     have HB := n1_
     clear n0_ n1_
     refine start_ (n := 36) (S := fun w' => w'.cell? ⟨gb242, 0, none⟩ = some (.slice A0_0 l0_0.length c0_0) ∧ w'.cell? ⟨gb242, 1, none⟩ = some (.int .i64 a0_1) ∧ w'.cell? ⟨gb242, 2, none⟩ = some (.int .i64 a0_2) ∧ w'.cell? ⟨gb242, 3, none⟩ = some (.int .i64 a0_3)) (ds := []) #[false, false, false, false, false, false, false, false, false, false, false, false, false, false, false, false, false, false, false, false, false, false, false, false, false, false, false, false, false, false, false, false, false, false, false, false] (by kernel_rfl) rfl rfl ⟨(blk_cell BK242.out 0).trans rfl, (blk_cell BK242.out 1).trans rfl, (blk_cell BK242.out 2).trans rfl, (blk_cell BK242.out 3).trans rfl⟩ (fun hHeld => ?_); refine with_tabW spec_GoodRing.tab2 spec_GoodRing.bits2 (fun HT_ HW_ => ?_)
     generalize w3.drew = w15 at BK242 HB hHeld ⊢
     refine pureS 0 10 HT_.out ?_
     refine one_ (i := 1) (N := some 11) #[true, true, false, false, false, false, false, false, false, false, false, false, false, false, false, false, false, false, false, false, false, false, false, false, false, false, false, false, false, false, false, false, false, false, false, false] rfl rfl (one_of HT_.out (by kernel_rfl)) (by decide) (fun K hK => ?_)
     refine goes_ Tryd.func55 (by kernel_rfl) rfl #[.int .i64 (l0_0.length : Int), .int .i64 2, .int .i64 24] (by rfl) rfl rfl (by (try simp only [List.map_toArray, List.map_cons, List.map_nil]); first | done | rfl | (simp only [List.length_drop, List.length_take]; rfl)) ?_
     with_reducible refine (spec_l1In.calls (l0_0.length : Int) 2 24 true _ A5.out).mono ?_
     rintro e w' ⟨rfl, ⟨nd, rfl⟩⟩
     refine ⟨_, rfl, ?_⟩
     refine hK.out _ _ ⟨(blk_cell BK242.out 0).trans rfl, (blk_cell BK242.out 1).trans rfl, (blk_cell BK242.out 2).trans rfl, (blk_cell BK242.out 3).trans rfl⟩ (fun hHeld => ?_)
     clear hK K
     refine norm_ (a' := ?_) ?_ ?_
     rotate_left
     ·
      show Act.put _ (some 11) _ = _
      simp only [Act.put, List.setIfInBounds_toArray, List.set_cons_zero, List.set_cons_succ, i64_w, i32_w]
      rfl
     refine pureS 2 12 HT_.out ?_
     refine pureS 3 13 HT_.out ?_
     refine pureS 4 14 HT_.out ?_
     refine takeS 5 15 HT_.out HW_.out hHeld (hr := by rintro w' ⟨s0, s1, s2, s3⟩; go_simp; with_reducible rfl) (h := ?_)
     refine one_ (i := 6) (N := some 16) #[true, true, true, true, true, true, true, false, false, false, false, false, false, false, false, false, false, false, false, false, false, false, false, false, false, false, false, false, false, false, false, false, false, false, false, false] rfl rfl (one_of HT_.out (by kernel_rfl)) (by decide) (fun K hK => ?_)
     refine goes_ Tryd.func55 (by kernel_rfl) rfl #[.int .i64 a0_1, .int .i64 0, .int .i64 10000000] (by rfl) rfl rfl (by (try simp only [List.map_toArray, List.map_cons, List.map_nil]); first | done | rfl | (simp only [List.length_drop, List.length_take]; rfl)) ?_
     with_reducible refine (spec_l1In.calls a0_1 0 10000000 true _ A7.out).mono ?_
     rintro e w' ⟨rfl, ⟨nd, rfl⟩⟩
     refine ⟨_, rfl, ?_⟩
     refine hK.out _ _ ⟨(blk_cell BK242.out 0).trans rfl, (blk_cell BK242.out 1).trans rfl, (blk_cell BK242.out 2).trans rfl, (blk_cell BK242.out 3).trans rfl⟩ (fun hHeld => ?_)
     clear hK K
     refine norm_ (a' := ?_) ?_ ?_
     rotate_left
     ·
      show Act.put _ (some 16) _ = _
      simp only [Act.put, List.setIfInBounds_toArray, List.set_cons_zero, List.set_cons_succ, i64_w, i32_w]
      rfl
     refine pureS 7 17 HT_.out ?_
     refine pureS 8 18 HT_.out ?_
     refine pureS 9 19 HT_.out ?_
     refine pureS 10 20 HT_.out ?_
     refine pureS 12 22 HT_.out ?_
     refine takeS 11 21 HT_.out HW_.out hHeld (hr := by rintro w' ⟨s0, s1, s2, s3⟩; go_simp; with_reducible rfl) (h := ?_)
     refine takeS 13 23 HT_.out HW_.out hHeld (hr := by rintro w' ⟨s0, s1, s2, s3⟩; go_simp; with_reducible rfl) (h := ?_)
     refine one_ (i := 14) (N := some 24) #[true, true, true, true, true, true, true, true, true, true, true, true, true, true, true, false, false, false, false, false, false, false, false, false, false, false, false, false, false, false, false, false, false, false, false, false] rfl rfl (one_of HT_.out (by kernel_rfl)) (by decide) (fun K hK => ?_)
     refine goes_ Tryd.func55 (by kernel_rfl) rfl #[.int .i64 a0_3, .int .i64 0, .int .i64 a0_1] (by rfl) rfl rfl (by (try simp only [List.map_toArray, List.map_cons, List.map_nil]); first | done | rfl | (simp only [List.length_drop, List.length_take]; rfl)) ?_
     with_reducible refine (spec_l1In.calls a0_3 0 a0_1 false _ A9.out).mono ?_
     rintro e w' ⟨rfl, ⟨nd, rfl⟩⟩
     refine ⟨_, rfl, ?_⟩
     refine hK.out _ _ ⟨(blk_cell BK242.out 0).trans rfl, (blk_cell BK242.out 1).trans rfl, (blk_cell BK242.out 2).trans rfl, (blk_cell BK242.out 3).trans rfl⟩ (fun hHeld => ?_)
     clear hK K
     refine norm_ (a' := ?_) ?_ ?_
     rotate_left
     ·
      show Act.put _ (some 24) _ = _
      simp only [Act.put, List.setIfInBounds_toArray, List.set_cons_zero, List.set_cons_succ, i64_w, i32_w]
      rfl
     refine pureS 15 25 HT_.out ?_
     refine pureS 16 26 HT_.out ?_
     refine pureS 17 27 HT_.out ?_
     refine pureU 18 28 HT_.out ?_
     refine pureU 19 29 HT_.out ?_
     refine pureU 20 30 HT_.out ?_
     refine pureU 21 31 HT_.out ?_
     refine pureU 22 32 HT_.out ?_
     refine pureU 23 33 HT_.out ?_
     refine pureU 24 34 HT_.out ?_
     refine pureS 25 35 HT_.out ?_
     refine pureS 26 36 HT_.out ?_
     refine pureU 27 37 HT_.out ?_
     refine pureU 28 38 HT_.out ?_
     refine pureU 29 39 HT_.out ?_
     refine pureU 30 40 HT_.out ?_
     refine pureU 31 41 HT_.out ?_
     refine pureU 32 42 HT_.out ?_
     refine pureU 33 43 HT_.out ?_
     refine pureU 34 44 HT_.out ?_
     refine pureS 35 45 HT_.out ?_
     refine done_ (done_of HT_.out (by kernel_rfl)) ?_
     try go_wp2
     go_meet
     case rel => exact ⟨_, (true), (by first | rfl | (simp; done) | (simp [*]; done)), H', ⟨by first | omega | exact Nat.le_refl _⟩, ⟨bk BK242⟩, ⟨bs1 HB GE242⟩⟩
   ·
    replace c8 := Bool.eq_false_iff.mpr c8
    subst c8
    rw [if_neg (show ¬ (false = true) by decide)] at H
    have H' := Aside0.mk H
    clear H
    try go_wp2
    have n0_ := Aside0.mk (blk_drew BK242.out)
    have n1_ := Aside0.mk (below_drew1 HB.out)
    clear BK242
    clear HB
    have BK242 := n0_
    have HB := n1_
    clear n0_ n1_
    refine start_ (n := 36) (S := fun w' => w'.cell? ⟨gb242, 0, none⟩ = some (.slice A0_0 l0_0.length c0_0) ∧ w'.cell? ⟨gb242, 1, none⟩ = some (.int .i64 a0_1) ∧ w'.cell? ⟨gb242, 2, none⟩ = some (.int .i64 a0_2) ∧ w'.cell? ⟨gb242, 3, none⟩ = some (.int .i64 a0_3)) (ds := []) #[false, false, false, false, false, false, false, false, false, false, false, false, false, false, false, false, false, false, false, false, false, false, false, false, false, false, false, false, false, false, false, false, false, false, false, false] (by kernel_rfl) rfl rfl ⟨(blk_cell BK242.out 0).trans rfl, (blk_cell BK242.out 1).trans rfl, (blk_cell BK242.out 2).trans rfl, (blk_cell BK242.out 3).trans rfl⟩ (fun hHeld => ?_); refine with_tabW spec_GoodRing.tab2 spec_GoodRing.bits2 (fun HT_ HW_ => ?_)
    generalize w3.drew = w16 at BK242 HB hHeld ⊢
    refine pureS 0 10 HT_.out ?_
    refine one_ (i := 1) (N := some 11) #[true, true, false, false, false, false, false, false, false, false, false, false, false, false, false, false, false, false, false, false, false, false, false, false, false, false, false, false, false, false, false, false, false, false, false, false] rfl rfl (one_of HT_.out (by kernel_rfl)) (by decide) (fun K hK => ?_)
    refine goes_ Tryd.func55 (by kernel_rfl) rfl #[.int .i64 (l0_0.length : Int), .int .i64 2, .int .i64 24] (by rfl) rfl rfl (by (try simp only [List.map_toArray, List.map_cons, List.map_nil]); first | done | rfl | (simp only [List.length_drop, List.length_take]; rfl)) ?_
    with_reducible refine (spec_l1In.calls (l0_0.length : Int) 2 24 true _ A5.out).mono ?_
    rintro e w' ⟨rfl, ⟨nd, rfl⟩⟩
    refine ⟨_, rfl, ?_⟩
    refine hK.out _ _ ⟨(blk_cell BK242.out 0).trans rfl, (blk_cell BK242.out 1).trans rfl, (blk_cell BK242.out 2).trans rfl, (blk_cell BK242.out 3).trans rfl⟩ (fun hHeld => ?_)
    clear hK K
    refine norm_ (a' := ?_) ?_ ?_
    rotate_left
    ·
     show Act.put _ (some 11) _ = _
     simp only [Act.put, List.setIfInBounds_toArray, List.set_cons_zero, List.set_cons_succ, i64_w, i32_w]
     rfl
    refine pureS 2 12 HT_.out ?_
    refine pureS 3 13 HT_.out ?_
    refine pureS 4 14 HT_.out ?_
    refine takeS 5 15 HT_.out HW_.out hHeld (hr := by rintro w' ⟨s0, s1, s2, s3⟩; go_simp; with_reducible rfl) (h := ?_)
    refine one_ (i := 6) (N := some 16) #[true, true, true, true, true, true, true, false, false, false, false, false, false, false, false, false, false, false, false, false, false, false, false, false, false, false, false, false, false, false, false, false, false, false, false, false] rfl rfl (one_of HT_.out (by kernel_rfl)) (by decide) (fun K hK => ?_)
    refine goes_ Tryd.func55 (by kernel_rfl) rfl #[.int .i64 a0_1, .int .i64 0, .int .i64 10000000] (by rfl) rfl rfl (by (try simp only [List.map_toArray, List.map_cons, List.map_nil]); first | done | rfl | (simp only [List.length_drop, List.length_take]; rfl)) ?_
    with_reducible refine (spec_l1In.calls a0_1 0 10000000 false _ A7.out).mono ?_
    rintro e w' ⟨rfl, ⟨nd, rfl⟩⟩
    refine ⟨_, rfl, ?_⟩
    refine hK.out _ _ ⟨(blk_cell BK242.out 0).trans rfl, (blk_cell BK242.out 1).trans rfl, (blk_cell BK242.out 2).trans rfl, (blk_cell BK242.out 3).trans rfl⟩ (fun hHeld => ?_)
    clear hK K
    refine norm_ (a' := ?_) ?_ ?_
    rotate_left
    ·
     show Act.put _ (some 16) _ = _
     simp only [Act.put, List.setIfInBounds_toArray, List.set_cons_zero, List.set_cons_succ, i64_w, i32_w]
     rfl
    refine pureS 7 17 HT_.out ?_
    refine pureS 8 18 HT_.out ?_
    refine pureS 9 19 HT_.out ?_
    refine pureU 10 20 HT_.out ?_
    refine pureU 11 21 HT_.out ?_
    refine pureU 12 22 HT_.out ?_
    refine pureU 13 23 HT_.out ?_
    refine pureU 14 24 HT_.out ?_
    refine pureU 15 25 HT_.out ?_
    refine pureS 16 26 HT_.out ?_
    refine pureS 17 27 HT_.out ?_
    refine pureU 18 28 HT_.out ?_
    refine pureU 19 29 HT_.out ?_
    refine pureU 20 30 HT_.out ?_
    refine pureU 21 31 HT_.out ?_
    refine pureU 22 32 HT_.out ?_
    refine pureU 23 33 HT_.out ?_
    refine pureU 24 34 HT_.out ?_
    refine pureS 25 35 HT_.out ?_
    refine pureS 26 36 HT_.out ?_
    refine pureU 27 37 HT_.out ?_
    refine pureU 28 38 HT_.out ?_
    refine pureU 29 39 HT_.out ?_
    refine pureU 30 40 HT_.out ?_
    refine pureU 31 41 HT_.out ?_
    refine pureU 32 42 HT_.out ?_
    refine pureU 33 43 HT_.out ?_
    refine pureU 34 44 HT_.out ?_
    refine pureS 35 45 HT_.out ?_
    refine done_ (done_of HT_.out (by kernel_rfl)) ?_
    try go_wp2
    go_meet
    case rel => exact ⟨_, (true), (by first | rfl | (simp; done) | (simp [*]; done)), H', ⟨by first | omega | exact Nat.le_refl _⟩, ⟨bk BK242⟩, ⟨bs1 HB GE242⟩⟩
  ·
   replace c6 := Bool.eq_false_iff.mpr c6
   subst c6
   rw [if_neg (show ¬ (false = true) by decide)] at H
   have H' := Aside0.mk H
   clear H
   try go_wp2
   have n0_ := Aside0.mk (blk_drew BK242.out)
   have n1_ := Aside0.mk (below_drew1 HB.out)
   clear BK242
   clear HB
   have BK242 := n0_
   have HB := n1_
   clear n0_ n1_
   refine start_ (n := 36) (S := fun w' => True) (ds := []) #[false, false, false, false, false, false, false, false, false, false, false, false, false, false, false, false, false, false, false, false, false, false, false, false, false, false, false, false, false, false, false, false, false, false, false, false] (by kernel_rfl) rfl rfl trivial (fun hHeld => ?_); refine with_tabW spec_GoodRing.tab2 spec_GoodRing.bits2 (fun HT_ HW_ => ?_)
   generalize w3.drew = w17 at BK242 HB hHeld ⊢
   refine pureS 0 10 HT_.out ?_
   refine one_ (i := 1) (N := some 11) #[true, true, false, false, false, false, false, false, false, false, false, false, false, false, false, false, false, false, false, false, false, false, false, false, false, false, false, false, false, false, false, false, false, false, false, false] rfl rfl (one_of HT_.out (by kernel_rfl)) (by decide) (fun K hK => ?_)
   refine goes_ Tryd.func55 (by kernel_rfl) rfl #[.int .i64 (l0_0.length : Int), .int .i64 2, .int .i64 24] (by rfl) rfl rfl (by (try simp only [List.map_toArray, List.map_cons, List.map_nil]); first | done | rfl | (simp only [List.length_drop, List.length_take]; rfl)) ?_
   with_reducible refine (spec_l1In.calls (l0_0.length : Int) 2 24 false _ A5.out).mono ?_
   rintro e w' ⟨rfl, ⟨nd, rfl⟩⟩
   refine ⟨_, rfl, ?_⟩
   refine hK.out _ _ trivial (fun hHeld => ?_)
   clear hK K
   refine norm_ (a' := ?_) ?_ ?_
   rotate_left
   ·
    show Act.put _ (some 11) _ = _
    simp only [Act.put, List.setIfInBounds_toArray, List.set_cons_zero, List.set_cons_succ, i64_w, i32_w]
    rfl
   refine pureS 2 12 HT_.out ?_
   refine pureS 3 13 HT_.out ?_
   refine pureU 4 14 HT_.out ?_
   refine pureU 5 15 HT_.out ?_
   refine pureU 6 16 HT_.out ?_
   refine pureU 7 17 HT_.out ?_
   refine pureS 8 18 HT_.out ?_
   refine pureS 9 19 HT_.out ?_
   refine pureU 10 20 HT_.out ?_
   refine pureU 11 21 HT_.out ?_
   refine pureU 12 22 HT_.out ?_
   refine pureU 13 23 HT_.out ?_
   refine pureU 14 24 HT_.out ?_
   refine pureU 15 25 HT_.out ?_
   refine pureS 16 26 HT_.out ?_
   refine pureS 17 27 HT_.out ?_
   refine pureU 18 28 HT_.out ?_
   refine pureU 19 29 HT_.out ?_
   refine pureU 20 30 HT_.out ?_
   refine pureU 21 31 HT_.out ?_
   refine pureU 22 32 HT_.out ?_
   refine pureU 23 33 HT_.out ?_
   refine pureU 24 34 HT_.out ?_
   refine pureS 25 35 HT_.out ?_
   refine pureS 26 36 HT_.out ?_
   refine pureU 27 37 HT_.out ?_
   refine pureU 28 38 HT_.out ?_
   refine pureU 29 39 HT_.out ?_
   refine pureU 30 40 HT_.out ?_
   refine pureU 31 41 HT_.out ?_
   refine pureU 32 42 HT_.out ?_
   refine pureU 33 43 HT_.out ?_
   refine pureU 34 44 HT_.out ?_
   refine pureS 35 45 HT_.out ?_
   refine done_ (done_of HT_.out (by kernel_rfl)) ?_
   try go_wp2
   go_meet
   case rel => exact ⟨_, (true), (by first | rfl | (simp; done) | (simp [*]; done)), H', ⟨by first | omega | exact Nat.le_refl _⟩, ⟨bk BK242⟩, ⟨bs1 HB GE242⟩⟩
 case rest =>
  clear HC2
  try clear p2
  try clear c5
  try clear c6
  try clear c8
  obtain ⟨kq, x45_1, rfl, HA, HJ1, BK242, HB⟩ := hcut
  cases kq with
  | zero => exact absurd HA.out (by simp [spec_GoodRing.j0])
  | succ kj1 =>
   have H := HA.out
   clear HA
   simp only [spec_GoodRing.j0] at H
   by_cases c18 : x45_1 = true
   ·
    subst c18
    rw [if_pos rfl] at H
    obtain rfl := Option.some.inj H
    go_wp2
    go_ret
    exact ⟨by first | rfl | (simp [errW_none, errW_some] <;> rfl) | (simp [*, errW_none, errW_some] <;> rfl), bs1 HB GE242⟩
   ·
    replace c18 := Bool.eq_false_iff.mpr c18
    subst c18
    rw [if_neg (show ¬ (false = true) by decide)] at H
    have H' := Aside0.mk H
    clear H
    obtain ⟨hcz19_0, hcz19_1, hcz19_2, hcz19_3⟩ := cz4 BK242
    obtain ⟨hfz19_0, hfz19_1, hfz19_2, hfz19_3⟩ := fz4 BK242
    go_wp2
    go_loopg [4, 5] kj1 (fun kq v4 v5 w' => ∃ (x4_2 : Int) (x5_2 : Int), v4 = .int .i64 x4_2 ∧ v5 = .int .i64 x5_2 ∧ Aside0 (spec_GoodRing.l0 kq (l0_0.length : Int) x4_2 x5_2 l0_0 a0_1 a0_2 a0_3 = some r) ∧ Aside0 (kq ≤ kj1) ∧ Aside0 (w'.heap[gb242]? = some (.cells #[(.slice A0_0 l0_0.length c0_0), .int .i64 a0_1, .int .i64 a0_2, .int .i64 a0_3] 36 (0, 0))) ∧ Aside0 (Below w.heap.size w w'))
    case atStart => exact ⟨(0), (wrap64 (a0_1 - (l0_0.length : Int))), (by first | rfl | (simp; done) | (simp [*]; done)), (by first | rfl | (simp; done) | (simp [*]; done)), H', ⟨Nat.le_refl _⟩, ⟨bk BK242⟩, ⟨bs1 HB GE242⟩⟩
    case round =>
     clear H'
     try clear c1
     try clear p2
     try clear c5
     try clear c6
     try clear p6
     try clear c8
     try clear c18
     try clear hcz19_0 hcz19_1 hcz19_2 hcz19_3
     try clear hfz19_0 hfz19_1 hfz19_2 hfz19_3
     try clear p2
     obtain ⟨x4_2, x5_2, rfl, rfl, HA, HK2, BK242, HB⟩ := hrel
     cases gk with
     | zero => exact absurd HA.out (by simp [spec_GoodRing.l0])
     | succ k2 =>
      have H := HA.out
      clear HA
      simp only [spec_GoodRing.l0] at H
      by_cases c20 : x5_2 < a0_1
      ·
       rw [if_pos c20] at H
       have c20b0 : decide (x5_2 < a0_1) = true := decide_eq_true c20
       clear c20
       by_cases c21 : x5_2 < 0
       ·
        rw [if_pos c21] at H
        have c21b0 : decide (x5_2 < 0) = true := decide_eq_true c21
        clear c21
        obtain ⟨ji22, hji22⟩ : ∃ j_ : Int, (wrap64 (x5_2 + (l0_0.length : Int))) = j_ := ⟨_, rfl⟩
        replace H : (if 0 ≤ (ji22) then (if (ji22) < (l0_0.length : Int) then ((spec_l10Zero.f k2).bind fun bt247 => (if (!(((rd_T26 l0_0 (ji22)).f0) == bt247.1) || (!(((rd_T26 l0_0 (ji22)).f1) == bt247.2.1) || (!((((rd_T26 l0_0 (ji22)).f2).toList) == bt247.2.2.1.toList) || (!(((rd_T26 l0_0 (ji22)).f3) == bt247.2.2.2))))) = true then (some false) else (spec_GoodRing.l0 k2 (l0_0.length : Int) x4_2 (wrap64 (x5_2 + 1)) l0_0 a0_1 a0_2 a0_3))) else (none)) else (none)) = some r := by first | (rw [hji22] at H; exact H) | (simp only [hji22] at H ⊢; exact H)
        have hji22w : (IntKind.i64.wrap (x5_2 + (l0_0.length : Int))) = ji22 := (i64_w _).trans hji22
        by_cases c23 : 0 ≤ (ji22)
        ·
         rw [if_pos c23] at H
         have c23b0 : decide (0 ≤ (ji22)) = true := decide_eq_true c23
         clear c23
         by_cases c24 : (ji22) < (l0_0.length : Int)
         ·
          rw [if_pos c24] at H
          have c24b0 : decide ((ji22) < (l0_0.length : Int)) = true := decide_eq_true c24
          clear c24
          replace H := Option.bind_eq_some_iff.mp H
          obtain ⟨⟨t247, t248, t249, t250⟩, A250, H⟩ := H
          replace H : (if (!(((rd_T26 l0_0 (ji22)).f0) == t247) || (!(((rd_T26 l0_0 (ji22)).f1) == t248) || (!((((rd_T26 l0_0 (ji22)).f2).toList) == t249.toList) || (!(((rd_T26 l0_0 (ji22)).f3) == t250))))) = true then (some false) else (spec_GoodRing.l0 k2 (l0_0.length : Int) x4_2 (wrap64 (x5_2 + 1)) l0_0 a0_1 a0_2 a0_3)) = some r := H
          have A25 := Aside0.mk A250
          clear A250
          by_cases c26 : (!(((rd_T26 l0_0 (ji22)).f0) == t247) || (!(((rd_T26 l0_0 (ji22)).f1) == t248) || (!((((rd_T26 l0_0 (ji22)).f2).toList) == t249.toList) || (!(((rd_T26 l0_0 (ji22)).f3) == t250))))) = true
          ·
           rw [if_pos c26] at H
           have c26b0 : (!(((rd_T26 l0_0 (ji22)).f0) == t247) || (!(((rd_T26 l0_0 (ji22)).f1) == t248) || (!((((rd_T26 l0_0 (ji22)).f2).toList) == t249.toList) || (!(((rd_T26 l0_0 (ji22)).f3) == t250))))) = true := c26
           clear c26
           obtain rfl := Option.some.inj H
           obtain ⟨hcz27_0, hcz27_1, hcz27_2, hcz27_3⟩ := cz4 BK242
           obtain ⟨hfz27_0, hfz27_1, hfz27_2, hfz27_3⟩ := fz4 BK242
           try go_wp2
           have n0_ := Aside0.mk (blk_drew BK242.out)
           have n1_ := Aside0.mk (below_drew1 HB.out)
           clear BK242
           clear HB
           have BK242 := n0_
           have HB := n1_
           clear n0_ n1_
           have p246 : 0 ≤ ((ji22) : Int) := of_decide_eq_true (by first | (with_reducible assumption) | assumption)
           have q246 : (ji22) < (l0_0.length : Int) := of_decide_eq_true (by first | (with_reducible assumption) | assumption)
           obtain ⟨ad246, e246, hx246_0, hx246_1, hx246_2, hx246_3⟩ := at_T26 HR0_0.out (ji22) p246 q246
           have hw246_3 := hx246_3
           have hw246_2 := hx246_2
           have hw246_1 := hx246_1
           have hw246_0 := hx246_0
           cases e246
           replace hx246_0 := (HB.out.cell (World.block_lt_of_cell? w _ hx246_0)).trans hx246_0
           replace hx246_1 := (HB.out.cell (World.block_lt_of_cell? w _ hx246_1)).trans hx246_1
           replace hx246_2 := (HB.out.cell (World.block_lt_of_cell? w _ hx246_2)).trans hx246_2
           replace hx246_3 := (HB.out.cell (World.block_lt_of_cell? w _ hx246_3)).trans hx246_3
           replace p246 := eq_true p246
           replace q246 := eq_true q246
           refine start_ (n := 9) (S := fun w' => w'.cell? ⟨gb242, 0, none⟩ = some (.slice (some ad246) l0_0.length c0_0) ∧ w'.cell? ⟨gb242, 1, none⟩ = some (.int .i64 a0_1) ∧ w'.cell? ⟨gb242, 2, none⟩ = some (.int .i64 a0_2) ∧ w'.cell? ⟨gb242, 3, none⟩ = some (.int .i64 a0_3) ∧ w'.cell? (ad246.add (((ji22)).toNat * 4)) = some (.int .i64 ((rd_T26 l0_0 (ji22)).f0)) ∧ w'.cell? ⟨(ad246.add (((ji22)).toNat * 4)).block, (ad246.add (((ji22)).toNat * 4)).off + 1, none⟩ = some (.int .i64 ((rd_T26 l0_0 (ji22)).f1)) ∧ w'.cell? ⟨(ad246.add (((ji22)).toNat * 4)).block, (ad246.add (((ji22)).toNat * 4)).off + 2, none⟩ = some (.string ((rd_T26 l0_0 (ji22)).f2)) ∧ w'.cell? ⟨(ad246.add (((ji22)).toNat * 4)).block, (ad246.add (((ji22)).toNat * 4)).off + 3, none⟩ = some (.int .i64 ((rd_T26 l0_0 (ji22)).f3))) (ds := []) #[false, false, false, false, false, false, false, false, false] (by kernel_rfl) rfl rfl ⟨(blk_cell BK242.out 0).trans rfl, (blk_cell BK242.out 1).trans rfl, (blk_cell BK242.out 2).trans rfl, (blk_cell BK242.out 3).trans rfl, ((HB.out.cell (World.block_lt_of_cell? w _ hw246_0)).trans hw246_0), ((HB.out.cell (World.block_lt_of_cell? w _ hw246_1)).trans hw246_1), ((HB.out.cell (World.block_lt_of_cell? w _ hw246_2)).trans hw246_2), ((HB.out.cell (World.block_lt_of_cell? w _ hw246_3)).trans hw246_3)⟩ (fun hHeld => ?_); refine with_tabW spec_GoodRing.tab9 spec_GoodRing.bits9 (fun HT_ HW_ => ?_)
           generalize wr.drew = w28 at BK242 HB hx246_0 hx246_1 hx246_2 hx246_3 hHeld ⊢
           refine pureS 0 58 HT_.out ?_
           refine pureS 2 60 HT_.out ?_
           refine pureS 3 61 HT_.out ?_
           refine pureS 4 62 HT_.out ?_
           refine takeS 1 59 HT_.out HW_.out hHeld (hr := by rintro w' ⟨s0, s1, s2, s3, s4, s5, s6, s7⟩; go_simp; with_reducible rfl) (h := ?_)
           refine pureS 5 63 HT_.out ?_
           refine takeS 6 64 HT_.out HW_.out hHeld (hr := by rintro w' ⟨s0, s1, s2, s3, s4, s5, s6, s7⟩; go_simp; with_reducible rfl) (h := ?_)
           refine one_ (i := 7) (N := some 65) #[true, true, true, true, true, true, true, true, false] rfl rfl (one_of HT_.out (by kernel_rfl)) (by decide) (fun K hK => ?_)
           refine goes_ Tryd.func56 (by kernel_rfl) rfl #[] (by rfl) rfl rfl (by (try simp only [List.map_toArray, List.map_cons, List.map_nil]); first | done | rfl | (simp only [List.length_drop, List.length_take]; rfl)) ?_
           with_reducible refine (spec_l10Zero.calls k2  t247 t248 t249 t250 _ A25.out).mono ?_
           rintro e w29 ⟨rfl, hb⟩
           refine ⟨_, rfl, ?_⟩
           have n0_ := Aside0.mk (bb BK242 hb)
           have n1_ := Aside0.mk (below_step (bs1 HB GE242) hb)
           clear BK242
           clear HB
           have BK242 := n0_
           have HB := n1_
           clear n0_ n1_
           (try clear hb)
           (try clear hb2)
           (try clear hk)
           (try clear hi)
           refine hK.out _ _ ⟨(blk_cell BK242.out 0).trans rfl, (blk_cell BK242.out 1).trans rfl, (blk_cell BK242.out 2).trans rfl, (blk_cell BK242.out 3).trans rfl, ((HB.out.cell (World.block_lt_of_cell? w _ hw246_0)).trans hw246_0), ((HB.out.cell (World.block_lt_of_cell? w _ hw246_1)).trans hw246_1), ((HB.out.cell (World.block_lt_of_cell? w _ hw246_2)).trans hw246_2), ((HB.out.cell (World.block_lt_of_cell? w _ hw246_3)).trans hw246_3)⟩ (fun hHeld => ?_)
           clear hK K
           refine norm_ (a' := ?_) ?_ ?_
           rotate_left
           ·
            show Act.put _ (some 65) _ = _
            simp only [Act.put, List.setIfInBounds_toArray, List.set_cons_zero, List.set_cons_succ, i64_w, i32_w]
            rfl
           refine pureS 8 66 HT_.out ?_
           refine done_ (done_of HT_.out (by kernel_rfl)) ?_
           try go_wp2
           go_ret
           exact ⟨by first | rfl | (simp [errW_none, errW_some] <;> rfl) | (simp only [← hji22]; first | rfl | (simp [errW_none, errW_some] <;> rfl)) | (simp [*, errW_none, errW_some] <;> rfl), bs1 HB GE242⟩
          ·
           rw [if_neg c26] at H
           have c26b0 : (!(((rd_T26 l0_0 (ji22)).f0) == t247) || (!(((rd_T26 l0_0 (ji22)).f1) == t248) || (!((((rd_T26 l0_0 (ji22)).f2).toList) == t249.toList) || (!(((rd_T26 l0_0 (ji22)).f3) == t250))))) = false := by simpa using c26
           clear c26
           have H' := Aside0.mk H
           clear H
           obtain ⟨hcz30_0, hcz30_1, hcz30_2, hcz30_3⟩ := cz4 BK242
           obtain ⟨hfz30_0, hfz30_1, hfz30_2, hfz30_3⟩ := fz4 BK242
           try go_wp2
           have n0_ := Aside0.mk (blk_drew BK242.out)
           have n1_ := Aside0.mk (below_drew1 HB.out)
           clear BK242
           clear HB
           have BK242 := n0_
           have HB := n1_
           clear n0_ n1_
           have p246 : 0 ≤ ((ji22) : Int) := of_decide_eq_true (by first | (with_reducible assumption) | assumption)
           have q246 : (ji22) < (l0_0.length : Int) := of_decide_eq_true (by first | (with_reducible assumption) | assumption)
           obtain ⟨ad246, e246, hx246_0, hx246_1, hx246_2, hx246_3⟩ := at_T26 HR0_0.out (ji22) p246 q246
           have hw246_3 := hx246_3
           have hw246_2 := hx246_2
           have hw246_1 := hx246_1
           have hw246_0 := hx246_0
           cases e246
           replace hx246_0 := (HB.out.cell (World.block_lt_of_cell? w _ hx246_0)).trans hx246_0
           replace hx246_1 := (HB.out.cell (World.block_lt_of_cell? w _ hx246_1)).trans hx246_1
           replace hx246_2 := (HB.out.cell (World.block_lt_of_cell? w _ hx246_2)).trans hx246_2
           replace hx246_3 := (HB.out.cell (World.block_lt_of_cell? w _ hx246_3)).trans hx246_3
           replace p246 := eq_true p246
           replace q246 := eq_true q246
           refine start_ (n := 9) (S := fun w' => w'.cell? ⟨gb242, 0, none⟩ = some (.slice (some ad246) l0_0.length c0_0) ∧ w'.cell? ⟨gb242, 1, none⟩ = some (.int .i64 a0_1) ∧ w'.cell? ⟨gb242, 2, none⟩ = some (.int .i64 a0_2) ∧ w'.cell? ⟨gb242, 3, none⟩ = some (.int .i64 a0_3) ∧ w'.cell? (ad246.add (((ji22)).toNat * 4)) = some (.int .i64 ((rd_T26 l0_0 (ji22)).f0)) ∧ w'.cell? ⟨(ad246.add (((ji22)).toNat * 4)).block, (ad246.add (((ji22)).toNat * 4)).off + 1, none⟩ = some (.int .i64 ((rd_T26 l0_0 (ji22)).f1)) ∧ w'.cell? ⟨(ad246.add (((ji22)).toNat * 4)).block, (ad246.add (((ji22)).toNat * 4)).off + 2, none⟩ = some (.string ((rd_T26 l0_0 (ji22)).f2)) ∧ w'.cell? ⟨(ad246.add (((ji22)).toNat * 4)).block, (ad246.add (((ji22)).toNat * 4)).off + 3, none⟩ = some (.int .i64 ((rd_T26 l0_0 (ji22)).f3))) (ds := []) #[false, false, false, false, false, false, false, false, false] (by kernel_rfl) rfl rfl ⟨(blk_cell BK242.out 0).trans rfl, (blk_cell BK242.out 1).trans rfl, (blk_cell BK242.out 2).trans rfl, (blk_cell BK242.out 3).trans rfl, ((HB.out.cell (World.block_lt_of_cell? w _ hw246_0)).trans hw246_0), ((HB.out.cell (World.block_lt_of_cell? w _ hw246_1)).trans hw246_1), ((HB.out.cell (World.block_lt_of_cell? w _ hw246_2)).trans hw246_2), ((HB.out.cell (World.block_lt_of_cell? w _ hw246_3)).trans hw246_3)⟩ (fun hHeld => ?_); refine with_tabW spec_GoodRing.tab9 spec_GoodRing.bits9 (fun HT_ HW_ => ?_)
           generalize wr.drew = w31 at BK242 HB hx246_0 hx246_1 hx246_2 hx246_3 hHeld ⊢
           refine pureS 0 58 HT_.out ?_
           refine pureS 2 60 HT_.out ?_
           refine pureS 3 61 HT_.out ?_
           refine pureS 4 62 HT_.out ?_
           refine takeS 1 59 HT_.out HW_.out hHeld (hr := by rintro w' ⟨s0, s1, s2, s3, s4, s5, s6, s7⟩; go_simp; with_reducible rfl) (h := ?_)
           refine pureS 5 63 HT_.out ?_
           refine takeS 6 64 HT_.out HW_.out hHeld (hr := by rintro w' ⟨s0, s1, s2, s3, s4, s5, s6, s7⟩; go_simp; with_reducible rfl) (h := ?_)
           refine one_ (i := 7) (N := some 65) #[true, true, true, true, true, true, true, true, false] rfl rfl (one_of HT_.out (by kernel_rfl)) (by decide) (fun K hK => ?_)
           refine goes_ Tryd.func56 (by kernel_rfl) rfl #[] (by rfl) rfl rfl (by (try simp only [List.map_toArray, List.map_cons, List.map_nil]); first | done | rfl | (simp only [List.length_drop, List.length_take]; rfl)) ?_
           with_reducible refine (spec_l10Zero.calls k2  t247 t248 t249 t250 _ A25.out).mono ?_
           rintro e w32 ⟨rfl, hb⟩
           refine ⟨_, rfl, ?_⟩
           have n0_ := Aside0.mk (bb BK242 hb)
           have n1_ := Aside0.mk (below_step (bs1 HB GE242) hb)
           clear BK242
           clear HB
           have BK242 := n0_
           have HB := n1_
           clear n0_ n1_
           (try clear hb)
           (try clear hb2)
           (try clear hk)
           (try clear hi)
           refine hK.out _ _ ⟨(blk_cell BK242.out 0).trans rfl, (blk_cell BK242.out 1).trans rfl, (blk_cell BK242.out 2).trans rfl, (blk_cell BK242.out 3).trans rfl, ((HB.out.cell (World.block_lt_of_cell? w _ hw246_0)).trans hw246_0), ((HB.out.cell (World.block_lt_of_cell? w _ hw246_1)).trans hw246_1), ((HB.out.cell (World.block_lt_of_cell? w _ hw246_2)).trans hw246_2), ((HB.out.cell (World.block_lt_of_cell? w _ hw246_3)).trans hw246_3)⟩ (fun hHeld => ?_)
           clear hK K
           refine norm_ (a' := ?_) ?_ ?_
           rotate_left
           ·
            show Act.put _ (some 65) _ = _
            simp only [Act.put, List.setIfInBounds_toArray, List.set_cons_zero, List.set_cons_succ, i64_w, i32_w]
            rfl
           refine pureS 8 66 HT_.out ?_
           refine done_ (done_of HT_.out (by kernel_rfl)) ?_
           try go_wp2
           go_roundg k2
           case measure => have := HJ1.out; have := HK2.out; omega
           case rel => exact ⟨(x4_2), (wrap64 (x5_2 + 1)), (by first | rfl | (simp; done) | (simp [*]; done)), (by first | rfl | (simp; done) | (simp [*]; done)), H', ⟨by have := HJ1.out; have := HK2.out; omega⟩, ⟨bk BK242⟩, ⟨bs1 HB GE242⟩⟩
         ·
          rw [if_neg c24] at H
          exact absurd H (by simp)
        ·
         rw [if_neg c23] at H
         exact absurd H (by simp)
       ·
        rw [if_neg c21] at H
        have c21b0 : decide (x5_2 < 0) = false := decide_eq_false c21
        clear c21
        by_cases c33 : (l0_0.length : Int) = 0
        ·
         rw [if_pos c33] at H
         exact absurd H (by simp)
        ·
         rw [if_neg c33] at H
         have c33b0 : ((l0_0.length : Int) == 0) = false := beq_eq_false_iff_ne.mpr c33
         have c33b1 : ((l0_0.length : Int) != 0) = true := bne_iff_ne.mpr c33
         have c33b2 : ¬ (l0_0 = []) := fun h_ => c33 (by rw [h_]; rfl)
         obtain ⟨ji34, hji34⟩ : ∃ j_ : Int, (Int.tmod x5_2 (l0_0.length : Int)) = j_ := ⟨_, rfl⟩
         replace H : (if 0 ≤ (ji34) then (if (ji34) < (l0_0.length : Int) then (if x5_2 < a0_3 then ((spec_l10Zero.f k2).bind fun bt253 => (spec_GoodRing.j2 k2 (l0_0.length : Int) x4_2 x5_2 (((rd_T26 l0_0 (ji34)).f0) == bt253.1 && (((rd_T26 l0_0 (ji34)).f1) == bt253.2.1 && ((((rd_T26 l0_0 (ji34)).f2).toList) == bt253.2.2.1.toList && (((rd_T26 l0_0 (ji34)).f3) == bt253.2.2.2)))) l0_0 a0_1 a0_2 a0_3 ((rd_T26 l0_0 (ji34)).f0) ((rd_T26 l0_0 (ji34)).f1) ((rd_T26 l0_0 (ji34)).f2) ((rd_T26 l0_0 (ji34)).f3))) else (spec_GoodRing.j2 k2 (l0_0.length : Int) x4_2 x5_2 false l0_0 a0_1 a0_2 a0_3 ((rd_T26 l0_0 (ji34)).f0) ((rd_T26 l0_0 (ji34)).f1) ((rd_T26 l0_0 (ji34)).f2) ((rd_T26 l0_0 (ji34)).f3))) else (none)) else (none)) = some r := by first | (rw [hji34] at H; exact H) | (simp only [hji34] at H ⊢; exact H)
         by_cases c35 : 0 ≤ (ji34)
         ·
          rw [if_pos c35] at H
          have c35b0 : decide (0 ≤ (ji34)) = true := decide_eq_true c35
          clear c35
          by_cases c36 : (ji34) < (l0_0.length : Int)
          ·
           rw [if_pos c36] at H
           have c36b0 : decide ((ji34) < (l0_0.length : Int)) = true := decide_eq_true c36
           clear c36
           have HC37 := Aside0.mk H
           clear H
           obtain ⟨hcz38_0, hcz38_1, hcz38_2, hcz38_3⟩ := cz4 BK242
           obtain ⟨hfz38_0, hfz38_1, hfz38_2, hfz38_3⟩ := fz4 BK242
           try go_wp2
           have n0_ := Aside0.mk (blk_drew BK242.out)
           have n1_ := Aside0.mk (below_drew1 HB.out)
           clear BK242
           clear HB
           have BK242 := n0_
           have HB := n1_
           clear n0_ n1_
           have p251 : 0 ≤ ((ji34) : Int) := of_decide_eq_true (by first | (with_reducible assumption) | assumption)
           have q251 : (ji34) < (l0_0.length : Int) := of_decide_eq_true (by first | (with_reducible assumption) | assumption)
           obtain ⟨ad251, e251, hx251_0, hx251_1, hx251_2, hx251_3⟩ := at_T26 HR0_0.out (ji34) p251 q251
           have hw251_3 := hx251_3
           have hw251_2 := hx251_2
           have hw251_1 := hx251_1
           have hw251_0 := hx251_0
           cases e251
           replace hx251_0 := (HB.out.cell (World.block_lt_of_cell? w _ hx251_0)).trans hx251_0
           replace hx251_1 := (HB.out.cell (World.block_lt_of_cell? w _ hx251_1)).trans hx251_1
           replace hx251_2 := (HB.out.cell (World.block_lt_of_cell? w _ hx251_2)).trans hx251_2
           replace hx251_3 := (HB.out.cell (World.block_lt_of_cell? w _ hx251_3)).trans hx251_3
           replace p251 := eq_true p251
           replace q251 := eq_true q251
           refine start_ (n := 9) (S := fun w' => w'.cell? ⟨gb242, 0, none⟩ = some (.slice (some ad251) l0_0.length c0_0) ∧ w'.cell? ⟨gb242, 1, none⟩ = some (.int .i64 a0_1) ∧ w'.cell? ⟨gb242, 2, none⟩ = some (.int .i64 a0_2) ∧ w'.cell? ⟨gb242, 3, none⟩ = some (.int .i64 a0_3) ∧ w'.cell? (ad251.add (((ji34)).toNat * 4)) = some (.int .i64 ((rd_T26 l0_0 (ji34)).f0)) ∧ w'.cell? ⟨(ad251.add (((ji34)).toNat * 4)).block, (ad251.add (((ji34)).toNat * 4)).off + 1, none⟩ = some (.int .i64 ((rd_T26 l0_0 (ji34)).f1)) ∧ w'.cell? ⟨(ad251.add (((ji34)).toNat * 4)).block, (ad251.add (((ji34)).toNat * 4)).off + 2, none⟩ = some (.string ((rd_T26 l0_0 (ji34)).f2)) ∧ w'.cell? ⟨(ad251.add (((ji34)).toNat * 4)).block, (ad251.add (((ji34)).toNat * 4)).off + 3, none⟩ = some (.int .i64 ((rd_T26 l0_0 (ji34)).f3))) (ds := []) #[false, false, false, false, false, false, false, false, false] (by kernel_rfl) rfl rfl ⟨(blk_cell BK242.out 0).trans rfl, (blk_cell BK242.out 1).trans rfl, (blk_cell BK242.out 2).trans rfl, (blk_cell BK242.out 3).trans rfl, ((HB.out.cell (World.block_lt_of_cell? w _ hw251_0)).trans hw251_0), ((HB.out.cell (World.block_lt_of_cell? w _ hw251_1)).trans hw251_1), ((HB.out.cell (World.block_lt_of_cell? w _ hw251_2)).trans hw251_2), ((HB.out.cell (World.block_lt_of_cell? w _ hw251_3)).trans hw251_3)⟩ (fun hHeld => ?_); refine with_tabW spec_GoodRing.tab11 spec_GoodRing.bits11 (fun HT_ HW_ => ?_)
           generalize wr.drew = w39 at BK242 HB hx251_0 hx251_1 hx251_2 hx251_3 hHeld ⊢
           refine pureS 0 67 HT_.out ?_
           refine pureS 2 69 HT_.out ?_
           refine pureS 3 70 HT_.out ?_
           refine pureS 4 71 HT_.out ?_
           refine takeS 1 68 HT_.out HW_.out hHeld (hr := by rintro w' ⟨s0, s1, s2, s3, s4, s5, s6, s7⟩; go_simp; with_reducible rfl) (h := ?_)
           refine pureS 5 72 HT_.out ?_
           refine takeS 6 73 HT_.out HW_.out hHeld (hr := by rintro w' ⟨s0, s1, s2, s3, s4, s5, s6, s7⟩; go_simp; with_reducible rfl) (h := ?_)
           refine one_ (i := 7) (N := some 6) #[true, true, true, true, true, true, true, true, false] rfl rfl (one_of HT_.out (by kernel_rfl)) (by decide) (fun K hK => ?_)
           refine box_step ?hg (N := 6) ?hd (cs := #[.int .i64 0, .int .i64 0, .string (⟨#[]⟩ : ByteArray), .int .i64 0]) (t := 26) ?hr ?_; (case hd => rfl); (case hg => rfl); (case hr => first | (go_simp; done) | (go_simp; rfl))
           intro gb252 hg w40 hbox hb
           have n0_ := Aside0.mk (bb BK242 hb)
           have n1_ := Aside0.mk (below_step (bs1 HB GE242) hb)
           have n2_ := Aside0.mk (hbox)
           have n3_ := Aside0.mk ((by rw [hg]; exact (below_size (bs1 HB GE242)) : w.heap.size ≤ gb252))
           have n4_ := Aside0.mk ((by rw [hg]; exact (below_size (bs1 HB GE242)) : w.heap.size ≤ gb252))
           have n5_ := Aside0.mk ((bn BK242 hg : gb242 ≠ gb252))
           have n6_ := Aside0.mk ((bm BK242 hg : gb252 ≠ gb242))
           clear BK242
           clear HB
           have BK242 := n0_
           have HB := n1_
           have BK252 := n2_
           have GW252 := n3_
           have GE252 := n4_
           have NB242_252 := n5_
           have NB252_242 := n6_
           clear n0_ n1_ n2_ n3_ n4_ n5_ n6_
           clear hb hbox hg
           refine hK.out _ _ ⟨(blk_cell BK242.out 0).trans rfl, (blk_cell BK242.out 1).trans rfl, (blk_cell BK242.out 2).trans rfl, (blk_cell BK242.out 3).trans rfl, ((HB.out.cell (World.block_lt_of_cell? w _ hw251_0)).trans hw251_0), ((HB.out.cell (World.block_lt_of_cell? w _ hw251_1)).trans hw251_1), ((HB.out.cell (World.block_lt_of_cell? w _ hw251_2)).trans hw251_2), ((HB.out.cell (World.block_lt_of_cell? w _ hw251_3)).trans hw251_3)⟩ (fun hHeld => ?_)
           clear hK K
           refine norm_ (a' := ?_) ?_ ?_
           rotate_left
           ·
            show Act.put _ (some 6) _ = _
            simp only [Act.put, List.setIfInBounds_toArray, List.set_cons_zero, List.set_cons_succ, i64_w, i32_w]
            rfl
           refine one_ (i := 8) (N := none) #[true, true, true, true, true, true, true, true, true] rfl rfl (one_of HT_.out (by kernel_rfl)) (by decide) (fun K hK => ?_)
           have hs41 : w40.cell? ⟨gb252, 0, none⟩ = some (.int .i64 0) := (blk_cell BK252.out 0).trans rfl
           have hfs41 := blk_frozen BK252.out 0
           have hns41_0 := NB242_252.out
           have hms41_0 := NB252_242.out
           have hs42 : w40.cell? ⟨gb252, 1, none⟩ = some (.int .i64 0) := (blk_cell BK252.out 1).trans rfl
           have hfs42 := blk_frozen BK252.out 1
           have hns42_0 := NB242_252.out
           have hms42_0 := NB252_242.out
           have hs43 : w40.cell? ⟨gb252, 2, none⟩ = some (.string (⟨#[]⟩ : ByteArray)) := (blk_cell BK252.out 2).trans rfl
           have hfs43 := blk_frozen BK252.out 2
           have hns43_0 := NB242_252.out
           have hms43_0 := NB252_242.out
           have hs44 : w40.cell? ⟨gb252, 3, none⟩ = some (.int .i64 0) := (blk_cell BK252.out 3).trans rfl
           have hfs44 := blk_frozen BK252.out 3
           have hns44_0 := NB242_252.out
           have hms44_0 := NB252_242.out
           refine skip_ (w1 := ?_) (by rfl) rfl ?_ ?_
           rotate_left
           ·
            go_simp
            rfl
           refine hK.out _ _ ⟨((cell_far (p := ⟨gb252, _, none⟩) NB242_252.out _).trans (((cell_far (p := ⟨gb252, _, none⟩) NB242_252.out _).trans (((cell_far (p := ⟨gb252, _, none⟩) NB242_252.out _).trans (((cell_far (p := ⟨gb252, _, none⟩) NB242_252.out _).trans (hHeld.1)))))))), ((cell_far (p := ⟨gb252, _, none⟩) NB242_252.out _).trans (((cell_far (p := ⟨gb252, _, none⟩) NB242_252.out _).trans (((cell_far (p := ⟨gb252, _, none⟩) NB242_252.out _).trans (((cell_far (p := ⟨gb252, _, none⟩) NB242_252.out _).trans (hHeld.2.1)))))))), ((cell_far (p := ⟨gb252, _, none⟩) NB242_252.out _).trans (((cell_far (p := ⟨gb252, _, none⟩) NB242_252.out _).trans (((cell_far (p := ⟨gb252, _, none⟩) NB242_252.out _).trans (((cell_far (p := ⟨gb252, _, none⟩) NB242_252.out _).trans (hHeld.2.2.1)))))))), ((cell_far (p := ⟨gb252, _, none⟩) NB242_252.out _).trans (((cell_far (p := ⟨gb252, _, none⟩) NB242_252.out _).trans (((cell_far (p := ⟨gb252, _, none⟩) NB242_252.out _).trans (((cell_far (p := ⟨gb252, _, none⟩) NB242_252.out _).trans (hHeld.2.2.2.1)))))))), ((cell_far (p := ⟨gb252, _, none⟩) (by first | exact Nat.ne_of_lt (Nat.lt_of_lt_of_le (by have := World.block_lt_of_cell? _ _ hw251_0; first | rwa [add_block] at this | exact this) GW252.out) | (rw [add_block]; exact Nat.ne_of_lt (Nat.lt_of_lt_of_le (by have := World.block_lt_of_cell? _ _ hw251_0; first | rwa [add_block] at this | exact this) GW252.out)) | (show (Addr.add _ _).block ≠ _; rw [add_block]; exact Nat.ne_of_lt (Nat.lt_of_lt_of_le (by have := World.block_lt_of_cell? _ _ hw251_0; first | rwa [add_block] at this | exact this) GW252.out)) | (dsimp only; exact Nat.ne_of_lt (Nat.lt_of_lt_of_le (by have := World.block_lt_of_cell? _ _ hw251_0; first | rwa [add_block] at this | exact this) GW252.out))) _).trans (((cell_far (p := ⟨gb252, _, none⟩) (by first | exact Nat.ne_of_lt (Nat.lt_of_lt_of_le (by have := World.block_lt_of_cell? _ _ hw251_0; first | rwa [add_block] at this | exact this) GW252.out) | (rw [add_block]; exact Nat.ne_of_lt (Nat.lt_of_lt_of_le (by have := World.block_lt_of_cell? _ _ hw251_0; first | rwa [add_block] at this | exact this) GW252.out)) | (show (Addr.add _ _).block ≠ _; rw [add_block]; exact Nat.ne_of_lt (Nat.lt_of_lt_of_le (by have := World.block_lt_of_cell? _ _ hw251_0; first | rwa [add_block] at this | exact this) GW252.out)) | (dsimp only; exact Nat.ne_of_lt (Nat.lt_of_lt_of_le (by have := World.block_lt_of_cell? _ _ hw251_0; first | rwa [add_block] at this | exact this) GW252.out))) _).trans (((cell_far (p := ⟨gb252, _, none⟩) (by first | exact Nat.ne_of_lt (Nat.lt_of_lt_of_le (by have := World.block_lt_of_cell? _ _ hw251_0; first | rwa [add_block] at this | exact this) GW252.out) | (rw [add_block]; exact Nat.ne_of_lt (Nat.lt_of_lt_of_le (by have := World.block_lt_of_cell? _ _ hw251_0; first | rwa [add_block] at this | exact this) GW252.out)) | (show (Addr.add _ _).block ≠ _; rw [add_block]; exact Nat.ne_of_lt (Nat.lt_of_lt_of_le (by have := World.block_lt_of_cell? _ _ hw251_0; first | rwa [add_block] at this | exact this) GW252.out)) | (dsimp only; exact Nat.ne_of_lt (Nat.lt_of_lt_of_le (by have := World.block_lt_of_cell? _ _ hw251_0; first | rwa [add_block] at this | exact this) GW252.out))) _).trans (((cell_far (p := ⟨gb252, _, none⟩) (by first | exact Nat.ne_of_lt (Nat.lt_of_lt_of_le (by have := World.block_lt_of_cell? _ _ hw251_0; first | rwa [add_block] at this | exact this) GW252.out) | (rw [add_block]; exact Nat.ne_of_lt (Nat.lt_of_lt_of_le (by have := World.block_lt_of_cell? _ _ hw251_0; first | rwa [add_block] at this | exact this) GW252.out)) | (show (Addr.add _ _).block ≠ _; rw [add_block]; exact Nat.ne_of_lt (Nat.lt_of_lt_of_le (by have := World.block_lt_of_cell? _ _ hw251_0; first | rwa [add_block] at this | exact this) GW252.out)) | (dsimp only; exact Nat.ne_of_lt (Nat.lt_of_lt_of_le (by have := World.block_lt_of_cell? _ _ hw251_0; first | rwa [add_block] at this | exact this) GW252.out))) _).trans (hHeld.2.2.2.2.1)))))))), ((cell_far (p := ⟨gb252, _, none⟩) (by first | exact Nat.ne_of_lt (Nat.lt_of_lt_of_le (by have := World.block_lt_of_cell? _ _ hw251_1; first | rwa [add_block] at this | exact this) GW252.out) | (rw [add_block]; exact Nat.ne_of_lt (Nat.lt_of_lt_of_le (by have := World.block_lt_of_cell? _ _ hw251_1; first | rwa [add_block] at this | exact this) GW252.out)) | (show (Addr.add _ _).block ≠ _; rw [add_block]; exact Nat.ne_of_lt (Nat.lt_of_lt_of_le (by have := World.block_lt_of_cell? _ _ hw251_1; first | rwa [add_block] at this | exact this) GW252.out)) | (dsimp only; exact Nat.ne_of_lt (Nat.lt_of_lt_of_le (by have := World.block_lt_of_cell? _ _ hw251_1; first | rwa [add_block] at this | exact this) GW252.out))) _).trans (((cell_far (p := ⟨gb252, _, none⟩) (by first | exact Nat.ne_of_lt (Nat.lt_of_lt_of_le (by have := World.block_lt_of_cell? _ _ hw251_1; first | rwa [add_block] at this | exact this) GW252.out) | (rw [add_block]; exact Nat.ne_of_lt (Nat.lt_of_lt_of_le (by have := World.block_lt_of_cell? _ _ hw251_1; first | rwa [add_block] at this | exact this) GW252.out)) | (show (Addr.add _ _).block ≠ _; rw [add_block]; exact Nat.ne_of_lt (Nat.lt_of_lt_of_le (by have := World.block_lt_of_cell? _ _ hw251_1; first | rwa [add_block] at this | exact this) GW252.out)) | (dsimp only; exact Nat.ne_of_lt (Nat.lt_of_lt_of_le (by have := World.block_lt_of_cell? _ _ hw251_1; first | rwa [add_block] at this | exact this) GW252.out))) _).trans (((cell_far (p := ⟨gb252, _, none⟩) (by first | exact Nat.ne_of_lt (Nat.lt_of_lt_of_le (by have := World.block_lt_of_cell? _ _ hw251_1; first | rwa [add_block] at this | exact this) GW252.out) | (rw [add_block]; exact Nat.ne_of_lt (Nat.lt_of_lt_of_le (by have := World.block_lt_of_cell? _ _ hw251_1; first | rwa [add_block] at this | exact this) GW252.out)) | (show (Addr.add _ _).block ≠ _; rw [add_block]; exact Nat.ne_of_lt (Nat.lt_of_lt_of_le (by have := World.block_lt_of_cell? _ _ hw251_1; first | rwa [add_block] at this | exact this) GW252.out)) | (dsimp only; exact Nat.ne_of_lt (Nat.lt_of_lt_of_le (by have := World.block_lt_of_cell? _ _ hw251_1; first | rwa [add_block] at this | exact this) GW252.out))) _).trans (((cell_far (p := ⟨gb252, _, none⟩) (by first | exact Nat.ne_of_lt (Nat.lt_of_lt_of_le (by have := World.block_lt_of_cell? _ _ hw251_1; first | rwa [add_block] at this | exact this) GW252.out) | (rw [add_block]; exact Nat.ne_of_lt (Nat.lt_of_lt_of_le (by have := World.block_lt_of_cell? _ _ hw251_1; first | rwa [add_block] at this | exact this) GW252.out)) | (show (Addr.add _ _).block ≠ _; rw [add_block]; exact Nat.ne_of_lt (Nat.lt_of_lt_of_le (by have := World.block_lt_of_cell? _ _ hw251_1; first | rwa [add_block] at this | exact this) GW252.out)) | (dsimp only; exact Nat.ne_of_lt (Nat.lt_of_lt_of_le (by have := World.block_lt_of_cell? _ _ hw251_1; first | rwa [add_block] at this | exact this) GW252.out))) _).trans (hHeld.2.2.2.2.2.1)))))))), ((cell_far (p := ⟨gb252, _, none⟩) (by first | exact Nat.ne_of_lt (Nat.lt_of_lt_of_le (by have := World.block_lt_of_cell? _ _ hw251_2; first | rwa [add_block] at this | exact this) GW252.out) | (rw [add_block]; exact Nat.ne_of_lt (Nat.lt_of_lt_of_le (by have := World.block_lt_of_cell? _ _ hw251_2; first | rwa [add_block] at this | exact this) GW252.out)) | (show (Addr.add _ _).block ≠ _; rw [add_block]; exact Nat.ne_of_lt (Nat.lt_of_lt_of_le (by have := World.block_lt_of_cell? _ _ hw251_2; first | rwa [add_block] at this | exact this) GW252.out)) | (dsimp only; exact Nat.ne_of_lt (Nat.lt_of_lt_of_le (by have := World.block_lt_of_cell? _ _ hw251_2; first | rwa [add_block] at this | exact this) GW252.out))) _).trans (((cell_far (p := ⟨gb252, _, none⟩) (by first | exact Nat.ne_of_lt (Nat.lt_of_lt_of_le (by have := World.block_lt_of_cell? _ _ hw251_2; first | rwa [add_block] at this | exact this) GW252.out) | (rw [add_block]; exact Nat.ne_of_lt (Nat.lt_of_lt_of_le (by have := World.block_lt_of_cell? _ _ hw251_2; first | rwa [add_block] at this | exact this) GW252.out)) | (show (Addr.add _ _).block ≠ _; rw [add_block]; exact Nat.ne_of_lt (Nat.lt_of_lt_of_le (by have := World.block_lt_of_cell? _ _ hw251_2; first | rwa [add_block] at this | exact this) GW252.out)) | (dsimp only; exact Nat.ne_of_lt (Nat.lt_of_lt_of_le (by have := World.block_lt_of_cell? _ _ hw251_2; first | rwa [add_block] at this | exact this) GW252.out))) _).trans (((cell_far (p := ⟨gb252, _, none⟩) (by first | exact Nat.ne_of_lt (Nat.lt_of_lt_of_le (by have := World.block_lt_of_cell? _ _ hw251_2; first | rwa [add_block] at this | exact this) GW252.out) | (rw [add_block]; exact Nat.ne_of_lt (Nat.lt_of_lt_of_le (by have := World.block_lt_of_cell? _ _ hw251_2; first | rwa [add_block] at this | exact this) GW252.out)) | (show (Addr.add _ _).block ≠ _; rw [add_block]; exact Nat.ne_of_lt (Nat.lt_of_lt_of_le (by have := World.block_lt_of_cell? _ _ hw251_2; first | rwa [add_block] at this | exact this) GW252.out)) | (dsimp only; exact Nat.ne_of_lt (Nat.lt_of_lt_of_le (by have := World.block_lt_of_cell? _ _ hw251_2; first | rwa [add_block] at this | exact this) GW252.out))) _).trans (((cell_far (p := ⟨gb252, _, none⟩) (by first | exact Nat.ne_of_lt (Nat.lt_of_lt_of_le (by have := World.block_lt_of_cell? _ _ hw251_2; first | rwa [add_block] at this | exact this) GW252.out) | (rw [add_block]; exact Nat.ne_of_lt (Nat.lt_of_lt_of_le (by have := World.block_lt_of_cell? _ _ hw251_2; first | rwa [add_block] at this | exact this) GW252.out)) | (show (Addr.add _ _).block ≠ _; rw [add_block]; exact Nat.ne_of_lt (Nat.lt_of_lt_of_le (by have := World.block_lt_of_cell? _ _ hw251_2; first | rwa [add_block] at this | exact this) GW252.out)) | (dsimp only; exact Nat.ne_of_lt (Nat.lt_of_lt_of_le (by have := World.block_lt_of_cell? _ _ hw251_2; first | rwa [add_block] at this | exact this) GW252.out))) _).trans (hHeld.2.2.2.2.2.2.1)))))))), ((cell_far (p := ⟨gb252, _, none⟩) (by first | exact Nat.ne_of_lt (Nat.lt_of_lt_of_le (by have := World.block_lt_of_cell? _ _ hw251_3; first | rwa [add_block] at this | exact this) GW252.out) | (rw [add_block]; exact Nat.ne_of_lt (Nat.lt_of_lt_of_le (by have := World.block_lt_of_cell? _ _ hw251_3; first | rwa [add_block] at this | exact this) GW252.out)) | (show (Addr.add _ _).block ≠ _; rw [add_block]; exact Nat.ne_of_lt (Nat.lt_of_lt_of_le (by have := World.block_lt_of_cell? _ _ hw251_3; first | rwa [add_block] at this | exact this) GW252.out)) | (dsimp only; exact Nat.ne_of_lt (Nat.lt_of_lt_of_le (by have := World.block_lt_of_cell? _ _ hw251_3; first | rwa [add_block] at this | exact this) GW252.out))) _).trans (((cell_far (p := ⟨gb252, _, none⟩) (by first | exact Nat.ne_of_lt (Nat.lt_of_lt_of_le (by have := World.block_lt_of_cell? _ _ hw251_3; first | rwa [add_block] at this | exact this) GW252.out) | (rw [add_block]; exact Nat.ne_of_lt (Nat.lt_of_lt_of_le (by have := World.block_lt_of_cell? _ _ hw251_3; first | rwa [add_block] at this | exact this) GW252.out)) | (show (Addr.add _ _).block ≠ _; rw [add_block]; exact Nat.ne_of_lt (Nat.lt_of_lt_of_le (by have := World.block_lt_of_cell? _ _ hw251_3; first | rwa [add_block] at this | exact this) GW252.out)) | (dsimp only; exact Nat.ne_of_lt (Nat.lt_of_lt_of_le (by have := World.block_lt_of_cell? _ _ hw251_3; first | rwa [add_block] at this | exact this) GW252.out))) _).trans (((cell_far (p := ⟨gb252, _, none⟩) (by first | exact Nat.ne_of_lt (Nat.lt_of_lt_of_le (by have := World.block_lt_of_cell? _ _ hw251_3; first | rwa [add_block] at this | exact this) GW252.out) | (rw [add_block]; exact Nat.ne_of_lt (Nat.lt_of_lt_of_le (by have := World.block_lt_of_cell? _ _ hw251_3; first | rwa [add_block] at this | exact this) GW252.out)) | (show (Addr.add _ _).block ≠ _; rw [add_block]; exact Nat.ne_of_lt (Nat.lt_of_lt_of_le (by have := World.block_lt_of_cell? _ _ hw251_3; first | rwa [add_block] at this | exact this) GW252.out)) | (dsimp only; exact Nat.ne_of_lt (Nat.lt_of_lt_of_le (by have := World.block_lt_of_cell? _ _ hw251_3; first | rwa [add_block] at this | exact this) GW252.out))) _).trans (((cell_far (p := ⟨gb252, _, none⟩) (by first | exact Nat.ne_of_lt (Nat.lt_of_lt_of_le (by have := World.block_lt_of_cell? _ _ hw251_3; first | rwa [add_block] at this | exact this) GW252.out) | (rw [add_block]; exact Nat.ne_of_lt (Nat.lt_of_lt_of_le (by have := World.block_lt_of_cell? _ _ hw251_3; first | rwa [add_block] at this | exact this) GW252.out)) | (show (Addr.add _ _).block ≠ _; rw [add_block]; exact Nat.ne_of_lt (Nat.lt_of_lt_of_le (by have := World.block_lt_of_cell? _ _ hw251_3; first | rwa [add_block] at this | exact this) GW252.out)) | (dsimp only; exact Nat.ne_of_lt (Nat.lt_of_lt_of_le (by have := World.block_lt_of_cell? _ _ hw251_3; first | rwa [add_block] at this | exact this) GW252.out))) _).trans (hHeld.2.2.2.2.2.2.2))))))))⟩ (fun hHeld => ?_)
           clear hK K
           refine done_ (done_of HT_.out (by kernel_rfl)) ?_
           go_upto_region 12 with (fail)
           go_cut [82] (fun v82 wc => ∃ (kq : Nat) (x82_36 : Bool), v82 = .bool x82_36 ∧ Aside0 (spec_GoodRing.j2 kq (l0_0.length : Int) x4_2 x5_2 x82_36 l0_0 a0_1 a0_2 a0_3 ((rd_T26 l0_0 (ji34)).f0) ((rd_T26 l0_0 (ji34)).f1) ((rd_T26 l0_0 (ji34)).f2) ((rd_T26 l0_0 (ji34)).f3) = some r) ∧ Aside0 (kq ≤ k2) ∧ Aside0 (wc.heap[gb242]? = some (.cells #[(.slice (some ad251) l0_0.length c0_0), .int .i64 a0_1, .int .i64 a0_2, .int .i64 a0_3] 36 (0, 0))) ∧ Aside0 (wc.heap[gb252]? = some (.cells #[.int .i64 ((rd_T26 l0_0 (ji34)).f0), .int .i64 ((rd_T26 l0_0 (ji34)).f1), .string ((rd_T26 l0_0 (ji34)).f2), .int .i64 ((rd_T26 l0_0 (ji34)).f3)] 26 (0, 0))) ∧ Aside0 (Below w.heap.size w wc))
           case first =>
            have H := HC37.out
            clear HC37
            by_cases c45 : x5_2 < a0_3
            ·
             rw [if_pos c45] at H
             have c45b0 : decide (x5_2 < a0_3) = true := decide_eq_true c45
             clear c45
             (first | rw [c45b0] | (simp only [i64_w, i32_w]; rw [c45b0]) | (simp only [c45b2, Bool.not_false, Bool.not_true]) | skip)
             replace H := Option.bind_eq_some_iff.mp H
             obtain ⟨⟨t253, t254, t255, t256⟩, A460, H⟩ := H
             replace H : (spec_GoodRing.j2 k2 (l0_0.length : Int) x4_2 x5_2 (((rd_T26 l0_0 (ji34)).f0) == t253 && (((rd_T26 l0_0 (ji34)).f1) == t254 && ((((rd_T26 l0_0 (ji34)).f2).toList) == t255.toList && (((rd_T26 l0_0 (ji34)).f3) == t256)))) l0_0 a0_1 a0_2 a0_3 ((rd_T26 l0_0 (ji34)).f0) ((rd_T26 l0_0 (ji34)).f1) ((rd_T26 l0_0 (ji34)).f2) ((rd_T26 l0_0 (ji34)).f3)) = some r := H
             have A46 := Aside0.mk A460
             clear A460
             have H' := Aside0.mk H
             clear H
             try go_wp2
             have n0_ : Aside0 (((((w40.setCell ⟨gb252, 0, none⟩ (.int .i64 ((rd_T26 l0_0 (ji34)).f0))).setCell ⟨gb252, 1, none⟩ (.int .i64 ((rd_T26 l0_0 (ji34)).f1))).setCell ⟨gb252, 2, none⟩ (.string ((rd_T26 l0_0 (ji34)).f2))).setCell ⟨gb252, 3, none⟩ (.int .i64 ((rd_T26 l0_0 (ji34)).f3))).heap[gb242]? = some (.cells #[.slice (some ad251) l0_0.length c0_0, .int .i64 a0_1, .int .i64 a0_2, .int .i64 a0_3] 36 (0, 0))) := ⟨bf BK242 NB242_252⟩
             have n1_ : Aside0 (((((w40.setCell ⟨gb252, 0, none⟩ (.int .i64 ((rd_T26 l0_0 (ji34)).f0))).setCell ⟨gb252, 1, none⟩ (.int .i64 ((rd_T26 l0_0 (ji34)).f1))).setCell ⟨gb252, 2, none⟩ (.string ((rd_T26 l0_0 (ji34)).f2))).setCell ⟨gb252, 3, none⟩ (.int .i64 ((rd_T26 l0_0 (ji34)).f3))).heap[gb252]? = some (.cells #[.int .i64 ((rd_T26 l0_0 (ji34)).f0), .int .i64 ((rd_T26 l0_0 (ji34)).f1), .string ((rd_T26 l0_0 (ji34)).f2), .int .i64 ((rd_T26 l0_0 (ji34)).f3)] 26 (0, 0))) := ⟨by (with_reducible repeat (first | refine blk_drewN ?_ _ | refine blk_drew ?_ | refine blk_alloc ?_ _)); refine blk_put (cs := #[.int .i64 ((rd_T26 l0_0 (ji34)).f0), .int .i64 ((rd_T26 l0_0 (ji34)).f1), .string ((rd_T26 l0_0 (ji34)).f2), .int .i64 0]) ?_ 3 _ rfl; (with_reducible repeat (first | refine blk_drewN ?_ _ | refine blk_drew ?_ | refine blk_alloc ?_ _)); refine blk_put (cs := #[.int .i64 ((rd_T26 l0_0 (ji34)).f0), .int .i64 ((rd_T26 l0_0 (ji34)).f1), .string (⟨#[]⟩ : ByteArray), .int .i64 0]) ?_ 2 _ rfl; (with_reducible repeat (first | refine blk_drewN ?_ _ | refine blk_drew ?_ | refine blk_alloc ?_ _)); refine blk_put (cs := #[.int .i64 ((rd_T26 l0_0 (ji34)).f0), .int .i64 0, .string (⟨#[]⟩ : ByteArray), .int .i64 0]) ?_ 1 _ rfl; (with_reducible repeat (first | refine blk_drewN ?_ _ | refine blk_drew ?_ | refine blk_alloc ?_ _)); refine blk_put (cs := #[.int .i64 0, .int .i64 0, .string (⟨#[]⟩ : ByteArray), .int .i64 0]) ?_ 0 _ rfl; (with_reducible repeat (first | refine blk_drewN ?_ _ | refine blk_drew ?_ | refine blk_alloc ?_ _)); exact BK252.out⟩
             have n2_ : Aside0 (Below w.heap.size w ((((w40.setCell ⟨gb252, 0, none⟩ (.int .i64 ((rd_T26 l0_0 (ji34)).f0))).setCell ⟨gb252, 1, none⟩ (.int .i64 ((rd_T26 l0_0 (ji34)).f1))).setCell ⟨gb252, 2, none⟩ (.string ((rd_T26 l0_0 (ji34)).f2))).setCell ⟨gb252, 3, none⟩ (.int .i64 ((rd_T26 l0_0 (ji34)).f3)))) := ⟨bs2 HB GE242 GE252⟩
             (try clear BK242)
             (try clear BK252)
             (try clear HB)
             generalize ((((w40.setCell ⟨gb252, 0, none⟩ (.int .i64 ((rd_T26 l0_0 (ji34)).f0))).setCell ⟨gb252, 1, none⟩ (.int .i64 ((rd_T26 l0_0 (ji34)).f1))).setCell ⟨gb252, 2, none⟩ (.string ((rd_T26 l0_0 (ji34)).f2))).setCell ⟨gb252, 3, none⟩ (.int .i64 ((rd_T26 l0_0 (ji34)).f3))) = w47 at n0_ n1_ n2_ ⊢
             have BK242 := n0_
             have BK252 := n1_
             have HB := n2_
             clear n0_ n1_ n2_
             have n0_ := Aside0.mk (blk_drew BK242.out)
             have n1_ := Aside0.mk (blk_drew BK252.out)
             have n2_ := Aside0.mk (below_drew1 HB.out)
             clear BK242
             clear BK252
             clear HB
             have BK242 := n0_
             have BK252 := n1_
             have HB := n2_
             clear n0_ n1_ n2_
             refine start_ (n := 9) (S := fun w' => w'.cell? ⟨gb242, 0, none⟩ = some (.slice (some ad251) l0_0.length c0_0) ∧ w'.cell? ⟨gb242, 1, none⟩ = some (.int .i64 a0_1) ∧ w'.cell? ⟨gb242, 2, none⟩ = some (.int .i64 a0_2) ∧ w'.cell? ⟨gb242, 3, none⟩ = some (.int .i64 a0_3) ∧ w'.cell? ⟨gb252, 0, none⟩ = some (.int .i64 ((rd_T26 l0_0 (ji34)).f0)) ∧ w'.cell? ⟨gb252, 1, none⟩ = some (.int .i64 ((rd_T26 l0_0 (ji34)).f1)) ∧ w'.cell? ⟨gb252, 2, none⟩ = some (.string ((rd_T26 l0_0 (ji34)).f2)) ∧ w'.cell? ⟨gb252, 3, none⟩ = some (.int .i64 ((rd_T26 l0_0 (ji34)).f3))) (ds := []) #[false, false, false, false, false, false, false, false, false] (by kernel_rfl) rfl rfl ⟨(blk_cell BK242.out 0).trans rfl, (blk_cell BK242.out 1).trans rfl, (blk_cell BK242.out 2).trans rfl, (blk_cell BK242.out 3).trans rfl, (blk_cell BK252.out 0).trans rfl, (blk_cell BK252.out 1).trans rfl, (blk_cell BK252.out 2).trans rfl, (blk_cell BK252.out 3).trans rfl⟩ (fun hHeld => ?_); refine with_tabW spec_GoodRing.tab12 spec_GoodRing.bits12 (fun HT_ HW_ => ?_)
             generalize w47.drew = w48 at BK242 BK252 HB hHeld ⊢
             refine pureS 0 74 HT_.out ?_
             refine pureS 1 75 HT_.out ?_
             refine takeS 2 76 HT_.out HW_.out hHeld (hr := by rintro w' ⟨s0, s1, s2, s3, s4, s5, s6, s7⟩; go_simp; with_reducible rfl) (h := ?_)
             refine pureS 3 77 HT_.out ?_
             refine pureS 4 78 HT_.out ?_
             refine takeS 5 79 HT_.out HW_.out hHeld (hr := by rintro w' ⟨s0, s1, s2, s3, s4, s5, s6, s7⟩; go_simp; with_reducible rfl) (h := ?_)
             refine one_ (i := 6) (N := some 80) #[true, true, true, true, true, true, true, false, false] rfl rfl (one_of HT_.out (by kernel_rfl)) (by decide) (fun K hK => ?_)
             refine goes_ Tryd.func56 (by kernel_rfl) rfl #[] (by rfl) rfl rfl (by (try simp only [List.map_toArray, List.map_cons, List.map_nil]); first | done | rfl | (simp only [List.length_drop, List.length_take]; rfl)) ?_
             with_reducible refine (spec_l10Zero.calls k2  t253 t254 t255 t256 _ A46.out).mono ?_
             rintro e w49 ⟨rfl, hb⟩
             refine ⟨_, rfl, ?_⟩
             have n0_ := Aside0.mk (bb BK242 hb)
             have n1_ := Aside0.mk (bb BK252 hb)
             have n2_ := Aside0.mk (below_step (bs2 HB GE242 GE252) hb)
             clear BK242
             clear BK252
             clear HB
             have BK242 := n0_
             have BK252 := n1_
             have HB := n2_
             clear n0_ n1_ n2_
             (try clear hb)
             (try clear hb2)
             (try clear hk)
             (try clear hi)
             refine hK.out _ _ ⟨(blk_cell BK242.out 0).trans rfl, (blk_cell BK242.out 1).trans rfl, (blk_cell BK242.out 2).trans rfl, (blk_cell BK242.out 3).trans rfl, (blk_cell BK252.out 0).trans rfl, (blk_cell BK252.out 1).trans rfl, (blk_cell BK252.out 2).trans rfl, (blk_cell BK252.out 3).trans rfl⟩ (fun hHeld => ?_)
             clear hK K
             refine norm_ (a' := ?_) ?_ ?_
             rotate_left
             ·
              show Act.put _ (some 80) _ = _
              simp only [Act.put, List.setIfInBounds_toArray, List.set_cons_zero, List.set_cons_succ, i64_w, i32_w]
              rfl
             refine pureS 7 81 HT_.out ?_
             refine pureS 8 82 HT_.out ?_
             refine done_ (done_of HT_.out (by kernel_rfl)) ?_
             try go_wp2
             go_meet
             case rel => exact ⟨_, ((((rd_T26 l0_0 (ji34)).f0) == t253 && (((rd_T26 l0_0 (ji34)).f1) == t254 && ((((rd_T26 l0_0 (ji34)).f2).toList) == t255.toList && (((rd_T26 l0_0 (ji34)).f3) == t256))))), (by first | rfl | (simp; done) | (simp only [← hji34] <;> (first | rfl | simp)) | (simp [*]; done)), H', ⟨by have := HJ1.out; have := HK2.out; first | omega | exact Nat.le_refl _⟩, ⟨bk BK242⟩, ⟨bk BK252⟩, ⟨bs2 HB GE242 GE252⟩⟩
            ·
             rw [if_neg c45] at H
             have c45b0 : decide (x5_2 < a0_3) = false := decide_eq_false c45
             clear c45
             (first | rw [c45b0] | (simp only [i64_w, i32_w]; rw [c45b0]) | (simp only [c45b2, Bool.not_false, Bool.not_true]) | skip)
             have H' := Aside0.mk H
             clear H
             try go_wp2
             have n0_ : Aside0 (((((w40.setCell ⟨gb252, 0, none⟩ (.int .i64 ((rd_T26 l0_0 (ji34)).f0))).setCell ⟨gb252, 1, none⟩ (.int .i64 ((rd_T26 l0_0 (ji34)).f1))).setCell ⟨gb252, 2, none⟩ (.string ((rd_T26 l0_0 (ji34)).f2))).setCell ⟨gb252, 3, none⟩ (.int .i64 ((rd_T26 l0_0 (ji34)).f3))).heap[gb242]? = some (.cells #[.slice (some ad251) l0_0.length c0_0, .int .i64 a0_1, .int .i64 a0_2, .int .i64 a0_3] 36 (0, 0))) := ⟨bf BK242 NB242_252⟩
             have n1_ : Aside0 (((((w40.setCell ⟨gb252, 0, none⟩ (.int .i64 ((rd_T26 l0_0 (ji34)).f0))).setCell ⟨gb252, 1, none⟩ (.int .i64 ((rd_T26 l0_0 (ji34)).f1))).setCell ⟨gb252, 2, none⟩ (.string ((rd_T26 l0_0 (ji34)).f2))).setCell ⟨gb252, 3, none⟩ (.int .i64 ((rd_T26 l0_0 (ji34)).f3))).heap[gb252]? = some (.cells #[.int .i64 ((rd_T26 l0_0 (ji34)).f0), .int .i64 ((rd_T26 l0_0 (ji34)).f1), .string ((rd_T26 l0_0 (ji34)).f2), .int .i64 ((rd_T26 l0_0 (ji34)).f3)] 26 (0, 0))) := ⟨by (with_reducible repeat (first | refine blk_drewN ?_ _ | refine blk_drew ?_ | refine blk_alloc ?_ _)); refine blk_put (cs := #[.int .i64 ((rd_T26 l0_0 (ji34)).f0), .int .i64 ((rd_T26 l0_0 (ji34)).f1), .string ((rd_T26 l0_0 (ji34)).f2), .int .i64 0]) ?_ 3 _ rfl; (with_reducible repeat (first | refine blk_drewN ?_ _ | refine blk_drew ?_ | refine blk_alloc ?_ _)); refine blk_put (cs := #[.int .i64 ((rd_T26 l0_0 (ji34)).f0), .int .i64 ((rd_T26 l0_0 (ji34)).f1), .string (⟨#[]⟩ : ByteArray), .int .i64 0]) ?_ 2 _ rfl; (with_reducible repeat (first | refine blk_drewN ?_ _ | refine blk_drew ?_ | refine blk_alloc ?_ _)); refine blk_put (cs := #[.int .i64 ((rd_T26 l0_0 (ji34)).f0), .int .i64 0, .string (⟨#[]⟩ : ByteArray), .int .i64 0]) ?_ 1 _ rfl; (with_reducible repeat (first | refine blk_drewN ?_ _ | refine blk_drew ?_ | refine blk_alloc ?_ _)); refine blk_put (cs := #[.int .i64 0, .int .i64 0, .string (⟨#[]⟩ : ByteArray), .int .i64 0]) ?_ 0 _ rfl; (with_reducible repeat (first | refine blk_drewN ?_ _ | refine blk_drew ?_ | refine blk_alloc ?_ _)); exact BK252.out⟩
             have n2_ : Aside0 (Below w.heap.size w ((((w40.setCell ⟨gb252, 0, none⟩ (.int .i64 ((rd_T26 l0_0 (ji34)).f0))).setCell ⟨gb252, 1, none⟩ (.int .i64 ((rd_T26 l0_0 (ji34)).f1))).setCell ⟨gb252, 2, none⟩ (.string ((rd_T26 l0_0 (ji34)).f2))).setCell ⟨gb252, 3, none⟩ (.int .i64 ((rd_T26 l0_0 (ji34)).f3)))) := ⟨bs2 HB GE242 GE252⟩
             (try clear BK242)
             (try clear BK252)
             (try clear HB)
             generalize ((((w40.setCell ⟨gb252, 0, none⟩ (.int .i64 ((rd_T26 l0_0 (ji34)).f0))).setCell ⟨gb252, 1, none⟩ (.int .i64 ((rd_T26 l0_0 (ji34)).f1))).setCell ⟨gb252, 2, none⟩ (.string ((rd_T26 l0_0 (ji34)).f2))).setCell ⟨gb252, 3, none⟩ (.int .i64 ((rd_T26 l0_0 (ji34)).f3))) = w50 at n0_ n1_ n2_ ⊢
             have BK242 := n0_
             have BK252 := n1_
             have HB := n2_
             clear n0_ n1_ n2_
             have n0_ := Aside0.mk (blk_drew BK242.out)
             have n1_ := Aside0.mk (blk_drew BK252.out)
             have n2_ := Aside0.mk (below_drew1 HB.out)
             clear BK242
             clear BK252
             clear HB
             have BK242 := n0_
             have BK252 := n1_
             have HB := n2_
             clear n0_ n1_ n2_
             refine start_ (n := 9) (S := fun w' => w'.cell? ⟨gb242, 0, none⟩ = some (.slice (some ad251) l0_0.length c0_0) ∧ w'.cell? ⟨gb242, 1, none⟩ = some (.int .i64 a0_1) ∧ w'.cell? ⟨gb242, 2, none⟩ = some (.int .i64 a0_2) ∧ w'.cell? ⟨gb242, 3, none⟩ = some (.int .i64 a0_3)) (ds := []) #[false, false, false, false, false, false, false, false, false] (by kernel_rfl) rfl rfl ⟨(blk_cell BK242.out 0).trans rfl, (blk_cell BK242.out 1).trans rfl, (blk_cell BK242.out 2).trans rfl, (blk_cell BK242.out 3).trans rfl⟩ (fun hHeld => ?_); refine with_tabW spec_GoodRing.tab12 spec_GoodRing.bits12 (fun HT_ HW_ => ?_)
             generalize w50.drew = w51 at BK242 BK252 HB hHeld ⊢
             refine pureS 0 74 HT_.out ?_
             refine pureS 1 75 HT_.out ?_
             refine takeS 2 76 HT_.out HW_.out hHeld (hr := by rintro w' ⟨s0, s1, s2, s3⟩; go_simp; with_reducible rfl) (h := ?_)
             refine pureS 3 77 HT_.out ?_
             refine pureS 4 78 HT_.out ?_
             refine pureU 5 79 HT_.out ?_
             refine pureU 6 80 HT_.out ?_
             refine pureU 7 81 HT_.out ?_
             refine pureS 8 82 HT_.out ?_
             refine done_ (done_of HT_.out (by kernel_rfl)) ?_
             try go_wp2
             go_meet
             case rel => exact ⟨_, (false), (by first | rfl | (simp; done) | (simp [*]; done)), H', ⟨by have := HJ1.out; have := HK2.out; first | omega | exact Nat.le_refl _⟩, ⟨bk BK242⟩, ⟨bk BK252⟩, ⟨bs2 HB GE242 GE252⟩⟩
           case rest =>
            clear HC37
            try clear c2
            try clear p2
            try clear q2
            try clear hx2
            try clear c3
            try clear c4
            try clear c5
            try clear p6
            try clear c21
            try clear c21b0
            try clear c23
            try clear c24
            try clear p24
            try clear q24
            try clear hx24
            try clear p25
            try clear q25
            try clear hx25
            try clear c26
            try clear c26b0
            try clear c33
            try clear c33b0
            try clear c33b1
            try clear c33b2
            try clear c35
            try clear c35b0
            try clear c36
            try clear c36b0
            try clear c45
            try clear c45b0
            try clear hcz30_0 hcz30_1 hcz30_2 hcz30_3
            try clear hcz38_0 hcz38_1 hcz38_2 hcz38_3
            try clear hfz30_0 hfz30_1 hfz30_2 hfz30_3
            try clear hfz38_0 hfz38_1 hfz38_2 hfz38_3
            try clear hx246_0
            try clear hx246_1
            try clear hx246_2
            try clear hx246_3
            try clear hx251_0
            try clear hx251_1
            try clear hx251_2
            try clear hx251_3
            try clear p246
            try clear p251
            try clear q246
            try clear q251
            obtain ⟨kq, x82_36, rfl, HA, HJ36, BK242, BK252, HB⟩ := hcut
            cases kq with
            | zero => exact absurd HA.out (by simp [spec_GoodRing.j2])
            | succ kj36 =>
             have H := HA.out
             clear HA
             simp only [spec_GoodRing.j2] at H
             by_cases c52 : x82_36 = true
             ·
              subst c52
              rw [if_pos rfl] at H
              have H' := Aside0.mk H
              clear H
              go_wp2
              go_roundg kj36
              case measure => have := HJ1.out; have := HK2.out; have := HJ36.out; omega
              case rel => exact ⟨(x4_2), (wrap64 (x5_2 + 1)), (by first | rfl | (simp; done) | (simp [*]; done)), (by first | rfl | (simp; done) | (simp [*]; done)), H', ⟨by have := HJ1.out; have := HK2.out; have := HJ36.out; omega⟩, ⟨bk BK242⟩, ⟨bs2 HB GE242 GE252⟩⟩
             ·
              replace c52 := Bool.eq_false_iff.mpr c52
              subst c52
              rw [if_neg (show ¬ (false = true) by decide)] at H
              have HC53 := Aside0.mk H
              clear H
              go_upto_region 13 with (fail)
              go_cut [94] (fun v94 wc => ∃ (kq : Nat) (x94_52 : Bool), v94 = .bool x94_52 ∧ Aside0 (spec_GoodRing.j3 kq (l0_0.length : Int) x4_2 x5_2 x94_52 l0_0 a0_1 a0_2 a0_3 ((rd_T26 l0_0 (ji34)).f0) ((rd_T26 l0_0 (ji34)).f1) ((rd_T26 l0_0 (ji34)).f2) ((rd_T26 l0_0 (ji34)).f3) = some r) ∧ Aside0 (kq ≤ kj36) ∧ Aside0 (wc.heap[gb242]? = some (.cells #[(.slice (some ad251) l0_0.length c0_0), .int .i64 a0_1, .int .i64 a0_2, .int .i64 a0_3] 36 (0, 0))) ∧ Aside0 (wc.heap[gb252]? = some (.cells #[.int .i64 ((rd_T26 l0_0 (ji34)).f0), .int .i64 ((rd_T26 l0_0 (ji34)).f1), .string ((rd_T26 l0_0 (ji34)).f2), .int .i64 ((rd_T26 l0_0 (ji34)).f3)] 26 (0, 0))) ∧ Aside0 (Below w.heap.size w wc))
              case first =>
               have H := HC53.out
               clear HC53
               replace H := Option.bind_eq_some_iff.mp H
               obtain ⟨t257, A540, H⟩ := H
               replace H : (if t257 = true then (if (l0_0.length : Int) = 0 then (none) else (spec_GoodRing.j3 kj36 (l0_0.length : Int) x4_2 x5_2 (((rd_T26 l0_0 (ji34)).f0) != (wrap64 ((wrap64 (Int.tdiv x5_2 (l0_0.length : Int))) + 1))) l0_0 a0_1 a0_2 a0_3 ((rd_T26 l0_0 (ji34)).f0) ((rd_T26 l0_0 (ji34)).f1) ((rd_T26 l0_0 (ji34)).f2) ((rd_T26 l0_0 (ji34)).f3))) else (spec_GoodRing.j3 kj36 (l0_0.length : Int) x4_2 x5_2 true l0_0 a0_1 a0_2 a0_3 ((rd_T26 l0_0 (ji34)).f0) ((rd_T26 l0_0 (ji34)).f1) ((rd_T26 l0_0 (ji34)).f2) ((rd_T26 l0_0 (ji34)).f3))) = some r := H
               have A54 := Aside0.mk A540
               clear A540
               by_cases c55 : t257 = true
               ·
                subst c55
                rw [if_pos rfl] at H
                by_cases c56 : (l0_0.length : Int) = 0
                ·
                 rw [if_pos c56] at H
                 exact absurd H (by simp)
                ·
                 rw [if_neg c56] at H
                 have c56b0 : ((l0_0.length : Int) == 0) = false := beq_eq_false_iff_ne.mpr c56
                 have c56b1 : ((l0_0.length : Int) != 0) = true := bne_iff_ne.mpr c56
                 have c56b2 : ¬ (l0_0 = []) := fun h_ => c56 (by rw [h_]; rfl)
                 (first | rw [c56b0] | (simp only [i64_w, i32_w]; rw [c56b0]) | (simp only [c56b2, Bool.not_false, Bool.not_true]) | skip)
                 have H' := Aside0.mk H
                 clear H
                 try go_wp2
                 have n0_ := Aside0.mk (blk_drew BK242.out)
                 have n1_ := Aside0.mk (blk_drew BK252.out)
                 have n2_ := Aside0.mk (below_drew1 HB.out)
                 clear BK242
                 clear BK252
                 clear HB
                 have BK242 := n0_
                 have BK252 := n1_
                 have HB := n2_
                 clear n0_ n1_ n2_
                 refine start_ (n := 12) (S := fun w' => w'.cell? ⟨gb252, 0, none⟩ = some (.int .i64 ((rd_T26 l0_0 (ji34)).f0)) ∧ w'.cell? ⟨gb252, 1, none⟩ = some (.int .i64 ((rd_T26 l0_0 (ji34)).f1)) ∧ w'.cell? ⟨gb252, 2, none⟩ = some (.string ((rd_T26 l0_0 (ji34)).f2)) ∧ w'.cell? ⟨gb252, 3, none⟩ = some (.int .i64 ((rd_T26 l0_0 (ji34)).f3))) (ds := []) #[false, false, false, false, false, false, false, false, false, false, false, false] (by kernel_rfl) rfl rfl ⟨(blk_cell BK252.out 0).trans rfl, (blk_cell BK252.out 1).trans rfl, (blk_cell BK252.out 2).trans rfl, (blk_cell BK252.out 3).trans rfl⟩ (fun hHeld => ?_); refine with_tabW spec_GoodRing.tab13 spec_GoodRing.bits13 (fun HT_ HW_ => ?_)
                 generalize wc.drew = w57 at BK242 BK252 HB hHeld ⊢
                 refine takeS 0 83 HT_.out HW_.out hHeld (hr := by rintro w' ⟨s0, s1, s2, s3⟩; go_simp; with_reducible rfl) (h := ?_)
                 refine one_ (i := 1) (N := some 84) #[true, true, false, false, false, false, false, false, false, false, false, false] rfl rfl (one_of HT_.out (by kernel_rfl)) (by decide) (fun K hK => ?_)
                 refine goes_ Tryd.func57 (by kernel_rfl) rfl #[.agg #[.int .i64 ((rd_T26 l0_0 (ji34)).f0), .int .i64 ((rd_T26 l0_0 (ji34)).f1), .string ((rd_T26 l0_0 (ji34)).f2), .int .i64 ((rd_T26 l0_0 (ji34)).f3)]] (by rfl) rfl rfl (by (try simp only [List.map_toArray, List.map_cons, List.map_nil]); first | done | (simp only [hji34]; rfl) | rfl | (simp only [List.length_drop, List.length_take]; rfl)) ?_
                 with_reducible refine (spec_l10Whole.calls kj36 ((rd_T26 l0_0 (ji34)).f0) ((rd_T26 l0_0 (ji34)).f1) ((rd_T26 l0_0 (ji34)).f2) ((rd_T26 l0_0 (ji34)).f3) true _ A54.out).mono ?_
                 rintro e w58 ⟨rfl, hb⟩
                 refine ⟨_, rfl, ?_⟩
                 have n0_ := Aside0.mk (bb BK242 hb)
                 have n1_ := Aside0.mk (bb BK252 hb)
                 have n2_ := Aside0.mk (below_step (bs2 HB GE242 GE252) hb)
                 clear BK242
                 clear BK252
                 clear HB
                 have BK242 := n0_
                 have BK252 := n1_
                 have HB := n2_
                 clear n0_ n1_ n2_
                 (try clear hb)
                 (try clear hb2)
                 (try clear hk)
                 (try clear hi)
                 refine hK.out _ _ ⟨(blk_cell BK252.out 0).trans rfl, (blk_cell BK252.out 1).trans rfl, (blk_cell BK252.out 2).trans rfl, (blk_cell BK252.out 3).trans rfl⟩ (fun hHeld => ?_)
                 clear hK K
                 refine norm_ (a' := ?_) ?_ ?_
                 rotate_left
                 ·
                  show Act.put _ (some 84) _ = _
                  simp only [Act.put, List.setIfInBounds_toArray, List.set_cons_zero, List.set_cons_succ, i64_w, i32_w]
                  rfl
                 refine pureS 2 85 HT_.out ?_
                 refine pureS 3 86 HT_.out ?_
                 refine pureS 4 87 HT_.out ?_
                 refine pureS 6 89 HT_.out ?_
                 refine pureS 7 90 HT_.out ?_
                 refine pureS 8 91 HT_.out ?_
                 refine pureS 9 92 HT_.out ?_
                 refine takeS 5 88 HT_.out HW_.out hHeld (hr := by rintro w' ⟨s0, s1, s2, s3⟩; go_simp; with_reducible rfl) (h := ?_)
                 refine pureS 10 93 HT_.out ?_
                 refine pureS 11 94 HT_.out ?_
                 refine done_ (done_of HT_.out (by kernel_rfl)) ?_
                 try go_wp2
                 go_meet
                 case rel => exact ⟨_, ((((rd_T26 l0_0 (ji34)).f0) != (wrap64 ((wrap64 (Int.tdiv x5_2 (l0_0.length : Int))) + 1)))), (by first | rfl | (simp; done) | (simp only [← hji34] <;> (first | rfl | simp)) | (simp [*]; done)), H', ⟨by have := HJ1.out; have := HK2.out; have := HJ36.out; first | omega | exact Nat.le_refl _⟩, ⟨bk BK242⟩, ⟨bk BK252⟩, ⟨bs2 HB GE242 GE252⟩⟩
               ·
                replace c55 := Bool.eq_false_iff.mpr c55
                subst c55
                rw [if_neg (show ¬ (false = true) by decide)] at H
                have H' := Aside0.mk H
                clear H
                try go_wp2
                have n0_ := Aside0.mk (blk_drew BK242.out)
                have n1_ := Aside0.mk (blk_drew BK252.out)
                have n2_ := Aside0.mk (below_drew1 HB.out)
                clear BK242
                clear BK252
                clear HB
                have BK242 := n0_
                have BK252 := n1_
                have HB := n2_
                clear n0_ n1_ n2_
                refine start_ (n := 12) (S := fun w' => w'.cell? ⟨gb252, 0, none⟩ = some (.int .i64 ((rd_T26 l0_0 (ji34)).f0)) ∧ w'.cell? ⟨gb252, 1, none⟩ = some (.int .i64 ((rd_T26 l0_0 (ji34)).f1)) ∧ w'.cell? ⟨gb252, 2, none⟩ = some (.string ((rd_T26 l0_0 (ji34)).f2)) ∧ w'.cell? ⟨gb252, 3, none⟩ = some (.int .i64 ((rd_T26 l0_0 (ji34)).f3))) (ds := []) #[false, false, false, false, false, false, false, false, false, false, false, false] (by kernel_rfl) rfl rfl ⟨(blk_cell BK252.out 0).trans rfl, (blk_cell BK252.out 1).trans rfl, (blk_cell BK252.out 2).trans rfl, (blk_cell BK252.out 3).trans rfl⟩ (fun hHeld => ?_); refine with_tabW spec_GoodRing.tab13 spec_GoodRing.bits13 (fun HT_ HW_ => ?_)
                generalize wc.drew = w59 at BK242 BK252 HB hHeld ⊢
                refine takeS 0 83 HT_.out HW_.out hHeld (hr := by rintro w' ⟨s0, s1, s2, s3⟩; go_simp; with_reducible rfl) (h := ?_)
                refine one_ (i := 1) (N := some 84) #[true, true, false, false, false, false, false, false, false, false, false, false] rfl rfl (one_of HT_.out (by kernel_rfl)) (by decide) (fun K hK => ?_)
                refine goes_ Tryd.func57 (by kernel_rfl) rfl #[.agg #[.int .i64 ((rd_T26 l0_0 (ji34)).f0), .int .i64 ((rd_T26 l0_0 (ji34)).f1), .string ((rd_T26 l0_0 (ji34)).f2), .int .i64 ((rd_T26 l0_0 (ji34)).f3)]] (by rfl) rfl rfl (by (try simp only [List.map_toArray, List.map_cons, List.map_nil]); first | done | (simp only [hji34]; rfl) | rfl | (simp only [List.length_drop, List.length_take]; rfl)) ?_
                with_reducible refine (spec_l10Whole.calls kj36 ((rd_T26 l0_0 (ji34)).f0) ((rd_T26 l0_0 (ji34)).f1) ((rd_T26 l0_0 (ji34)).f2) ((rd_T26 l0_0 (ji34)).f3) false _ A54.out).mono ?_
                rintro e w60 ⟨rfl, hb⟩
                refine ⟨_, rfl, ?_⟩
                have n0_ := Aside0.mk (bb BK242 hb)
                have n1_ := Aside0.mk (bb BK252 hb)
                have n2_ := Aside0.mk (below_step (bs2 HB GE242 GE252) hb)
                clear BK242
                clear BK252
                clear HB
                have BK242 := n0_
                have BK252 := n1_
                have HB := n2_
                clear n0_ n1_ n2_
                (try clear hb)
                (try clear hb2)
                (try clear hk)
                (try clear hi)
                refine hK.out _ _ ⟨(blk_cell BK252.out 0).trans rfl, (blk_cell BK252.out 1).trans rfl, (blk_cell BK252.out 2).trans rfl, (blk_cell BK252.out 3).trans rfl⟩ (fun hHeld => ?_)
                clear hK K
                refine norm_ (a' := ?_) ?_ ?_
                rotate_left
                ·
                 show Act.put _ (some 84) _ = _
                 simp only [Act.put, List.setIfInBounds_toArray, List.set_cons_zero, List.set_cons_succ, i64_w, i32_w]
                 rfl
                refine pureS 2 85 HT_.out ?_
                refine pureS 3 86 HT_.out ?_
                refine pureU 4 87 HT_.out ?_
                refine pureU 5 88 HT_.out ?_
                refine pureU 6 89 HT_.out ?_
                refine pureU 7 90 HT_.out ?_
                refine pureU 8 91 HT_.out ?_
                refine pureU 9 92 HT_.out ?_
                refine pureU 10 93 HT_.out ?_
                refine pureS 11 94 HT_.out ?_
                refine done_ (done_of HT_.out (by kernel_rfl)) ?_
                try go_wp2
                go_meet
                case rel => exact ⟨_, (true), (by first | rfl | (simp; done) | (simp [*]; done)), H', ⟨by have := HJ1.out; have := HK2.out; have := HJ36.out; first | omega | exact Nat.le_refl _⟩, ⟨bk BK242⟩, ⟨bk BK252⟩, ⟨bs2 HB GE242 GE252⟩⟩
              case rest =>
               clear HC53
               try clear c2
               try clear p2
               try clear q2
               try clear hx2
               try clear c3
               try clear c4
               try clear c5
               try clear p6
               try clear c21
               try clear c21b0
               try clear c23
               try clear c24
               try clear p24
               try clear q24
               try clear hx24
               try clear p25
               try clear q25
               try clear hx25
               try clear c26
               try clear c26b0
               try clear c33
               try clear c33b0
               try clear c33b1
               try clear c33b2
               try clear c35
               try clear c35b0
               try clear c36
               try clear c36b0
               try clear c45
               try clear c45b0
               try clear c52
               try clear c55
               try clear c56
               try clear c56b0
               try clear c56b1
               try clear c56b2
               try clear c57
               try clear hcz30_0 hcz30_1 hcz30_2 hcz30_3
               try clear hcz38_0 hcz38_1 hcz38_2 hcz38_3
               try clear hfz30_0 hfz30_1 hfz30_2 hfz30_3
               try clear hfz38_0 hfz38_1 hfz38_2 hfz38_3
               try clear hx246_0
               try clear hx246_1
               try clear hx246_2
               try clear hx246_3
               try clear hx251_0
               try clear hx251_1
               try clear hx251_2
               try clear hx251_3
               try clear p2
               try clear p24
               try clear p246
               try clear p25
               try clear p251
               try clear p6
               try clear q2
               try clear q24
               try clear q246
               try clear q25
               try clear q251
               obtain ⟨kq, x94_52, rfl, HA, HJ52, BK242, BK252, HB⟩ := hcut
               cases kq with
               | zero => exact absurd HA.out (by simp [spec_GoodRing.j3])
               | succ kj52 =>
                have H := HA.out
                clear HA
                simp only [spec_GoodRing.j3] at H
                by_cases c61 : x94_52 = true
                ·
                 subst c61
                 rw [if_pos rfl] at H
                 obtain rfl := Option.some.inj H
                 go_wp2
                 go_ret
                 exact ⟨by first | rfl | (simp [errW_none, errW_some] <;> rfl) | (simp only [← hji34]; first | rfl | (simp [errW_none, errW_some] <;> rfl)) | (simp [*, errW_none, errW_some] <;> rfl), bs2 HB GE242 GE252⟩
                ·
                 replace c61 := Bool.eq_false_iff.mpr c61
                 subst c61
                 rw [if_neg (show ¬ (false = true) by decide)] at H
                 by_cases c62 : ((rd_T26 l0_0 (ji34)).f1) < x4_2
                 ·
                  rw [if_pos c62] at H
                  have c62b0 : decide (((rd_T26 l0_0 (ji34)).f1) < x4_2) = true := decide_eq_true c62
                  clear c62
                  obtain rfl := Option.some.inj H
                  have hnb63 := NB252_242.out
                  have hnc63 := NB242_252.out
                  obtain ⟨hcz64_0, hcz64_1, hcz64_2, hcz64_3⟩ := cz4 BK252
                  obtain ⟨hfz64_0, hfz64_1, hfz64_2, hfz64_3⟩ := fz4 BK252
                  go_wp2
                  go_ret
                  exact ⟨by first | rfl | (simp [errW_none, errW_some] <;> rfl) | (simp only [← hji34]; first | rfl | (simp [errW_none, errW_some] <;> rfl)) | (simp [*, errW_none, errW_some] <;> rfl), bs2 HB GE242 GE252⟩
                 ·
                  rw [if_neg c62] at H
                  have c62b0 : decide (((rd_T26 l0_0 (ji34)).f1) < x4_2) = false := decide_eq_false c62
                  clear c62
                  by_cases c65 : ((rd_T26 l0_0 (ji34)).f1) > x5_2
                  ·
                   rw [if_pos c65] at H
                   have c65b0 : decide (x5_2 < ((rd_T26 l0_0 (ji34)).f1)) = true := decide_eq_true c65
                   clear c65
                   obtain rfl := Option.some.inj H
                   have hnb66 := NB252_242.out
                   have hnc66 := NB242_252.out
                   obtain ⟨hcz67_0, hcz67_1, hcz67_2, hcz67_3⟩ := cz4 BK252
                   obtain ⟨hfz67_0, hfz67_1, hfz67_2, hfz67_3⟩ := fz4 BK252
                   go_wp2
                   go_ret
                   exact ⟨by first | rfl | (simp [errW_none, errW_some] <;> rfl) | (simp only [← hji34]; first | rfl | (simp [errW_none, errW_some] <;> rfl)) | (simp [*, errW_none, errW_some] <;> rfl), bs2 HB GE242 GE252⟩
                  ·
                   rw [if_neg c65] at H
                   have c65b0 : decide (x5_2 < ((rd_T26 l0_0 (ji34)).f1)) = false := decide_eq_false c65
                   clear c65
                   by_cases c68 : ((rd_T26 l0_0 (ji34)).f1) > a0_3
                   ·
                    rw [if_pos c68] at H
                    have c68b0 : decide (a0_3 < ((rd_T26 l0_0 (ji34)).f1)) = true := decide_eq_true c68
                    clear c68
                    obtain rfl := Option.some.inj H
                    have hnb69 := NB252_242.out
                    have hnc69 := NB242_252.out
                    obtain ⟨hcz70_0, hcz70_1, hcz70_2, hcz70_3⟩ := cz4 BK252
                    obtain ⟨hfz70_0, hfz70_1, hfz70_2, hfz70_3⟩ := fz4 BK252
                    obtain ⟨hcz71_0, hcz71_1, hcz71_2, hcz71_3⟩ := cz4 BK242
                    obtain ⟨hfz71_0, hfz71_1, hfz71_2, hfz71_3⟩ := fz4 BK242
                    go_wp2
                    go_ret
                    exact ⟨by first | rfl | (simp [errW_none, errW_some] <;> rfl) | (simp only [← hji34]; first | rfl | (simp [errW_none, errW_some] <;> rfl)) | (simp [*, errW_none, errW_some] <;> rfl), bs2 HB GE242 GE252⟩
                   ·
                    rw [if_neg c68] at H
                    have c68b0 : decide (a0_3 < ((rd_T26 l0_0 (ji34)).f1)) = false := decide_eq_false c68
                    clear c68
                    have H' := Aside0.mk H
                    clear H
                    have hnb72 := NB252_242.out
                    have hnc72 := NB242_252.out
                    obtain ⟨hcz73_0, hcz73_1, hcz73_2, hcz73_3⟩ := cz4 BK252
                    obtain ⟨hfz73_0, hfz73_1, hfz73_2, hfz73_3⟩ := fz4 BK252
                    obtain ⟨hcz74_0, hcz74_1, hcz74_2, hcz74_3⟩ := cz4 BK242
                    obtain ⟨hfz74_0, hfz74_1, hfz74_2, hfz74_3⟩ := fz4 BK242
                    go_wp2
                    go_roundg kj52
                    case measure => have := HJ1.out; have := HK2.out; have := HJ36.out; have := HJ52.out; omega
                    case rel => exact ⟨(((rd_T26 l0_0 (ji34)).f1)), (wrap64 (x5_2 + 1)), (by first | rfl | (simp; done) | (simp only [← hji34] <;> (first | rfl | simp)) | (simp [*]; done)), (by first | rfl | (simp; done) | (simp [*]; done)), H', ⟨by have := HJ1.out; have := HK2.out; have := HJ36.out; have := HJ52.out; omega⟩, ⟨bk BK242⟩, ⟨bs2 HB GE242 GE252⟩⟩
          ·
           rw [if_neg c36] at H
           exact absurd H (by simp)
         ·
          rw [if_neg c35] at H
          exact absurd H (by simp)
      ·
       rw [if_neg c20] at H
       have c20b0 : decide (x5_2 < a0_1) = false := decide_eq_false c20
       clear c20
       obtain rfl := Option.some.inj H
       obtain ⟨hcz75_0, hcz75_1, hcz75_2, hcz75_3⟩ := cz4 BK242
       obtain ⟨hfz75_0, hfz75_1, hfz75_2, hfz75_3⟩ := fz4 BK242
       go_wp2
       go_ret
       exact ⟨by first | rfl | (simp [errW_none, errW_some] <;> rfl) | (simp [*, errW_none, errW_some] <;> rfl), bs1 HB GE242⟩

/-! ### laws_toSlotS: function 43 -/
def laws_toSlotS.l0 : Nat → List (S23) → List (S26) → Int → Option ((List (S26)))
 | 0, _, _, _ => none
 | k + 1, x0, x3, x4 => if x4 < (x0.length : Int) then (if 0 ≤ x4 then ((laws_toSlot.f ((rd_T23 x0 x4).f0) ((rd_T23 x0 x4).f1) ((rd_T23 x0 x4).f2) ((rd_T23 x0 x4).f3)).bind fun bt262 => (if x4 < (x3.length : Int) then (laws_toSlotS.l0 k x0 (x3.set (x4 : Int).toNat (⟨bt262.1, bt262.2.1, bt262.2.2.1, bt262.2.2.2⟩ : S26)) (wrap64 (x4 + 1))) else (none))) else (none)) else (some x3)
def laws_toSlotS.f (k : Nat) (l0 : List (S23)) : Option ((List (S26))) := if 0 ≤ (l0.length : Int) then (if ((l0.length : Int) : Int).toNat ≤ 7036874417766 then (laws_toSlotS.l0 k l0 (List.replicate ((l0.length : Int) : Int).toNat z26) 0) else (none)) else (none)
theorem laws_toSlotS.mono_l : ∀ k, (∀ y0 y1 y2, LeO (laws_toSlotS.l0 k y0 y1 y2) (laws_toSlotS.l0 (k + 1) y0 y1 y2))
 | 0 => fun _ _ _ r h => by simp [laws_toSlotS.l0] at h
 | k + 1 => by
  have ih0 := laws_toSlotS.mono_l k
  ·
   intro y0 y1 y2
   unfold laws_toSlotS.l0
   repeat' first
   | (with_reducible exact ih0 _ _ _)
   | (with_reducible exact LeO.refl _)
   | (with_reducible exact LeO.none _)
   | (with_reducible refine LeO.ite ?_ ?_)
   | (with_reducible refine LeO.bind ?_ (fun _ => ?_))
   | exact ih0 _ _ _
   | exact LeO.none _
   | refine LeO.ite ?_ ?_
   | refine LeO.bind ?_ (fun _ => ?_)
theorem laws_toSlotS.mono : ∀ a0 k, LeO (laws_toSlotS.f k a0) (laws_toSlotS.f (k + 1) a0) := by
 intro a0 k
 have ih0 := laws_toSlotS.mono_l k
 unfold laws_toSlotS.f
 repeat' first
   | (with_reducible exact ih0 _ _ _)
   | (with_reducible exact LeO.refl _)
   | (with_reducible exact LeO.none _)
   | (with_reducible refine LeO.ite ?_ ?_)
   | (with_reducible refine LeO.bind ?_ (fun _ => ?_))
   | exact ih0 _ _ _
   | exact LeO.none _
   | refine LeO.ite ?_ ?_
   | refine LeO.bind ?_ (fun _ => ?_)
set_option maxHeartbeats 8000000 in
set_option maxRecDepth 100000 in
theorem laws_toSlotS.calls (k : Nat) (A0 : Option Addr) (c0 : Nat) (l0 : List (S23)) (r : List (S26)) (w : World) (hr0 : Kd.C k23 w A0 l0.length l0) (hc0 : l0.length ≤ c0) (h : laws_toSlotS.f k l0 = some r) :
  Calls Tryd.prog 43 #[.slice A0 l0.length c0] w fun e w' => ∃ v0_ : Value, e = .returned (v0_) ∧ Kd.R k26 26 w' w.heap.size (fun _ => True) v0_ r ∧ Below w.heap.size w w' := by
 have hu23 := Tryd.underlying23
 have hu26 := Tryd.underlying26
 have HR0 := Aside0.mk hr0
 have HC0 := Aside0.mk hc0
 clear hr0 hc0
 have HB := Aside0.mk (Below.refl w.heap.size w)
 have H : (if 0 ≤ (l0.length : Int) then (if ((l0.length : Int) : Int).toNat ≤ 7036874417766 then (laws_toSlotS.l0 k l0 (List.replicate ((l0.length : Int) : Int).toNat z26) 0) else (none)) else (none)) = some r := h
 clear h
 by_cases c2 : 0 ≤ (l0.length : Int)
 ·
  rw [if_pos c2] at H
  have c2b0 := eq_true c2
  have c2b1 : decide (0 ≤ (l0.length : Int)) = true := decide_eq_true c2
  clear c2
  by_cases c3 : ((l0.length : Int) : Int).toNat ≤ 7036874417766
  ·
   rw [if_pos c3] at H
   have c3b0 := eq_true c3
   have c3b1 : decide (((l0.length : Int) : Int).toNat ≤ 7036874417766) = true := decide_eq_true c3
   clear c3
   obtain ⟨y258, hy258⟩ : ∃ y_ : List (S26), y_ = (List.replicate ((l0.length : Int) : Int).toNat z26) := ⟨_, rfl⟩
   replace H : (laws_toSlotS.l0 k l0 y258 0) = some r := by first | (rw [hy258]; with_reducible exact H) | (have H2_ := (Option.bind_some _ _).symm.trans H; rw [hy258]; with_reducible exact H2_) | (have H2_ := (Option.bind_some _ _).symm.trans H; with_reducible exact H2_) | with_reducible exact H | (rw [hy258]; exact H) | exact H
   have Ny258 := Aside0.mk hy258
   clear hy258
   have H' := Aside0.mk H
   clear H
   go_enter Tryd.func43, Tryd.ntmps43
   go_wp2_with (first | ((with_reducible refine gate_dst (N := 7) rfl ?_); refine Kd.R_make k26 _ 26 rfl (N := 7) rfl 34 _ _ rfl (l0.length : Int) rfl rfl Tryd.underlying34 (.agg #[(.int .i64 0), (.int .i64 0), (.string ⟨#[]⟩), (.int .i64 0)]) 40 info26 rfl (by decide) (by omega) z26 (ok := fun _ => True) (okp := fun _ => True) (k26_mkM _ _ _ z26 ) (fun _ hk => hk) trivial (of_decide_eq_true (by first | (with_reducible assumption) | assumption)) (Nat.le_trans (Nat.mul_le_mul_right _ (of_decide_eq_true (by first | (with_reducible assumption) | assumption) : (l0.length : Int).toNat ≤ 7036874417766)) (by omega)) (Below.refl _ _) (Nat.le_refl _) ?_; intro v259 w4 ho5 hb hg_ hnew_; clear hg_ hnew_; (first | rw [← Ny258.out] at ho5 | (simp only [Int.reduceToNat] at ho5; rw [← Ny258.out] at ho5)); have HO260 := Aside0.mk (Kd.R_lower ho5 (below_size (bs HB))); replace HB := Aside0.mk (below_step (bs HB) hb); clear hb ho5))
   go_loopg [4] k (fun kq v4 w' => ∃ (x3_1 : List (S26)) (x4_1 : Int), v4 = .int .i64 x4_1 ∧ Aside0 (laws_toSlotS.l0 kq l0 x3_1 x4_1 = some r) ∧ Aside0 (kq ≤ k) ∧ Aside0 (Kd.R k26 26 w' w.heap.size (fun _ => True) v259 x3_1) ∧ Aside0 (Below w.heap.size w w'))
   case atStart => exact ⟨(y258), (0), (by first | rfl | (simp; done) | (simp [*]; done)), H', ⟨Nat.le_refl _⟩, ⟨rr HO260.out⟩, ⟨bs HB⟩⟩
   case round =>
    clear H'
    try clear c2
    try clear c2b0
    try clear c2b1
    try clear p2
    try clear c3
    try clear c3b0
    try clear c3b1
    try clear c4
    obtain ⟨x3_1, x4_1, rfl, HA, HK1, HO_3, HB⟩ := hrel
    cases gk with
    | zero => exact absurd HA.out (by simp [laws_toSlotS.l0])
    | succ k1 =>
     have H := HA.out
     clear HA
     simp only [laws_toSlotS.l0] at H
     by_cases c6 : x4_1 < (l0.length : Int)
     ·
      rw [if_pos c6] at H
      have c6b0 : decide (x4_1 < (l0.length : Int)) = true := decide_eq_true c6
      clear c6
      by_cases c7 : 0 ≤ x4_1
      ·
       rw [if_pos c7] at H
       have c7b0 : decide (0 ≤ x4_1) = true := decide_eq_true c7
       clear c7
       replace H := Option.bind_eq_some_iff.mp H
       obtain ⟨⟨t262, t263, t264, t265⟩, A80, H⟩ := H
       replace H : (if x4_1 < (x3_1.length : Int) then (laws_toSlotS.l0 k1 l0 (x3_1.set (x4_1 : Int).toNat (⟨t262, t263, t264, t265⟩ : S26)) (wrap64 (x4_1 + 1))) else (none)) = some r := H
       have A8 := Aside0.mk A80
       clear A80
       by_cases c9 : x4_1 < (x3_1.length : Int)
       ·
        rw [if_pos c9] at H
        have c9b0 : decide (x4_1 < (x3_1.length : Int)) = true := decide_eq_true c9
        clear c9
        obtain ⟨y266, hy266⟩ : ∃ y_ : List (S26), y_ = (x3_1.set (x4_1 : Int).toNat (⟨t262, t263, t264, t265⟩ : S26)) := ⟨_, rfl⟩
        replace H : (laws_toSlotS.l0 k1 l0 y266 (wrap64 (x4_1 + 1))) = some r := by first | (rw [hy266]; with_reducible exact H) | (have H2_ := (Option.bind_some _ _).symm.trans H; rw [hy266]; with_reducible exact H2_) | (have H2_ := (Option.bind_some _ _).symm.trans H; with_reducible exact H2_) | with_reducible exact H | (rw [hy266]; exact H) | exact H
        have Ny266 := Aside0.mk hy266
        clear hy266
        have H' := Aside0.mk H
        clear H
        have p261 : 0 ≤ (x4_1 : Int) := of_decide_eq_true (by first | (with_reducible assumption) | assumption)
        have q261 : x4_1 < (l0.length : Int) := of_decide_eq_true (by first | (with_reducible assumption) | assumption)
        obtain ⟨ad261, e261, hx261_0, hx261_1, hx261_2, hx261_3⟩ := at_T23 HR0.out x4_1 p261 q261
        cases e261
        replace hx261_0 := (HB.out.cell (World.block_lt_of_cell? w _ hx261_0)).trans hx261_0
        replace hx261_1 := (HB.out.cell (World.block_lt_of_cell? w _ hx261_1)).trans hx261_1
        replace hx261_2 := (HB.out.cell (World.block_lt_of_cell? w _ hx261_2)).trans hx261_2
        replace hx261_3 := (HB.out.cell (World.block_lt_of_cell? w _ hx261_3)).trans hx261_3
        replace p261 := eq_true p261
        replace q261 := eq_true q261
        go_wp2_with (first | ((with_reducible refine gate_callee (f := 15) rfl ?_); refine gL (some 20) rfl rfl Tryd.func15 (by kernel_rfl) rfl #[.agg #[.int .i64 ((rd_T23 l0 x4_1).f0), .int .i64 ((rd_T23 l0 x4_1).f1), .string ((rd_T23 l0 x4_1).f2), .int .i64 ((rd_T23 l0 x4_1).f3)]] rfl ?_; (with_reducible refine (laws_toSlot.calls ((rd_T23 l0 x4_1).f0) ((rd_T23 l0 x4_1).f1) ((rd_T23 l0 x4_1).f2) ((rd_T23 l0 x4_1).f3) t262 t263 t264 t265 _ A8.out).mono ?_); rintro e w11 ⟨rfl, hb⟩; refine ⟨_, rfl, ?_⟩; replace HO_3 := nr HO_3 hb; replace HB := Aside0.mk (below_step (bs HB) hb); (try clear hb); (try clear hb2); (try clear hk); (try clear hi); have p10 : 0 ≤ (x4_1 : Int) := of_decide_eq_true (by first | (with_reducible assumption) | assumption); have q10 : (x4_1 : Int) < ((x3_1.length : Int) : Int) := of_decide_eq_true (by first | (with_reducible assumption) | assumption); obtain ⟨go10, co10, eo10, gb10, gl10, cl10, HG10⟩ := Kd.R_form HO_3.out (by omega); (first | cases eo10 | (injection eo10 with ea_ en_ ec_; (first | subst ea_ | (injection ea_ with ea_; subst ea_)); subst ec_; clear en_)); have GB10 := Aside0.mk gb10; have GG10 := Aside0.mk HG10; clear gb10 gl10 HG10; obtain ⟨ce10, hcl10, hM10, hcc10, hfr10⟩ := Kd.R_elem HO_3.out z26 (x4_1 : Int) p10 q10; obtain rfl := k26_openM hM10; have hx10_0 : w11.cell? ⟨go10, (x4_1 : Int).toNat * 4, none⟩ = some (.int .i64 ((rd_T26 x3_1 x4_1).f0)) := hcc10 0 _ rfl; have hx10_1 : w11.cell? ⟨go10, (x4_1 : Int).toNat * 4 + 1, none⟩ = some (.int .i64 ((rd_T26 x3_1 x4_1).f1)) := hcc10 1 _ rfl; have hx10_2 : w11.cell? ⟨go10, (x4_1 : Int).toNat * 4 + 2, none⟩ = some (.string ((rd_T26 x3_1 x4_1).f2)) := hcc10 2 _ rfl; have hx10_3 : w11.cell? ⟨go10, (x4_1 : Int).toNat * 4 + 3, none⟩ = some (.int .i64 ((rd_T26 x3_1 x4_1).f3)) := hcc10 3 _ rfl; have hf10_0 : w11.frozen? ⟨go10, (x4_1 : Int).toNat * 4, none⟩ = false := hfr10 0; have hf10_1 : w11.frozen? ⟨go10, (x4_1 : Int).toNat * 4 + 1, none⟩ = false := hfr10 1; have hf10_2 : w11.frozen? ⟨go10, (x4_1 : Int).toNat * 4 + 2, none⟩ = false := hfr10 2; have hf10_3 : w11.frozen? ⟨go10, (x4_1 : Int).toNat * 4 + 3, none⟩ = false := hfr10 3; clear hcl10 hcc10 hfr10 hM10; replace p10 := eq_true p10; replace q10 := eq_true q10; have HX12 := Aside0.mk (show Kd.R k26 26 w11 w.heap.size (fun _ => True) (.slice (some ⟨go10, 0, none⟩) x3_1.length co10) x3_1 from (rr HO_3.out)); obtain ⟨ce12, hcl12, hM12, hcc12, hfr12⟩ := Kd.R_elem HX12.out z26 (x4_1 : Int) (of_decide_eq_true (by first | (with_reducible assumption) | assumption)) (by have h_ : (x4_1 : Int) < ((x3_1.length : Int) : Int) := of_decide_eq_true (by first | (with_reducible assumption) | assumption); first | exact h_ | (have e_ := (Kd.R_reads' HO_3.out).1; omega) | simpa using h_); obtain rfl := k26_openM hM12; have HP12 := Kd.R_seg HX12.out (x4_1 : Int) (of_decide_eq_true (by first | (with_reducible assumption) | assumption)) (by have h_ : (x4_1 : Int) < ((x3_1.length : Int) : Int) := of_decide_eq_true (by first | (with_reducible assumption) | assumption); first | exact h_ | (have e_ := (Kd.R_reads' HO_3.out).1; omega) | simpa using h_) (seg := [.int .i64 t262, .int .i64 t263, .string t264, .int .i64 t265]) (j := 0) hcl12 hcc12 (show 4 ≤ 4 from by decide) (x' := (⟨t262, t263, t264, t265⟩ : S26)) (k26_mkM _ _ _ (⟨t262, t263, t264, t265⟩ : S26) ) (fun _ hk => hk); have hx12_0 := hcc12 0 _ rfl; (try simp only [show (k26).sz = 4 from rfl, Nat.mul_one, Nat.add_zero] at hx12_0); have hf12_0 := hfr12 0; (try simp only [show (k26).sz = 4 from rfl, Nat.mul_one, Nat.add_zero] at hf12_0); have hx12_1 := hcc12 1 _ rfl; (try simp only [show (k26).sz = 4 from rfl, Nat.mul_one, Nat.add_zero] at hx12_1); have hf12_1 := hfr12 1; (try simp only [show (k26).sz = 4 from rfl, Nat.mul_one, Nat.add_zero] at hf12_1); have hx12_2 := hcc12 2 _ rfl; (try simp only [show (k26).sz = 4 from rfl, Nat.mul_one, Nat.add_zero] at hx12_2); have hf12_2 := hfr12 2; (try simp only [show (k26).sz = 4 from rfl, Nat.mul_one, Nat.add_zero] at hf12_2); have hx12_3 := hcc12 3 _ rfl; (try simp only [show (k26).sz = 4 from rfl, Nat.mul_one, Nat.add_zero] at hx12_3); have hf12_3 := hfr12 3; (try simp only [show (k26).sz = 4 from rfl, Nat.mul_one, Nat.add_zero] at hf12_3); clear hcl12 hcc12 hfr12 hM12) | ((with_reducible refine gate_store (t := 26) (p := 21) rfl ?_); refine store_event (t := 26) (p := 21) (v := ?vo_w13) (w1 := ((((w11.setCell ⟨go10, (x4_1 : Int).toNat * 4, none⟩ (.int .i64 t262)).setCell ⟨go10, (x4_1 : Int).toNat * 4 + 1, none⟩ (.int .i64 t263)).setCell ⟨go10, (x4_1 : Int).toNat * 4 + 2, none⟩ (.string t264)).setCell ⟨go10, (x4_1 : Int).toNat * 4 + 3, none⟩ (.int .i64 t265))) ?hg ?ho ?hn ?hr ?_; (case ho => rfl); (case hg => rfl); (case hn => rfl); (case hr => first | (go_simp; done) | (go_simp; rfl)); intro w13 hw; have hg : w11.grownBy w13 (some go10) := (by rw [hw]; exact HP12.2); have hp_ : Kd.R k26 26 w13 w.heap.size (fun _ => True) (.slice (some ⟨go10, 0, none⟩) x3_1.length co10) y266 := (by rw [hw, Ny266.out]; exact HP12.1); clear HP12; replace HO_3 := Aside0.mk (hp_); replace HB := Aside0.mk ((by rw [hw]; exact below_set (below_set (below_set (below_set (HB.out) GB10.out) GB10.out) GB10.out) GB10.out : Below w.heap.size w w13)); clear hg hw hp_))
        go_roundg k1
        case measure => have := HK1.out; omega
        case rel => exact ⟨(y266), (wrap64 (x4_1 + 1)), (by first | rfl | (simp; done) | (simp [*]; done)), H', ⟨by have := HK1.out; omega⟩, ⟨rr HO_3.out⟩, ⟨bs HB⟩⟩
       ·
        rw [if_neg c9] at H
        exact absurd H (by simp)
      ·
       rw [if_neg c7] at H
       exact absurd H (by simp)
     ·
      rw [if_neg c6] at H
      have c6b0 : decide (x4_1 < (l0.length : Int)) = false := decide_eq_false c6
      clear c6
      obtain rfl := Option.some.inj H
      go_wp2
      go_ret
      exact ⟨_, by first | rfl | (simp [errW_none, errW_some] <;> rfl) | (simp [*, errW_none, errW_some] <;> rfl), by (with_reducible repeat (first | apply Kd.R_alloc | apply Kd.R_drewN | apply Kd.R_drew)); exact HO_3.out, bs HB⟩
  ·
   rw [if_neg c3] at H
   exact absurd H (by simp)
 ·
  rw [if_neg c2] at H
  exact absurd H (by simp)

/-! ### impl_isIntact: function 60 -/
def impl_isIntact.f (k : Nat) (a0_0 : Int) (a0_1 : Int) (a0_2 : ByteArray) (a0_3 : Int) : Option (Bool) := (impl_isInRange.f a0_0 a0_1 a0_2 a0_3).bind fun t274 => (if t274 = true then ((impl_SlotSum.f k a0_0 a0_1 a0_2 a0_3).bind fun t275 => (some (a0_3 == t275))) else (some false))
theorem impl_isIntact.mono : ∀ a0 a1 a2 a3 k, LeO (impl_isIntact.f k a0 a1 a2 a3) (impl_isIntact.f (k + 1) a0 a1 a2 a3) := by
 intro a0 a1 a2 a3 k
 unfold impl_isIntact.f
 repeat' first
   | (with_reducible exact impl_SlotSum.mono _ _ _ _ _)
   | (with_reducible exact LeO.refl _)
   | (with_reducible exact LeO.none _)
   | (with_reducible refine LeO.ite ?_ ?_)
   | (with_reducible refine LeO.bind ?_ (fun _ => ?_))
   | exact impl_SlotSum.mono _ _ _ _ _
   | exact LeO.none _
   | refine LeO.ite ?_ ?_
   | refine LeO.bind ?_ (fun _ => ?_)
def impl_isIntact.T1 : Bool × List (List Nat × List Nat) := (true, [([], []), ([0], [0]), ([1, 1], [1]), ([2], [2]), ([3, 2], [2, 3]), ([2], [2]), ([5, 2, 2], [2, 5]), ([4, 6, 2], [2, 4, 6]), ([2, 7], [2, 7]), ([8, 6, 0, 1, 2, 3, 4, 5, 6, 7, 8], [8])])
def impl_isIntact.B1 : List Nat := [0, 1, 3, 7, 15, 7, 39, 127, 255, 511]
theorem impl_isIntact.tab1 : rtab .any (opsOf Tryd.f60 1) = impl_isIntact.T1 := by kernel_rfl
theorem impl_isIntact.bits1 : waitsOk impl_isIntact.T1.2 impl_isIntact.B1 = true := by kernel_rfl
set_option maxHeartbeats 8000000 in
set_option maxRecDepth 100000 in
theorem impl_isIntact.calls (k : Nat) (a0_0 : Int) (a0_1 : Int) (a0_2 : ByteArray) (a0_3 : Int) (r : Bool) (w : World) (hTab_ : Aside0 (Ito.TabW w)) (h : impl_isIntact.f k a0_0 a0_1 a0_2 a0_3 = some r) :
  Calls Tryd.prog 60 #[.agg #[.int .i64 a0_0, .int .i64 a0_1, .string a0_2, .int .i64 a0_3]] w fun e w' => e = .returned (.bool r) ∧ Below w.heap.size w w' := by
 have hu26 := Tryd.underlying26
 have HB := Aside0.mk (Below.refl w.heap.size w)
 have H : ((impl_isInRange.f a0_0 a0_1 a0_2 a0_3).bind fun t274 => (if t274 = true then ((impl_SlotSum.f k a0_0 a0_1 a0_2 a0_3).bind fun t275 => (some (a0_3 == t275))) else (some false))) = some r := h
 clear h
 replace H := Option.bind_eq_some_iff.mp H
 obtain ⟨t274, A20, H⟩ := H
 replace H : (if t274 = true then ((impl_SlotSum.f k a0_0 a0_1 a0_2 a0_3).bind fun t275 => (some (a0_3 == t275))) else (some false)) = some r := H
 have A2 := Aside0.mk A20
 clear A20
 by_cases c3 : t274 = true
 ·
  subst c3
  rw [if_pos rfl] at H
  replace H := Option.bind_eq_some_iff.mp H
  obtain ⟨t275, A40, H⟩ := H
  replace H : (some (a0_3 == t275)) = some r := H
  have A4 := Aside0.mk A40
  clear A40
  obtain rfl := Option.some.inj H
  go_enter Tryd.func60, Tryd.ntmps60
  try go_wp2_with (first | ((with_reducible refine gate_dst (N := 1) rfl ?_); refine box_event ?hg (N := 1) ?hd (cs := #[.int .i64 a0_0, .int .i64 a0_1, .string a0_2, .int .i64 a0_3]) (t := 26) ?hr ?_; (case hd => rfl); (case hg => rfl); (case hr => first | (go_simp; done) | (go_simp; rfl)); intro gb273 hg w5 hbox hb; have BK273 := Aside0.mk (hbox); have GW273 := Aside0.mk ((by rw [hg]; exact (below_size (bs HB)) : w.heap.size ≤ gb273)); have GE273 := Aside0.mk ((by rw [hg]; exact (below_size (bs HB)) : w.heap.size ≤ gb273)); replace HB := Aside0.mk (below_step (bs HB) hb); clear hb hbox hg))
  have n0_ := Aside0.mk (blk_drew BK273.out)
  have n1_ := Aside0.mk (below_drew1 HB.out)
  clear BK273
  clear HB
  have BK273 := n0_
  have HB := n1_
  clear n0_ n1_
  refine start_ (n := 10) (S := fun w' => w'.cell? ⟨gb273, 0, none⟩ = some (.int .i64 a0_0) ∧ w'.cell? ⟨gb273, 1, none⟩ = some (.int .i64 a0_1) ∧ w'.cell? ⟨gb273, 2, none⟩ = some (.string a0_2) ∧ w'.cell? ⟨gb273, 3, none⟩ = some (.int .i64 a0_3)) (ds := []) #[false, false, false, false, false, false, false, false, false, false] (by kernel_rfl) rfl rfl ⟨(blk_cell BK273.out 0).trans rfl, (blk_cell BK273.out 1).trans rfl, (blk_cell BK273.out 2).trans rfl, (blk_cell BK273.out 3).trans rfl⟩ (fun hHeld => ?_); refine with_tabW impl_isIntact.tab1 impl_isIntact.bits1 (fun HT_ HW_ => ?_)
  generalize w5.drew = w6 at BK273 HB hHeld ⊢
  refine takeS 0 3 HT_.out HW_.out hHeld (hr := by rintro w' ⟨s0, s1, s2, s3⟩; go_simp; with_reducible rfl) (h := ?_)
  refine one_ (i := 1) (N := some 4) #[true, true, false, false, false, false, false, false, false, false] rfl rfl (one_of HT_.out (by kernel_rfl)) (by decide) (fun K hK => ?_)
  refine goes_ Tryd.func53 (by kernel_rfl) rfl #[.agg #[.int .i64 a0_0, .int .i64 a0_1, .string a0_2, .int .i64 a0_3]] (by rfl) rfl rfl (by (try simp only [List.map_toArray, List.map_cons, List.map_nil]); first | done | rfl | (simp only [List.length_drop, List.length_take]; rfl)) ?_
  with_reducible refine (impl_isInRange.calls a0_0 a0_1 a0_2 a0_3 true _ A2.out).mono ?_
  rintro e w7 ⟨rfl, hb⟩
  refine ⟨_, rfl, ?_⟩
  have n0_ := Aside0.mk (bb BK273 hb)
  have n1_ := Aside0.mk (below_step (bs1 HB GE273) hb)
  clear BK273
  clear HB
  have BK273 := n0_
  have HB := n1_
  clear n0_ n1_
  (try clear hb)
  (try clear hb2)
  (try clear hk)
  (try clear hi)
  refine hK.out _ _ ⟨(blk_cell BK273.out 0).trans rfl, (blk_cell BK273.out 1).trans rfl, (blk_cell BK273.out 2).trans rfl, (blk_cell BK273.out 3).trans rfl⟩ (fun hHeld => ?_)
  clear hK K
  refine norm_ (a' := ?_) ?_ ?_
  rotate_left
  ·
   show Act.put _ (some 4) _ = _
   simp only [Act.put, List.setIfInBounds_toArray, List.set_cons_zero, List.set_cons_succ, i64_w, i32_w]
   rfl
  refine pureS 2 5 HT_.out ?_
  refine pureS 3 6 HT_.out ?_
  refine takeS 4 7 HT_.out HW_.out hHeld (hr := by rintro w' ⟨s0, s1, s2, s3⟩; go_simp; with_reducible rfl) (h := ?_)
  refine takeS 5 8 HT_.out HW_.out hHeld (hr := by rintro w' ⟨s0, s1, s2, s3⟩; go_simp; with_reducible rfl) (h := ?_)
  refine one_ (i := 6) (N := some 9) #[true, true, true, true, true, true, true, false, false, false] rfl rfl (one_of HT_.out (by kernel_rfl)) (by decide) (fun K hK => ?_)
  refine goes_ Tryd.func16 (by kernel_rfl) rfl #[.agg #[.int .i64 a0_0, .int .i64 a0_1, .string a0_2, .int .i64 a0_3]] (by rfl) rfl rfl (by (try simp only [List.map_toArray, List.map_cons, List.map_nil]); first | done | rfl | (simp only [List.length_drop, List.length_take]; rfl)) ?_
  with_reducible refine (impl_SlotSum.calls k a0_0 a0_1 a0_2 a0_3 t275 _ ?sideT A4.out).mono ?_
  case sideT => refine ⟨Ito.tabB hTab_.out ?_⟩; first | exact bs HB | exact st_below | (repeat (first | (with_reducible first | exact HB.out | apply below_alloc | apply pw_below_drewN | apply below_drew1 | refine below_set ?_ (Aside0.out (by assumption))) | exact HB.out))
  rintro e w8 ⟨rfl, hb⟩
  refine ⟨_, rfl, ?_⟩
  have n0_ := Aside0.mk (bb BK273 hb)
  have n1_ := Aside0.mk (below_step (bs1 HB GE273) hb)
  clear BK273
  clear HB
  have BK273 := n0_
  have HB := n1_
  clear n0_ n1_
  (try clear hb)
  (try clear hb2)
  (try clear hk)
  (try clear hi)
  refine hK.out _ _ ⟨(blk_cell BK273.out 0).trans rfl, (blk_cell BK273.out 1).trans rfl, (blk_cell BK273.out 2).trans rfl, (blk_cell BK273.out 3).trans rfl⟩ (fun hHeld => ?_)
  clear hK K
  refine norm_ (a' := ?_) ?_ ?_
  rotate_left
  ·
   show Act.put _ (some 9) _ = _
   simp only [Act.put, List.setIfInBounds_toArray, List.set_cons_zero, List.set_cons_succ, i64_w, i32_w]
   rfl
  refine pureS 7 10 HT_.out ?_
  refine pureS 8 11 HT_.out ?_
  refine pureS 9 2 HT_.out ?_
  refine done_ (done_of HT_.out (by kernel_rfl)) ?_
  try go_wp2
  go_ret
  exact ⟨by first | rfl | (simp [errW_none, errW_some] <;> rfl) | (simp [*, errW_none, errW_some] <;> rfl), bs1 HB GE273⟩
 ·
  replace c3 := Bool.eq_false_iff.mpr c3
  subst c3
  rw [if_neg (show ¬ (false = true) by decide)] at H
  obtain rfl := Option.some.inj H
  go_enter Tryd.func60, Tryd.ntmps60
  try go_wp2_with (first | ((with_reducible refine gate_dst (N := 1) rfl ?_); refine box_event ?hg (N := 1) ?hd (cs := #[.int .i64 a0_0, .int .i64 a0_1, .string a0_2, .int .i64 a0_3]) (t := 26) ?hr ?_; (case hd => rfl); (case hg => rfl); (case hr => first | (go_simp; done) | (go_simp; rfl)); intro gb273 hg w9 hbox hb; have BK273 := Aside0.mk (hbox); have GW273 := Aside0.mk ((by rw [hg]; exact (below_size (bs HB)) : w.heap.size ≤ gb273)); have GE273 := Aside0.mk ((by rw [hg]; exact (below_size (bs HB)) : w.heap.size ≤ gb273)); replace HB := Aside0.mk (below_step (bs HB) hb); clear hb hbox hg))
  have n0_ := Aside0.mk (blk_drew BK273.out)
  have n1_ := Aside0.mk (below_drew1 HB.out)
  clear BK273
  clear HB
  have BK273 := n0_
  have HB := n1_
  clear n0_ n1_
  refine start_ (n := 10) (S := fun w' => w'.cell? ⟨gb273, 0, none⟩ = some (.int .i64 a0_0) ∧ w'.cell? ⟨gb273, 1, none⟩ = some (.int .i64 a0_1) ∧ w'.cell? ⟨gb273, 2, none⟩ = some (.string a0_2) ∧ w'.cell? ⟨gb273, 3, none⟩ = some (.int .i64 a0_3)) (ds := []) #[false, false, false, false, false, false, false, false, false, false] (by kernel_rfl) rfl rfl ⟨(blk_cell BK273.out 0).trans rfl, (blk_cell BK273.out 1).trans rfl, (blk_cell BK273.out 2).trans rfl, (blk_cell BK273.out 3).trans rfl⟩ (fun hHeld => ?_); refine with_tabW impl_isIntact.tab1 impl_isIntact.bits1 (fun HT_ HW_ => ?_)
  generalize w9.drew = w10 at BK273 HB hHeld ⊢
  refine takeS 0 3 HT_.out HW_.out hHeld (hr := by rintro w' ⟨s0, s1, s2, s3⟩; go_simp; with_reducible rfl) (h := ?_)
  refine one_ (i := 1) (N := some 4) #[true, true, false, false, false, false, false, false, false, false] rfl rfl (one_of HT_.out (by kernel_rfl)) (by decide) (fun K hK => ?_)
  refine goes_ Tryd.func53 (by kernel_rfl) rfl #[.agg #[.int .i64 a0_0, .int .i64 a0_1, .string a0_2, .int .i64 a0_3]] (by rfl) rfl rfl (by (try simp only [List.map_toArray, List.map_cons, List.map_nil]); first | done | rfl | (simp only [List.length_drop, List.length_take]; rfl)) ?_
  with_reducible refine (impl_isInRange.calls a0_0 a0_1 a0_2 a0_3 false _ A2.out).mono ?_
  rintro e w11 ⟨rfl, hb⟩
  refine ⟨_, rfl, ?_⟩
  have n0_ := Aside0.mk (bb BK273 hb)
  have n1_ := Aside0.mk (below_step (bs1 HB GE273) hb)
  clear BK273
  clear HB
  have BK273 := n0_
  have HB := n1_
  clear n0_ n1_
  (try clear hb)
  (try clear hb2)
  (try clear hk)
  (try clear hi)
  refine hK.out _ _ ⟨(blk_cell BK273.out 0).trans rfl, (blk_cell BK273.out 1).trans rfl, (blk_cell BK273.out 2).trans rfl, (blk_cell BK273.out 3).trans rfl⟩ (fun hHeld => ?_)
  clear hK K
  refine norm_ (a' := ?_) ?_ ?_
  rotate_left
  ·
   show Act.put _ (some 4) _ = _
   simp only [Act.put, List.setIfInBounds_toArray, List.set_cons_zero, List.set_cons_succ, i64_w, i32_w]
   rfl
  refine pureS 2 5 HT_.out ?_
  refine pureU 3 6 HT_.out ?_
  refine pureU 4 7 HT_.out ?_
  refine pureU 5 8 HT_.out ?_
  refine pureU 6 9 HT_.out ?_
  refine pureU 7 10 HT_.out ?_
  refine pureS 8 11 HT_.out ?_
  refine pureS 9 2 HT_.out ?_
  refine done_ (done_of HT_.out (by kernel_rfl)) ?_
  try go_wp2
  go_ret
  exact ⟨by first | rfl | (simp [errW_none, errW_some] <;> rfl) | (simp [*, errW_none, errW_some] <;> rfl), bs1 HB GE273⟩

end Go.Proofs.YthlifcbkpafofaaDoor.G
