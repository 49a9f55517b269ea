-- Printed by a program of this session (drive.py, by way of the kit's print). Not trusted: Lean checks it.
import Derived.Test.YtfbjeppfnlfejaaDoorG0
import Derived.Test.YtfbjeppfnlfejaaDoorG3
namespace Go.Proofs.YtfbjeppfnlfejaaDoor.G
open Go.RowKit Go.Proofs.YtfbjeppfnlfejaaDoorW.PrintWords Go.Proofs.YtfbjeppfnlfejaaDoorW.PrintLast Go.Proofs.YtfbjeppfnlfejaaDoorW.PrintMore
attribute [local go_sem] max2_int min2_int max_two min_two max_three min_three max_four min_four   -- for this text's walks alone
set_option linter.unusedVariables false
set_option linter.unusedSimpArgs false

/-! ### impl_Dir_areAgreed: function 39 -/
mutual
def impl_Dir_areAgreed.l0 : Nat → List (S46) → Int → Int → Int → List Int → List (S46) → Option (Bool)
 | 0, _, _, _, _, _, _ => none
 | k + 1, x9, x10, x11, x254000, x254001, x254002 => if x11 < x10 then (if 0 ≤ x11 then (if x11 < (x9.length : Int) then (impl_Dir_areAgreed.l1 k x11 0 x9 x10 x11 x254001 (x254001.length : Int) 0 x254000 x254001 x254002 ((rd_T46 x9 x11).f0) ((rd_T46 x9 x11).f1)) else (none)) else (none)) else (some true)
def impl_Dir_areAgreed.l1 : Nat → Int → Int → List (S46) → Int → Int → List Int → Int → Int → Int → List Int → List (S46) → Int → List (S53) → Option (Bool)
 | 0, _, _, _, _, _, _, _, _, _, _, _, _, _ => none
 | k + 1, x3, x5, x9, x10, x11, x17, x18, x19, x254000, x254001, x254002, x256000, x256001 => if x19 < x18 then (if 0 ≤ x19 then (if x19 < (x17.length : Int) then (if (rd x17 x19) = x3 then (impl_Dir_areAgreed.l1 k x3 (wrap64 (x5 + 1)) x9 x10 x11 x17 x18 (wrap64 (x19 + 1)) x254000 x254001 x254002 x256000 x256001) else (impl_Dir_areAgreed.l1 k x3 x5 x9 x10 x11 x17 x18 (wrap64 (x19 + 1)) x254000 x254001 x254002 x256000 x256001)) else (none)) else (none)) else (if 0 ≤ x256000 then (if x5 = (shr .i64 (x254001.length : Int) x256000) then (impl_Dir_areAgreed.l0 k x9 x10 (wrap64 (x11 + 1)) x254000 x254001 x254002) else (some false)) else (none))
end
def impl_Dir_areAgreed.f (k : Nat) (a0_0 : Int) (l0_1 : List Int) (l0_2 : List (S46)) : Option (Bool) := impl_Dir_areAgreed.l0 k l0_2 (l0_2.length : Int) 0 a0_0 l0_1 l0_2
theorem impl_Dir_areAgreed.mono_l : ∀ k, (∀ y0 y1 y2 y3 y4 y5, LeO (impl_Dir_areAgreed.l0 k y0 y1 y2 y3 y4 y5) (impl_Dir_areAgreed.l0 (k + 1) y0 y1 y2 y3 y4 y5)) ∧ (∀ y0 y1 y2 y3 y4 y5 y6 y7 y8 y9 y10 y11 y12, LeO (impl_Dir_areAgreed.l1 k y0 y1 y2 y3 y4 y5 y6 y7 y8 y9 y10 y11 y12) (impl_Dir_areAgreed.l1 (k + 1) y0 y1 y2 y3 y4 y5 y6 y7 y8 y9 y10 y11 y12))
 | 0 => ⟨fun _ _ _ _ _ _ r h => by simp [impl_Dir_areAgreed.l0] at h, fun _ _ _ _ _ _ _ _ _ _ _ _ _ r h => by simp [impl_Dir_areAgreed.l1] at h⟩
 | k + 1 => by
  obtain ⟨ih0, ih1⟩ := impl_Dir_areAgreed.mono_l k
  refine ⟨?_, ?_⟩ <;> intros <;> first | unfold impl_Dir_areAgreed.l0 | unfold impl_Dir_areAgreed.l1
  all_goals repeat' first
   | (with_reducible exact ih0 _ _ _ _ _ _)
   | (with_reducible exact ih1 _ _ _ _ _ _ _ _ _ _ _ _ _)
   | (with_reducible exact LeO.refl _)
   | (with_reducible exact LeO.none _)
   | (with_reducible refine LeO.ite ?_ ?_)
   | (with_reducible refine LeO.bind ?_ (fun _ => ?_))
   | exact ih0 _ _ _ _ _ _
   | exact ih1 _ _ _ _ _ _ _ _ _ _ _ _ _
   | exact LeO.none _
   | refine LeO.ite ?_ ?_
   | refine LeO.bind ?_ (fun _ => ?_)
theorem impl_Dir_areAgreed.mono : ∀ a0 a1 a2 k, LeO (impl_Dir_areAgreed.f k a0 a1 a2) (impl_Dir_areAgreed.f (k + 1) a0 a1 a2) := by
 intro a0 a1 a2 k
 obtain ⟨ih0, ih1⟩ := impl_Dir_areAgreed.mono_l k
 unfold impl_Dir_areAgreed.f
 repeat' first
   | (with_reducible exact ih0 _ _ _ _ _ _)
   | (with_reducible exact ih1 _ _ _ _ _ _ _ _ _ _ _ _ _)
   | (with_reducible exact LeO.refl _)
   | (with_reducible exact LeO.none _)
   | (with_reducible refine LeO.ite ?_ ?_)
   | (with_reducible refine LeO.bind ?_ (fun _ => ?_))
   | exact ih0 _ _ _ _ _ _
   | exact ih1 _ _ _ _ _ _ _ _ _ _ _ _ _
   | exact LeO.none _
   | refine LeO.ite ?_ ?_
   | refine LeO.bind ?_ (fun _ => ?_)
set_option maxHeartbeats 8000000 in
set_option maxRecDepth 100000 in
theorem impl_Dir_areAgreed.calls (k : Nat) (a0_0 : Int) (A0_1 : Option Addr) (c0_1 : Nat) (l0_1 : List Int) (A0_2 : Option Addr) (c0_2 : Nat) (l0_2 : List (S46)) (r : Bool) (w : World) (hr0_1 : Kd.C (Kd.int .i64) w A0_1 l0_1.length l0_1) (hc0_1 : l0_1.length ≤ c0_1) (hr0_2 : Kd.C k46 w A0_2 l0_2.length l0_2) (hc0_2 : l0_2.length ≤ c0_2) (h : impl_Dir_areAgreed.f k a0_0 l0_1 l0_2 = some r) :
  Calls Tryd.prog 39 #[.agg #[.int .i64 a0_0, .slice A0_1 l0_1.length c0_1, .slice A0_2 l0_2.length c0_2]] w fun e w' => e = .returned (.bool r) ∧ Below w.heap.size w w' := by
 have hu29 := Tryd.underlying29
 have hu46 := Tryd.underlying46
 have HR0_1 := Ah hr0_1
 have HC0_1 := Ah hc0_1
 clear hr0_1 hc0_1
 have HR0_2 := Ah hr0_2
 have HC0_2 := Ah hc0_2
 clear hr0_2 hc0_2
 have HB := Ah (Below.refl w.heap.size w)
 have H : (impl_Dir_areAgreed.l0 k l0_2 (l0_2.length : Int) 0 a0_0 l0_1 l0_2) = some r := h
 clear h
 have H' := Ah H
 clear H
 go_enter Tryd.func39, Tryd.ntmps39
 go_wp2_with (first | ((with_reducible refine gate_dst (N := 1) rfl ?_); refine boxL 1 29 #[.int .i64 a0_0, .slice A0_1 l0_1.length c0_1, .slice A0_2 l0_2.length c0_2] ?_; intro gb253 hg w2 BK253 hb; have GW253 := gw hg (bs HB); have GE253 := gw hg (bs HB); replace HB := Ah (below_step (bs HB) hb); clear hb hg; obtain ⟨hcz3_0, hcz3_1, hcz3_2⟩ := cz3 BK253; obtain ⟨hfz3_0, hfz3_1, hfz3_2⟩ := fz3 BK253))
 go_loopg [11] k (fun kq v11 w' => ∃ (x11_1 : Int), v11 = .int .i64 x11_1 ∧ Aside0 (impl_Dir_areAgreed.l0 kq l0_2 (l0_2.length : Int) x11_1 a0_0 l0_1 l0_2 = some r) ∧ Aside0 (kq ≤ k) ∧ Aside0 (w'.heap[gb253]? = some (.cells #[.int .i64 a0_0, (.slice A0_1 l0_1.length c0_1), (.slice A0_2 l0_2.length c0_2)] 29 (0, 0))) ∧ Aside0 (Below w.heap.size w w'))
 case atStart => exact ⟨(0), e3, H', ⟨Nat.le_refl _⟩, ⟨bk BK253⟩, ⟨bs1 HB GE253⟩⟩
 case round =>
  clear H'
  try clear p2
  try clear c3
  try clear hcz3_0 hcz3_1 hcz3_2
  try clear hfz3_0 hfz3_1 hfz3_2
  obtain ⟨x11_1, rfl, HA, HK1, BK253, HB⟩ := hrel
  cases gk with
  | zero => exact absurd HA.out (by simp [impl_Dir_areAgreed.l0])
  | succ k1 =>
   have H := HA.out
   clear HA
   simp only [impl_Dir_areAgreed.l0] at H
   by_cases c4 : x11_1 < (l0_2.length : Int)
   rotate_left
   ·
    rw [if_neg c4] at H
    have c4b0 : decide (x11_1 < (l0_2.length : Int)) = false := decide_eq_false c4
    clear c4
    obtain rfl := Option.some.inj H
    go_wp2
    go_ret
    exact ⟨er, bs1 HB GE253⟩
   rw [if_pos c4] at H
   have c4b0 : decide (x11_1 < (l0_2.length : Int)) = true := decide_eq_true c4
   clear c4
   by_cases c5 : 0 ≤ x11_1
   rotate_left
   ·
    rw [if_neg c5] at H
    exact absurd H (by simp)
   rw [if_pos c5] at H
   have c5b0 : decide (0 ≤ x11_1) = true := decide_eq_true c5
   clear c5
   by_cases c6 : x11_1 < (l0_2.length : Int)
   rotate_left
   ·
    rw [if_neg c6] at H
    exact absurd H (by simp)
   rw [if_pos c6] at H
   have c6b0 : decide (x11_1 < (l0_2.length : Int)) = true := decide_eq_true c6
   clear c6
   have H' := Ah H
   clear H
   have p254 : 0 ≤ (x11_1 : Int) := od
   have q254 : x11_1 < (l0_2.length : Int) := od
   obtain ⟨ad254, A254_1, c254_1, e254, hx254_0, hx254_1, hl254_1, hi254_1⟩ := at_T46 HR0_2.out x11_1 p254 q254
   cases e254
   replace hx254_0 := (HB.out.cell (World.block_lt_of_cell? w _ hx254_0)).trans hx254_0
   replace hx254_1 := (HB.out.cell (World.block_lt_of_cell? w _ hx254_1)).trans hx254_1
   have HR254_1 := Ah hi254_1
   have HC254_1 := Ah hl254_1
   clear hi254_1 hl254_1
   replace p254 := eq_true p254
   replace q254 := eq_true q254
   go_wp2_with (first | ((with_reducible refine gate_dst (N := 4) rfl ?_); refine boxL 4 46 #[.int .i64 0, .slice none 0 0] ?_; intro gb255 hg w7 BK255 hb; have GW255 := gw hg (bs1 HB GE253); have GE255 := gw hg (bs1 HB GE253); replace HB := Ah (below_step (bs1 HB GE253) hb); have NB253_255 := nn BK253 hg; have NB255_253 := nm BK253 hg; replace BK253 := nb BK253 hb; clear hb hg; have hnb8 := NB255_253.out; have hnc8 := NB253_255.out; obtain ⟨hcz9_0, hcz9_1⟩ := cz2 BK255; obtain ⟨hfz9_0, hfz9_1⟩ := fz2 BK255; obtain ⟨hcz10_0, hcz10_1, hcz10_2⟩ := cz3 BK253; obtain ⟨hfz10_0, hfz10_1, hfz10_2⟩ := fz3 BK253))
   go_loopg [5, 19] k1 (fun kq v5 v19 w' => ∃ (x5_2 : Int) (x19_2 : Int), v5 = .int .i64 x5_2 ∧ v19 = .int .i64 x19_2 ∧ Aside0 (impl_Dir_areAgreed.l1 kq x11_1 x5_2 l0_2 (l0_2.length : Int) x11_1 l0_1 (l0_1.length : Int) x19_2 a0_0 l0_1 l0_2 ((rd_T46 l0_2 x11_1).f0) ((rd_T46 l0_2 x11_1).f1) = some r) ∧ Aside0 (kq ≤ k1) ∧ Aside0 (w'.heap[gb253]? = some (.cells #[.int .i64 a0_0, (.slice A0_1 l0_1.length c0_1), (.slice (some ad254) l0_2.length c0_2)] 29 (0, 0))) ∧ Aside0 (w'.heap[gb255]? = some (.cells #[.int .i64 ((rd_T46 l0_2 x11_1).f0), (.slice A254_1 ((rd_T46 l0_2 x11_1).f1).length c254_1)] 46 (0, 0))) ∧ Aside0 (Below w.heap.size w w'))
   case atStart => exact ⟨(0), (0), e3, e3, H', ⟨Nat.le_refl _⟩, ⟨bf BK253 NB253_255⟩, ⟨by (with_reducible repeat (first | refine blk_drewN ?_ _ | refine blk_drew ?_ | refine blk_alloc ?_ _)); refine blk_put (cs := #[.int .i64 ((rd_T46 l0_2 x11_1).f0), .slice none 0 0]) ?_ 1 _ rfl; (with_reducible repeat (first | refine blk_drewN ?_ _ | refine blk_drew ?_ | refine blk_alloc ?_ _)); refine blk_put (cs := #[.int .i64 0, .slice none 0 0]) ?_ 0 _ rfl; (with_reducible repeat (first | refine blk_drewN ?_ _ | refine blk_drew ?_ | refine blk_alloc ?_ _)); exact BK255.out⟩, ⟨bs2 HB GE253 GE255⟩⟩
   case round =>
    clear H'
    try clear c2
    try clear p2
    try clear q2
    try clear hx2
    try clear c3
    try clear c4
    try clear c4b0
    try clear c5
    try clear c5b0
    try clear c6
    try clear c6b0
    try clear c8
    try clear hcz10_0 hcz10_1 hcz10_2
    try clear hcz3_0 hcz3_1 hcz3_2
    try clear hcz9_0 hcz9_1
    try clear hfz10_0 hfz10_1 hfz10_2
    try clear hfz3_0 hfz3_1 hfz3_2
    try clear hfz9_0 hfz9_1
    try clear hx254_0
    try clear hx254_1
    try clear p2
    try clear p254
    try clear q254
    obtain ⟨x5_2, x19_2, rfl, rfl, HA, HK2, BK253, BK255, HB⟩ := hrel
    cases gk with
    | zero => exact absurd HA.out (by simp [impl_Dir_areAgreed.l1])
    | succ k2 =>
     have H := HA.out
     clear HA
     simp only [impl_Dir_areAgreed.l1] at H
     by_cases c11 : x19_2 < (l0_1.length : Int)
     rotate_left
     ·
      rw [if_neg c11] at H
      have c11b0 : decide (x19_2 < (l0_1.length : Int)) = false := decide_eq_false c11
      clear c11
      by_cases c15 : 0 ≤ ((rd_T46 l0_2 x11_1).f0)
      rotate_left
      ·
       rw [if_neg c15] at H
       exact absurd H (by simp)
      rw [if_pos c15] at H
      have c15b0 := eq_true c15
      have c15b1 : decide (0 ≤ ((rd_T46 l0_2 x11_1).f0)) = true := decide_eq_true c15
      clear c15
      obtain ⟨ji16, hji16⟩ : ∃ j_ : Int, (shr .i64 (l0_1.length : Int) ((rd_T46 l0_2 x11_1).f0)) = j_ := ⟨_, rfl⟩
      replace H : (if x5_2 = (ji16) then (impl_Dir_areAgreed.l0 k2 l0_2 (l0_2.length : Int) (wrap64 (x11_1 + 1)) a0_0 l0_1 l0_2) else (some false)) = some r := by first | (rw [hji16] at H; exact H) | (simp only [hji16] at H ⊢; exact H)
      have hji16_ : ((l0_1.length : Int) / 2 ^ min ((rd_T46 l0_2 x11_1).f0).toNat 64) = ji16 := hji16
      have hji16z : ((rd_T46 l0_2 x11_1).f0) ≤ 64 → ((l0_1.length : Int) / 2 ^ ((rd_T46 l0_2 x11_1).f0).toNat) = ji16 := shr_small hji16
      by_cases c17 : x5_2 = (ji16)
      rotate_left
      ·
       rw [if_neg c17] at H
       have c17b0 : (x5_2 == (ji16)) = false := beq_eq_false_iff_ne.mpr c17
       have c17b1 : (x5_2 != (ji16)) = true := bne_iff_ne.mpr c17
       obtain rfl := Option.some.inj H
       have hnb21 := NB253_255.out
       have hnc21 := NB255_253.out
       obtain ⟨hcz22_0, hcz22_1, hcz22_2⟩ := cz3 BK253
       obtain ⟨hfz22_0, hfz22_1, hfz22_2⟩ := fz3 BK253
       obtain ⟨hcz23_0, hcz23_1⟩ := cz2 BK255
       obtain ⟨hfz23_0, hfz23_1⟩ := fz2 BK255
       go_wp2
       go_ret
       exact ⟨by first | rfl | (simp [errW_none, errW_some] <;> rfl) | (simp only [← hji16]; first | rfl | (simp [errW_none, errW_some] <;> rfl)) | (simp [*, errW_none, errW_some] <;> rfl), bs2 HB GE253 GE255⟩
      rw [if_pos c17] at H
      have c17b0 : (x5_2 == (ji16)) = true := beq_iff_eq.mpr c17
      have c17b1 : (x5_2 != (ji16)) = false := bne_eq_false_iff_eq.mpr c17
      clear c17
      have H' := Ah H
      clear H
      have hnb18 := NB253_255.out
      have hnc18 := NB255_253.out
      obtain ⟨hcz19_0, hcz19_1, hcz19_2⟩ := cz3 BK253
      obtain ⟨hfz19_0, hfz19_1, hfz19_2⟩ := fz3 BK253
      obtain ⟨hcz20_0, hcz20_1⟩ := cz2 BK255
      obtain ⟨hfz20_0, hfz20_1⟩ := fz2 BK255
      go_wp2
      go_roundg k2
      case measure => have := HK1.out; have := HK2.out; omega
      case rel => exact ⟨(wrap64 (x11_1 + 1)), e3, H', ⟨by have := HK1.out; have := HK2.out; omega⟩, ⟨bk BK253⟩, ⟨bs2 HB GE253 GE255⟩⟩
     rw [if_pos c11] at H
     have c11b0 : decide (x19_2 < (l0_1.length : Int)) = true := decide_eq_true c11
     clear c11
     by_cases c12 : 0 ≤ x19_2
     rotate_left
     ·
      rw [if_neg c12] at H
      exact absurd H (by simp)
     rw [if_pos c12] at H
     have c12b0 : decide (0 ≤ x19_2) = true := decide_eq_true c12
     clear c12
     by_cases c13 : x19_2 < (l0_1.length : Int)
     rotate_left
     ·
      rw [if_neg c13] at H
      exact absurd H (by simp)
     rw [if_pos c13] at H
     have c13b0 : decide (x19_2 < (l0_1.length : Int)) = true := decide_eq_true c13
     clear c13
     by_cases c14 : (rd l0_1 x19_2) = x11_1
     rotate_left
     ·
      rw [if_neg c14] at H
      have c14b0 : ((rd l0_1 x19_2) == x11_1) = false := beq_eq_false_iff_ne.mpr c14
      have c14b1 : ((rd l0_1 x19_2) != x11_1) = true := bne_iff_ne.mpr c14
      have H' := Ah H
      clear H
      have p256 : 0 ≤ (x19_2 : Int) := od
      have q256 : x19_2 < (l0_1.length : Int) := od
      obtain ⟨ad256, e256, hx256_0⟩ := Kd.at_int HR0_1.out x19_2 p256 q256
      cases e256
      replace hx256_0 := (HB.out.cell (World.block_lt_of_cell? w _ hx256_0)).trans hx256_0
      replace p256 := eq_true p256
      replace q256 := eq_true q256
      go_wp2
      go_roundg k2
      case measure => have := HK1.out; have := HK2.out; omega
      case rel => exact ⟨(x5_2), (wrap64 (x19_2 + 1)), e3, e3, H', ⟨by have := HK1.out; have := HK2.out; omega⟩, ⟨bk BK253⟩, ⟨bk BK255⟩, ⟨bs2 HB GE253 GE255⟩⟩
     rw [if_pos c14] at H
     have c14b0 : ((rd l0_1 x19_2) == x11_1) = true := beq_iff_eq.mpr c14
     have c14b1 : ((rd l0_1 x19_2) != x11_1) = false := bne_eq_false_iff_eq.mpr c14
     clear c14
     have H' := Ah H
     clear H
     have p256 : 0 ≤ (x19_2 : Int) := od
     have q256 : x19_2 < (l0_1.length : Int) := od
     obtain ⟨ad256, e256, hx256_0⟩ := Kd.at_int HR0_1.out x19_2 p256 q256
     cases e256
     replace hx256_0 := (HB.out.cell (World.block_lt_of_cell? w _ hx256_0)).trans hx256_0
     replace p256 := eq_true p256
     replace q256 := eq_true q256
     go_wp2
     go_roundg k2
     case measure => have := HK1.out; have := HK2.out; omega
     case rel => exact ⟨(wrap64 (x5_2 + 1)), (wrap64 (x19_2 + 1)), e3, e3, H', ⟨by have := HK1.out; have := HK2.out; omega⟩, ⟨bk BK253⟩, ⟨bk BK255⟩, ⟨bs2 HB GE253 GE255⟩⟩

/-! ### impl_NameHash: function 52 -/
def impl_NameHash.l0 : Nat → ByteArray → Int → Int → Int → Option (Int)
 | 0, _, _, _, _ => none
 | k + 1, x0, x3, x6, x7 => if x7 < x6 then (if 0 ≤ x7 then (if x7 < (x0.size : Int) then (impl_NameHash.l0 k x0 (Int.tmod (wrap64 ((wrap64 (31 * x3)) + (wrap64 (bt x0 x7)))) 65536) x6 (wrap64 (x7 + 1))) else (none)) else (none)) else (some (Go.bits .xor .i64 x3 (x3 / 32)))
def impl_NameHash.f (k : Nat) (a0 : ByteArray) : Option (Int) := impl_NameHash.l0 k a0 7 (a0.size : Int) 0
theorem impl_NameHash.mono_l : ∀ k, (∀ y0 y1 y2 y3, LeO (impl_NameHash.l0 k y0 y1 y2 y3) (impl_NameHash.l0 (k + 1) y0 y1 y2 y3))
 | 0 => fun _ _ _ _ r h => by simp [impl_NameHash.l0] at h
 | k + 1 => by
  have ih0 := impl_NameHash.mono_l k
  ·
   intro y0 y1 y2 y3
   unfold impl_NameHash.l0
   repeat' first
   | (with_reducible exact ih0 _ _ _ _)
   | (with_reducible exact LeO.refl _)
   | (with_reducible exact LeO.none _)
   | (with_reducible refine LeO.ite ?_ ?_)
   | (with_reducible refine LeO.bind ?_ (fun _ => ?_))
   | exact ih0 _ _ _ _
   | exact LeO.none _
   | refine LeO.ite ?_ ?_
   | refine LeO.bind ?_ (fun _ => ?_)
theorem impl_NameHash.mono : ∀ a0 k, LeO (impl_NameHash.f k a0) (impl_NameHash.f (k + 1) a0) := by
 intro a0 k
 have ih0 := impl_NameHash.mono_l k
 unfold impl_NameHash.f
 repeat' first
   | (with_reducible exact ih0 _ _ _ _)
   | (with_reducible exact LeO.refl _)
   | (with_reducible exact LeO.none _)
   | (with_reducible refine LeO.ite ?_ ?_)
   | (with_reducible refine LeO.bind ?_ (fun _ => ?_))
   | exact ih0 _ _ _ _
   | exact LeO.none _
   | refine LeO.ite ?_ ?_
   | refine LeO.bind ?_ (fun _ => ?_)
set_option maxHeartbeats 8000000 in
set_option maxRecDepth 100000 in
theorem impl_NameHash.calls (k : Nat) (a0 : ByteArray) (r : Int) (w : World) (h : impl_NameHash.f k a0 = some r) :
  Calls Tryd.prog 52 #[.string a0] w fun e w' => e = .returned (.int .i64 r) ∧ Drawn0 w w' := by
 have H : (impl_NameHash.l0 k a0 7 (a0.size : Int) 0) = some r := h
 clear h
 have H' := Ah H
 clear H
 go_enter Tryd.func52, Tryd.ntmps52
 go_wp2
 go_loopg [3, 7] k (fun kq v3 v7 w' => ∃ (x3_1 : Int) (x7_1 : Int), v3 = .int .i64 x3_1 ∧ v7 = .int .i64 x7_1 ∧ Aside0 (impl_NameHash.l0 kq a0 x3_1 (a0.size : Int) x7_1 = some r) ∧ Aside0 (kq ≤ k) ∧ Drawn0 w w')
 case atStart => exact ⟨(7), (0), e3, e3, H', ⟨Nat.le_refl _⟩, by repeat (first | exact Drawn0.refl _ | apply Drawn0.step)⟩
 case round =>
  clear H'
  obtain ⟨x3_1, x7_1, rfl, rfl, HA, HK1, ⟨m1, rfl⟩⟩ := hrel
  cases gk with
  | zero => exact absurd HA.out (by simp [impl_NameHash.l0])
  | succ k1 =>
   have H := HA.out
   clear HA
   simp only [impl_NameHash.l0] at H
   by_cases c2 : x7_1 < (a0.size : Int)
   rotate_left
   ·
    rw [if_neg c2] at H
    have c2b0 : decide (x7_1 < (a0.size : Int)) = false := decide_eq_false c2
    clear c2
    obtain rfl := Option.some.inj H
    go_wp2
    go_ret
    exact ⟨e3, by repeat (first | exact Drawn0.refl _ | apply Drawn0.step)⟩
   rw [if_pos c2] at H
   have c2b0 : decide (x7_1 < (a0.size : Int)) = true := decide_eq_true c2
   clear c2
   by_cases c3 : 0 ≤ x7_1
   rotate_left
   ·
    rw [if_neg c3] at H
    exact absurd H (by simp)
   rw [if_pos c3] at H
   have c3b0 : decide (0 ≤ x7_1) = true := decide_eq_true c3
   clear c3
   by_cases c4 : x7_1 < (a0.size : Int)
   rotate_left
   ·
    rw [if_neg c4] at H
    exact absurd H (by simp)
   rw [if_pos c4] at H
   have c4b0 : decide (x7_1 < (a0.size : Int)) = true := decide_eq_true c4
   clear c4
   have H' := Ah H
   clear H
   have p5 : 0 ≤ (x7_1 : Int) := od
   have q5 : x7_1 < (a0.size : Int) := od
   have hx5 := bt_at a0 x7_1
   replace p5 := eq_true p5
   replace q5 := eq_true q5
   go_wp2
   go_roundg k1
   case measure => have := HK1.out; omega
   case rel => exact ⟨(Int.tmod (wrap64 ((wrap64 (31 * x3_1)) + (wrap64 (bt a0 x7_1)))) 65536), (wrap64 (x7_1 + 1)), e3, e3, H', ⟨by have := HK1.out; omega⟩, by repeat (first | exact Drawn0.refl _ | apply Drawn0.step)⟩

/-! ### impl_Dir_slotOf: function 40 -/
def impl_Dir_slotOf.f (k : Nat) (a0_0 : Int) (l0_1 : List Int) (l0_2 : List (S46)) (a1 : ByteArray) : Option (Int) := (impl_NameHash.f k a1).bind fun t258 => (if (l0_1.length : Int) = 0 then (none) else (some (Int.tmod t258 (l0_1.length : Int))))
theorem impl_Dir_slotOf.mono : ∀ a0 a1 a2 a3 k, LeO (impl_Dir_slotOf.f k a0 a1 a2 a3) (impl_Dir_slotOf.f (k + 1) a0 a1 a2 a3) := by
 intro a0 a1 a2 a3 k
 unfold impl_Dir_slotOf.f
 repeat' first
   | (with_reducible exact impl_NameHash.mono _ _)
   | (with_reducible exact LeO.refl _)
   | (with_reducible exact LeO.none _)
   | (with_reducible refine LeO.ite ?_ ?_)
   | (with_reducible refine LeO.bind ?_ (fun _ => ?_))
   | exact impl_NameHash.mono _ _
   | exact LeO.none _
   | refine LeO.ite ?_ ?_
   | refine LeO.bind ?_ (fun _ => ?_)
set_option maxHeartbeats 8000000 in
set_option maxRecDepth 100000 in
theorem impl_Dir_slotOf.calls (k : Nat) (a0_0 : Int) (A0_1 : Option Addr) (c0_1 : Nat) (l0_1 : List Int) (A0_2 : Option Addr) (c0_2 : Nat) (l0_2 : List (S46)) (a1 : ByteArray) (r : Int) (w : World) (hr0_1 : Kd.C (Kd.int .i64) w A0_1 l0_1.length l0_1) (hc0_1 : l0_1.length ≤ c0_1) (hr0_2 : Kd.C k46 w A0_2 l0_2.length l0_2) (hc0_2 : l0_2.length ≤ c0_2) (h : impl_Dir_slotOf.f k a0_0 l0_1 l0_2 a1 = some r) :
  Calls Tryd.prog 40 #[.agg #[.int .i64 a0_0, .slice A0_1 l0_1.length c0_1, .slice A0_2 l0_2.length c0_2], .string a1] w fun e w' => e = .returned (.int .i64 r) ∧ Below w.heap.size w w' := by
 have hu29 := Tryd.underlying29
 have HR0_1 := Ah hr0_1
 have HC0_1 := Ah hc0_1
 clear hr0_1 hc0_1
 have HR0_2 := Ah hr0_2
 have HC0_2 := Ah hc0_2
 clear hr0_2 hc0_2
 have HB := Ah (Below.refl w.heap.size w)
 have H : ((impl_NameHash.f k a1).bind fun t258 => (if (l0_1.length : Int) = 0 then (none) else (some (Int.tmod t258 (l0_1.length : Int))))) = some r := h
 clear h
 replace H := Option.bind_eq_some_iff.mp H
 obtain ⟨t258, A30, H⟩ := H
 try dsimp only at H
 have A3 := Ah A30
 clear A30
 by_cases c4 : (l0_1.length : Int) = 0
 ·
  rw [if_pos c4] at H
  exact absurd H (by simp)
 rw [if_neg c4] at H
 have c4b0 : ((l0_1.length : Int) == 0) = false := beq_eq_false_iff_ne.mpr c4
 have c4b1 : ((l0_1.length : Int) != 0) = true := bne_iff_ne.mpr c4
 have c4b2 : ¬ (l0_1 = []) := fun h_ => c4 (by rw [h_]; rfl)
 obtain rfl := Option.some.inj H
 go_enter Tryd.func40, Tryd.ntmps40
 go_wp2_with (first | ((with_reducible refine gate_dst (N := 2) rfl ?_); refine boxL 2 29 #[.int .i64 a0_0, .slice A0_1 l0_1.length c0_1, .slice A0_2 l0_2.length c0_2] ?_; intro gb257 hg w5 BK257 hb; have GW257 := gw hg (bs HB); have GE257 := gw hg (bs HB); replace HB := Ah (below_step (bs HB) hb); clear hb hg) | (go_at_call 52; (with_reducible refine (impl_NameHash.calls k a1 t258 _ A3.out).mono ?_); rintro e w' ⟨rfl, ⟨nd, rfl⟩⟩; (try first | exact ⟨rfl, _, World.drewN_drewN _ _ _⟩ | exact ⟨rfl, _, Eq.trans (World.drewN_drewN _ _ _) (congrArg (World.drewN _) (Nat.add_assoc _ _ _))⟩); obtain ⟨hcz6_0, hcz6_1, hcz6_2⟩ := cz3 BK257; obtain ⟨hfz6_0, hfz6_1, hfz6_2⟩ := fz3 BK257))
 repeat (go_quiet (first | ((with_reducible refine gate_dst (N := 2) rfl ?_); refine boxL 2 29 #[.int .i64 a0_0, .slice A0_1 l0_1.length c0_1, .slice A0_2 l0_2.length c0_2] ?_; intro gb257 hg w5 BK257 hb; have GW257 := gw hg (bs HB); have GE257 := gw hg (bs HB); replace HB := Ah (below_step (bs HB) hb); clear hb hg) | (go_at_call 52; (with_reducible refine (impl_NameHash.calls k a1 t258 _ A3.out).mono ?_); rintro e w' ⟨rfl, ⟨nd, rfl⟩⟩; (try first | exact ⟨rfl, _, World.drewN_drewN _ _ _⟩ | exact ⟨rfl, _, Eq.trans (World.drewN_drewN _ _ _) (congrArg (World.drewN _) (Nat.add_assoc _ _ _))⟩); obtain ⟨hcz6_0, hcz6_1, hcz6_2⟩ := cz3 BK257; obtain ⟨hfz6_0, hfz6_1, hfz6_2⟩ := fz3 BK257)); try go_wp2_with (first | ((with_reducible refine gate_dst (N := 2) rfl ?_); refine boxL 2 29 #[.int .i64 a0_0, .slice A0_1 l0_1.length c0_1, .slice A0_2 l0_2.length c0_2] ?_; intro gb257 hg w5 BK257 hb; have GW257 := gw hg (bs HB); have GE257 := gw hg (bs HB); replace HB := Ah (below_step (bs HB) hb); clear hb hg) | (go_at_call 52; (with_reducible refine (impl_NameHash.calls k a1 t258 _ A3.out).mono ?_); rintro e w' ⟨rfl, ⟨nd, rfl⟩⟩; (try first | exact ⟨rfl, _, World.drewN_drewN _ _ _⟩ | exact ⟨rfl, _, Eq.trans (World.drewN_drewN _ _ _) (congrArg (World.drewN _) (Nat.add_assoc _ _ _))⟩); obtain ⟨hcz6_0, hcz6_1, hcz6_2⟩ := cz3 BK257; obtain ⟨hfz6_0, hfz6_1, hfz6_2⟩ := fz3 BK257)))
 go_ret
 exact ⟨er, bs1 HB GE257⟩

/-! ### impl_GoodDir: function 20 -/
mutual
def impl_GoodDir.j0 : Nat → Bool → Int → List Int → List (S46) → Option (Bool)
 | 0, _, _, _, _ => none
 | k + 1, x23, x260000, x260001, x260002 => if x23 = true then (some false) else (impl_GoodDir.l0 k 0 x260001 (x260001.length : Int) 0 x260000 x260001 x260002)
def impl_GoodDir.l0 : Nat → Int → List Int → Int → Int → Int → List Int → List (S46) → Option (Bool)
 | 0, _, _, _, _, _, _, _ => none
 | k + 1, x3, x25, x26, x27, x260000, x260001, x260002 => if x27 < x26 then (if 0 ≤ x27 then (if x27 < (x25.length : Int) then ((impl_within.f (rd x25 x27) 0 (mn x3 (wrap64 ((x260002.length : Int) - 1)))).bind fun t262 => (if t262 = true then (if (rd x25 x27) = x3 then (impl_GoodDir.j2 k (wrap64 (x3 + 1)) x27 (rd x25 x27) x25 x26 x27 x260000 x260001 x260002) else (impl_GoodDir.j2 k x3 x27 (rd x25 x27) x25 x26 x27 x260000 x260001 x260002)) else (some false))) else (none)) else (none)) else (if x3 = (x260002.length : Int) then ((impl_Dir_areAgreed.f k x260000 x260001 x260002).bind fun t267 => (impl_GoodDir.j3 k (!t267) x260000 x260001 x260002)) else (impl_GoodDir.j3 k true x260000 x260001 x260002))
def impl_GoodDir.j2 : Nat → Int → Int → Int → List Int → Int → Int → Int → List Int → List (S46) → Option (Bool)
 | 0, _, _, _, _, _, _, _, _, _ => none
 | k + 1, x3, x4, x5, x25, x26, x27, x260000, x260001, x260002 => if 0 ≤ x5 then (if x5 < (x260002.length : Int) then ((impl_isGoodBucket.f k ((rd_T46 x260002 x5).f0) ((rd_T46 x260002 x5).f1) x260000).bind fun t264 => (if t264 = true then (if 0 ≤ ((rd_T46 x260002 x5).f0) then (if (shl .i64 1 ((rd_T46 x260002 x5).f0)) = 0 then (none) else ((slices_Index_int_int.f k x260001 x5).bind fun t266 => (if t266 = (Int.tmod x4 (shl .i64 1 ((rd_T46 x260002 x5).f0))) then (impl_GoodDir.l0 k x3 x25 x26 (wrap64 (x27 + 1)) x260000 x260001 x260002) else (some false)))) else (none)) else (some false))) else (none)) else (none)
def impl_GoodDir.j3 : Nat → Bool → Int → List Int → List (S46) → Option (Bool)
 | 0, _, _, _, _ => none
 | k + 1, x80, x260000, x260001, x260002 => if x80 = true then (some false) else (impl_GoodDir.l1 k x260002 (x260002.length : Int) 0 x260000 x260001 x260002)
def impl_GoodDir.l1 : Nat → List (S46) → Int → Int → Int → List Int → List (S46) → Option (Bool)
 | 0, _, _, _, _, _, _ => none
 | k + 1, x82, x83, x84, x260000, x260001, x260002 => if x84 < x83 then (if 0 ≤ x84 then (if x84 < (x82.length : Int) then (impl_GoodDir.l2 k x84 x82 x83 x84 ((rd_T46 x82 x84).f1) (((rd_T46 x82 x84).f1).length : Int) 0 x260000 x260001 x260002) else (none)) else (none)) else (some true)
def impl_GoodDir.l2 : Nat → Int → List (S46) → Int → Int → List (S53) → Int → Int → Int → List Int → List (S46) → Option (Bool)
 | 0, _, _, _, _, _, _, _, _, _, _ => none
 | k + 1, x7, x82, x83, x84, x90, x91, x92, x260000, x260001, x260002 => if x92 < x91 then (if 0 ≤ x92 then (if x92 < (x90.length : Int) then ((impl_Dir_slotOf.f k x260000 x260001 x260002 ((rd_T53 x90 x92).f0)).bind fun t272 => (if 0 ≤ t272 then (if t272 < (x260001.length : Int) then (if (rd x260001 t272) = x7 then (impl_GoodDir.l2 k x7 x82 x83 x84 x90 x91 (wrap64 (x92 + 1)) x260000 x260001 x260002) else (some false)) else (none)) else (none))) else (none)) else (none)) else (impl_GoodDir.l1 k x82 x83 (wrap64 (x84 + 1)) x260000 x260001 x260002)
end
def impl_GoodDir.f (k : Nat) (a0_0 : Int) (l0_1 : List Int) (l0_2 : List (S46)) : Option (Bool) := (impl_within.f a0_0 0 8).bind fun t260 => (if t260 = true then (if 0 ≤ a0_0 then (impl_GoodDir.j0 k ((l0_1.length : Int) != (shl .i64 1 a0_0)) a0_0 l0_1 l0_2) else (none)) else (impl_GoodDir.j0 k true a0_0 l0_1 l0_2))
theorem impl_GoodDir.mono_l : ∀ k, (∀ y0 y1 y2 y3, LeO (impl_GoodDir.j0 k y0 y1 y2 y3) (impl_GoodDir.j0 (k + 1) y0 y1 y2 y3)) ∧ (∀ y0 y1 y2 y3 y4 y5 y6, LeO (impl_GoodDir.l0 k y0 y1 y2 y3 y4 y5 y6) (impl_GoodDir.l0 (k + 1) y0 y1 y2 y3 y4 y5 y6)) ∧ (∀ y0 y1 y2 y3 y4 y5 y6 y7 y8, LeO (impl_GoodDir.j2 k y0 y1 y2 y3 y4 y5 y6 y7 y8) (impl_GoodDir.j2 (k + 1) y0 y1 y2 y3 y4 y5 y6 y7 y8)) ∧ (∀ y0 y1 y2 y3, LeO (impl_GoodDir.j3 k y0 y1 y2 y3) (impl_GoodDir.j3 (k + 1) y0 y1 y2 y3)) ∧ (∀ y0 y1 y2 y3 y4 y5, LeO (impl_GoodDir.l1 k y0 y1 y2 y3 y4 y5) (impl_GoodDir.l1 (k + 1) y0 y1 y2 y3 y4 y5)) ∧ (∀ y0 y1 y2 y3 y4 y5 y6 y7 y8 y9, LeO (impl_GoodDir.l2 k y0 y1 y2 y3 y4 y5 y6 y7 y8 y9) (impl_GoodDir.l2 (k + 1) y0 y1 y2 y3 y4 y5 y6 y7 y8 y9))
 | 0 => ⟨fun _ _ _ _ r h => by simp [impl_GoodDir.j0] at h, fun _ _ _ _ _ _ _ r h => by simp [impl_GoodDir.l0] at h, fun _ _ _ _ _ _ _ _ _ r h => by simp [impl_GoodDir.j2] at h, fun _ _ _ _ r h => by simp [impl_GoodDir.j3] at h, fun _ _ _ _ _ _ r h => by simp [impl_GoodDir.l1] at h, fun _ _ _ _ _ _ _ _ _ _ r h => by simp [impl_GoodDir.l2] at h⟩
 | k + 1 => by
  obtain ⟨ih0, ih1, ih2, ih3, ih4, ih5⟩ := impl_GoodDir.mono_l k
  refine ⟨?_, ?_, ?_, ?_, ?_, ?_⟩ <;> intros <;> first | unfold impl_GoodDir.j0 | unfold impl_GoodDir.l0 | unfold impl_GoodDir.j2 | unfold impl_GoodDir.j3 | unfold impl_GoodDir.l1 | unfold impl_GoodDir.l2
  all_goals repeat' first
   | (with_reducible exact ih0 _ _ _ _)
   | (with_reducible exact ih1 _ _ _ _ _ _ _)
   | (with_reducible exact ih2 _ _ _ _ _ _ _ _ _)
   | (with_reducible exact ih3 _ _ _ _)
   | (with_reducible exact ih4 _ _ _ _ _ _)
   | (with_reducible exact ih5 _ _ _ _ _ _ _ _ _ _)
   | (with_reducible exact impl_Dir_areAgreed.mono _ _ _ _)
   | (with_reducible exact impl_Dir_slotOf.mono _ _ _ _ _)
   | (with_reducible exact impl_isGoodBucket.mono _ _ _ _)
   | (with_reducible exact slices_Index_int_int.mono _ _ _)
   | (with_reducible exact LeO.refl _)
   | (with_reducible exact LeO.none _)
   | (with_reducible refine LeO.ite ?_ ?_)
   | (with_reducible refine LeO.bind ?_ (fun _ => ?_))
   | exact ih0 _ _ _ _
   | exact ih1 _ _ _ _ _ _ _
   | exact ih2 _ _ _ _ _ _ _ _ _
   | exact ih3 _ _ _ _
   | exact ih4 _ _ _ _ _ _
   | exact ih5 _ _ _ _ _ _ _ _ _ _
   | exact impl_Dir_areAgreed.mono _ _ _ _
   | exact impl_Dir_slotOf.mono _ _ _ _ _
   | exact impl_isGoodBucket.mono _ _ _ _
   | exact slices_Index_int_int.mono _ _ _
   | exact LeO.none _
   | refine LeO.ite ?_ ?_
   | refine LeO.bind ?_ (fun _ => ?_)
theorem impl_GoodDir.mono : ∀ a0 a1 a2 k, LeO (impl_GoodDir.f k a0 a1 a2) (impl_GoodDir.f (k + 1) a0 a1 a2) := by
 intro a0 a1 a2 k
 obtain ⟨ih0, ih1, ih2, ih3, ih4, ih5⟩ := impl_GoodDir.mono_l k
 unfold impl_GoodDir.f
 repeat' first
   | (with_reducible exact ih0 _ _ _ _)
   | (with_reducible exact ih1 _ _ _ _ _ _ _)
   | (with_reducible exact ih2 _ _ _ _ _ _ _ _ _)
   | (with_reducible exact ih3 _ _ _ _)
   | (with_reducible exact ih4 _ _ _ _ _ _)
   | (with_reducible exact ih5 _ _ _ _ _ _ _ _ _ _)
   | (with_reducible exact impl_Dir_areAgreed.mono _ _ _ _)
   | (with_reducible exact impl_Dir_slotOf.mono _ _ _ _ _)
   | (with_reducible exact impl_isGoodBucket.mono _ _ _ _)
   | (with_reducible exact slices_Index_int_int.mono _ _ _)
   | (with_reducible exact LeO.refl _)
   | (with_reducible exact LeO.none _)
   | (with_reducible refine LeO.ite ?_ ?_)
   | (with_reducible refine LeO.bind ?_ (fun _ => ?_))
   | exact ih0 _ _ _ _
   | exact ih1 _ _ _ _ _ _ _
   | exact ih2 _ _ _ _ _ _ _ _ _
   | exact ih3 _ _ _ _
   | exact ih4 _ _ _ _ _ _
   | exact ih5 _ _ _ _ _ _ _ _ _ _
   | exact impl_Dir_areAgreed.mono _ _ _ _
   | exact impl_Dir_slotOf.mono _ _ _ _ _
   | exact impl_isGoodBucket.mono _ _ _ _
   | exact slices_Index_int_int.mono _ _ _
   | exact LeO.none _
   | refine LeO.ite ?_ ?_
   | refine LeO.bind ?_ (fun _ => ?_)
def impl_GoodDir.T1 : Bool × List (List Nat × List Nat) := (true, [([], []), ([0], [0]), ([1], [1]), ([2], [2]), ([3, 2], [3]), ([4], [4]), ([5, 4], [4, 5]), ([6, 4], [4, 6]), ([4], [4]), ([8, 4], [4, 8]), ([9, 4], [4, 9]), ([7, 10, 4], [4, 7, 10]), ([4, 11], [4, 11])])
def impl_GoodDir.B1 : List Nat := [0, 1, 3, 7, 15, 31, 63, 127, 31, 287, 799, 2047, 4095]
theorem impl_GoodDir.tab1 : rtab .any (opsOf Tryd.f20 1) = impl_GoodDir.T1 := by kernel_rfl
theorem impl_GoodDir.bits1 : waitsOk impl_GoodDir.T1.2 impl_GoodDir.B1 = true := by kernel_rfl
def impl_GoodDir.T11 : Bool × List (List Nat × List Nat) := (true, [([], []), ([0], [0]), ([], []), ([1, 2], [1, 2]), ([3], [3]), ([], []), ([5], [5]), ([4, 6], [4, 6]), ([7], [7])])
def impl_GoodDir.B11 : List Nat := [0, 1, 0, 7, 15, 0, 32, 127, 255]
theorem impl_GoodDir.tab11 : rtab .any (opsOf Tryd.f20 11) = impl_GoodDir.T11 := by kernel_rfl
theorem impl_GoodDir.bits11 : waitsOk impl_GoodDir.T11.2 impl_GoodDir.B11 = true := by kernel_rfl
def impl_GoodDir.T25 : Bool × List (List Nat × List Nat) := (true, [([], []), ([0], [0]), ([], []), ([], []), ([3], [3]), ([2, 4], [2, 4]), ([1, 5], [1, 5]), ([6], [6]), ([], []), ([7, 8], [7, 8])])
def impl_GoodDir.B25 : List Nat := [0, 1, 0, 0, 8, 28, 63, 127, 0, 511]
theorem impl_GoodDir.tab25 : rtab .any (opsOf Tryd.f20 25) = impl_GoodDir.T25 := by kernel_rfl
theorem impl_GoodDir.bits25 : waitsOk impl_GoodDir.T25.2 impl_GoodDir.B25 = true := by kernel_rfl
set_option maxHeartbeats 8000000 in
set_option maxRecDepth 100000 in
theorem impl_GoodDir.calls (k : Nat) (a0_0 : Int) (A0_1 : Option Addr) (c0_1 : Nat) (l0_1 : List Int) (A0_2 : Option Addr) (c0_2 : Nat) (l0_2 : List (S46)) (r : Bool) (w : World) (hr0_1 : Kd.C (Kd.int .i64) w A0_1 l0_1.length l0_1) (hc0_1 : l0_1.length ≤ c0_1) (hr0_2 : Kd.C k46 w A0_2 l0_2.length l0_2) (hc0_2 : l0_2.length ≤ c0_2) (h : impl_GoodDir.f k a0_0 l0_1 l0_2 = some r) :
  Calls Tryd.prog 20 #[.agg #[.int .i64 a0_0, .slice A0_1 l0_1.length c0_1, .slice A0_2 l0_2.length c0_2]] w fun e w' => e = .returned (.bool r) ∧ Below w.heap.size w w' := by
 have hu29 := Tryd.underlying29
 have hu46 := Tryd.underlying46
 have hu53 := Tryd.underlying53
 have HR0_1 := Ah hr0_1
 have HC0_1 := Ah hc0_1
 clear hr0_1 hc0_1
 have HR0_2 := Ah hr0_2
 have HC0_2 := Ah hc0_2
 clear hr0_2 hc0_2
 have HB := Ah (Below.refl w.heap.size w)
 have H : ((impl_within.f a0_0 0 8).bind fun t260 => (if t260 = true then (if 0 ≤ a0_0 then (impl_GoodDir.j0 k ((l0_1.length : Int) != (shl .i64 1 a0_0)) a0_0 l0_1 l0_2) else (none)) else (impl_GoodDir.j0 k true a0_0 l0_1 l0_2))) = some r := h
 clear h
 have HC2 := Ah H
 clear H
 go_enter Tryd.func20, Tryd.ntmps20
 go_upto_region 1 with (first | ((with_reducible refine gate_dst (N := 1) rfl ?_); (try (refine gate_guard (by rfl) ?_; dsimp only)); refine boxL 1 29 #[.int .i64 a0_0, .slice A0_1 l0_1.length c0_1, .slice A0_2 l0_2.length c0_2] ?_; intro gb259 hg w3 BK259 hb; have GW259 := gw hg (bs HB); have GE259 := gw hg (bs HB); replace HB := Ah (below_step (bs HB) hb); clear hb hg))
 (try simp only [Act.put, List.setIfInBounds_toArray, List.set_cons_zero, List.set_cons_succ])
 go_cut [23] (fun v23 wc => ∃ (kq : Nat) (x23_1 : Bool), v23 = .bool x23_1 ∧ Aside0 (impl_GoodDir.j0 kq x23_1 a0_0 l0_1 l0_2 = some r) ∧ Aside0 (kq ≤ k) ∧ Aside0 (wc.heap[gb259]? = some (.cells #[.int .i64 a0_0, (.slice A0_1 l0_1.length c0_1), (.slice A0_2 l0_2.length c0_2)] 29 (0, 0))) ∧ Aside0 (Below w.heap.size w wc))
 case first =>
  have H := HC2.out
  clear HC2
  replace H := Option.bind_eq_some_iff.mp H
  obtain ⟨t260, A40, H⟩ := H
  try dsimp only at H
  have A4 := Ah A40
  clear A40
  by_cases c5 : t260 = true
  rotate_left
  ·
   replace c5 := Bool.eq_false_iff.mpr c5
   subst c5
   rw [if_neg fne] at H
   have H' := Ah H
   clear H
   try go_wp2
   have n0_ := Ah (blk_drew BK259.out)
   have n1_ := Ah (below_drew1 HB.out)
   clear BK259 HB
   have BK259 := n0_
   have HB := n1_
   clear n0_ n1_
   refine start_ (n := 13) (S := fun w' => w'.cell? ⟨gb259, 0, none⟩ = some (.int .i64 a0_0) ∧ w'.cell? ⟨gb259, 1, none⟩ = some (.slice A0_1 l0_1.length c0_1) ∧ w'.cell? ⟨gb259, 2, none⟩ = some (.slice A0_2 l0_2.length c0_2)) (ds := []) #[false, false, false, false, false, false, false, false, false, false, false, false, false] (by kernel_rfl) rfl rfl ⟨(blk_cell BK259.out 0).trans rfl, (blk_cell BK259.out 1).trans rfl, (blk_cell BK259.out 2).trans rfl⟩ (fun hHeld => ?_); refine with_tabW impl_GoodDir.tab1 impl_GoodDir.bits1 (fun HT_ HW_ => ?_)
   generalize w3.drew = w9 at BK259 HB hHeld ⊢
   refine pureS 0 11 HT_.out ?_
   refine takeS 1 12 HT_.out HW_.out hHeld (hr := by rintro w' ⟨s0, s1, s2⟩; go_simp; with_reducible rfl) (h := ?_)
   refine one_ (i := 2) (N := some 13) #[true, true, true, false, false, false, false, false, false, false, false, false, false] rfl rfl (one_of HT_.out (by kernel_rfl)) (by decide) (fun K hK => ?_)
   refine goes_ Tryd.func36 (by kernel_rfl) rfl #[.int .i64 a0_0, .int .i64 0, .int .i64 8] (by rfl) rfl rfl (by (try simp only [List.map_toArray, List.map_cons, List.map_nil]); first | done | rfl | (simp only [List.length_drop, List.length_take]; rfl)) ?_
   with_reducible refine (impl_within.calls a0_0 0 8 false _ A4.out).mono ?_
   rintro e w' ⟨rfl, ⟨nd, rfl⟩⟩
   refine ⟨_, rfl, ?_⟩
   refine hK.out _ _ ⟨(blk_cell BK259.out 0).trans rfl, (blk_cell BK259.out 1).trans rfl, (blk_cell BK259.out 2).trans rfl⟩ (fun hHeld => ?_)
   clear hK K
   refine norm_ (a' := ?_) ?_ ?_
   rotate_left
   ·
    show Act.put _ (some 13) _ = _
    simp only [Act.put, List.setIfInBounds_toArray, List.set_cons_zero, List.set_cons_succ, i64_w, i32_w]
    rfl
   refine pureS 3 14 HT_.out ?_
   refine pureS 4 15 HT_.out ?_
   refine pureU 5 16 HT_.out ?_
   refine pureU 6 17 HT_.out ?_
   refine pureU 7 18 HT_.out ?_
   refine pureU 8 19 HT_.out ?_
   refine pureU 9 20 HT_.out ?_
   refine pureU 10 21 HT_.out ?_
   refine pureU 11 22 HT_.out ?_
   refine pureS 12 23 HT_.out ?_
   refine done_ (done_of HT_.out (by kernel_rfl)) ?_
   try go_wp2
   go_meet
   case rel => exact ⟨_, (true), e3, H', ⟨by first | omega | exact Nat.le_refl _⟩, ⟨bk BK259⟩, ⟨bs1 HB GE259⟩⟩
  subst c5
  rw [if_pos rfl] at H
  by_cases c6 : 0 ≤ a0_0
  rotate_left
  ·
   rw [if_neg c6] at H
   exact absurd H (by simp)
  rw [if_pos c6] at H
  have c6b0 := eq_true c6
  have c6b1 : decide (0 ≤ a0_0) = true := decide_eq_true c6
  clear c6
  obtain ⟨ji7, hji7⟩ : ∃ j_ : Int, (shl .i64 1 a0_0) = j_ := ⟨_, rfl⟩
  replace H : (impl_GoodDir.j0 k ((l0_1.length : Int) != (ji7)) a0_0 l0_1 l0_2) = some r := by first | (rw [hji7] at H; exact H) | (simp only [hji7] at H ⊢; exact H)
  (try rw [hji7] at A4)
  have hji7_ : (IntKind.i64.wrap (1 * 2 ^ min a0_0.toNat 64)) = ji7 := hji7
  have hji7z : a0_0 ≤ 64 → (IntKind.i64.wrap (1 * 2 ^ a0_0.toNat)) = ji7 := shl_small hji7
  have hji7u : (IntKind.i64.wrap (2 ^ min a0_0.toNat 64)) = ji7 := by have h_ := hji7_; rw [Int.one_mul] at h_; exact h_
  have hji7v : a0_0 ≤ 64 → (IntKind.i64.wrap (2 ^ a0_0.toNat)) = ji7 := fun hle_ => by have h_ := hji7z hle_; rw [Int.one_mul] at h_; exact h_
  have hji7y : (wrap64 (1 * 2 ^ min a0_0.toNat 64)) = ji7 := (i64_w _).symm.trans hji7_
  have hji7x : a0_0 ≤ 64 → (wrap64 (1 * 2 ^ a0_0.toNat)) = ji7 := fun h_ => (i64_w _).symm.trans (hji7z h_)
  have H' := Ah H
  clear H
  try go_wp2
  have n0_ := Ah (blk_drew BK259.out)
  have n1_ := Ah (below_drew1 HB.out)
  clear BK259 HB
  have BK259 := n0_
  have HB := n1_
  clear n0_ n1_
  refine start_ (n := 13) (S := fun w' => w'.cell? ⟨gb259, 0, none⟩ = some (.int .i64 a0_0) ∧ w'.cell? ⟨gb259, 1, none⟩ = some (.slice A0_1 l0_1.length c0_1) ∧ w'.cell? ⟨gb259, 2, none⟩ = some (.slice A0_2 l0_2.length c0_2)) (ds := []) #[false, false, false, false, false, false, false, false, false, false, false, false, false] (by kernel_rfl) rfl rfl ⟨(blk_cell BK259.out 0).trans rfl, (blk_cell BK259.out 1).trans rfl, (blk_cell BK259.out 2).trans rfl⟩ (fun hHeld => ?_); refine with_tabW impl_GoodDir.tab1 impl_GoodDir.bits1 (fun HT_ HW_ => ?_)
  generalize w3.drew = w8 at BK259 HB hHeld ⊢
  refine pureS 0 11 HT_.out ?_
  refine takeS 1 12 HT_.out HW_.out hHeld (hr := by rintro w' ⟨s0, s1, s2⟩; go_simp; with_reducible rfl) (h := ?_)
  refine one_ (i := 2) (N := some 13) #[true, true, true, false, false, false, false, false, false, false, false, false, false] rfl rfl (one_of HT_.out (by kernel_rfl)) (by decide) (fun K hK => ?_)
  refine goes_ Tryd.func36 (by kernel_rfl) rfl #[.int .i64 a0_0, .int .i64 0, .int .i64 8] (by rfl) rfl rfl (by (try simp only [List.map_toArray, List.map_cons, List.map_nil]); first | done | rfl | (simp only [List.length_drop, List.length_take]; rfl)) ?_
  with_reducible refine (impl_within.calls a0_0 0 8 true _ A4.out).mono ?_
  rintro e w' ⟨rfl, ⟨nd, rfl⟩⟩
  refine ⟨_, rfl, ?_⟩
  refine hK.out _ _ ⟨(blk_cell BK259.out 0).trans rfl, (blk_cell BK259.out 1).trans rfl, (blk_cell BK259.out 2).trans rfl⟩ (fun hHeld => ?_)
  clear hK K
  refine norm_ (a' := ?_) ?_ ?_
  rotate_left
  ·
   show Act.put _ (some 13) _ = _
   simp only [Act.put, List.setIfInBounds_toArray, List.set_cons_zero, List.set_cons_succ, i64_w, i32_w]
   rfl
  refine pureS 3 14 HT_.out ?_
  refine pureS 4 15 HT_.out ?_
  refine pureS 5 16 HT_.out ?_
  refine pureS 8 19 HT_.out ?_
  refine takeS 6 17 HT_.out HW_.out hHeld (hr := by rintro w' ⟨s0, s1, s2⟩; go_simp; with_reducible rfl) (h := ?_)
  refine pureS 7 18 HT_.out ?_
  refine takeS 9 20 HT_.out HW_.out hHeld (hr := by rintro w' ⟨s0, s1, s2⟩; go_simp; with_reducible rfl) (h := ?_)
  refine pureS 10 21 HT_.out ?_
  refine pureS 11 22 HT_.out ?_
  refine pureS 12 23 HT_.out ?_
  refine done_ (done_of HT_.out (by kernel_rfl)) ?_
  try go_wp2
  go_meet
  case rel => exact ⟨_, (((l0_1.length : Int) != (ji7))), (by first | rfl | (simp; done) | (simp only [← hji7] <;> (first | rfl | simp)) | (simp [*]; done)), H', ⟨by first | omega | exact Nat.le_refl _⟩, ⟨bk BK259⟩, ⟨bs1 HB GE259⟩⟩
 case rest =>
  clear HC2
  try clear c2
  try clear p2
  try clear c3
  try clear c5
  try clear c6
  try clear c6b0
  try clear c6b1
  try clear p6
  obtain ⟨kq, x23_1, rfl, HA, HJ1, BK259, HB⟩ := hcut
  cases kq with
  | zero => exact absurd HA.out (by simp [impl_GoodDir.j0])
  | succ kj1 =>
   have H := HA.out
   clear HA
   simp only [impl_GoodDir.j0] at H
   by_cases c10 : x23_1 = true
   ·
    subst c10
    rw [if_pos rfl] at H
    obtain rfl := Option.some.inj H
    go_wp2
    go_ret
    exact ⟨er, bs1 HB GE259⟩
   replace c10 := Bool.eq_false_iff.mpr c10
   subst c10
   rw [if_neg fne] at H
   have H' := Ah H
   clear H
   obtain ⟨hcz11_0, hcz11_1, hcz11_2⟩ := cz3 BK259
   obtain ⟨hfz11_0, hfz11_1, hfz11_2⟩ := fz3 BK259
   go_wp2
   go_loopg [3, 27] kj1 (fun kq v3 v27 w' => ∃ (x3_2 : Int) (x27_2 : Int), v3 = .int .i64 x3_2 ∧ v27 = .int .i64 x27_2 ∧ Aside0 (impl_GoodDir.l0 kq x3_2 l0_1 (l0_1.length : Int) x27_2 a0_0 l0_1 l0_2 = some r) ∧ Aside0 (kq ≤ kj1) ∧ Aside0 (w'.heap[gb259]? = some (.cells #[.int .i64 a0_0, (.slice A0_1 l0_1.length c0_1), (.slice A0_2 l0_2.length c0_2)] 29 (0, 0))) ∧ Aside0 (Below w.heap.size w w'))
   case atStart => exact ⟨(0), (0), e3, e3, H', ⟨Nat.le_refl _⟩, ⟨bk BK259⟩, ⟨bs1 HB GE259⟩⟩
   case round =>
    clear H'
    try clear c1
    try clear c2
    try clear p2
    try clear c3
    try clear c5
    try clear c6
    try clear c6b0
    try clear c6b1
    try clear p6
    try clear c10
    try clear hcz11_0 hcz11_1 hcz11_2
    try clear hfz11_0 hfz11_1 hfz11_2
    try clear p2
    try clear p6
    obtain ⟨x3_2, x27_2, rfl, rfl, HA, HK2, BK259, HB⟩ := hrel
    cases gk with
    | zero => exact absurd HA.out (by simp [impl_GoodDir.l0])
    | succ k2 =>
     have H := HA.out
     clear HA
     simp only [impl_GoodDir.l0] at H
     by_cases c12 : x27_2 < (l0_1.length : Int)
     ·
      rw [if_pos c12] at H
      have c12b0 : decide (x27_2 < (l0_1.length : Int)) = true := decide_eq_true c12
      clear c12
      by_cases c13 : 0 ≤ x27_2
      rotate_left
      ·
       rw [if_neg c13] at H
       exact absurd H (by simp)
      rw [if_pos c13] at H
      have c13b0 : decide (0 ≤ x27_2) = true := decide_eq_true c13
      clear c13
      by_cases c14 : x27_2 < (l0_1.length : Int)
      rotate_left
      ·
       rw [if_neg c14] at H
       exact absurd H (by simp)
      rw [if_pos c14] at H
      have c14b0 : decide (x27_2 < (l0_1.length : Int)) = true := decide_eq_true c14
      clear c14
      obtain ⟨ji15, hji15⟩ : ∃ j_ : Int, (mn x3_2 (wrap64 ((l0_2.length : Int) - 1))) = j_ := ⟨_, rfl⟩
      replace H : ((impl_within.f (rd l0_1 x27_2) 0 (ji15)).bind fun t262 => (if t262 = true then (if (rd l0_1 x27_2) = x3_2 then (impl_GoodDir.j2 k2 (wrap64 (x3_2 + 1)) x27_2 (rd l0_1 x27_2) l0_1 (l0_1.length : Int) x27_2 a0_0 l0_1 l0_2) else (impl_GoodDir.j2 k2 x3_2 x27_2 (rd l0_1 x27_2) l0_1 (l0_1.length : Int) x27_2 a0_0 l0_1 l0_2)) else (some false))) = some r := by first | (rw [hji15] at H; exact H) | (simp only [hji15] at H ⊢; exact H)
      have hji15_ : (if (wrap64 ((l0_2.length : Int) - 1)) < x3_2 then (wrap64 ((l0_2.length : Int) - 1)) else x3_2) = ji15 := hji15
      replace H := Option.bind_eq_some_iff.mp H
      obtain ⟨t262, A160, H⟩ := H
      try dsimp only at H
      have A16 := Ah A160
      clear A160
      by_cases c17 : t262 = true
      rotate_left
      ·
       replace c17 := Bool.eq_false_iff.mpr c17
       subst c17
       rw [if_neg fne] at H
       obtain rfl := Option.some.inj H
       have p261 : 0 ≤ (x27_2 : Int) := od
       have q261 : x27_2 < (l0_1.length : Int) := od
       obtain ⟨ad261, e261, hx261_0⟩ := Kd.at_int HR0_1.out x27_2 p261 q261
       cases e261
       replace hx261_0 := (HB.out.cell (World.block_lt_of_cell? w _ hx261_0)).trans hx261_0
       replace p261 := eq_true p261
       replace q261 := eq_true q261
       obtain ⟨hcz38_0, hcz38_1, hcz38_2⟩ := cz3 BK259
       obtain ⟨hfz38_0, hfz38_1, hfz38_2⟩ := fz3 BK259
       go_wp2_with (first | ((with_reducible refine gate_callee (f := 36) rfl ?_); refine goesL_ (some 39) rfl rfl Tryd.func36 (by kernel_rfl) rfl #[.int .i64 (rd l0_1 x27_2), .int .i64 0, .int .i64 ji15] rfl (by (try simp only [List.map_toArray, List.map_cons, List.map_nil]); first | done | (simp only [hji15]; rfl) | rfl | (simp only [List.length_drop, List.length_take]; rfl)) ?_; (with_reducible refine (impl_within.calls (rd l0_1 x27_2) 0 ji15 false _ A16.out).mono ?_); rintro e w' ⟨rfl, ⟨nd, rfl⟩⟩; refine ⟨_, rfl, ?_⟩))
       go_ret
       exact ⟨by first | rfl | (simp [errW_none, errW_some] <;> rfl) | (simp only [← hji15]; first | rfl | (simp [errW_none, errW_some] <;> rfl)) | (simp [*, errW_none, errW_some] <;> rfl), bs1 HB GE259⟩
      subst c17
      rw [if_pos rfl] at H
      have HC18 := Ah H
      clear H
      have p261 : 0 ≤ (x27_2 : Int) := od
      have q261 : x27_2 < (l0_1.length : Int) := od
      obtain ⟨ad261, e261, hx261_0⟩ := Kd.at_int HR0_1.out x27_2 p261 q261
      cases e261
      replace hx261_0 := (HB.out.cell (World.block_lt_of_cell? w _ hx261_0)).trans hx261_0
      replace p261 := eq_true p261
      replace q261 := eq_true q261
      obtain ⟨hcz19_0, hcz19_1, hcz19_2⟩ := cz3 BK259
      obtain ⟨hfz19_0, hfz19_1, hfz19_2⟩ := fz3 BK259
      go_upto_if 43 with (first | ((with_reducible refine gate_callee (f := 36) rfl ?_); refine goesL_ (some 39) rfl rfl Tryd.func36 (by kernel_rfl) rfl #[.int .i64 (rd l0_1 x27_2), .int .i64 0, .int .i64 ji15] rfl (by (try simp only [List.map_toArray, List.map_cons, List.map_nil]); first | done | (simp only [hji15]; rfl) | rfl | (simp only [List.length_drop, List.length_take]; rfl)) ?_; (with_reducible refine (impl_within.calls (rd l0_1 x27_2) 0 ji15 true _ A16.out).mono ?_); rintro e w' ⟨rfl, ⟨nd, rfl⟩⟩; refine ⟨_, rfl, ?_⟩))
      (try simp only [Act.put, List.setIfInBounds_toArray, List.set_cons_zero, List.set_cons_succ])
      go_cut [3] (fun v3 wc => ∃ (kq : Nat) (x3_17 : Int), v3 = .int .i64 x3_17 ∧ Aside0 (impl_GoodDir.j2 kq x3_17 x27_2 (rd l0_1 x27_2) l0_1 (l0_1.length : Int) x27_2 a0_0 l0_1 l0_2 = some r) ∧ Aside0 (kq ≤ k2) ∧ Aside0 (wc.heap[gb259]? = some (.cells #[.int .i64 a0_0, (.slice (some ad261) l0_1.length c0_1), (.slice A0_2 l0_2.length c0_2)] 29 (0, 0))) ∧ Aside0 (Below w.heap.size w wc))
      case first =>
       have H := HC18.out
       clear HC18
       by_cases c20 : (rd l0_1 x27_2) = x3_2
       rotate_left
       ·
        rw [if_neg c20] at H
        have c20b0 : ((rd l0_1 x27_2) == x3_2) = false := beq_eq_false_iff_ne.mpr c20
        have c20b1 : ((rd l0_1 x27_2) != x3_2) = true := bne_iff_ne.mpr c20
        (first | rw [c20b0] | (simp only [i64_w, i32_w]; rw [c20b0]) | (simp only [c20b2, Bool.not_false, Bool.not_true]) | skip)
        have H' := Ah H
        clear H
        go_wp2
        go_meet
        case rel => exact ⟨_, (x3_2), e3, H', ⟨by have := HJ1.out; have := HK2.out; first | omega | exact Nat.le_refl _⟩, ⟨bk BK259⟩, ⟨bs1 HB GE259⟩⟩
       rw [if_pos c20] at H
       have c20b0 : ((rd l0_1 x27_2) == x3_2) = true := beq_iff_eq.mpr c20
       have c20b1 : ((rd l0_1 x27_2) != x3_2) = false := bne_eq_false_iff_eq.mpr c20
       clear c20
       (first | rw [c20b0] | (simp only [i64_w, i32_w]; rw [c20b0]) | (simp only [c20b2, Bool.not_false, Bool.not_true]) | skip)
       have H' := Ah H
       clear H
       go_wp2
       go_meet
       case rel => exact ⟨_, (wrap64 (x3_2 + 1)), e3, H', ⟨by have := HJ1.out; have := HK2.out; first | omega | exact Nat.le_refl _⟩, ⟨bk BK259⟩, ⟨bs1 HB GE259⟩⟩
      case rest =>
       clear HC18
       try clear c1
       try clear c2
       try clear p2
       try clear q2
       try clear hx2
       try clear c3
       try clear c5
       try clear c6
       try clear c6b0
       try clear c6b1
       try clear p6
       try clear c10
       try clear c12
       try clear c12b0
       try clear c13
       try clear c13b0
       try clear c14
       try clear c14b0
       try clear c17
       try clear c20
       try clear c20b0
       try clear c20b1
       try clear hcz11_0 hcz11_1 hcz11_2
       try clear hcz19_0 hcz19_1 hcz19_2
       try clear hfz11_0 hfz11_1 hfz11_2
       try clear hfz19_0 hfz19_1 hfz19_2
       try clear hx261_0
       try clear p2
       try clear p261
       try clear p6
       try clear q261
       obtain ⟨kq, x3_17, rfl, HA, HJ17, BK259, HB⟩ := hcut
       cases kq with
       | zero => exact absurd HA.out (by simp [impl_GoodDir.j2])
       | succ kj17 =>
        have H := HA.out
        clear HA
        simp only [impl_GoodDir.j2] at H
        by_cases c21 : 0 ≤ (rd l0_1 x27_2)
        rotate_left
        ·
         rw [if_neg c21] at H
         exact absurd H (by simp)
        rw [if_pos c21] at H
        have c21b0 : decide (0 ≤ (rd l0_1 x27_2)) = true := decide_eq_true c21
        clear c21
        by_cases c22 : (rd l0_1 x27_2) < (l0_2.length : Int)
        rotate_left
        ·
         rw [if_neg c22] at H
         exact absurd H (by simp)
        rw [if_pos c22] at H
        have c22b0 : decide ((rd l0_1 x27_2) < (l0_2.length : Int)) = true := decide_eq_true c22
        clear c22
        replace H := Option.bind_eq_some_iff.mp H
        obtain ⟨t264, A230, H⟩ := H
        try dsimp only at H
        have A23 := Ah A230
        clear A230
        by_cases c24 : t264 = true
        rotate_left
        ·
         replace c24 := Bool.eq_false_iff.mpr c24
         subst c24
         rw [if_neg fne] at H
         obtain rfl := Option.some.inj H
         try go_wp2
         have n0_ := Ah (blk_drew BK259.out)
         have n1_ := Ah (below_drew1 HB.out)
         clear BK259 HB
         have BK259 := n0_
         have HB := n1_
         clear n0_ n1_
         have p263 : 0 ≤ ((rd l0_1 x27_2) : Int) := od
         have q263 : (rd l0_1 x27_2) < (l0_2.length : Int) := od
         obtain ⟨ad263, A263_1, c263_1, e263, hx263_0, hx263_1, hl263_1, hi263_1⟩ := at_T46 HR0_2.out (rd l0_1 x27_2) p263 q263
         have hw263_1 := hx263_1
         have hw263_0 := hx263_0
         cases e263
         replace hx263_0 := (HB.out.cell (World.block_lt_of_cell? w _ hx263_0)).trans hx263_0
         replace hx263_1 := (HB.out.cell (World.block_lt_of_cell? w _ hx263_1)).trans hx263_1
         have HR263_1 := Ah hi263_1
         have HC263_1 := Ah hl263_1
         clear hi263_1 hl263_1
         replace p263 := eq_true p263
         replace q263 := eq_true q263
         refine start_ (n := 9) (S := fun w' => w'.cell? ⟨gb259, 0, none⟩ = some (.int .i64 a0_0) ∧ w'.cell? ⟨gb259, 1, none⟩ = some (.slice (some ad261) l0_1.length c0_1) ∧ w'.cell? ⟨gb259, 2, none⟩ = some (.slice (some ad263) l0_2.length c0_2) ∧ w'.cell? (ad263.add (((rd l0_1 x27_2)).toNat * 2)) = some (.int .i64 ((rd_T46 l0_2 (rd l0_1 x27_2)).f0)) ∧ w'.cell? ⟨(ad263.add (((rd l0_1 x27_2)).toNat * 2)).block, (ad263.add (((rd l0_1 x27_2)).toNat * 2)).off + 1, none⟩ = some (.slice A263_1 ((rd_T46 l0_2 (rd l0_1 x27_2)).f1).length c263_1)) (ds := []) #[false, false, false, false, false, false, false, false, false] (by kernel_rfl) rfl rfl ⟨(blk_cell BK259.out 0).trans rfl, (blk_cell BK259.out 1).trans rfl, (blk_cell BK259.out 2).trans rfl, ((HB.out.cell (World.block_lt_of_cell? w _ hw263_0)).trans hw263_0), ((HB.out.cell (World.block_lt_of_cell? w _ hw263_1)).trans hw263_1)⟩ (fun hHeld => ?_); refine with_tabW impl_GoodDir.tab11 impl_GoodDir.bits11 (fun HT_ HW_ => ?_)
         generalize wc.drew = w36 at BK259 HB HR263_1 hx263_0 hx263_1 hHeld ⊢
         refine pureS 0 46 HT_.out ?_
         refine pureS 2 48 HT_.out ?_
         refine pureS 5 51 HT_.out ?_
         refine takeS 1 47 HT_.out HW_.out hHeld (hr := by rintro w' ⟨s0, s1, s2, s3, s4⟩; go_simp; with_reducible rfl) (h := ?_)
         refine pureS 3 49 HT_.out ?_
         refine takeS 4 50 HT_.out HW_.out hHeld (hr := by rintro w' ⟨s0, s1, s2, s3, s4⟩; go_simp; with_reducible rfl) (h := ?_)
         refine takeS 6 52 HT_.out HW_.out hHeld (hr := by rintro w' ⟨s0, s1, s2, s3, s4⟩; go_simp; with_reducible rfl) (h := ?_)
         refine one_ (i := 7) (N := some 53) #[true, true, true, true, true, true, true, true, false] rfl rfl (one_of HT_.out (by kernel_rfl)) (by decide) (fun K hK => ?_)
         refine goes_ Tryd.func37 (by kernel_rfl) rfl #[.agg #[.int .i64 ((rd_T46 l0_2 (rd l0_1 x27_2)).f0), .slice A263_1 ((rd_T46 l0_2 (rd l0_1 x27_2)).f1).length c263_1], .int .i64 a0_0] (by rfl) rfl rfl (by (try simp only [List.map_toArray, List.map_cons, List.map_nil]); first | done | rfl | (simp only [List.length_drop, List.length_take]; rfl)) ?_
         with_reducible refine (impl_isGoodBucket.calls kj17 ((rd_T46 l0_2 (rd l0_1 x27_2)).f0) _ _ ((rd_T46 l0_2 (rd l0_1 x27_2)).f1) a0_0 false _ ?side1 ?side2 A23.out).mono ?_
         (case side1 => exact cb HR263_1 HB)
         (case side2 => exact HC263_1.out)
         rintro e w37 ⟨rfl, hb⟩
         refine ⟨_, rfl, ?_⟩
         have n0_ := Ah (bb BK259 hb)
         have n1_ := Ah (below_step (bs1 HB GE259) hb)
         clear BK259 HB
         have BK259 := n0_
         have HB := n1_
         clear n0_ n1_
         (try clear hb)
         (try clear hb2)
         (try clear hk)
         (try clear hi)
         refine hK.out _ _ ⟨(blk_cell BK259.out 0).trans rfl, (blk_cell BK259.out 1).trans rfl, (blk_cell BK259.out 2).trans rfl, ((HB.out.cell (World.block_lt_of_cell? w _ hw263_0)).trans hw263_0), ((HB.out.cell (World.block_lt_of_cell? w _ hw263_1)).trans hw263_1)⟩ (fun hHeld => ?_)
         clear hK K
         refine norm_ (a' := ?_) ?_ ?_
         rotate_left
         ·
          show Act.put _ (some 53) _ = _
          simp only [Act.put, List.setIfInBounds_toArray, List.set_cons_zero, List.set_cons_succ, i64_w, i32_w]
          rfl
         refine pureS 8 54 HT_.out ?_
         refine done_ (done_of HT_.out (by kernel_rfl)) ?_
         try go_wp2
         go_ret
         exact ⟨by first | rfl | (simp [errW_none, errW_some] <;> rfl) | (simp only [← hji15]; first | rfl | (simp [errW_none, errW_some] <;> rfl)) | (simp [*, errW_none, errW_some] <;> rfl), bs1 HB GE259⟩
        subst c24
        rw [if_pos rfl] at H
        by_cases c25 : 0 ≤ ((rd_T46 l0_2 (rd l0_1 x27_2)).f0)
        rotate_left
        ·
         rw [if_neg c25] at H
         exact absurd H (by simp)
        rw [if_pos c25] at H
        have c25b0 := eq_true c25
        have c25b1 : decide (0 ≤ ((rd_T46 l0_2 (rd l0_1 x27_2)).f0)) = true := decide_eq_true c25
        clear c25
        obtain ⟨ji26, hji26⟩ : ∃ j_ : Int, (shl .i64 1 ((rd_T46 l0_2 (rd l0_1 x27_2)).f0)) = j_ := ⟨_, rfl⟩
        replace H : (if (ji26) = 0 then (none) else ((slices_Index_int_int.f kj17 l0_1 (rd l0_1 x27_2)).bind fun t266 => (if t266 = (Int.tmod x27_2 (ji26)) then (impl_GoodDir.l0 kj17 x3_17 l0_1 (l0_1.length : Int) (wrap64 (x27_2 + 1)) a0_0 l0_1 l0_2) else (some false)))) = some r := by first | (rw [hji26] at H; exact H) | (simp only [hji26] at H ⊢; exact H)
        (try rw [hji26] at A23)
        have hji26_ : (IntKind.i64.wrap (1 * 2 ^ min ((rd_T46 l0_2 (rd l0_1 x27_2)).f0).toNat 64)) = ji26 := hji26
        have hji26z : ((rd_T46 l0_2 (rd l0_1 x27_2)).f0) ≤ 64 → (IntKind.i64.wrap (1 * 2 ^ ((rd_T46 l0_2 (rd l0_1 x27_2)).f0).toNat)) = ji26 := shl_small hji26
        have hji26u : (IntKind.i64.wrap (2 ^ min ((rd_T46 l0_2 (rd l0_1 x27_2)).f0).toNat 64)) = ji26 := by have h_ := hji26_; rw [Int.one_mul] at h_; exact h_
        have hji26v : ((rd_T46 l0_2 (rd l0_1 x27_2)).f0) ≤ 64 → (IntKind.i64.wrap (2 ^ ((rd_T46 l0_2 (rd l0_1 x27_2)).f0).toNat)) = ji26 := fun hle_ => by have h_ := hji26z hle_; rw [Int.one_mul] at h_; exact h_
        have hji26y : (wrap64 (1 * 2 ^ min ((rd_T46 l0_2 (rd l0_1 x27_2)).f0).toNat 64)) = ji26 := (i64_w _).symm.trans hji26_
        have hji26x : ((rd_T46 l0_2 (rd l0_1 x27_2)).f0) ≤ 64 → (wrap64 (1 * 2 ^ ((rd_T46 l0_2 (rd l0_1 x27_2)).f0).toNat)) = ji26 := fun h_ => (i64_w _).symm.trans (hji26z h_)
        by_cases c27 : (ji26) = 0
        ·
         rw [if_pos c27] at H
         exact absurd H (by simp)
        rw [if_neg c27] at H
        have c27b0 : ((ji26) == 0) = false := beq_eq_false_iff_ne.mpr c27
        have c27b1 : ((ji26) != 0) = true := bne_iff_ne.mpr c27
        replace H := Option.bind_eq_some_iff.mp H
        obtain ⟨t266, A280, H⟩ := H
        try dsimp only at H
        have A28 := Ah A280
        clear A280
        by_cases c29 : t266 = (Int.tmod x27_2 (ji26))
        rotate_left
        ·
         rw [if_neg c29] at H
         have c29b0 : (t266 == (Int.tmod x27_2 (ji26))) = false := beq_eq_false_iff_ne.mpr c29
         have c29b1 : (t266 != (Int.tmod x27_2 (ji26))) = true := bne_iff_ne.mpr c29
         obtain rfl := Option.some.inj H
         try go_wp2
         have n0_ := Ah (blk_drew BK259.out)
         have n1_ := Ah (below_drew1 HB.out)
         clear BK259 HB
         have BK259 := n0_
         have HB := n1_
         clear n0_ n1_
         have p263 : 0 ≤ ((rd l0_1 x27_2) : Int) := od
         have q263 : (rd l0_1 x27_2) < (l0_2.length : Int) := od
         obtain ⟨ad263, A263_1, c263_1, e263, hx263_0, hx263_1, hl263_1, hi263_1⟩ := at_T46 HR0_2.out (rd l0_1 x27_2) p263 q263
         have hw263_1 := hx263_1
         have hw263_0 := hx263_0
         cases e263
         replace hx263_0 := (HB.out.cell (World.block_lt_of_cell? w _ hx263_0)).trans hx263_0
         replace hx263_1 := (HB.out.cell (World.block_lt_of_cell? w _ hx263_1)).trans hx263_1
         have HR263_1 := Ah hi263_1
         have HC263_1 := Ah hl263_1
         clear hi263_1 hl263_1
         replace p263 := eq_true p263
         replace q263 := eq_true q263
         refine start_ (n := 9) (S := fun w' => w'.cell? ⟨gb259, 0, none⟩ = some (.int .i64 a0_0) ∧ w'.cell? ⟨gb259, 1, none⟩ = some (.slice (some ad261) l0_1.length c0_1) ∧ w'.cell? ⟨gb259, 2, none⟩ = some (.slice (some ad263) l0_2.length c0_2) ∧ w'.cell? (ad263.add (((rd l0_1 x27_2)).toNat * 2)) = some (.int .i64 ((rd_T46 l0_2 (rd l0_1 x27_2)).f0)) ∧ w'.cell? ⟨(ad263.add (((rd l0_1 x27_2)).toNat * 2)).block, (ad263.add (((rd l0_1 x27_2)).toNat * 2)).off + 1, none⟩ = some (.slice A263_1 ((rd_T46 l0_2 (rd l0_1 x27_2)).f1).length c263_1)) (ds := []) #[false, false, false, false, false, false, false, false, false] (by kernel_rfl) rfl rfl ⟨(blk_cell BK259.out 0).trans rfl, (blk_cell BK259.out 1).trans rfl, (blk_cell BK259.out 2).trans rfl, ((HB.out.cell (World.block_lt_of_cell? w _ hw263_0)).trans hw263_0), ((HB.out.cell (World.block_lt_of_cell? w _ hw263_1)).trans hw263_1)⟩ (fun hHeld => ?_); refine with_tabW impl_GoodDir.tab11 impl_GoodDir.bits11 (fun HT_ HW_ => ?_)
         generalize wc.drew = w33 at BK259 HB HR263_1 hx263_0 hx263_1 hHeld ⊢
         refine pureS 0 46 HT_.out ?_
         refine pureS 2 48 HT_.out ?_
         refine pureS 5 51 HT_.out ?_
         refine takeS 1 47 HT_.out HW_.out hHeld (hr := by rintro w' ⟨s0, s1, s2, s3, s4⟩; go_simp; with_reducible rfl) (h := ?_)
         refine pureS 3 49 HT_.out ?_
         refine takeS 4 50 HT_.out HW_.out hHeld (hr := by rintro w' ⟨s0, s1, s2, s3, s4⟩; go_simp; with_reducible rfl) (h := ?_)
         refine takeS 6 52 HT_.out HW_.out hHeld (hr := by rintro w' ⟨s0, s1, s2, s3, s4⟩; go_simp; with_reducible rfl) (h := ?_)
         refine one_ (i := 7) (N := some 53) #[true, true, true, true, true, true, true, true, false] rfl rfl (one_of HT_.out (by kernel_rfl)) (by decide) (fun K hK => ?_)
         refine goes_ Tryd.func37 (by kernel_rfl) rfl #[.agg #[.int .i64 ((rd_T46 l0_2 (rd l0_1 x27_2)).f0), .slice A263_1 ((rd_T46 l0_2 (rd l0_1 x27_2)).f1).length c263_1], .int .i64 a0_0] (by rfl) rfl rfl (by (try simp only [List.map_toArray, List.map_cons, List.map_nil]); first | done | rfl | (simp only [List.length_drop, List.length_take]; rfl)) ?_
         with_reducible refine (impl_isGoodBucket.calls kj17 ((rd_T46 l0_2 (rd l0_1 x27_2)).f0) _ _ ((rd_T46 l0_2 (rd l0_1 x27_2)).f1) a0_0 true _ ?side1 ?side2 A23.out).mono ?_
         (case side1 => exact cb HR263_1 HB)
         (case side2 => exact HC263_1.out)
         rintro e w34 ⟨rfl, hb⟩
         refine ⟨_, rfl, ?_⟩
         have n0_ := Ah (bb BK259 hb)
         have n1_ := Ah (below_step (bs1 HB GE259) hb)
         clear BK259 HB
         have BK259 := n0_
         have HB := n1_
         clear n0_ n1_
         (try clear hb)
         (try clear hb2)
         (try clear hk)
         (try clear hi)
         refine hK.out _ _ ⟨(blk_cell BK259.out 0).trans rfl, (blk_cell BK259.out 1).trans rfl, (blk_cell BK259.out 2).trans rfl, ((HB.out.cell (World.block_lt_of_cell? w _ hw263_0)).trans hw263_0), ((HB.out.cell (World.block_lt_of_cell? w _ hw263_1)).trans hw263_1)⟩ (fun hHeld => ?_)
         clear hK K
         refine norm_ (a' := ?_) ?_ ?_
         rotate_left
         ·
          show Act.put _ (some 53) _ = _
          simp only [Act.put, List.setIfInBounds_toArray, List.set_cons_zero, List.set_cons_succ, i64_w, i32_w]
          rfl
         refine pureS 8 54 HT_.out ?_
         refine done_ (done_of HT_.out (by kernel_rfl)) ?_
         obtain ⟨hcz35_0, hcz35_1, hcz35_2⟩ := cz3 BK259
         obtain ⟨hfz35_0, hfz35_1, hfz35_2⟩ := fz3 BK259
         have p265 : 0 ≤ ((rd l0_1 x27_2) : Int) := od
         have q265 : (rd l0_1 x27_2) < (l0_2.length : Int) := od
         obtain ⟨ad265, A265_1, c265_1, e265, hx265_0, hx265_1, hl265_1, hi265_1⟩ := at_T46 HR0_2.out (rd l0_1 x27_2) p265 q265
         obtain rfl : ad263 = ad265 := (by injection e265)
         replace hx265_0 := (HB.out.cell (World.block_lt_of_cell? w _ hx265_0)).trans hx265_0
         replace hx265_1 := (HB.out.cell (World.block_lt_of_cell? w _ hx265_1)).trans hx265_1
         have HR265_1 := Ah hi265_1
         have HC265_1 := Ah hl265_1
         clear hi265_1 hl265_1
         replace p265 := eq_true p265
         replace q265 := eq_true q265
         try go_wp2_with (first | ((with_reducible refine gate_callee (f := 38) rfl ?_); refine gL (some 67) rfl rfl Tryd.func38 (by kernel_rfl) rfl #[.slice (some ad261) l0_1.length c0_1, .int .i64 (rd l0_1 x27_2)] rfl ?_; (with_reducible refine (slices_Index_int_int.calls kj17 _ _ l0_1 (rd l0_1 x27_2) t266 _ ?side1 ?side2 A28.out).mono ?_); (case side1 => exact cb HR0_1 HB); (case side2 => exact HC0_1.out); rintro e w' ⟨rfl, ⟨nd, rfl⟩⟩; refine ⟨_, rfl, ?_⟩))
         go_ret
         exact ⟨by first | rfl | (simp [errW_none, errW_some] <;> rfl) | (simp only [← hji15, ← hji26]; first | rfl | (simp [errW_none, errW_some] <;> rfl)) | (simp [*, errW_none, errW_some] <;> rfl), bs1 HB GE259⟩
        rw [if_pos c29] at H
        have c29b0 : (t266 == (Int.tmod x27_2 (ji26))) = true := beq_iff_eq.mpr c29
        have c29b1 : (t266 != (Int.tmod x27_2 (ji26))) = false := bne_eq_false_iff_eq.mpr c29
        clear c29
        have H' := Ah H
        clear H
        try go_wp2
        have n0_ := Ah (blk_drew BK259.out)
        have n1_ := Ah (below_drew1 HB.out)
        clear BK259 HB
        have BK259 := n0_
        have HB := n1_
        clear n0_ n1_
        have p263 : 0 ≤ ((rd l0_1 x27_2) : Int) := od
        have q263 : (rd l0_1 x27_2) < (l0_2.length : Int) := od
        obtain ⟨ad263, A263_1, c263_1, e263, hx263_0, hx263_1, hl263_1, hi263_1⟩ := at_T46 HR0_2.out (rd l0_1 x27_2) p263 q263
        have hw263_1 := hx263_1
        have hw263_0 := hx263_0
        cases e263
        replace hx263_0 := (HB.out.cell (World.block_lt_of_cell? w _ hx263_0)).trans hx263_0
        replace hx263_1 := (HB.out.cell (World.block_lt_of_cell? w _ hx263_1)).trans hx263_1
        have HR263_1 := Ah hi263_1
        have HC263_1 := Ah hl263_1
        clear hi263_1 hl263_1
        replace p263 := eq_true p263
        replace q263 := eq_true q263
        refine start_ (n := 9) (S := fun w' => w'.cell? ⟨gb259, 0, none⟩ = some (.int .i64 a0_0) ∧ w'.cell? ⟨gb259, 1, none⟩ = some (.slice (some ad261) l0_1.length c0_1) ∧ w'.cell? ⟨gb259, 2, none⟩ = some (.slice (some ad263) l0_2.length c0_2) ∧ w'.cell? (ad263.add (((rd l0_1 x27_2)).toNat * 2)) = some (.int .i64 ((rd_T46 l0_2 (rd l0_1 x27_2)).f0)) ∧ w'.cell? ⟨(ad263.add (((rd l0_1 x27_2)).toNat * 2)).block, (ad263.add (((rd l0_1 x27_2)).toNat * 2)).off + 1, none⟩ = some (.slice A263_1 ((rd_T46 l0_2 (rd l0_1 x27_2)).f1).length c263_1)) (ds := []) #[false, false, false, false, false, false, false, false, false] (by kernel_rfl) rfl rfl ⟨(blk_cell BK259.out 0).trans rfl, (blk_cell BK259.out 1).trans rfl, (blk_cell BK259.out 2).trans rfl, ((HB.out.cell (World.block_lt_of_cell? w _ hw263_0)).trans hw263_0), ((HB.out.cell (World.block_lt_of_cell? w _ hw263_1)).trans hw263_1)⟩ (fun hHeld => ?_); refine with_tabW impl_GoodDir.tab11 impl_GoodDir.bits11 (fun HT_ HW_ => ?_)
        generalize wc.drew = w30 at BK259 HB HR263_1 hx263_0 hx263_1 hHeld ⊢
        refine pureS 0 46 HT_.out ?_
        refine pureS 2 48 HT_.out ?_
        refine pureS 5 51 HT_.out ?_
        refine takeS 1 47 HT_.out HW_.out hHeld (hr := by rintro w' ⟨s0, s1, s2, s3, s4⟩; go_simp; with_reducible rfl) (h := ?_)
        refine pureS 3 49 HT_.out ?_
        refine takeS 4 50 HT_.out HW_.out hHeld (hr := by rintro w' ⟨s0, s1, s2, s3, s4⟩; go_simp; with_reducible rfl) (h := ?_)
        refine takeS 6 52 HT_.out HW_.out hHeld (hr := by rintro w' ⟨s0, s1, s2, s3, s4⟩; go_simp; with_reducible rfl) (h := ?_)
        refine one_ (i := 7) (N := some 53) #[true, true, true, true, true, true, true, true, false] rfl rfl (one_of HT_.out (by kernel_rfl)) (by decide) (fun K hK => ?_)
        refine goes_ Tryd.func37 (by kernel_rfl) rfl #[.agg #[.int .i64 ((rd_T46 l0_2 (rd l0_1 x27_2)).f0), .slice A263_1 ((rd_T46 l0_2 (rd l0_1 x27_2)).f1).length c263_1], .int .i64 a0_0] (by rfl) rfl rfl (by (try simp only [List.map_toArray, List.map_cons, List.map_nil]); first | done | rfl | (simp only [List.length_drop, List.length_take]; rfl)) ?_
        with_reducible refine (impl_isGoodBucket.calls kj17 ((rd_T46 l0_2 (rd l0_1 x27_2)).f0) _ _ ((rd_T46 l0_2 (rd l0_1 x27_2)).f1) a0_0 true _ ?side1 ?side2 A23.out).mono ?_
        (case side1 => exact cb HR263_1 HB)
        (case side2 => exact HC263_1.out)
        rintro e w31 ⟨rfl, hb⟩
        refine ⟨_, rfl, ?_⟩
        have n0_ := Ah (bb BK259 hb)
        have n1_ := Ah (below_step (bs1 HB GE259) hb)
        clear BK259 HB
        have BK259 := n0_
        have HB := n1_
        clear n0_ n1_
        (try clear hb)
        (try clear hb2)
        (try clear hk)
        (try clear hi)
        refine hK.out _ _ ⟨(blk_cell BK259.out 0).trans rfl, (blk_cell BK259.out 1).trans rfl, (blk_cell BK259.out 2).trans rfl, ((HB.out.cell (World.block_lt_of_cell? w _ hw263_0)).trans hw263_0), ((HB.out.cell (World.block_lt_of_cell? w _ hw263_1)).trans hw263_1)⟩ (fun hHeld => ?_)
        clear hK K
        refine norm_ (a' := ?_) ?_ ?_
        rotate_left
        ·
         show Act.put _ (some 53) _ = _
         simp only [Act.put, List.setIfInBounds_toArray, List.set_cons_zero, List.set_cons_succ, i64_w, i32_w]
         rfl
        refine pureS 8 54 HT_.out ?_
        refine done_ (done_of HT_.out (by kernel_rfl)) ?_
        obtain ⟨hcz32_0, hcz32_1, hcz32_2⟩ := cz3 BK259
        obtain ⟨hfz32_0, hfz32_1, hfz32_2⟩ := fz3 BK259
        have p265 : 0 ≤ ((rd l0_1 x27_2) : Int) := od
        have q265 : (rd l0_1 x27_2) < (l0_2.length : Int) := od
        obtain ⟨ad265, A265_1, c265_1, e265, hx265_0, hx265_1, hl265_1, hi265_1⟩ := at_T46 HR0_2.out (rd l0_1 x27_2) p265 q265
        obtain rfl : ad263 = ad265 := (by injection e265)
        replace hx265_0 := (HB.out.cell (World.block_lt_of_cell? w _ hx265_0)).trans hx265_0
        replace hx265_1 := (HB.out.cell (World.block_lt_of_cell? w _ hx265_1)).trans hx265_1
        have HR265_1 := Ah hi265_1
        have HC265_1 := Ah hl265_1
        clear hi265_1 hl265_1
        replace p265 := eq_true p265
        replace q265 := eq_true q265
        try go_wp2_with (first | ((with_reducible refine gate_callee (f := 38) rfl ?_); refine gL (some 67) rfl rfl Tryd.func38 (by kernel_rfl) rfl #[.slice (some ad261) l0_1.length c0_1, .int .i64 (rd l0_1 x27_2)] rfl ?_; (with_reducible refine (slices_Index_int_int.calls kj17 _ _ l0_1 (rd l0_1 x27_2) t266 _ ?side1 ?side2 A28.out).mono ?_); (case side1 => exact cb HR0_1 HB); (case side2 => exact HC0_1.out); rintro e w' ⟨rfl, ⟨nd, rfl⟩⟩; refine ⟨_, rfl, ?_⟩))
        go_roundg kj17
        case measure => have := HJ1.out; have := HK2.out; have := HJ17.out; omega
        case rel => exact ⟨(x3_17), (wrap64 (x27_2 + 1)), e3, e3, H', ⟨by have := HJ1.out; have := HK2.out; have := HJ17.out; omega⟩, ⟨bk BK259⟩, ⟨bs1 HB GE259⟩⟩
     rw [if_neg c12] at H
     have c12b0 : decide (x27_2 < (l0_1.length : Int)) = false := decide_eq_false c12
     clear c12
     have HC39 := Ah H
     clear H
     go_upto_region 17 with (fail)
     go_cut [80] (fun v80 wc => ∃ (kq : Nat) (x80_38 : Bool), v80 = .bool x80_38 ∧ Aside0 (impl_GoodDir.j3 kq x80_38 a0_0 l0_1 l0_2 = some r) ∧ Aside0 (kq ≤ k2) ∧ Aside0 (wc.heap[gb259]? = some (.cells #[.int .i64 a0_0, (.slice A0_1 l0_1.length c0_1), (.slice A0_2 l0_2.length c0_2)] 29 (0, 0))) ∧ Aside0 (Below w.heap.size w wc))
     case first =>
      have H := HC39.out
      clear HC39
      by_cases c40 : x3_2 = (l0_2.length : Int)
      rotate_left
      ·
       rw [if_neg c40] at H
       have c40b0 : (x3_2 == (l0_2.length : Int)) = false := beq_eq_false_iff_ne.mpr c40
       have c40b1 : (x3_2 != (l0_2.length : Int)) = true := bne_iff_ne.mpr c40
       (first | rw [c40b0] | (simp only [i64_w, i32_w]; rw [c40b0]) | (simp only [c40b2, Bool.not_false, Bool.not_true]) | skip)
       have H' := Ah H
       clear H
       obtain ⟨hcz44_0, hcz44_1, hcz44_2⟩ := cz3 BK259
       obtain ⟨hfz44_0, hfz44_1, hfz44_2⟩ := fz3 BK259
       go_wp2
       go_meet
       case rel => exact ⟨_, (true), e3, H', ⟨by have := HJ1.out; have := HK2.out; first | omega | exact Nat.le_refl _⟩, ⟨bk BK259⟩, ⟨bs1 HB GE259⟩⟩
      rw [if_pos c40] at H
      have c40b0 : (x3_2 == (l0_2.length : Int)) = true := beq_iff_eq.mpr c40
      have c40b1 : (x3_2 != (l0_2.length : Int)) = false := bne_eq_false_iff_eq.mpr c40
      clear c40
      (first | rw [c40b0] | (simp only [i64_w, i32_w]; rw [c40b0]) | (simp only [c40b2, Bool.not_false, Bool.not_true]) | skip)
      replace H := Option.bind_eq_some_iff.mp H
      obtain ⟨t267, A410, H⟩ := H
      try dsimp only at H
      have A41 := Ah A410
      clear A410
      have H' := Ah H
      clear H
      obtain ⟨hcz42_0, hcz42_1, hcz42_2⟩ := cz3 BK259
      obtain ⟨hfz42_0, hfz42_1, hfz42_2⟩ := fz3 BK259
      go_wp2_with (first | (go_at_call 39; (with_reducible refine (impl_Dir_areAgreed.calls k2 a0_0 _ _ l0_1 _ _ l0_2 t267 _ ?side1 ?side2 ?side3 ?side4 A41.out).mono ?_); (case side1 => exact cb HR0_1 HB); (case side2 => exact HC0_1.out); (case side3 => exact cb HR0_2 HB); (case side4 => exact HC0_2.out); rintro e w43 ⟨rfl, hb⟩; replace BK259 := nb BK259 hb; replace HB := Ah (below_step (bs1 HB GE259) hb); (try clear hb)))
      go_meet
      case rel => exact ⟨_, (!t267), e3, H', ⟨by have := HJ1.out; have := HK2.out; first | omega | exact Nat.le_refl _⟩, ⟨bk BK259⟩, ⟨bs1 HB GE259⟩⟩
     case rest =>
      clear HC39
      try clear c1
      try clear c2
      try clear p2
      try clear q2
      try clear hx2
      try clear c3
      try clear c4
      try clear c5
      try clear c6
      try clear c6b0
      try clear c6b1
      try clear p6
      try clear c10
      try clear c12
      try clear c12b0
      try clear c13
      try clear c13b0
      try clear c14
      try clear c14b0
      try clear c17
      try clear c20
      try clear c20b0
      try clear c20b1
      try clear c21
      try clear c21b0
      try clear c22
      try clear c22b0
      try clear c24
      try clear c25
      try clear c25b0
      try clear c25b1
      try clear c26
      try clear p26
      try clear q26
      try clear hx26
      try clear c27
      try clear c27b0
      try clear c27b1
      try clear c29
      try clear c29b0
      try clear c29b1
      try clear c36
      try clear c37
      try clear c38
      try clear c40
      try clear c40b0
      try clear c40b1
      try clear hcz11_0 hcz11_1 hcz11_2
      try clear hcz19_0 hcz19_1 hcz19_2
      try clear hcz32_0 hcz32_1 hcz32_2
      try clear hcz35_0 hcz35_1 hcz35_2
      try clear hcz38_0 hcz38_1 hcz38_2
      try clear hcz42_0 hcz42_1 hcz42_2
      try clear hcz44_0 hcz44_1 hcz44_2
      try clear hfz11_0 hfz11_1 hfz11_2
      try clear hfz19_0 hfz19_1 hfz19_2
      try clear hfz32_0 hfz32_1 hfz32_2
      try clear hfz35_0 hfz35_1 hfz35_2
      try clear hfz38_0 hfz38_1 hfz38_2
      try clear hfz42_0 hfz42_1 hfz42_2
      try clear hfz44_0 hfz44_1 hfz44_2
      try clear hx261_0
      try clear hx263_0
      try clear hx263_1
      try clear hx265_0
      try clear hx265_1
      try clear p2
      try clear p261
      try clear p263
      try clear p265
      try clear p6
      try clear q2
      try clear q261
      try clear q263
      try clear q265
      obtain ⟨kq, x80_38, rfl, HA, HJ38, BK259, HB⟩ := hcut
      cases kq with
      | zero => exact absurd HA.out (by simp [impl_GoodDir.j3])
      | succ kj38 =>
       have H := HA.out
       clear HA
       simp only [impl_GoodDir.j3] at H
       by_cases c45 : x80_38 = true
       ·
        subst c45
        rw [if_pos rfl] at H
        obtain rfl := Option.some.inj H
        go_wp2
        go_ret
        exact ⟨er, bs1 HB GE259⟩
       replace c45 := Bool.eq_false_iff.mpr c45
       subst c45
       rw [if_neg fne] at H
       have H' := Ah H
       clear H
       obtain ⟨hcz46_0, hcz46_1, hcz46_2⟩ := cz3 BK259
       obtain ⟨hfz46_0, hfz46_1, hfz46_2⟩ := fz3 BK259
       go_wp2
       go_loopg [84] kj38 (fun kq v84 w' => ∃ (x84_4 : Int), v84 = .int .i64 x84_4 ∧ Aside0 (impl_GoodDir.l1 kq l0_2 (l0_2.length : Int) x84_4 a0_0 l0_1 l0_2 = some r) ∧ Aside0 (kq ≤ kj38) ∧ Aside0 (w'.heap[gb259]? = some (.cells #[.int .i64 a0_0, (.slice A0_1 l0_1.length c0_1), (.slice A0_2 l0_2.length c0_2)] 29 (0, 0))) ∧ Aside0 (Below w.heap.size w w'))
       case atStart => exact ⟨(0), e3, H', ⟨Nat.le_refl _⟩, ⟨bk BK259⟩, ⟨bs1 HB GE259⟩⟩
       case round =>
        clear H'
        try clear c1
        try clear c2
        try clear p2
        try clear q2
        try clear hx2
        try clear c3
        try clear c4
        try clear c5
        try clear c6
        try clear c6b0
        try clear c6b1
        try clear p6
        try clear c10
        try clear c12
        try clear c12b0
        try clear c13
        try clear c13b0
        try clear c14
        try clear c14b0
        try clear c17
        try clear c20
        try clear c20b0
        try clear c20b1
        try clear c21
        try clear c21b0
        try clear c22
        try clear c22b0
        try clear c24
        try clear c25
        try clear c25b0
        try clear c25b1
        try clear c26
        try clear p26
        try clear q26
        try clear hx26
        try clear c27
        try clear c27b0
        try clear c27b1
        try clear c29
        try clear c29b0
        try clear c29b1
        try clear c36
        try clear c37
        try clear c38
        try clear c40
        try clear c40b0
        try clear c40b1
        try clear c45
        try clear hcz11_0 hcz11_1 hcz11_2
        try clear hcz19_0 hcz19_1 hcz19_2
        try clear hcz32_0 hcz32_1 hcz32_2
        try clear hcz35_0 hcz35_1 hcz35_2
        try clear hcz38_0 hcz38_1 hcz38_2
        try clear hcz42_0 hcz42_1 hcz42_2
        try clear hcz44_0 hcz44_1 hcz44_2
        try clear hcz46_0 hcz46_1 hcz46_2
        try clear hfz11_0 hfz11_1 hfz11_2
        try clear hfz19_0 hfz19_1 hfz19_2
        try clear hfz32_0 hfz32_1 hfz32_2
        try clear hfz35_0 hfz35_1 hfz35_2
        try clear hfz38_0 hfz38_1 hfz38_2
        try clear hfz42_0 hfz42_1 hfz42_2
        try clear hfz44_0 hfz44_1 hfz44_2
        try clear hfz46_0 hfz46_1 hfz46_2
        try clear hx261_0
        try clear hx263_0
        try clear hx263_1
        try clear hx265_0
        try clear hx265_1
        try clear p2
        try clear p26
        try clear p261
        try clear p263
        try clear p265
        try clear p6
        try clear q2
        try clear q26
        try clear q261
        try clear q263
        try clear q265
        obtain ⟨x84_4, rfl, HA, HK4, BK259, HB⟩ := hrel
        cases gk with
        | zero => exact absurd HA.out (by simp [impl_GoodDir.l1])
        | succ k4 =>
         have H := HA.out
         clear HA
         simp only [impl_GoodDir.l1] at H
         by_cases c47 : x84_4 < (l0_2.length : Int)
         rotate_left
         ·
          rw [if_neg c47] at H
          have c47b0 : decide (x84_4 < (l0_2.length : Int)) = false := decide_eq_false c47
          clear c47
          obtain rfl := Option.some.inj H
          go_wp2
          go_ret
          exact ⟨er, bs1 HB GE259⟩
         rw [if_pos c47] at H
         have c47b0 : decide (x84_4 < (l0_2.length : Int)) = true := decide_eq_true c47
         clear c47
         by_cases c48 : 0 ≤ x84_4
         rotate_left
         ·
          rw [if_neg c48] at H
          exact absurd H (by simp)
         rw [if_pos c48] at H
         have c48b0 : decide (0 ≤ x84_4) = true := decide_eq_true c48
         clear c48
         by_cases c49 : x84_4 < (l0_2.length : Int)
         rotate_left
         ·
          rw [if_neg c49] at H
          exact absurd H (by simp)
         rw [if_pos c49] at H
         have c49b0 : decide (x84_4 < (l0_2.length : Int)) = true := decide_eq_true c49
         clear c49
         have H' := Ah H
         clear H
         have p268 : 0 ≤ (x84_4 : Int) := od
         have q268 : x84_4 < (l0_2.length : Int) := od
         obtain ⟨ad268, A268_1, c268_1, e268, hx268_0, hx268_1, hl268_1, hi268_1⟩ := at_T46 HR0_2.out x84_4 p268 q268
         cases e268
         replace hx268_0 := (HB.out.cell (World.block_lt_of_cell? w _ hx268_0)).trans hx268_0
         replace hx268_1 := (HB.out.cell (World.block_lt_of_cell? w _ hx268_1)).trans hx268_1
         have HR268_1 := Ah hi268_1
         have HC268_1 := Ah hl268_1
         clear hi268_1 hl268_1
         replace p268 := eq_true p268
         replace q268 := eq_true q268
         go_wp2_with (first | ((with_reducible refine gate_dst (N := 8) rfl ?_); (try (refine gate_guard (by rfl) ?_; dsimp only)); refine boxL 8 46 #[.int .i64 0, .slice none 0 0] ?_; intro gb269 hg w50 BK269 hb; have GW269 := gw hg (bs1 HB GE259); have GE269 := gw hg (bs1 HB GE259); replace HB := Ah (below_step (bs1 HB GE259) hb); have NB259_269 := nn BK259 hg; have NB269_259 := nm BK259 hg; replace BK259 := nb BK259 hb; clear hb hg; have hnb51 := NB269_259.out; have hnc51 := NB259_269.out; obtain ⟨hcz52_0, hcz52_1⟩ := cz2 BK269; obtain ⟨hfz52_0, hfz52_1⟩ := fz2 BK269))
         go_loopg [92] k4 (fun kq v92 w' => ∃ (x92_5 : Int), v92 = .int .i64 x92_5 ∧ Aside0 (impl_GoodDir.l2 kq x84_4 l0_2 (l0_2.length : Int) x84_4 ((rd_T46 l0_2 x84_4).f1) (((rd_T46 l0_2 x84_4).f1).length : Int) x92_5 a0_0 l0_1 l0_2 = some r) ∧ Aside0 (kq ≤ k4) ∧ Aside0 (w'.heap[gb259]? = some (.cells #[.int .i64 a0_0, (.slice A0_1 l0_1.length c0_1), (.slice (some ad268) l0_2.length c0_2)] 29 (0, 0))) ∧ Aside0 (w'.heap[gb269]? = some (.cells #[.int .i64 ((rd_T46 l0_2 x84_4).f0), (.slice A268_1 ((rd_T46 l0_2 x84_4).f1).length c268_1)] 46 (0, 0))) ∧ Aside0 (Below w.heap.size w w'))
         case atStart => exact ⟨(0), e3, H', ⟨Nat.le_refl _⟩, ⟨bf BK259 NB259_269⟩, ⟨by (with_reducible repeat (first | refine blk_drewN ?_ _ | refine blk_drew ?_ | refine blk_alloc ?_ _)); refine blk_put (cs := #[.int .i64 ((rd_T46 l0_2 x84_4).f0), .slice none 0 0]) ?_ 1 _ rfl; (with_reducible repeat (first | refine blk_drewN ?_ _ | refine blk_drew ?_ | refine blk_alloc ?_ _)); refine blk_put (cs := #[.int .i64 0, .slice none 0 0]) ?_ 0 _ rfl; (with_reducible repeat (first | refine blk_drewN ?_ _ | refine blk_drew ?_ | refine blk_alloc ?_ _)); exact BK269.out⟩, ⟨bs2 HB GE259 GE269⟩⟩
         case round =>
          clear H'
          try clear c1
          try clear c2
          try clear p2
          try clear q2
          try clear hx2
          try clear c3
          try clear c4
          try clear c5
          try clear c6
          try clear c6b0
          try clear c6b1
          try clear p6
          try clear c10
          try clear c12
          try clear c12b0
          try clear c13
          try clear c13b0
          try clear c14
          try clear c14b0
          try clear c17
          try clear c20
          try clear c20b0
          try clear c20b1
          try clear c21
          try clear c21b0
          try clear c22
          try clear c22b0
          try clear c24
          try clear c25
          try clear c25b0
          try clear c25b1
          try clear c26
          try clear p26
          try clear q26
          try clear hx26
          try clear c27
          try clear c27b0
          try clear c27b1
          try clear c29
          try clear c29b0
          try clear c29b1
          try clear c36
          try clear c37
          try clear c38
          try clear c40
          try clear c40b0
          try clear c40b1
          try clear c45
          try clear c47
          try clear c47b0
          try clear c48
          try clear c48b0
          try clear c49
          try clear c49b0
          try clear c51
          try clear hcz11_0 hcz11_1 hcz11_2
          try clear hcz19_0 hcz19_1 hcz19_2
          try clear hcz32_0 hcz32_1 hcz32_2
          try clear hcz35_0 hcz35_1 hcz35_2
          try clear hcz38_0 hcz38_1 hcz38_2
          try clear hcz42_0 hcz42_1 hcz42_2
          try clear hcz44_0 hcz44_1 hcz44_2
          try clear hcz46_0 hcz46_1 hcz46_2
          try clear hcz52_0 hcz52_1
          try clear hfz11_0 hfz11_1 hfz11_2
          try clear hfz19_0 hfz19_1 hfz19_2
          try clear hfz32_0 hfz32_1 hfz32_2
          try clear hfz35_0 hfz35_1 hfz35_2
          try clear hfz38_0 hfz38_1 hfz38_2
          try clear hfz42_0 hfz42_1 hfz42_2
          try clear hfz44_0 hfz44_1 hfz44_2
          try clear hfz46_0 hfz46_1 hfz46_2
          try clear hfz52_0 hfz52_1
          try clear hx261_0
          try clear hx263_0
          try clear hx263_1
          try clear hx265_0
          try clear hx265_1
          try clear hx268_0
          try clear hx268_1
          try clear p2
          try clear p26
          try clear p261
          try clear p263
          try clear p265
          try clear p268
          try clear p6
          try clear q2
          try clear q26
          try clear q261
          try clear q263
          try clear q265
          try clear q268
          obtain ⟨x92_5, rfl, HA, HK5, BK259, BK269, HB⟩ := hrel
          cases gk with
          | zero => exact absurd HA.out (by simp [impl_GoodDir.l2])
          | succ k5 =>
           have H := HA.out
           clear HA
           simp only [impl_GoodDir.l2] at H
           by_cases c53 : x92_5 < (((rd_T46 l0_2 x84_4).f1).length : Int)
           rotate_left
           ·
            rw [if_neg c53] at H
            have c53b0 : decide (x92_5 < (((rd_T46 l0_2 x84_4).f1).length : Int)) = false := decide_eq_false c53
            clear c53
            have H' := Ah H
            clear H
            go_wp2
            go_roundg k5
            case measure => have := HJ1.out; have := HK2.out; have := HJ38.out; have := HK4.out; have := HK5.out; omega
            case rel => exact ⟨(wrap64 (x84_4 + 1)), e3, H', ⟨by have := HJ1.out; have := HK2.out; have := HJ38.out; have := HK4.out; have := HK5.out; omega⟩, ⟨bk BK259⟩, ⟨bs2 HB GE259 GE269⟩⟩
           rw [if_pos c53] at H
           have c53b0 : decide (x92_5 < (((rd_T46 l0_2 x84_4).f1).length : Int)) = true := decide_eq_true c53
           clear c53
           by_cases c54 : 0 ≤ x92_5
           rotate_left
           ·
            rw [if_neg c54] at H
            exact absurd H (by simp)
           rw [if_pos c54] at H
           have c54b0 : decide (0 ≤ x92_5) = true := decide_eq_true c54
           clear c54
           by_cases c55 : x92_5 < (((rd_T46 l0_2 x84_4).f1).length : Int)
           rotate_left
           ·
            rw [if_neg c55] at H
            exact absurd H (by simp)
           rw [if_pos c55] at H
           have c55b0 : decide (x92_5 < (((rd_T46 l0_2 x84_4).f1).length : Int)) = true := decide_eq_true c55
           clear c55
           replace H := Option.bind_eq_some_iff.mp H
           obtain ⟨t272, A560, H⟩ := H
           try dsimp only at H
           have A56 := Ah A560
           clear A560
           by_cases c57 : 0 ≤ t272
           rotate_left
           ·
            rw [if_neg c57] at H
            exact absurd H (by simp)
           rw [if_pos c57] at H
           have c57b0 : decide (0 ≤ t272) = true := decide_eq_true c57
           clear c57
           by_cases c58 : t272 < (l0_1.length : Int)
           rotate_left
           ·
            rw [if_neg c58] at H
            exact absurd H (by simp)
           rw [if_pos c58] at H
           have c58b0 : decide (t272 < (l0_1.length : Int)) = true := decide_eq_true c58
           clear c58
           by_cases c59 : (rd l0_1 t272) = x84_4
           rotate_left
           ·
            rw [if_neg c59] at H
            have c59b0 : ((rd l0_1 t272) == x84_4) = false := beq_eq_false_iff_ne.mpr c59
            have c59b1 : ((rd l0_1 t272) != x84_4) = true := bne_iff_ne.mpr c59
            obtain rfl := Option.some.inj H
            have p270 : 0 ≤ (x92_5 : Int) := od
            have q270 : x92_5 < (((rd_T46 l0_2 x84_4).f1).length : Int) := od
            obtain ⟨ad270, e270, hx270_0, hx270_1⟩ := at_T53 HR268_1.out x92_5 p270 q270
            cases e270
            replace hx270_0 := (HB.out.cell (World.block_lt_of_cell? w _ hx270_0)).trans hx270_0
            replace hx270_1 := (HB.out.cell (World.block_lt_of_cell? w _ hx270_1)).trans hx270_1
            replace p270 := eq_true p270
            replace q270 := eq_true q270
            try go_wp2_with (first | ((with_reducible refine gate_dst (N := 10) rfl ?_); (try (refine gate_guard (by rfl) ?_; dsimp only)); refine boxL 10 53 #[.string (⟨#[]⟩ : ByteArray), .int .i64 0] ?_; intro gb271 hg w67 BK271 hb; have GW271 := gw hg (bs2 HB GE259 GE269); have GE271 := gw hg (bs2 HB GE259 GE269); replace HB := Ah (below_step (bs2 HB GE259 GE269) hb); have NB259_271 := nn BK259 hg; have NB271_259 := nm BK259 hg; replace BK259 := nb BK259 hb; have NB269_271 := nn BK269 hg; have NB271_269 := nm BK269 hg; replace BK269 := nb BK269 hb; clear hb hg; have hnb68 := NB271_259.out; have hnc68 := NB259_271.out; have hnb69 := NB271_269.out; have hnc69 := NB269_271.out; obtain ⟨hcz70_0, hcz70_1⟩ := cz2 BK271; obtain ⟨hfz70_0, hfz70_1⟩ := fz2 BK271))
            have n0_ : Aside0 (((w67.setCell ⟨gb271, 0, none⟩ (.string ((rd_T53 ((rd_T46 l0_2 x84_4).f1) x92_5).f0))).setCell ⟨gb271, 1, none⟩ (.int .i64 ((rd_T53 ((rd_T46 l0_2 x84_4).f1) x92_5).f1))).heap[gb259]? = some (.cells #[.int .i64 a0_0, .slice A0_1 l0_1.length c0_1, .slice (some ad268) l0_2.length c0_2] 29 (0, 0))) := ⟨bf BK259 NB259_271⟩
            have n1_ : Aside0 (((w67.setCell ⟨gb271, 0, none⟩ (.string ((rd_T53 ((rd_T46 l0_2 x84_4).f1) x92_5).f0))).setCell ⟨gb271, 1, none⟩ (.int .i64 ((rd_T53 ((rd_T46 l0_2 x84_4).f1) x92_5).f1))).heap[gb269]? = some (.cells #[.int .i64 ((rd_T46 l0_2 x84_4).f0), .slice (some ad270) ((rd_T46 l0_2 x84_4).f1).length c268_1] 46 (0, 0))) := ⟨bf BK269 NB269_271⟩
            have n2_ : Aside0 (((w67.setCell ⟨gb271, 0, none⟩ (.string ((rd_T53 ((rd_T46 l0_2 x84_4).f1) x92_5).f0))).setCell ⟨gb271, 1, none⟩ (.int .i64 ((rd_T53 ((rd_T46 l0_2 x84_4).f1) x92_5).f1))).heap[gb271]? = some (.cells #[.string ((rd_T53 ((rd_T46 l0_2 x84_4).f1) x92_5).f0), .int .i64 ((rd_T53 ((rd_T46 l0_2 x84_4).f1) x92_5).f1)] 53 (0, 0))) := ⟨by (with_reducible repeat (first | refine blk_drewN ?_ _ | refine blk_drew ?_ | refine blk_alloc ?_ _)); refine blk_put (cs := #[.string ((rd_T53 ((rd_T46 l0_2 x84_4).f1) x92_5).f0), .int .i64 0]) ?_ 1 _ rfl; (with_reducible repeat (first | refine blk_drewN ?_ _ | refine blk_drew ?_ | refine blk_alloc ?_ _)); refine blk_put (cs := #[.string (⟨#[]⟩ : ByteArray), .int .i64 0]) ?_ 0 _ rfl; (with_reducible repeat (first | refine blk_drewN ?_ _ | refine blk_drew ?_ | refine blk_alloc ?_ _)); exact BK271.out⟩
            have n3_ : Aside0 (Below w.heap.size w ((w67.setCell ⟨gb271, 0, none⟩ (.string ((rd_T53 ((rd_T46 l0_2 x84_4).f1) x92_5).f0))).setCell ⟨gb271, 1, none⟩ (.int .i64 ((rd_T53 ((rd_T46 l0_2 x84_4).f1) x92_5).f1)))) := ⟨bs3 HB GE259 GE269 GE271⟩
            (try clear BK259)
            (try clear BK269)
            (try clear BK271)
            (try clear HB)
            generalize ((w67.setCell ⟨gb271, 0, none⟩ (.string ((rd_T53 ((rd_T46 l0_2 x84_4).f1) x92_5).f0))).setCell ⟨gb271, 1, none⟩ (.int .i64 ((rd_T53 ((rd_T46 l0_2 x84_4).f1) x92_5).f1))) = w71 at n0_ n1_ n2_ n3_ ⊢
            have BK259 := n0_
            have BK269 := n1_
            have BK271 := n2_
            have HB := n3_
            clear n0_ n1_ n2_ n3_
            have n0_ := Ah (blk_drew BK259.out)
            have n1_ := Ah (blk_drew BK269.out)
            have n2_ := Ah (blk_drew BK271.out)
            have n3_ := Ah (below_drew1 HB.out)
            clear BK259 BK269 BK271 HB
            have BK259 := n0_
            have BK269 := n1_
            have BK271 := n2_
            have HB := n3_
            clear n0_ n1_ n2_ n3_
            have p273 : 0 ≤ (t272 : Int) := od
            have q273 : t272 < (l0_1.length : Int) := od
            obtain ⟨ad273, e273, hx273_0⟩ := Kd.at_int HR0_1.out t272 p273 q273
            have hw273_0 := hx273_0
            cases e273
            replace hx273_0 := (HB.out.cell (World.block_lt_of_cell? w _ hx273_0)).trans hx273_0
            replace p273 := eq_true p273
            replace q273 := eq_true q273
            refine start_ (n := 10) (S := fun w' => w'.cell? ⟨gb259, 0, none⟩ = some (.int .i64 a0_0) ∧ w'.cell? ⟨gb259, 1, none⟩ = some (.slice (some ad273) l0_1.length c0_1) ∧ w'.cell? ⟨gb259, 2, none⟩ = some (.slice (some ad268) l0_2.length c0_2) ∧ w'.cell? ⟨gb271, 0, none⟩ = some (.string ((rd_T53 ((rd_T46 l0_2 x84_4).f1) x92_5).f0)) ∧ w'.cell? ⟨gb271, 1, none⟩ = some (.int .i64 ((rd_T53 ((rd_T46 l0_2 x84_4).f1) x92_5).f1)) ∧ w'.cell? (ad273.add (t272).toNat) = some (.int .i64 (rd l0_1 t272))) (ds := []) #[false, false, false, false, false, false, false, false, false, false] (by kernel_rfl) rfl rfl ⟨(blk_cell BK259.out 0).trans rfl, (blk_cell BK259.out 1).trans rfl, (blk_cell BK259.out 2).trans rfl, (blk_cell BK271.out 0).trans rfl, (blk_cell BK271.out 1).trans rfl, ((HB.out.cell (World.block_lt_of_cell? w _ hw273_0)).trans hw273_0)⟩ (fun hHeld => ?_); refine with_tabW impl_GoodDir.tab25 impl_GoodDir.bits25 (fun HT_ HW_ => ?_)
            generalize w71.drew = w72 at BK259 BK269 BK271 HB hx273_0 hHeld ⊢
            refine pureS 0 96 HT_.out ?_
            refine pureS 3 99 HT_.out ?_
            refine pureS 8 104 HT_.out ?_
            refine takeS 1 97 HT_.out HW_.out hHeld (hr := by rintro w' ⟨s0, s1, s2, s3, s4, s5⟩; go_simp; with_reducible rfl) (h := ?_)
            refine takeS 2 98 HT_.out HW_.out hHeld (hr := by rintro w' ⟨s0, s1, s2, s3, s4, s5⟩; go_simp; with_reducible rfl) (h := ?_)
            refine takeS 4 100 HT_.out HW_.out hHeld (hr := by rintro w' ⟨s0, s1, s2, s3, s4, s5⟩; go_simp; with_reducible rfl) (h := ?_)
            refine one_ (i := 5) (N := some 101) #[true, true, true, true, true, true, false, false, true, false] rfl rfl (one_of HT_.out (by kernel_rfl)) (by decide) (fun K hK => ?_)
            refine goes_ Tryd.func40 (by kernel_rfl) rfl #[.agg #[.int .i64 a0_0, .slice (some ad273) l0_1.length c0_1, .slice (some ad268) l0_2.length c0_2], .string ((rd_T53 ((rd_T46 l0_2 x84_4).f1) x92_5).f0)] (by rfl) rfl rfl (by (try simp only [List.map_toArray, List.map_cons, List.map_nil]); first | done | rfl | (simp only [List.length_drop, List.length_take]; rfl)) ?_
            with_reducible refine (impl_Dir_slotOf.calls k5 a0_0 _ _ l0_1 _ _ l0_2 ((rd_T53 ((rd_T46 l0_2 x84_4).f1) x92_5).f0) t272 _ ?side1 ?side2 ?side3 ?side4 A56.out).mono ?_
            (case side1 => exact cb HR0_1 HB)
            (case side2 => exact HC0_1.out)
            (case side3 => exact cb HR0_2 HB)
            (case side4 => exact HC0_2.out)
            rintro e w73 ⟨rfl, hb⟩
            refine ⟨_, rfl, ?_⟩
            have n0_ := Ah (bb BK259 hb)
            have n1_ := Ah (bb BK269 hb)
            have n2_ := Ah (bb BK271 hb)
            have n3_ := Ah (below_step (bs3 HB GE259 GE269 GE271) hb)
            clear BK259 BK269 BK271 HB
            have BK259 := n0_
            have BK269 := n1_
            have BK271 := n2_
            have HB := n3_
            clear n0_ n1_ n2_ n3_
            (try clear hb)
            (try clear hb2)
            (try clear hk)
            (try clear hi)
            refine hK.out _ _ ⟨(blk_cell BK259.out 0).trans rfl, (blk_cell BK259.out 1).trans rfl, (blk_cell BK259.out 2).trans rfl, (blk_cell BK271.out 0).trans rfl, (blk_cell BK271.out 1).trans rfl, ((HB.out.cell (World.block_lt_of_cell? w _ hw273_0)).trans hw273_0)⟩ (fun hHeld => ?_)
            clear hK K
            refine norm_ (a' := ?_) ?_ ?_
            rotate_left
            ·
             show Act.put _ (some 101) _ = _
             simp only [Act.put, List.setIfInBounds_toArray, List.set_cons_zero, List.set_cons_succ, i64_w, i32_w]
             rfl
            refine pureS 6 102 HT_.out ?_
            refine takeS 7 103 HT_.out HW_.out hHeld (hr := by rintro w' ⟨s0, s1, s2, s3, s4, s5⟩; go_simp; with_reducible rfl) (h := ?_)
            refine pureS 9 105 HT_.out ?_
            refine done_ (done_of HT_.out (by kernel_rfl)) ?_
            try go_wp2
            go_ret
            exact ⟨er, bs3 HB GE259 GE269 GE271⟩
           rw [if_pos c59] at H
           have c59b0 : ((rd l0_1 t272) == x84_4) = true := beq_iff_eq.mpr c59
           have c59b1 : ((rd l0_1 t272) != x84_4) = false := bne_eq_false_iff_eq.mpr c59
           clear c59
           have H' := Ah H
           clear H
           have p270 : 0 ≤ (x92_5 : Int) := od
           have q270 : x92_5 < (((rd_T46 l0_2 x84_4).f1).length : Int) := od
           obtain ⟨ad270, e270, hx270_0, hx270_1⟩ := at_T53 HR268_1.out x92_5 p270 q270
           cases e270
           replace hx270_0 := (HB.out.cell (World.block_lt_of_cell? w _ hx270_0)).trans hx270_0
           replace hx270_1 := (HB.out.cell (World.block_lt_of_cell? w _ hx270_1)).trans hx270_1
           replace p270 := eq_true p270
           replace q270 := eq_true q270
           try go_wp2_with (first | ((with_reducible refine gate_dst (N := 10) rfl ?_); (try (refine gate_guard (by rfl) ?_; dsimp only)); refine boxL 10 53 #[.string (⟨#[]⟩ : ByteArray), .int .i64 0] ?_; intro gb271 hg w60 BK271 hb; have GW271 := gw hg (bs2 HB GE259 GE269); have GE271 := gw hg (bs2 HB GE259 GE269); replace HB := Ah (below_step (bs2 HB GE259 GE269) hb); have NB259_271 := nn BK259 hg; have NB271_259 := nm BK259 hg; replace BK259 := nb BK259 hb; have NB269_271 := nn BK269 hg; have NB271_269 := nm BK269 hg; replace BK269 := nb BK269 hb; clear hb hg; have hnb61 := NB271_259.out; have hnc61 := NB259_271.out; have hnb62 := NB271_269.out; have hnc62 := NB269_271.out; obtain ⟨hcz63_0, hcz63_1⟩ := cz2 BK271; obtain ⟨hfz63_0, hfz63_1⟩ := fz2 BK271))
           have n0_ : Aside0 (((w60.setCell ⟨gb271, 0, none⟩ (.string ((rd_T53 ((rd_T46 l0_2 x84_4).f1) x92_5).f0))).setCell ⟨gb271, 1, none⟩ (.int .i64 ((rd_T53 ((rd_T46 l0_2 x84_4).f1) x92_5).f1))).heap[gb259]? = some (.cells #[.int .i64 a0_0, .slice A0_1 l0_1.length c0_1, .slice (some ad268) l0_2.length c0_2] 29 (0, 0))) := ⟨bf BK259 NB259_271⟩
           have n1_ : Aside0 (((w60.setCell ⟨gb271, 0, none⟩ (.string ((rd_T53 ((rd_T46 l0_2 x84_4).f1) x92_5).f0))).setCell ⟨gb271, 1, none⟩ (.int .i64 ((rd_T53 ((rd_T46 l0_2 x84_4).f1) x92_5).f1))).heap[gb269]? = some (.cells #[.int .i64 ((rd_T46 l0_2 x84_4).f0), .slice (some ad270) ((rd_T46 l0_2 x84_4).f1).length c268_1] 46 (0, 0))) := ⟨bf BK269 NB269_271⟩
           have n2_ : Aside0 (((w60.setCell ⟨gb271, 0, none⟩ (.string ((rd_T53 ((rd_T46 l0_2 x84_4).f1) x92_5).f0))).setCell ⟨gb271, 1, none⟩ (.int .i64 ((rd_T53 ((rd_T46 l0_2 x84_4).f1) x92_5).f1))).heap[gb271]? = some (.cells #[.string ((rd_T53 ((rd_T46 l0_2 x84_4).f1) x92_5).f0), .int .i64 ((rd_T53 ((rd_T46 l0_2 x84_4).f1) x92_5).f1)] 53 (0, 0))) := ⟨by (with_reducible repeat (first | refine blk_drewN ?_ _ | refine blk_drew ?_ | refine blk_alloc ?_ _)); refine blk_put (cs := #[.string ((rd_T53 ((rd_T46 l0_2 x84_4).f1) x92_5).f0), .int .i64 0]) ?_ 1 _ rfl; (with_reducible repeat (first | refine blk_drewN ?_ _ | refine blk_drew ?_ | refine blk_alloc ?_ _)); refine blk_put (cs := #[.string (⟨#[]⟩ : ByteArray), .int .i64 0]) ?_ 0 _ rfl; (with_reducible repeat (first | refine blk_drewN ?_ _ | refine blk_drew ?_ | refine blk_alloc ?_ _)); exact BK271.out⟩
           have n3_ : Aside0 (Below w.heap.size w ((w60.setCell ⟨gb271, 0, none⟩ (.string ((rd_T53 ((rd_T46 l0_2 x84_4).f1) x92_5).f0))).setCell ⟨gb271, 1, none⟩ (.int .i64 ((rd_T53 ((rd_T46 l0_2 x84_4).f1) x92_5).f1)))) := ⟨bs3 HB GE259 GE269 GE271⟩
           (try clear BK259)
           (try clear BK269)
           (try clear BK271)
           (try clear HB)
           generalize ((w60.setCell ⟨gb271, 0, none⟩ (.string ((rd_T53 ((rd_T46 l0_2 x84_4).f1) x92_5).f0))).setCell ⟨gb271, 1, none⟩ (.int .i64 ((rd_T53 ((rd_T46 l0_2 x84_4).f1) x92_5).f1))) = w64 at n0_ n1_ n2_ n3_ ⊢
           have BK259 := n0_
           have BK269 := n1_
           have BK271 := n2_
           have HB := n3_
           clear n0_ n1_ n2_ n3_
           have n0_ := Ah (blk_drew BK259.out)
           have n1_ := Ah (blk_drew BK269.out)
           have n2_ := Ah (blk_drew BK271.out)
           have n3_ := Ah (below_drew1 HB.out)
           clear BK259 BK269 BK271 HB
           have BK259 := n0_
           have BK269 := n1_
           have BK271 := n2_
           have HB := n3_
           clear n0_ n1_ n2_ n3_
           have p273 : 0 ≤ (t272 : Int) := od
           have q273 : t272 < (l0_1.length : Int) := od
           obtain ⟨ad273, e273, hx273_0⟩ := Kd.at_int HR0_1.out t272 p273 q273
           have hw273_0 := hx273_0
           cases e273
           replace hx273_0 := (HB.out.cell (World.block_lt_of_cell? w _ hx273_0)).trans hx273_0
           replace p273 := eq_true p273
           replace q273 := eq_true q273
           refine start_ (n := 10) (S := fun w' => w'.cell? ⟨gb259, 0, none⟩ = some (.int .i64 a0_0) ∧ w'.cell? ⟨gb259, 1, none⟩ = some (.slice (some ad273) l0_1.length c0_1) ∧ w'.cell? ⟨gb259, 2, none⟩ = some (.slice (some ad268) l0_2.length c0_2) ∧ w'.cell? ⟨gb271, 0, none⟩ = some (.string ((rd_T53 ((rd_T46 l0_2 x84_4).f1) x92_5).f0)) ∧ w'.cell? ⟨gb271, 1, none⟩ = some (.int .i64 ((rd_T53 ((rd_T46 l0_2 x84_4).f1) x92_5).f1)) ∧ w'.cell? (ad273.add (t272).toNat) = some (.int .i64 (rd l0_1 t272))) (ds := []) #[false, false, false, false, false, false, false, false, false, false] (by kernel_rfl) rfl rfl ⟨(blk_cell BK259.out 0).trans rfl, (blk_cell BK259.out 1).trans rfl, (blk_cell BK259.out 2).trans rfl, (blk_cell BK271.out 0).trans rfl, (blk_cell BK271.out 1).trans rfl, ((HB.out.cell (World.block_lt_of_cell? w _ hw273_0)).trans hw273_0)⟩ (fun hHeld => ?_); refine with_tabW impl_GoodDir.tab25 impl_GoodDir.bits25 (fun HT_ HW_ => ?_)
           generalize w64.drew = w65 at BK259 BK269 BK271 HB hx273_0 hHeld ⊢
           refine pureS 0 96 HT_.out ?_
           refine pureS 3 99 HT_.out ?_
           refine pureS 8 104 HT_.out ?_
           refine takeS 1 97 HT_.out HW_.out hHeld (hr := by rintro w' ⟨s0, s1, s2, s3, s4, s5⟩; go_simp; with_reducible rfl) (h := ?_)
           refine takeS 2 98 HT_.out HW_.out hHeld (hr := by rintro w' ⟨s0, s1, s2, s3, s4, s5⟩; go_simp; with_reducible rfl) (h := ?_)
           refine takeS 4 100 HT_.out HW_.out hHeld (hr := by rintro w' ⟨s0, s1, s2, s3, s4, s5⟩; go_simp; with_reducible rfl) (h := ?_)
           refine one_ (i := 5) (N := some 101) #[true, true, true, true, true, true, false, false, true, false] rfl rfl (one_of HT_.out (by kernel_rfl)) (by decide) (fun K hK => ?_)
           refine goes_ Tryd.func40 (by kernel_rfl) rfl #[.agg #[.int .i64 a0_0, .slice (some ad273) l0_1.length c0_1, .slice (some ad268) l0_2.length c0_2], .string ((rd_T53 ((rd_T46 l0_2 x84_4).f1) x92_5).f0)] (by rfl) rfl rfl (by (try simp only [List.map_toArray, List.map_cons, List.map_nil]); first | done | rfl | (simp only [List.length_drop, List.length_take]; rfl)) ?_
           with_reducible refine (impl_Dir_slotOf.calls k5 a0_0 _ _ l0_1 _ _ l0_2 ((rd_T53 ((rd_T46 l0_2 x84_4).f1) x92_5).f0) t272 _ ?side1 ?side2 ?side3 ?side4 A56.out).mono ?_
           (case side1 => exact cb HR0_1 HB)
           (case side2 => exact HC0_1.out)
           (case side3 => exact cb HR0_2 HB)
           (case side4 => exact HC0_2.out)
           rintro e w66 ⟨rfl, hb⟩
           refine ⟨_, rfl, ?_⟩
           have n0_ := Ah (bb BK259 hb)
           have n1_ := Ah (bb BK269 hb)
           have n2_ := Ah (bb BK271 hb)
           have n3_ := Ah (below_step (bs3 HB GE259 GE269 GE271) hb)
           clear BK259 BK269 BK271 HB
           have BK259 := n0_
           have BK269 := n1_
           have BK271 := n2_
           have HB := n3_
           clear n0_ n1_ n2_ n3_
           (try clear hb)
           (try clear hb2)
           (try clear hk)
           (try clear hi)
           refine hK.out _ _ ⟨(blk_cell BK259.out 0).trans rfl, (blk_cell BK259.out 1).trans rfl, (blk_cell BK259.out 2).trans rfl, (blk_cell BK271.out 0).trans rfl, (blk_cell BK271.out 1).trans rfl, ((HB.out.cell (World.block_lt_of_cell? w _ hw273_0)).trans hw273_0)⟩ (fun hHeld => ?_)
           clear hK K
           refine norm_ (a' := ?_) ?_ ?_
           rotate_left
           ·
            show Act.put _ (some 101) _ = _
            simp only [Act.put, List.setIfInBounds_toArray, List.set_cons_zero, List.set_cons_succ, i64_w, i32_w]
            rfl
           refine pureS 6 102 HT_.out ?_
           refine takeS 7 103 HT_.out HW_.out hHeld (hr := by rintro w' ⟨s0, s1, s2, s3, s4, s5⟩; go_simp; with_reducible rfl) (h := ?_)
           refine pureS 9 105 HT_.out ?_
           refine done_ (done_of HT_.out (by kernel_rfl)) ?_
           try go_wp2
           go_roundg k5
           case measure => have := HJ1.out; have := HK2.out; have := HJ38.out; have := HK4.out; have := HK5.out; omega
           case rel => exact ⟨(wrap64 (x92_5 + 1)), e3, H', ⟨by have := HJ1.out; have := HK2.out; have := HJ38.out; have := HK4.out; have := HK5.out; omega⟩, ⟨bk BK259⟩, ⟨bk BK269⟩, ⟨bs3 HB GE259 GE269 GE271⟩⟩

/-! ### slices_Clone_int_int: function 42 -/
-- slices.Clone: a copy in a row of the call's own; of nil: nil.
def slices_Clone_int_int.f (l0 : List Int) : Option (List Int) := if l0.length * 8 ≤ 140737488355328 then some l0 else none
set_option maxRecDepth 100000 in
theorem slices_Clone_int_int.calls (A0 : Option Addr) (c0 : Nat) (l0 : List Int) (r : List Int) (w : World) (hr0 : Kd.C (Kd.int .i64) w A0 l0.length l0) (hc0 : l0.length ≤ c0) (h : slices_Clone_int_int.f l0 = some r) :
    Calls Tryd.prog 42 #[.slice A0 l0.length c0] w fun e w' => ∃ v0_ : Value, e = .returned (v0_) ∧ Kd.R (Kd.int .i64) 3 w' w.heap.size (fun _ => True) v0_ r ∧ Below w.heap.size w w' := by
  have hus := Tryd.underlying22
  have huu : ∀ w, Sem.run Tryd.prog (underlying 22) w = .ok (TypeDesc.slice 3) w := run_underlying hus
  have hee : ∀ (w : World) (a : Option Addr) (n c n' c' : Nat), (binOp .eql 22 (.slice a n c) (.slice none n' c')).run Tryd.prog w = .ok (.bool a.isNone) w := fun w a n c n' c' => Lib.run_eql_slice_nil w _ _ a n c n' c' hus
  unfold slices_Clone_int_int.f at h
  by_cases hl : l0.length * 8 ≤ 140737488355328
  · rw [if_pos hl] at h
    obtain rfl := Option.some.inj h
    have hR := Aside0.mk hr0
    have hL := Aside0.mk hl
    clear hr0 h hl
    rcases A0 with _ | ad
    · have h0 : l0 = [] := by
        rcases Nat.eq_zero_or_pos l0.length with h0 | h0
        · exact List.eq_nil_of_length_eq_zero h0
        · obtain ⟨ad, h, _⟩ := hR.out.2.2 h0
          cases h
      subst h0
      go_enter Tryd.func42, Tryd.ntmps42
      go_wp2
      go_ret
      exact ⟨_, rfl, Kd.R_nil _ _ _ _ _, Below.refl _ _⟩
    · go_enter Tryd.func42, Tryd.ntmps42
      go_wp2_with (first
        | ((with_reducible refine gate_dst (N := 5) rfl ?_); refine Kd.R_lit (Kd.int .i64) _ 3 ?hg (N := 5) ?hd (xs := ([] : List Int)) (inner := []) (ok := fun _ => True) (okp := fun _ => True) ?hr ?hp (fun _ hk => hk) trivial (Below.refl _ _) (Nat.le_refl _) (by simp) ?_; (case hd => rfl); (case hg => rfl); (case hr => first | (go_simp; done) | (go_simp; rfl)); (case hp => exact (Reps.none _ _)); intro v391 w4 ho5 hb hg_ hnew_; clear hg_ hnew_; have n0_ := Aside0.mk (Kd.R_lower ho5 (Nat.le_refl _)); have n1_ := Aside0.mk hb; clear ho5 hb)
        | ((with_reducible refine gate_builtin (b := .append) (xs := #[.tmp 5, .tmp 6]) rfl ?_); at_builtin; refine Kd.R_append_rows (Kd.int .i64) (w0 := w) w.heap.size rfl (.tmp 5) (.tmp 6) 22 3 (.int .i64 0) 8 rfl hus info3 rfl (by decide) (by omega) v391 ([] : List Int) l0 _ _ _ (fun _ => True) (fun _ => False) rfl rfl ?aO ?aR (fun _ _ h => h) (fun _ h => h.elim) ?aF ?aB ?aS ?aL ?_; (case aR => exact Kd.C_below hR.out n1_.out); (case aB => exact n1_.out); (case aF => exact (fun _ _ => trivial)); (case aO => exact n0_.out); (case aS => exact n1_.out.size); (case aL => have := hL.out; simp only [List.length_nil, Nat.zero_add]; omega); intro v394 w6 ho hb hg hat; rw [List.nil_append] at ho; have m0_ := Aside0.mk ho; have m1_ := Aside0.mk hb; clear n0_ n1_ ho hb hg hat))
      go_ret
      exact ⟨_, rfl, m0_.out, m1_.out⟩
  · rw [if_neg hl] at h
    cases h

/-! ### impl_Name_43: function 43 -/
-- slices.Clone: a copy in a row of the call's own; of nil: nil.
def impl_Name_43.f (l0 : List (S53)) : Option (List (S53)) := if l0.length * 24 ≤ 140737488355328 then some l0 else none
set_option maxRecDepth 100000 in
theorem impl_Name_43.calls (A0 : Option Addr) (c0 : Nat) (l0 : List (S53)) (r : List (S53)) (w : World) (hr0 : Kd.C k53 w A0 l0.length l0) (hc0 : l0.length ≤ c0) (h : impl_Name_43.f l0 = some r) :
    Calls Tryd.prog 43 #[.slice A0 l0.length c0] w fun e w' => ∃ v0_ : Value, e = .returned (v0_) ∧ Kd.R k53 53 w' w.heap.size (fun _ => True) v0_ r ∧ Below w.heap.size w w' := by
  have hus := Tryd.underlying44
  have huu : ∀ w, Sem.run Tryd.prog (underlying 44) w = .ok (TypeDesc.slice 53) w := run_underlying hus
  have hee : ∀ (w : World) (a : Option Addr) (n c n' c' : Nat), (binOp .eql 44 (.slice a n c) (.slice none n' c')).run Tryd.prog w = .ok (.bool a.isNone) w := fun w a n c n' c' => Lib.run_eql_slice_nil w _ _ a n c n' c' hus
  unfold impl_Name_43.f at h
  by_cases hl : l0.length * 24 ≤ 140737488355328
  · rw [if_pos hl] at h
    obtain rfl := Option.some.inj h
    have hR := Aside0.mk hr0
    have hL := Aside0.mk hl
    clear hr0 h hl
    rcases A0 with _ | ad
    · have h0 : l0 = [] := by
        rcases Nat.eq_zero_or_pos l0.length with h0 | h0
        · exact List.eq_nil_of_length_eq_zero h0
        · obtain ⟨ad, h, _⟩ := hR.out.2.2 h0
          cases h
      subst h0
      go_enter Tryd.func43, Tryd.ntmps43
      go_wp2
      go_ret
      exact ⟨_, rfl, Kd.R_nil _ _ _ _ _, Below.refl _ _⟩
    · go_enter Tryd.func43, Tryd.ntmps43
      go_wp2_with (first
        | ((with_reducible refine gate_dst (N := 5) rfl ?_); refine Kd.R_lit k53 _ 53 ?hg (N := 5) ?hd (xs := ([] : List (S53))) (inner := []) (ok := fun _ => True) (okp := fun _ => True) ?hr ?hp (fun _ hk => hk) trivial (Below.refl _ _) (Nat.le_refl _) (by simp) ?_; (case hd => rfl); (case hg => rfl); (case hr => first | (go_simp; done) | (go_simp; rfl)); (case hp => exact (Reps.none _ _)); intro v391 w4 ho5 hb hg_ hnew_; clear hg_ hnew_; have n0_ := Aside0.mk (Kd.R_lower ho5 (Nat.le_refl _)); have n1_ := Aside0.mk hb; clear ho5 hb)
        | ((with_reducible refine gate_builtin (b := .append) (xs := #[.tmp 5, .tmp 6]) rfl ?_); at_builtin; refine Kd.R_append_rows k53 (w0 := w) w.heap.size rfl (.tmp 5) (.tmp 6) 44 53 (.agg #[(.string ⟨#[]⟩), (.int .i64 0)]) 24 rfl hus info53 rfl (by decide) (by omega) v391 ([] : List (S53)) l0 _ _ _ (fun _ => True) (fun _ => False) rfl rfl ?aO ?aR (fun _ _ h => h) (fun _ h => h.elim) ?aF ?aB ?aS ?aL ?_; (case aR => exact Kd.C_below hR.out n1_.out); (case aB => exact n1_.out); (case aF => exact (fun _ _ => trivial)); (case aO => exact n0_.out); (case aS => exact n1_.out.size); (case aL => have := hL.out; simp only [List.length_nil, Nat.zero_add]; omega); intro v394 w6 ho hb hg hat; rw [List.nil_append] at ho; have m0_ := Aside0.mk ho; have m1_ := Aside0.mk hb; clear n0_ n1_ ho hb hg hat))
      go_ret
      exact ⟨_, rfl, m0_.out, m1_.out⟩
  · rw [if_neg hl] at h
    cases h

/-! ### impl_ownDir: function 22 -/
def impl_ownDir.l0 : Nat → List (S46) → Int → Int → Int → List Int → List (S46) → Option (Int × List Int × (List (S46)))
 | 0, _, _, _, _, _, _ => none
 | k + 1, x13, x14, x15, x280000, x280001, x280002 => if x15 < x14 then (if 0 ≤ x15 then (if x15 < (x13.length : Int) then ((impl_Name_43.f ((rd_T46 x13 x15).f1)).bind fun t282 => (if x280002.length < 4398046511104 then (impl_ownDir.l0 k x13 x14 (wrap64 (x15 + 1)) x280000 x280001 (x280002 ++ [(⟨(rd_T46 x13 x15).f0, t282⟩ : S46)])) else (none))) else (none)) else (none)) else (some (x280000, x280001, x280002))
def impl_ownDir.f (k : Nat) (a0_0 : Int) (l0_1 : List Int) (l0_2 : List (S46)) : Option (Int × List Int × (List (S46))) := (slices_Clone_int_int.f l0_1).bind fun t276 => (impl_ownDir.l0 k l0_2 (l0_2.length : Int) 0 a0_0 t276 ([] : List (S46)))
theorem impl_ownDir.mono_l : ∀ k, (∀ y0 y1 y2 y3 y4 y5, LeO (impl_ownDir.l0 k y0 y1 y2 y3 y4 y5) (impl_ownDir.l0 (k + 1) y0 y1 y2 y3 y4 y5))
 | 0 => fun _ _ _ _ _ _ r h => by simp [impl_ownDir.l0] at h
 | k + 1 => by
  have ih0 := impl_ownDir.mono_l k
  ·
   intro y0 y1 y2 y3 y4 y5
   unfold impl_ownDir.l0
   repeat' first
   | (with_reducible exact ih0 _ _ _ _ _ _)
   | (with_reducible exact LeO.refl _)
   | (with_reducible exact LeO.none _)
   | (with_reducible refine LeO.ite ?_ ?_)
   | (with_reducible refine LeO.bind ?_ (fun _ => ?_))
   | exact ih0 _ _ _ _ _ _
   | exact LeO.none _
   | refine LeO.ite ?_ ?_
   | refine LeO.bind ?_ (fun _ => ?_)
theorem impl_ownDir.mono : ∀ a0 a1 a2 k, LeO (impl_ownDir.f k a0 a1 a2) (impl_ownDir.f (k + 1) a0 a1 a2) := by
 intro a0 a1 a2 k
 have ih0 := impl_ownDir.mono_l k
 unfold impl_ownDir.f
 repeat' first
   | (with_reducible exact ih0 _ _ _ _ _ _)
   | (with_reducible exact LeO.refl _)
   | (with_reducible exact LeO.none _)
   | (with_reducible refine LeO.ite ?_ ?_)
   | (with_reducible refine LeO.bind ?_ (fun _ => ?_))
   | exact ih0 _ _ _ _ _ _
   | exact LeO.none _
   | refine LeO.ite ?_ ?_
   | refine LeO.bind ?_ (fun _ => ?_)
def impl_ownDir.T1 : Bool × List (List Nat × List Nat) := (true, [([], []), ([0], [0]), ([], []), ([2], [2]), ([3], [3]), ([1, 4], [1, 4]), ([], []), ([6, 5, 4, 0, 1, 2, 3, 4, 5, 6], [5, 6])])
def impl_ownDir.B1 : List Nat := [0, 1, 0, 4, 12, 31, 0, 127]
theorem impl_ownDir.tab1 : rtab .any (opsOf Tryd.f22 1) = impl_ownDir.T1 := by kernel_rfl
theorem impl_ownDir.bits1 : waitsOk impl_ownDir.T1.2 impl_ownDir.B1 = true := by kernel_rfl
def impl_ownDir.T5 : Bool × List (List Nat × List Nat) := (true, [([], []), ([0], [0]), ([], []), ([2], [2]), ([], []), ([4], [4]), ([5], [5]), ([3, 6], [3, 6]), ([7], [7]), ([1, 8, 6], [1, 8]), ([0, 1, 2, 3, 4, 5, 6, 7, 8, 9], []), ([10, 9, 9, 0, 1, 2, 3, 4, 5, 6, 7, 8, 9], [9, 10])])
def impl_ownDir.B5 : List Nat := [0, 1, 0, 4, 0, 16, 48, 124, 252, 511, 1023, 2047]
theorem impl_ownDir.tab5 : rtab .any (opsOf Tryd.f22 5) = impl_ownDir.T5 := by kernel_rfl
theorem impl_ownDir.bits5 : waitsOk impl_ownDir.T5.2 impl_ownDir.B5 = true := by kernel_rfl
set_option maxHeartbeats 8000000 in
set_option maxRecDepth 100000 in
theorem impl_ownDir.calls (k : Nat) (a0_0 : Int) (A0_1 : Option Addr) (c0_1 : Nat) (l0_1 : List Int) (A0_2 : Option Addr) (c0_2 : Nat) (l0_2 : List (S46)) (r1 : Int) (r2 : List Int) (r3 : List (S46)) (w : World) (hr0_1 : Kd.C (Kd.int .i64) w A0_1 l0_1.length l0_1) (hc0_1 : l0_1.length ≤ c0_1) (hr0_2 : Kd.C k46 w A0_2 l0_2.length l0_2) (hc0_2 : l0_2.length ≤ c0_2) (h : impl_ownDir.f k a0_0 l0_1 l0_2 = some (r1, r2, r3)) :
  Calls Tryd.prog 22 #[.agg #[.int .i64 a0_0, .slice A0_1 l0_1.length c0_1, .slice A0_2 l0_2.length c0_2]] w fun e w' => ∃ v1_ v2_ : Value, e = .returned (.agg #[.int .i64 r1, v1_, v2_]) ∧ Kd.R (Kd.int .i64) 3 w' w.heap.size (fun _ => True) v1_ r2 ∧ Kd.S k46 46 w' w.heap.size (fun _ => True) v2_ r3 ∧ Below w.heap.size w w' := by
 have hu29 := Tryd.underlying29
 have hu46 := Tryd.underlying46
 have HR0_1 := Ah hr0_1
 have HC0_1 := Ah hc0_1
 clear hr0_1 hc0_1
 have HR0_2 := Ah hr0_2
 have HC0_2 := Ah hc0_2
 clear hr0_2 hc0_2
 have HB := Ah (Below.refl w.heap.size w)
 have H : ((slices_Clone_int_int.f l0_1).bind fun t276 => (impl_ownDir.l0 k l0_2 (l0_2.length : Int) 0 a0_0 t276 ([] : List (S46)))) = some (r1, r2, r3) := h
 clear h
 replace H := Option.bind_eq_some_iff.mp H
 obtain ⟨t276, A20, H⟩ := H
 try dsimp only at H
 have A2 := Ah A20
 clear A20
 have H' := Ah H
 clear H
 go_enter Tryd.func22, Tryd.ntmps22
 try go_wp2_with (first | ((with_reducible refine gate_dst (N := 1) rfl ?_); refine boxL 1 29 #[.int .i64 a0_0, .slice A0_1 l0_1.length c0_1, .slice A0_2 l0_2.length c0_2] ?_; intro gb274 hg w3 BK274 hb; have GW274 := gw hg (bs HB); have GE274 := gw hg (bs HB); replace HB := Ah (below_step (bs HB) hb); clear hb hg) | ((with_reducible refine gate_dst (N := 2) rfl ?_); refine boxL 2 29 #[.int .i64 0, .slice none 0 0, .slice none 0 0] ?_; intro gb275 hg w4 BK275 hb; have GW275 := gw hg (bs1 HB GE274); have GE275 := gw hg (bs1 HB GE274); replace HB := Ah (below_step (bs1 HB GE274) hb); have NB274_275 := nn BK274 hg; have NB275_274 := nm BK274 hg; replace BK274 := nb BK274 hb; clear hb hg))
 have n0_ := Ah (blk_drew BK274.out)
 have n1_ := Ah (blk_drew BK275.out)
 have n2_ := Ah (below_drew1 HB.out)
 clear BK274 BK275 HB
 have BK274 := n0_
 have BK275 := n1_
 have HB := n2_
 clear n0_ n1_ n2_
 refine start_ (n := 8) (S := fun w' => w'.cell? ⟨gb274, 0, none⟩ = some (.int .i64 a0_0) ∧ w'.cell? ⟨gb274, 1, none⟩ = some (.slice A0_1 l0_1.length c0_1) ∧ w'.cell? ⟨gb274, 2, none⟩ = some (.slice A0_2 l0_2.length c0_2)) (ds := []) #[false, false, false, false, false, false, false, false] (by kernel_rfl) rfl rfl ⟨(blk_cell BK274.out 0).trans rfl, (blk_cell BK274.out 1).trans rfl, (blk_cell BK274.out 2).trans rfl⟩ (fun hHeld => ?_); refine with_tabW impl_ownDir.tab1 impl_ownDir.bits1 (fun HT_ HW_ => ?_)
 generalize w4.drew = w5 at BK274 BK275 HB hHeld ⊢
 refine pureS 0 6 HT_.out ?_
 refine pureS 2 8 HT_.out ?_
 refine takeS 1 7 HT_.out HW_.out hHeld (hr := by rintro w' ⟨s0, s1, s2⟩; go_simp; with_reducible rfl) (h := ?_)
 refine takeS 3 9 HT_.out HW_.out hHeld (hr := by rintro w' ⟨s0, s1, s2⟩; go_simp; with_reducible rfl) (h := ?_)
 refine join_ (σ := Value × Nat) 1 #[true, true, true, true, true, true, true, false] (fun s_ => [(10, s_.1), (3, .pointer (some ⟨s_.2, 0, none⟩)), (11, .agg #[.int .i64 a0_0, s_.1, .slice none 0 0])]) (fun s_ w' => (w'.cell? ⟨gb274, 0, none⟩ = some (.int .i64 a0_0) ∧ w'.cell? ⟨gb274, 1, none⟩ = some (.slice A0_1 l0_1.length c0_1) ∧ w'.cell? ⟨gb274, 2, none⟩ = some (.slice A0_2 l0_2.length c0_2)) ∧ (Kd.R (Kd.int .i64) 3 w' w.heap.size (fun _ => True) s_.1 t276) ∧ (w'.heap[gb274]? = some (.cells #[.int .i64 a0_0, .slice A0_1 l0_1.length c0_1, .slice A0_2 l0_2.length c0_2] 29 (0, 0))) ∧ (w'.heap[gb275]? = some (.cells #[.int .i64 0, .slice none 0 0, .slice none 0 0] 29 (0, 0))) ∧ (w'.heap[s_.2]? = some (.cells #[.int .i64 0, .slice none 0 0, .slice none 0 0] 29 (0, 0))) ∧ (w.heap.size ≤ s_.2) ∧ (w.heap.size ≤ s_.2) ∧ (gb274 ≠ s_.2) ∧ (s_.2 ≠ gb274) ∧ (gb275 ≠ s_.2) ∧ (s_.2 ≠ gb275) ∧ (Below w.heap.size w w')) ?_ ?_
 rotate_left
 ·
  intro hCont
  refine two_ (i := 4) (j := 6) (Ni := some 10) (Nj := some 3) #[true, true, true, true, true, false, false, false] #[true, true, true, true, false, false, true, false] rfl rfl rfl rfl (two_of HT_.out (by kernel_rfl)) (by decide) (by decide) (fun K hK => ?_) (fun K hK => ?_)
  ·
   skip
   refine goes_ Tryd.func42 (by kernel_rfl) rfl #[.slice A0_1 l0_1.length c0_1] (by rfl) rfl rfl (by (try simp only [List.map_toArray, List.map_cons, List.map_nil]); first | done | rfl | (simp only [List.length_drop, List.length_take]; rfl)) ?_
   with_reducible refine (slices_Clone_int_int.calls _ _ l0_1 t276 _ ?side1 ?side2 A2.out).mono ?_
   (case side1 => exact cb HR0_1 HB)
   (case side2 => exact HC0_1.out)
   rintro e w6 ⟨v277, rfl, ho0, hb⟩
   refine ⟨_, rfl, ?_⟩
   have n0_ := Ah (Kd.R_lower ho0 (below_size (bs2 HB GE274 GE275)))
   have n1_ := Ah (bb BK274 hb)
   have n2_ := Ah (bb BK275 hb)
   have n3_ := Ah (below_step (bs2 HB GE274 GE275) hb)
   clear BK274 BK275 HB
   have HO278 := n0_
   have BK274 := n1_
   have BK275 := n2_
   have HB := n3_
   clear n0_ n1_ n2_ n3_
   (try clear hb)
   (try clear hb2)
   (try clear hk)
   (try clear hi)
   (try clear ho0)
   obtain ⟨Ao7, co7, eo7⟩ := Kd.R_slice HO278.out
   (first | subst eo7 | (injection eo7 with f1_ f2_ f3_; have f4_ := f1_.symm; have f5_ := f3_.symm; clear f1_ f2_ f3_; subst f4_; subst f5_))
   refine hK.out _ _ ⟨(blk_cell BK274.out 0).trans rfl, (blk_cell BK274.out 1).trans rfl, (blk_cell BK274.out 2).trans rfl⟩ (fun hHeld => ?_)
   clear hK K
   refine norm_ (a' := ?_) ?_ ?_
   rotate_left
   ·
    show Act.put _ (some 10) _ = _
    simp only [Act.put, List.setIfInBounds_toArray, List.set_cons_zero, List.set_cons_succ, i64_w, i32_w]
    rfl
   refine pureS 5 11 HT_.out ?_
   refine one_ (i := 6) (N := some 3) #[true, true, true, true, true, true, true, false] rfl rfl (one_of HT_.out (by kernel_rfl)) (by decide) (fun K hK => ?_)
   refine box_step ?hg (N := 3) ?hd (cs := #[.int .i64 0, .slice none 0 0, .slice none 0 0]) (t := 29) ?hr ?_; (case hd => rfl); (case hg => rfl); (case hr => first | (go_simp; done) | (go_simp; rfl))
   intro gb279 hg w8 hbox hb
   have n0_ := Ah (Kd.R_below (rr HO278.out) hb)
   have n1_ := Ah (bb BK274 hb)
   have n2_ := Ah (bb BK275 hb)
   have n3_ := Ah (below_step (bs2 HB GE274 GE275) hb)
   have n4_ := Ah (hbox)
   have n5_ := gw hg (bs2 HB GE274 GE275)
   have n6_ := gw hg (bs2 HB GE274 GE275)
   have n7_ := nn BK274 hg
   have n8_ := nm BK274 hg
   have n9_ := nn BK275 hg
   have n10_ := nm BK275 hg
   clear HO278 BK274 BK275 HB
   have HO278 := n0_
   have BK274 := n1_
   have BK275 := n2_
   have HB := n3_
   have BK279 := n4_
   have GW279 := n5_
   have GE279 := n6_
   have NB274_279 := n7_
   have NB279_274 := n8_
   have NB275_279 := n9_
   have NB279_275 := n10_
   clear n0_ n1_ n2_ n3_ n4_ n5_ n6_ n7_ n8_ n9_ n10_ hb hbox hg
   refine hK.out _ _ ⟨(blk_cell BK274.out 0).trans rfl, (blk_cell BK274.out 1).trans rfl, (blk_cell BK274.out 2).trans rfl⟩ (fun hHeld => ?_)
   clear hK K
   refine norm_ (a' := ?_) ?_ ?_
   rotate_left
   ·
    show Act.put _ (some 3) _ = _
    simp only [Act.put, List.setIfInBounds_toArray, List.set_cons_zero, List.set_cons_succ, i64_w, i32_w]
    rfl
   exact norm_ (by simp only [putAll, Act.put, List.setIfInBounds_toArray, List.set_cons_zero, List.set_cons_succ]) (hCont (.slice Ao7 t276.length co7, gb279) _ ⟨hHeld, (rr HO278.out), (bk BK274), (bk BK275), (bk BK279), GW279.out, GE279.out, NB274_279.out, NB279_274.out, NB275_279.out, NB279_275.out, (bs3 HB GE274 GE275 GE279)⟩)
  ·
   skip
   refine box_step ?hg (N := 3) ?hd (cs := #[.int .i64 0, .slice none 0 0, .slice none 0 0]) (t := 29) ?hr ?_; (case hd => rfl); (case hg => rfl); (case hr => first | (go_simp; done) | (go_simp; rfl))
   intro gb279 hg w6 hbox hb
   have n0_ := Ah (bb BK274 hb)
   have n1_ := Ah (bb BK275 hb)
   have n2_ := Ah (below_step (bs2 HB GE274 GE275) hb)
   have n3_ := Ah (hbox)
   have n4_ := gw hg (bs2 HB GE274 GE275)
   have n5_ := gw hg (bs2 HB GE274 GE275)
   have n6_ := nn BK274 hg
   have n7_ := nm BK274 hg
   have n8_ := nn BK275 hg
   have n9_ := nm BK275 hg
   clear BK274 BK275 HB
   have BK274 := n0_
   have BK275 := n1_
   have HB := n2_
   have BK279 := n3_
   have GW279 := n4_
   have GE279 := n5_
   have NB274_279 := n6_
   have NB279_274 := n7_
   have NB275_279 := n8_
   have NB279_275 := n9_
   clear n0_ n1_ n2_ n3_ n4_ n5_ n6_ n7_ n8_ n9_ hb hbox hg
   refine hK.out _ _ ⟨(blk_cell BK274.out 0).trans rfl, (blk_cell BK274.out 1).trans rfl, (blk_cell BK274.out 2).trans rfl⟩ (fun hHeld => ?_)
   clear hK K
   refine norm_ (a' := ?_) ?_ ?_
   rotate_left
   ·
    show Act.put _ (some 3) _ = _
    simp only [Act.put, List.setIfInBounds_toArray, List.set_cons_zero, List.set_cons_succ, i64_w, i32_w]
    rfl
   refine one_ (i := 4) (N := some 10) #[true, true, true, true, true, false, true, false] rfl rfl (one_of HT_.out (by kernel_rfl)) (by decide) (fun K hK => ?_)
   refine goes_ Tryd.func42 (by kernel_rfl) rfl #[.slice A0_1 l0_1.length c0_1] (by rfl) rfl rfl (by (try simp only [List.map_toArray, List.map_cons, List.map_nil]); first | done | rfl | (simp only [List.length_drop, List.length_take]; rfl)) ?_
   with_reducible refine (slices_Clone_int_int.calls _ _ l0_1 t276 _ ?side1 ?side2 A2.out).mono ?_
   (case side1 => exact cb HR0_1 HB)
   (case side2 => exact HC0_1.out)
   rintro e w7 ⟨v277, rfl, ho0, hb⟩
   refine ⟨_, rfl, ?_⟩
   have n0_ := Ah (Kd.R_lower ho0 (below_size (bs3 HB GE274 GE275 GE279)))
   have n1_ := Ah (bb BK274 hb)
   have n2_ := Ah (bb BK275 hb)
   have n3_ := Ah (bb BK279 hb)
   have n4_ := Ah (below_step (bs3 HB GE274 GE275 GE279) hb)
   clear BK274 BK275 BK279 HB
   have HO278 := n0_
   have BK274 := n1_
   have BK275 := n2_
   have BK279 := n3_
   have HB := n4_
   clear n0_ n1_ n2_ n3_ n4_
   (try clear hb)
   (try clear hb2)
   (try clear hk)
   (try clear hi)
   (try clear ho0)
   obtain ⟨Ao8, co8, eo8⟩ := Kd.R_slice HO278.out
   (first | subst eo8 | (injection eo8 with f1_ f2_ f3_; have f4_ := f1_.symm; have f5_ := f3_.symm; clear f1_ f2_ f3_; subst f4_; subst f5_))
   refine hK.out _ _ ⟨(blk_cell BK274.out 0).trans rfl, (blk_cell BK274.out 1).trans rfl, (blk_cell BK274.out 2).trans rfl⟩ (fun hHeld => ?_)
   clear hK K
   refine norm_ (a' := ?_) ?_ ?_
   rotate_left
   ·
    show Act.put _ (some 10) _ = _
    simp only [Act.put, List.setIfInBounds_toArray, List.set_cons_zero, List.set_cons_succ, i64_w, i32_w]
    rfl
   refine pureS 5 11 HT_.out ?_
   exact norm_ (by simp only [putAll, Act.put, List.setIfInBounds_toArray, List.set_cons_zero, List.set_cons_succ]) (hCont (.slice Ao8 t276.length co8, gb279) _ ⟨hHeld, (rr HO278.out), (bk BK274), (bk BK275), (bk BK279), GW279.out, GE279.out, NB274_279.out, NB279_274.out, NB275_279.out, NB279_275.out, (bs3 HB GE274 GE275 GE279)⟩)
 rintro ⟨v277, gb279⟩ w9 ⟨hS_, h0_, h1_, h2_, h3_, h4_, h5_, h6_, h7_, h8_, h9_, h10_⟩
 have n0_ : Aside0 (Kd.R (Kd.int .i64) 3 w9 w.heap.size (fun _ => True) v277 t276) := ⟨h0_⟩
 have n1_ : Aside0 (w9.heap[gb274]? = some (.cells #[.int .i64 a0_0, .slice A0_1 l0_1.length c0_1, .slice A0_2 l0_2.length c0_2] 29 (0, 0))) := ⟨h1_⟩
 have n2_ : Aside0 (w9.heap[gb275]? = some (.cells #[.int .i64 0, .slice none 0 0, .slice none 0 0] 29 (0, 0))) := ⟨h2_⟩
 have n3_ : Aside0 (w9.heap[gb279]? = some (.cells #[.int .i64 0, .slice none 0 0, .slice none 0 0] 29 (0, 0))) := ⟨h3_⟩
 have n4_ : Aside0 (w.heap.size ≤ gb279) := ⟨h4_⟩
 have n5_ : Aside0 (w.heap.size ≤ gb279) := ⟨h5_⟩
 have n6_ : Aside0 (gb274 ≠ gb279) := ⟨h6_⟩
 have n7_ : Aside0 (gb279 ≠ gb274) := ⟨h7_⟩
 have n8_ : Aside0 (gb275 ≠ gb279) := ⟨h8_⟩
 have n9_ : Aside0 (gb279 ≠ gb275) := ⟨h9_⟩
 have n10_ : Aside0 (Below w.heap.size w w9) := ⟨h10_⟩
 clear BK274 BK275 HB h0_ h1_ h2_ h3_ h4_ h5_ h6_ h7_ h8_ h9_ h10_
 have HO278 := n0_
 have BK274 := n1_
 have BK275 := n2_
 have BK279 := n3_
 have GW279 := n4_
 have GE279 := n5_
 have NB274_279 := n6_
 have NB279_274 := n7_
 have NB275_279 := n8_
 have NB279_275 := n9_
 have HB := n10_
 clear n0_ n1_ n2_ n3_ n4_ n5_ n6_ n7_ n8_ n9_ n10_
 have hHeld : w9.cell? ⟨gb274, 0, none⟩ = some (.int .i64 a0_0) ∧ w9.cell? ⟨gb274, 1, none⟩ = some (.slice A0_1 l0_1.length c0_1) ∧ w9.cell? ⟨gb274, 2, none⟩ = some (.slice A0_2 l0_2.length c0_2) := hS_
 obtain ⟨Ao10, co10, eo10⟩ := Kd.R_slice HO278.out
 (first | subst eo10 | (injection eo10 with f1_ f2_ f3_; have f4_ := f1_.symm; have f5_ := f3_.symm; clear f1_ f2_ f3_; subst f4_; subst f5_))
 refine norm_ (a' := ?_) ?_ ?_
 rotate_left
 ·
  simp only [putAll, Act.put, List.setIfInBounds_toArray, List.set_cons_zero, List.set_cons_succ]
  rfl
 refine one_ (i := 7) (N := none) #[true, true, true, true, true, true, true, true] rfl rfl (one_of HT_.out (by kernel_rfl)) (by decide) (fun K hK => ?_)
 have hs11 : w9.cell? ⟨gb279, 0, none⟩ = some (.int .i64 0) := (blk_cell BK279.out 0).trans rfl
 have hfs11 := blk_frozen BK279.out 0
 have hns11_0 := NB274_279.out
 have hns11_1 := NB275_279.out
 have hms11_0 := NB279_274.out
 have hms11_1 := NB279_275.out
 have hs12 : w9.cell? ⟨gb279, 1, none⟩ = some (.slice none 0 0) := (blk_cell BK279.out 1).trans rfl
 have hfs12 := blk_frozen BK279.out 1
 have hns12_0 := NB274_279.out
 have hns12_1 := NB275_279.out
 have hms12_0 := NB279_274.out
 have hms12_1 := NB279_275.out
 have hs13 : w9.cell? ⟨gb279, 2, none⟩ = some (.slice none 0 0) := (blk_cell BK279.out 2).trans rfl
 have hfs13 := blk_frozen BK279.out 2
 have hns13_0 := NB274_279.out
 have hns13_1 := NB275_279.out
 have hms13_0 := NB279_274.out
 have hms13_1 := NB279_275.out
 refine skip_ (w1 := ?_) (by rfl) rfl ?_ ?_
 rotate_left
 ·
  go_simp
  rfl
 refine hK.out _ _ ⟨((cell_far (p := ⟨gb279, _, none⟩) NB274_279.out _).trans (((cell_far (p := ⟨gb279, _, none⟩) NB274_279.out _).trans (((cell_far (p := ⟨gb279, _, none⟩) NB274_279.out _).trans (hHeld.1)))))), ((cell_far (p := ⟨gb279, _, none⟩) NB274_279.out _).trans (((cell_far (p := ⟨gb279, _, none⟩) NB274_279.out _).trans (((cell_far (p := ⟨gb279, _, none⟩) NB274_279.out _).trans (hHeld.2.1)))))), ((cell_far (p := ⟨gb279, _, none⟩) NB274_279.out _).trans (((cell_far (p := ⟨gb279, _, none⟩) NB274_279.out _).trans (((cell_far (p := ⟨gb279, _, none⟩) NB274_279.out _).trans (hHeld.2.2))))))⟩ (fun hHeld => ?_)
 clear hK K
 refine done_ (done_of HT_.out (by kernel_rfl)) ?_
 have hnb14 := NB274_275.out
 have hnc14 := NB275_274.out
 have hnb15 := NB274_279.out
 have hnc15 := NB279_274.out
 obtain ⟨hcz16_0, hcz16_1, hcz16_2⟩ := cz3 BK274
 obtain ⟨hfz16_0, hfz16_1, hfz16_2⟩ := fz3 BK274
 try go_wp2
 go_loopg [15] k (fun kq v15 w' => ∃ (x15_1 : Int) (x280002_1 : List (S46)) (u280002 : Value), v15 = .int .i64 x15_1 ∧ Aside0 (impl_ownDir.l0 kq l0_2 (l0_2.length : Int) x15_1 a0_0 t276 x280002_1 = some (r1, r2, r3)) ∧ Aside0 (kq ≤ k) ∧ Aside0 (Kd.R (Kd.int .i64) 3 w' w.heap.size (fun _ => True) (.slice Ao10 t276.length co10) t276) ∧ Aside0 (Kd.S k46 46 w' w.heap.size (fun _ => True) u280002 x280002_1) ∧ Aside0 (w'.heap[gb274]? = some (.cells #[.int .i64 a0_0, (.slice A0_1 l0_1.length c0_1), (.slice A0_2 l0_2.length c0_2)] 29 (0, 0))) ∧ Aside0 (w'.heap[gb275]? = some (.cells #[.int .i64 0, (.slice none 0 0), (.slice none 0 0)] 29 (0, 0))) ∧ Aside0 (w'.heap[gb279]? = some (.cells #[.int .i64 a0_0, (.slice Ao10 t276.length co10), u280002] 29 (0, 0))) ∧ Aside0 (Below w.heap.size w w'))
 case atStart => exact ⟨(0), (([] : List (S46))), (.slice none 0 0), e3, H', ⟨Nat.le_refl _⟩, ⟨by (with_reducible repeat (first | apply Kd.R_alloc | apply Kd.R_drewN | apply Kd.R_drew)); exact Kd.R_mono (Kd.R_far (p := ⟨gb279, 2, none⟩) (Kd.R_far (p := ⟨gb279, 1, none⟩) (Kd.R_far (p := ⟨gb279, 0, none⟩) (Kd.R_types HO278.out BK279.out (by decide)) (fun _ hk => hk.2) (.int .i64 a0_0)) (fun _ hk => hk.2) (.slice Ao10 t276.length co10)) (fun _ hk => hk.2) (.slice none 0 0)) (fun _ hk => trivial)⟩, ⟨by first | exact Kd.S_nil _ _ _ _ _ | exact Kd.N_nil _ _ _ _ _ | exact Kd.V_nil _ _ _ _ _ | exact Kd.Q_nil _ _ _ _ _ | exact Kd.R_nil _ _ _ _ _⟩, ⟨bf BK274 NB274_279⟩, ⟨bf BK275 NB275_279⟩, ⟨by (with_reducible repeat (first | refine blk_drewN ?_ _ | refine blk_drew ?_ | refine blk_alloc ?_ _)); refine blk_put (cs := #[.int .i64 a0_0, .slice Ao10 t276.length co10, .slice none 0 0]) ?_ 2 _ rfl; (with_reducible repeat (first | refine blk_drewN ?_ _ | refine blk_drew ?_ | refine blk_alloc ?_ _)); refine blk_put (cs := #[.int .i64 a0_0, .slice none 0 0, .slice none 0 0]) ?_ 1 _ rfl; (with_reducible repeat (first | refine blk_drewN ?_ _ | refine blk_drew ?_ | refine blk_alloc ?_ _)); refine blk_put (cs := #[.int .i64 0, .slice none 0 0, .slice none 0 0]) ?_ 0 _ rfl; (with_reducible repeat (first | refine blk_drewN ?_ _ | refine blk_drew ?_ | refine blk_alloc ?_ _)); exact BK279.out⟩, ⟨bs3 HB GE274 GE275 GE279⟩⟩
 case round =>
  clear H'
  try clear c1
  try clear c2
  try clear p2
  try clear c4
  try clear c14
  try clear c15
  try clear hcz16_0 hcz16_1 hcz16_2
  try clear hfz16_0 hfz16_1 hfz16_2
  obtain ⟨x15_1, x280002_1, u280002, rfl, HA, HK1, HO_280001, HO_280002, BK274, BK275, BK279, HB⟩ := hrel
  cases gk with
  | zero => exact absurd HA.out (by simp [impl_ownDir.l0])
  | succ k1 =>
   have H := HA.out
   clear HA
   simp only [impl_ownDir.l0] at H
   by_cases c17 : x15_1 < (l0_2.length : Int)
   rotate_left
   ·
    rw [if_neg c17] at H
    have c17b0 : decide (x15_1 < (l0_2.length : Int)) = false := decide_eq_false c17
    clear c17
    simp only [Option.some.injEq, Prod.mk.injEq] at H
    obtain ⟨rfl, rfl, rfl⟩ := H
    have hnb34 := NB279_274.out
    have hnc34 := NB274_279.out
    have hnb35 := NB279_275.out
    have hnc35 := NB275_279.out
    obtain ⟨hcz36_0, hcz36_1, hcz36_2⟩ := cz3 BK279
    obtain ⟨hfz36_0, hfz36_1, hfz36_2⟩ := fz3 BK279
    have hnb37 := NB275_274.out
    have hnc37 := NB274_275.out
    obtain ⟨hcz38_0, hcz38_1, hcz38_2⟩ := cz3 BK275
    obtain ⟨hfz38_0, hfz38_1, hfz38_2⟩ := fz3 BK275
    obtain ⟨Ao39, co39, eo39⟩ := Kd.S_slice HO_280002.out
    subst eo39
    go_wp2
    refine bodyPost_ret (results_cell_row rfl _ _ gb275 29 #[.int .i64 a0_0, .slice Ao10 t276.length co10, .slice Ao39 x280002_1.length co39] (0, 0) _ rfl (by (with_reducible repeat (first | refine blk_drewN ?_ _ | refine blk_drew ?_ | refine blk_alloc ?_ _)); refine blk_put (cs := #[.int .i64 a0_0, .slice Ao10 t276.length co10, .slice none 0 0]) ?_ 2 _ rfl; (with_reducible repeat (first | refine blk_drewN ?_ _ | refine blk_drew ?_ | refine blk_alloc ?_ _)); refine blk_put (cs := #[.int .i64 a0_0, .slice none 0 0, .slice none 0 0]) ?_ 1 _ rfl; (with_reducible repeat (first | refine blk_drewN ?_ _ | refine blk_drew ?_ | refine blk_alloc ?_ _)); refine blk_put (cs := #[.int .i64 0, .slice none 0 0, .slice none 0 0]) ?_ 0 _ rfl; (with_reducible repeat (first | refine blk_drewN ?_ _ | refine blk_drew ?_ | refine blk_alloc ?_ _)); exact BK275.out) Tryd.underlying29 rfl (by kernel_rfl)) rfl ?_
    exact ⟨_, _, er, by (with_reducible repeat (first | apply Kd.R_alloc | apply Kd.R_drewN | apply Kd.R_drew)); exact Kd.R_mono (Kd.R_far (p := ⟨gb275, 2, none⟩) (Kd.R_far (p := ⟨gb275, 1, none⟩) (Kd.R_far (p := ⟨gb275, 0, none⟩) (Kd.R_types HO_280001.out BK275.out (by decide)) (fun _ hk => hk.2) (.int .i64 a0_0)) (fun _ hk => hk.2) (.slice Ao10 t276.length co10)) (fun _ hk => hk.2) (.slice Ao39 x280002_1.length co39)) (fun _ hk => trivial), by (with_reducible repeat (first | apply Kd.S_alloc | apply Kd.S_drewN | apply Kd.S_drew)); exact Kd.S_mono (Kd.S_far (p := ⟨gb275, 2, none⟩) (Kd.S_far (p := ⟨gb275, 1, none⟩) (Kd.S_far (p := ⟨gb275, 0, none⟩) (Kd.S_types HO_280002.out BK275.out (by decide)) (fun _ hk => hk.2) (.int .i64 a0_0)) (fun _ hk => hk.2) (.slice Ao10 t276.length co10)) (fun _ hk => hk.2) (.slice Ao39 x280002_1.length co39)) (fun _ hk => trivial), bs3 HB GE274 GE275 GE279⟩
   rw [if_pos c17] at H
   have c17b0 : decide (x15_1 < (l0_2.length : Int)) = true := decide_eq_true c17
   clear c17
   by_cases c18 : 0 ≤ x15_1
   rotate_left
   ·
    rw [if_neg c18] at H
    exact absurd H (by simp)
   rw [if_pos c18] at H
   have c18b0 : decide (0 ≤ x15_1) = true := decide_eq_true c18
   clear c18
   by_cases c19 : x15_1 < (l0_2.length : Int)
   rotate_left
   ·
    rw [if_neg c19] at H
    exact absurd H (by simp)
   rw [if_pos c19] at H
   have c19b0 : decide (x15_1 < (l0_2.length : Int)) = true := decide_eq_true c19
   clear c19
   replace H := Option.bind_eq_some_iff.mp H
   obtain ⟨t282, A200, H⟩ := H
   try dsimp only at H
   have A20 := Ah A200
   clear A200
   by_cases c21 : x280002_1.length < 4398046511104
   rotate_left
   ·
    rw [if_neg c21] at H
    exact absurd H (by simp)
   rw [if_pos c21] at H
   have LMc21 := Ah c21
   clear c21
   obtain ⟨y285, hy285⟩ : ∃ y_ : List (S46), y_ = (x280002_1 ++ [(⟨(rd_T46 l0_2 x15_1).f0, t282⟩ : S46)]) := ⟨_, rfl⟩
   replace H : (impl_ownDir.l0 k1 l0_2 (l0_2.length : Int) (wrap64 (x15_1 + 1)) a0_0 t276 y285) = some (r1, r2, r3) := by first | (rw [hy285]; with_reducible exact H) | (have H2_ := (Option.bind_some _ _).symm.trans H; rw [hy285]; with_reducible exact H2_) | (have H2_ := (Option.bind_some _ _).symm.trans H; with_reducible exact H2_) | with_reducible exact H | (rw [hy285]; exact H) | exact H
   have Ny285 := Ah hy285
   clear hy285
   have H' := Ah H
   clear H
   have p280 : 0 ≤ (x15_1 : Int) := od
   have q280 : x15_1 < (l0_2.length : Int) := od
   obtain ⟨ad280, A280_1, c280_1, e280, hx280_0, hx280_1, hl280_1, hi280_1⟩ := at_T46 HR0_2.out x15_1 p280 q280
   cases e280
   replace hx280_0 := (HB.out.cell (World.block_lt_of_cell? w _ hx280_0)).trans hx280_0
   replace hx280_1 := (HB.out.cell (World.block_lt_of_cell? w _ hx280_1)).trans hx280_1
   have HR280_1 := Ah hi280_1
   have HC280_1 := Ah hl280_1
   clear hi280_1 hl280_1
   replace p280 := eq_true p280
   replace q280 := eq_true q280
   try go_wp2_with (first | ((with_reducible refine gate_dst (N := 5) rfl ?_); refine boxL 5 46 #[.int .i64 0, .slice none 0 0] ?_; intro gb281 hg w22 BK281 hb; replace HO_280001 := nr HO_280001 hb; replace HO_280002 := Ah (Kd.S_below (Kd.S_elderB (by (with_reducible repeat (first | apply Kd.S_alloc | apply Kd.S_drewN | apply Kd.S_drew)); exact HO_280002.out) gb281 (Nat.le_of_eq hg.symm)) hb); have GW281 := gw hg (bs3 HB GE274 GE275 GE279); have GE281 := gw hg (bs3 HB GE274 GE275 GE279); replace HB := Ah (below_step (bs3 HB GE274 GE275 GE279) hb); have NB274_281 := nn BK274 hg; have NB281_274 := nm BK274 hg; replace BK274 := nb BK274 hb; have NB275_281 := nn BK275 hg; have NB281_275 := nm BK275 hg; replace BK275 := nb BK275 hb; have NB279_281 := nn BK279 hg; have NB281_279 := nm BK279 hg; replace BK279 := nb BK279 hb; clear hb hg; have hnb23 := NB281_274.out; have hnc23 := NB274_281.out; have hnb24 := NB281_275.out; have hnc24 := NB275_281.out; have hnb25 := NB281_279.out; have hnc25 := NB279_281.out; obtain ⟨hcz26_0, hcz26_1⟩ := cz2 BK281; obtain ⟨hfz26_0, hfz26_1⟩ := fz2 BK281))
   have n0_ : Aside0 (Kd.R (Kd.int .i64) 3 ((w22.setCell ⟨gb281, 0, none⟩ (.int .i64 ((rd_T46 l0_2 x15_1).f0))).setCell ⟨gb281, 1, none⟩ (.slice A280_1 ((rd_T46 l0_2 x15_1).f1).length c280_1)) w.heap.size (fun _ => True) (.slice Ao10 t276.length co10) t276) := ⟨by (with_reducible repeat (first | apply Kd.R_alloc | apply Kd.R_drewN | apply Kd.R_drew)); exact Kd.R_mono (Kd.R_far (p := ⟨gb281, 1, none⟩) (Kd.R_far (p := ⟨gb281, 0, none⟩) (Kd.R_types HO_280001.out BK281.out (by decide)) (fun _ hk => hk.2) (.int .i64 ((rd_T46 l0_2 x15_1).f0))) (fun _ hk => hk.2) (.slice A280_1 ((rd_T46 l0_2 x15_1).f1).length c280_1)) (fun _ hk => trivial)⟩
   have n1_ : Aside0 (Kd.S k46 46 ((w22.setCell ⟨gb281, 0, none⟩ (.int .i64 ((rd_T46 l0_2 x15_1).f0))).setCell ⟨gb281, 1, none⟩ (.slice A280_1 ((rd_T46 l0_2 x15_1).f1).length c280_1)) w.heap.size (fun k_ => k_ ≠ gb281) u280002 x280002_1) := ⟨by (with_reducible repeat (first | apply Kd.S_alloc | apply Kd.S_drewN | apply Kd.S_drew)); exact Kd.S_mono (Kd.S_far (p := ⟨gb281, 1, none⟩) (Kd.S_far (p := ⟨gb281, 0, none⟩) (Kd.S_mono HO_280002.out (fun k_ hk => (⟨hk, hk.2⟩ : _ ∧ k_ ≠ gb281))) (fun _ hk => hk.2) (.int .i64 ((rd_T46 l0_2 x15_1).f0))) (fun _ hk => hk.2) (.slice A280_1 ((rd_T46 l0_2 x15_1).f1).length c280_1)) (fun _ hk => hk.1.2)⟩
   have n2_ : Aside0 (((w22.setCell ⟨gb281, 0, none⟩ (.int .i64 ((rd_T46 l0_2 x15_1).f0))).setCell ⟨gb281, 1, none⟩ (.slice A280_1 ((rd_T46 l0_2 x15_1).f1).length c280_1)).heap[gb274]? = some (.cells #[.int .i64 a0_0, .slice A0_1 l0_1.length c0_1, .slice (some ad280) l0_2.length c0_2] 29 (0, 0))) := ⟨bf BK274 NB274_281⟩
   have n3_ : Aside0 (((w22.setCell ⟨gb281, 0, none⟩ (.int .i64 ((rd_T46 l0_2 x15_1).f0))).setCell ⟨gb281, 1, none⟩ (.slice A280_1 ((rd_T46 l0_2 x15_1).f1).length c280_1)).heap[gb275]? = some (.cells #[.int .i64 0, .slice none 0 0, .slice none 0 0] 29 (0, 0))) := ⟨bf BK275 NB275_281⟩
   have n4_ : Aside0 (((w22.setCell ⟨gb281, 0, none⟩ (.int .i64 ((rd_T46 l0_2 x15_1).f0))).setCell ⟨gb281, 1, none⟩ (.slice A280_1 ((rd_T46 l0_2 x15_1).f1).length c280_1)).heap[gb279]? = some (.cells #[.int .i64 a0_0, .slice Ao10 t276.length co10, u280002] 29 (0, 0))) := ⟨bf BK279 NB279_281⟩
   have n5_ : Aside0 (((w22.setCell ⟨gb281, 0, none⟩ (.int .i64 ((rd_T46 l0_2 x15_1).f0))).setCell ⟨gb281, 1, none⟩ (.slice A280_1 ((rd_T46 l0_2 x15_1).f1).length c280_1)).heap[gb281]? = some (.cells #[.int .i64 ((rd_T46 l0_2 x15_1).f0), .slice A280_1 ((rd_T46 l0_2 x15_1).f1).length c280_1] 46 (0, 0))) := ⟨by (with_reducible repeat (first | refine blk_drewN ?_ _ | refine blk_drew ?_ | refine blk_alloc ?_ _)); refine blk_put (cs := #[.int .i64 ((rd_T46 l0_2 x15_1).f0), .slice none 0 0]) ?_ 1 _ rfl; (with_reducible repeat (first | refine blk_drewN ?_ _ | refine blk_drew ?_ | refine blk_alloc ?_ _)); refine blk_put (cs := #[.int .i64 0, .slice none 0 0]) ?_ 0 _ rfl; (with_reducible repeat (first | refine blk_drewN ?_ _ | refine blk_drew ?_ | refine blk_alloc ?_ _)); exact BK281.out⟩
   have n6_ : Aside0 (Below w.heap.size w ((w22.setCell ⟨gb281, 0, none⟩ (.int .i64 ((rd_T46 l0_2 x15_1).f0))).setCell ⟨gb281, 1, none⟩ (.slice A280_1 ((rd_T46 l0_2 x15_1).f1).length c280_1))) := ⟨bs4 HB GE274 GE275 GE279 GE281⟩
   (try clear HO_280001)
   (try clear HO_280002)
   (try clear BK274)
   (try clear BK275)
   (try clear BK279)
   (try clear BK281)
   (try clear HB)
   generalize ((w22.setCell ⟨gb281, 0, none⟩ (.int .i64 ((rd_T46 l0_2 x15_1).f0))).setCell ⟨gb281, 1, none⟩ (.slice A280_1 ((rd_T46 l0_2 x15_1).f1).length c280_1)) = w27 at n0_ n1_ n2_ n3_ n4_ n5_ n6_ ⊢
   have HO_280001 := n0_
   have HO_280002 := n1_
   have BK274 := n2_
   have BK275 := n3_
   have BK279 := n4_
   have BK281 := n5_
   have HB := n6_
   clear n0_ n1_ n2_ n3_ n4_ n5_ n6_
   have n0_ := Ah (Kd.R_drew HO_280001.out)
   have n1_ := Ah (Kd.S_drew HO_280002.out)
   have n2_ := Ah (blk_drew BK274.out)
   have n3_ := Ah (blk_drew BK275.out)
   have n4_ := Ah (blk_drew BK279.out)
   have n5_ := Ah (blk_drew BK281.out)
   have n6_ := Ah (below_drew1 HB.out)
   clear HO_280001 HO_280002 BK274 BK275 BK279 BK281 HB
   have HO_280001 := n0_
   have HO_280002 := n1_
   have BK274 := n2_
   have BK275 := n3_
   have BK279 := n4_
   have BK281 := n5_
   have HB := n6_
   clear n0_ n1_ n2_ n3_ n4_ n5_ n6_
   refine start_ (n := 12) (S := fun w' => w'.cell? ⟨gb279, 0, none⟩ = some (.int .i64 a0_0) ∧ w'.cell? ⟨gb279, 1, none⟩ = some (.slice Ao10 t276.length co10) ∧ w'.cell? ⟨gb279, 2, none⟩ = some (u280002) ∧ w'.cell? ⟨gb281, 0, none⟩ = some (.int .i64 ((rd_T46 l0_2 x15_1).f0)) ∧ w'.cell? ⟨gb281, 1, none⟩ = some (.slice A280_1 ((rd_T46 l0_2 x15_1).f1).length c280_1)) (ds := [11]) #[false, false, false, false, false, false, false, false, false, false, false, false] (by kernel_rfl) rfl rfl ⟨(blk_cell BK279.out 0).trans rfl, (blk_cell BK279.out 1).trans rfl, (blk_cell BK279.out 2).trans rfl, (blk_cell BK281.out 0).trans rfl, (blk_cell BK281.out 1).trans rfl⟩ (fun hHeld => ?_); refine with_tabW impl_ownDir.tab5 impl_ownDir.bits5 (fun HT_ HW_ => ?_)
   generalize w27.drew = w28 at HO_280001 HO_280002 BK274 BK275 BK279 BK281 HB hHeld ⊢
   refine pureS 0 19 HT_.out ?_
   refine pureS 2 21 HT_.out ?_
   refine pureS 4 23 HT_.out ?_
   refine takeS 1 20 HT_.out HW_.out hHeld (hr := by rintro w' ⟨s0, s1, s2, s3, s4⟩; go_simp; with_reducible rfl) (h := ?_)
   refine takeS 3 22 HT_.out HW_.out hHeld (hr := by rintro w' ⟨s0, s1, s2, s3, s4⟩; go_simp; with_reducible rfl) (h := ?_)
   refine takeS 5 24 HT_.out HW_.out hHeld (hr := by rintro w' ⟨s0, s1, s2, s3, s4⟩; go_simp; with_reducible rfl) (h := ?_)
   refine one_ (i := 6) (N := some 25) #[true, true, true, true, true, true, true, false, false, false, false, false] rfl rfl (one_of HT_.out (by kernel_rfl)) (by decide) (fun K hK => ?_)
   refine goes_ Tryd.func43 (by kernel_rfl) rfl #[.slice A280_1 ((rd_T46 l0_2 x15_1).f1).length c280_1] (by rfl) rfl rfl (by (try simp only [List.map_toArray, List.map_cons, List.map_nil]); first | done | rfl | (simp only [List.length_drop, List.length_take]; rfl)) ?_
   with_reducible refine (impl_Name_43.calls _ _ ((rd_T46 l0_2 x15_1).f1) t282 _ ?side1 ?side2 A20.out).mono ?_
   (case side1 => exact cb HR280_1 HB)
   (case side2 => exact HC280_1.out)
   rintro e w29 ⟨v283, rfl, ho0, hb⟩
   refine ⟨_, rfl, ?_⟩
   have n0_ := Ah (Kd.R_below (rr HO_280001.out) hb)
   have n1_ := Ah (Kd.S_elder' (by (with_reducible repeat (first | apply Kd.S_alloc | apply Kd.S_drewN | apply Kd.S_drew)); exact HO_280002.out) (Kd.R_base ho0) hb)
   have n2_ := Ah (Kd.R_lower ho0 (below_size (bs4 HB GE274 GE275 GE279 GE281)))
   have n3_ := Ah (bb BK274 hb)
   have n4_ := Ah (bb BK275 hb)
   have n5_ := Ah (bb BK279 hb)
   have n6_ := Ah (bb BK281 hb)
   have n7_ := Ah (below_step (bs4 HB GE274 GE275 GE279 GE281) hb)
   clear HO_280001 HO_280002 BK274 BK275 BK279 BK281 HB
   have HO_280001 := n0_
   have HO_280002 := n1_
   have HO284 := n2_
   have BK274 := n3_
   have BK275 := n4_
   have BK279 := n5_
   have BK281 := n6_
   have HB := n7_
   clear n0_ n1_ n2_ n3_ n4_ n5_ n6_ n7_
   (try clear hb)
   (try clear hb2)
   (try clear hk)
   (try clear hi)
   (try clear ho0)
   obtain ⟨Ao30, co30, eo30⟩ := Kd.R_slice HO284.out
   (first | subst eo30 | (injection eo30 with f1_ f2_ f3_; have f4_ := f1_.symm; have f5_ := f3_.symm; clear f1_ f2_ f3_; subst f4_; subst f5_))
   refine hK.out _ _ ⟨(blk_cell BK279.out 0).trans rfl, (blk_cell BK279.out 1).trans rfl, (blk_cell BK279.out 2).trans rfl, (blk_cell BK281.out 0).trans rfl, (blk_cell BK281.out 1).trans rfl⟩ (fun hHeld => ?_)
   clear hK K
   refine norm_ (a' := ?_) ?_ ?_
   rotate_left
   ·
    show Act.put _ (some 25) _ = _
    simp only [Act.put, List.setIfInBounds_toArray, List.set_cons_zero, List.set_cons_succ, i64_w, i32_w]
    rfl
   refine pureS 7 26 HT_.out ?_
   refine one_ (i := 8) (N := some 27) #[true, true, true, true, true, true, true, true, true, false, false, false] rfl rfl (one_of HT_.out (by kernel_rfl)) (by decide) (fun K hK => ?_)
   refine value_ (w1 := ?_) (v := ?_) (by rfl) rfl ?_ ?_
   rotate_left 2
   ·
    go_simp
    constructor
    ·
     rfl
    ·
     rfl
   refine hK.out _ _ ⟨(blk_cell (blk_alloc BK279.out _) 0).trans rfl, (blk_cell (blk_alloc BK279.out _) 1).trans rfl, (blk_cell (blk_alloc BK279.out _) 2).trans rfl, (blk_cell (blk_alloc BK281.out _) 0).trans rfl, (blk_cell (blk_alloc BK281.out _) 1).trans rfl⟩ (fun hHeld => ?_)
   clear hK K
   refine norm_ (a' := ?_) ?_ ?_
   rotate_left
   ·
    show Act.put _ (some 27) _ = _
    simp only [Act.put, List.setIfInBounds_toArray, List.set_cons_zero, List.set_cons_succ, i64_w, i32_w]
    rfl
   refine one_ (i := 9) (N := some 28) #[true, true, true, true, true, true, true, true, true, true, false, false] rfl rfl (one_of HT_.out (by kernel_rfl)) (by decide) (fun K hK => ?_)
   refine Kd.S_append_step k46 (w0 := w) w.heap.size (by rfl) (.tmp 20) (.tmp 27) 27 46 (.agg #[(.int .i64 0), (.slice none 0 0)]) 32 rfl Tryd.underlying27 info46 rfl (by decide) (by omega) u280002 x280002_1 (⟨(rd_T46 l0_2 x15_1).f0, t282⟩ : S46) [.int .i64 ((rd_T46 l0_2 x15_1).f0), .slice Ao30 t282.length co30] (fun k_ => k_ ≠ gb281) (fun k_ => some k_ = (.slice Ao30 t282.length co30 : Value).ownBlock) rfl rfl ?aP (fun k_ hk_ => ((Kd.R_mono (ok' := fun k_ => ((fun k_ => k_ ≠ gb281)) k_ ∧ some k_ ≠ (u280002 : Value).ownBlock) (Kd.R_types (Kd.R_apart' (HO284.out) (Kd.S_typed HO_280002.out) (by decide)) BK281.out (by decide)) (fun k_ hk => ⟨hk.2, hk.1.2⟩))).1 k_ hk_.symm) ?aF ?aO ?aB ?aS ?aL ?_
   (case aP => exact k46_mkM _ _ _ (⟨(rd_T46 l0_2 x15_1).f0, t282⟩ : S46) (Kd.R_mono (Kd.R_tight rfl (Kd.R_mono (ok' := fun k_ => ((fun k_ => k_ ≠ gb281)) k_ ∧ some k_ ≠ (u280002 : Value).ownBlock) (Kd.R_types (Kd.R_apart' (HO284.out) (Kd.S_typed HO_280002.out) (by decide)) BK281.out (by decide)) (fun k_ hk => ⟨hk.2, hk.1.2⟩))) (fun _ h_ => h_)))
   (case aB => exact (bs4 HB GE274 GE275 GE279 GE281))
   (case aF => exact (fun k_ hk => Kd.freshB (bk BK281) k_ hk))
   (case aO => exact (by (with_reducible repeat (first | apply Kd.S_alloc | apply Kd.S_drewN | apply Kd.S_drew)); exact Kd.S_mono HO_280002.out (fun k_ hk => ⟨hk.1, fun e_ => hk.2 e_⟩)))
   (case aS => exact (below_size (bs4 HB GE274 GE275 GE279 GE281)))
   (case aL => have := LMc21.out; omega)
   intro v286 w31 ho hb hg hat
   rw [← Ny285.out] at ho
   have n0_ := Ah (Kd.R_over' (rr HO_280001.out) (Kd.S_typed (by (with_reducible repeat (first | apply Kd.S_alloc | apply Kd.S_drewN | apply Kd.S_drew)); exact HO_280002.out)) (by decide) hg)
   have n1_ := Ah (blk_grown (bk BK274) hg (Kd.S_ne HO_280002.out BK274.out (by decide)))
   have n2_ := Ah (blk_grown (bk BK275) hg (Kd.S_ne HO_280002.out BK275.out (by decide)))
   have n3_ := Ah (blk_grown (bk BK279) hg (Kd.S_ne HO_280002.out BK279.out (by decide)))
   have n4_ := Ah (blk_grown (bk BK281) hg (Kd.S_away HO_280002.out (fun _ hk => hk.1)))
   have n5_ := Ah (hb)
   have n6_ := Ah (ho)
   clear HO_280001 BK274 BK275 BK279 BK281 HB HO_280002 HO284
   have HO_280001 := n0_
   have BK274 := n1_
   have BK275 := n2_
   have BK279 := n3_
   have BK281 := n4_
   have HB := n5_
   have HO287 := n6_
   clear n0_ n1_ n2_ n3_ n4_ n5_ n6_ ho hb hg hat
   obtain ⟨Ao32, co32, eo32⟩ := Kd.S_slice HO287.out
   (first | subst eo32 | (injection eo32 with f1_ f2_ f3_; have f4_ := f1_.symm; have f5_ := f3_.symm; clear f1_ f2_ f3_; subst f4_; subst f5_))
   refine hK.out _ _ ⟨(blk_cell BK279.out 0).trans rfl, (blk_cell BK279.out 1).trans rfl, (blk_cell BK279.out 2).trans rfl, (blk_cell BK281.out 0).trans rfl, (blk_cell BK281.out 1).trans rfl⟩ (fun hHeld => ?_)
   clear hK K
   refine norm_ (a' := ?_) ?_ ?_
   rotate_left
   ·
    show Act.put _ (some 28) _ = _
    simp only [Act.put, List.setIfInBounds_toArray, List.set_cons_zero, List.set_cons_succ, i64_w, i32_w]
    rfl
   refine pureS 10 29 HT_.out ?_
   refine last_ (i := 11) (N := none) #[true, true, true, true, true, true, true, true, true, true, true, true] rfl rfl (one_of HT_.out (by kernel_rfl)) (by decide) (fun K hK => ?_)
   have hs33 : w31.cell? ⟨gb279, 2, none⟩ = some (u280002) := (blk_cell BK279.out 2).trans rfl
   have hfs33 := blk_frozen BK279.out 2
   have hns33_0 := NB274_279.out
   have hns33_1 := NB275_279.out
   have hns33_3 := NB281_279.out
   have hms33_0 := NB279_274.out
   have hms33_1 := NB279_275.out
   have hms33_3 := NB279_281.out
   refine skip_ (w1 := ?_) (by rfl) rfl ?_ ?_
   rotate_left
   ·
    go_simp
    rfl
   refine hK.out _ _ ?_
   clear hK K
   refine done_ (done_of HT_.out (by kernel_rfl)) ?_
   try go_wp2
   go_roundg k1
   case measure => have := HK1.out; omega
   case rel => exact ⟨(wrap64 (x15_1 + 1)), (y285), (.slice Ao32 y285.length co32), e3, H', ⟨by have := HK1.out; omega⟩, ⟨by (with_reducible repeat (first | apply Kd.R_alloc | apply Kd.R_drewN | apply Kd.R_drew)); exact Kd.R_mono (Kd.R_far (p := ⟨gb279, 2, none⟩) (Kd.R_types HO_280001.out BK279.out (by decide)) (fun _ hk => hk.2) (.slice Ao32 y285.length co32)) (fun _ hk => trivial)⟩, ⟨by (with_reducible repeat (first | apply Kd.S_alloc | apply Kd.S_drewN | apply Kd.S_drew)); exact Kd.S_mono (Kd.S_far (p := ⟨gb279, 2, none⟩) (Kd.S_types HO287.out BK279.out (by decide)) (fun _ hk => hk.2) (.slice Ao32 y285.length co32)) (fun _ hk => trivial)⟩, ⟨bf BK274 NB274_279⟩, ⟨bf BK275 NB275_279⟩, ⟨by (with_reducible repeat (first | refine blk_drewN ?_ _ | refine blk_drew ?_ | refine blk_alloc ?_ _)); refine blk_put (cs := #[.int .i64 a0_0, .slice Ao10 t276.length co10, u280002]) ?_ 2 _ rfl; (with_reducible repeat (first | refine blk_drewN ?_ _ | refine blk_drew ?_ | refine blk_alloc ?_ _)); exact BK279.out⟩, ⟨bs4 HB GE274 GE275 GE279 GE281⟩⟩

-- NOT PRINTED: function 44 (impl_Name_string)

-- NOT PRINTED: function 69 (bytealg_abigen_runtime_cmpstring)

-- NOT PRINTED: function 60 (bytealg_CompareString)

/-! ### strings_Compare: function 46 -/
-- strings.Compare: the bytes compared.
def strings_Compare.f (a0 : ByteArray) (a1 : ByteArray) : Option Int := some (Lib.compareBytes a0.data.toList a1.data.toList)
theorem strings_Compare.calls (a0 : ByteArray) (a1 : ByteArray) (r : Int) (w : World) (h : strings_Compare.f a0 a1 = some r) :
    Calls Tryd.prog 46 #[.string a0, .string a1] w fun e w' => e = .returned (.int .i64 r) ∧ Drawn0 w w' := by
  unfold strings_Compare.f at h
  obtain rfl := Option.some.inj h
  refine (Rt.cmp_calls a0 a1 w).mono ?_
  rintro e w' ⟨rfl, rfl⟩
  exact ⟨rfl, Drawn0.refl _⟩

/-! ### impl_Dir_find_1: function 45 -/
def impl_Dir_find_1.f (a0_0 : ByteArray) (a0_1 : Int) (a1 : ByteArray) : Option (Int) := (strings_Compare.f a0_0 a1).bind fun t289 => (some t289)
set_option maxHeartbeats 8000000 in
set_option maxRecDepth 100000 in
theorem impl_Dir_find_1.calls (a0_0 : ByteArray) (a0_1 : Int) (a1 : ByteArray) (r : Int) (w : World) (h : impl_Dir_find_1.f a0_0 a0_1 a1 = some r) :
  Calls Tryd.prog 45 #[.agg #[.string a0_0, .int .i64 a0_1], .string a1] w fun e w' => e = .returned (.int .i64 r) ∧ Below w.heap.size w w' := by
 have hu53 := Tryd.underlying53
 have HB := Aside0.mk (Below.refl w.heap.size w)
 have H : ((strings_Compare.f a0_0 a1).bind fun t289 => (some t289)) = some r := h
 clear h
 replace H := Option.bind_eq_some_iff.mp H
 obtain ⟨t289, A30, H⟩ := H
 replace H : (some t289) = some r := H
 have A3 := Aside0.mk A30
 clear A30
 obtain rfl := Option.some.inj H
 go_enter Tryd.func45, Tryd.ntmps45
 go_wp2_with (first | ((with_reducible refine gate_dst (N := 2) rfl ?_); refine box_event ?hg (N := 2) ?hd (cs := #[.string a0_0, .int .i64 a0_1]) (t := 53) ?hr ?_; (case hd => rfl); (case hg => rfl); (case hr => first | (go_simp; done) | (go_simp; rfl)); intro gb288 hg w4 hbox hb; have BK288 := Aside0.mk (hbox); have GW288 := Aside0.mk ((by rw [hg]; exact (below_size (bs HB)) : w.heap.size ≤ gb288)); have GE288 := Aside0.mk ((by rw [hg]; exact (below_size (bs HB)) : w.heap.size ≤ gb288)); replace HB := Aside0.mk (below_step (bs HB) hb); clear hb hbox hg; obtain ⟨hcz5_0, hcz5_1⟩ := cz2 BK288; obtain ⟨hfz5_0, hfz5_1⟩ := fz2 BK288) | ((with_reducible refine gate_callee (f := 46) rfl ?_); refine gL (some 8) rfl rfl Tryd.func46 (by kernel_rfl) rfl #[.string a0_0, .string a1] rfl ?_; (with_reducible refine (strings_Compare.calls a0_0 a1 t289 _ A3.out).mono ?_); rintro e w' ⟨rfl, ⟨nd, rfl⟩⟩; refine ⟨_, rfl, ?_⟩))
 go_ret
 exact ⟨by first | rfl | (simp [errW_none, errW_some] <;> rfl) | (simp [*, errW_none, errW_some] <;> rfl), bs1 HB GE288⟩

end Go.Proofs.YtfbjeppfnlfejaaDoor.G
