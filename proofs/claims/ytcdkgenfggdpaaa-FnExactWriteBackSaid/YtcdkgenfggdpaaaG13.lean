-- Printed by a program of this session (drive.py, by way of the kit's print). Not trusted: Lean checks it.
import Derived.Test.YtcdkgenfggdpaaaG0
import Derived.Test.YtcdkgenfggdpaaaG9
namespace Go.Proofs.Ytcdkgenfggdpaaa.G
open Go.RowKit Go.Proofs.YtcdkgenfggdpaaaW.PrintWords Go.Proofs.YtcdkgenfggdpaaaW.PrintLast Go.Proofs.YtcdkgenfggdpaaaW.PrintMore
attribute [local go_sem] max2_int min2_int max_two min_two max_three min_three max_four min_four   -- for this text's walks alone
set_option linter.unusedVariables false
set_option linter.unusedSimpArgs false

/-! ### spec_l1Own: function 115 -/
def spec_l1Own.f (l0_0 : List ByteArray) (l0_1 : List (S72)) : Option (List ByteArray × (List (S72))) := (some (([] : List ByteArray) : List ByteArray)).bind fun y566 => (if y566.length + l0_0.length < 8796093022208 then ((some (([] : List (S72)) : List (S72))).bind fun y572 => (if y572.length + l0_1.length < 5864062014805 then (some ((y566 ++ l0_0), (y572 ++ l0_1))) else (none))) else (none))
set_option maxHeartbeats 8000000 in
set_option maxRecDepth 100000 in
theorem spec_l1Own.calls (A0_0 : Option Addr) (c0_0 : Nat) (l0_0 : List ByteArray) (A0_1 : Option Addr) (c0_1 : Nat) (l0_1 : List (S72)) (r1 : List ByteArray) (r2 : List (S72)) (w : World) (hr0_0 : Kd.C Kd.string w A0_0 l0_0.length l0_0) (hc0_0 : l0_0.length ≤ c0_0) (hr0_1 : Kd.C k72 w A0_1 l0_1.length l0_1) (hc0_1 : l0_1.length ≤ c0_1) (h : spec_l1Own.f l0_0 l0_1 = some (r1, r2)) :
  Calls Try.prog 115 #[.agg #[.slice A0_0 l0_0.length c0_0, .slice A0_1 l0_1.length c0_1]] w fun e w' => ∃ v0_ v1_ : Value, e = .returned (.agg #[v0_, v1_]) ∧ Kd.R Kd.string 9 w' w.heap.size (fun _ => True) v0_ r1 ∧ Kd.R k72 72 w' w.heap.size (fun _ => True) v1_ r2 ∧ Below w.heap.size w w' := by
 have hu42 := Try.underlying42
 have HR0_0 := Aside0.mk hr0_0
 have HC0_0 := Aside0.mk hc0_0
 clear hr0_0 hc0_0
 have HR0_1 := Aside0.mk hr0_1
 have HC0_1 := Aside0.mk hc0_1
 clear hr0_1 hc0_1
 have HB := Aside0.mk (Below.refl w.heap.size w)
 have H : ((some (([] : List ByteArray) : List ByteArray)).bind fun y566 => (if y566.length + l0_0.length < 8796093022208 then ((some (([] : List (S72)) : List (S72))).bind fun y572 => (if y572.length + l0_1.length < 5864062014805 then (some ((y566 ++ l0_0), (y572 ++ l0_1))) else (none))) else (none))) = some (r1, r2) := h
 clear h
 obtain ⟨y566, hy566⟩ : ∃ y_ : List ByteArray, y_ = (([] : List ByteArray)) := ⟨_, rfl⟩
 replace H : (if y566.length + l0_0.length < 8796093022208 then ((some (([] : List (S72)) : List (S72))).bind fun y572 => (if y572.length + l0_1.length < 5864062014805 then (some ((y566 ++ l0_0), (y572 ++ l0_1))) else (none))) else (none)) = some (r1, r2) := by first | (rw [hy566]; with_reducible exact H) | (have H2_ := (Option.bind_some _ _).symm.trans H; rw [hy566]; with_reducible exact H2_) | (have H2_ := (Option.bind_some _ _).symm.trans H; with_reducible exact H2_) | with_reducible exact H | (rw [hy566]; exact H) | exact H
 have Ny566 := Aside0.mk hy566
 clear hy566
 by_cases c2 : y566.length + l0_0.length < 8796093022208
 ·
  rw [if_pos c2] at H
  have LMc2 := Aside0.mk c2
  clear c2
  obtain ⟨y569, hy569⟩ : ∃ y_ : List ByteArray, y_ = (y566 ++ l0_0) := ⟨_, rfl⟩
  replace H : ((some (([] : List (S72)) : List (S72))).bind fun y572 => (if y572.length + l0_1.length < 5864062014805 then (some (y569, (y572 ++ l0_1))) else (none))) = some (r1, r2) := by first | (rw [hy569]; with_reducible exact H) | (have H2_ := (Option.bind_some _ _).symm.trans H; rw [hy569]; with_reducible exact H2_) | (have H2_ := (Option.bind_some _ _).symm.trans H; with_reducible exact H2_) | with_reducible exact H | (rw [hy569]; exact H) | exact H
  have Ny569 := Aside0.mk hy569
  clear hy569
  obtain ⟨y572, hy572⟩ : ∃ y_ : List (S72), y_ = (([] : List (S72))) := ⟨_, rfl⟩
  replace H : (if y572.length + l0_1.length < 5864062014805 then (some (y569, (y572 ++ l0_1))) else (none)) = some (r1, r2) := by first | (rw [hy572]; with_reducible exact H) | (have H2_ := (Option.bind_some _ _).symm.trans H; rw [hy572]; with_reducible exact H2_) | (have H2_ := (Option.bind_some _ _).symm.trans H; with_reducible exact H2_) | with_reducible exact H | (rw [hy572]; exact H) | exact H
  have Ny572 := Aside0.mk hy572
  clear hy572
  by_cases c3 : y572.length + l0_1.length < 5864062014805
  ·
   rw [if_pos c3] at H
   have LMc3 := Aside0.mk c3
   clear c3
   obtain ⟨y575, hy575⟩ : ∃ y_ : List (S72), y_ = (y572 ++ l0_1) := ⟨_, rfl⟩
   replace H : (some (y569, y575)) = some (r1, r2) := by first | (rw [hy575]; with_reducible exact H) | (have H2_ := (Option.bind_some _ _).symm.trans H; rw [hy575]; with_reducible exact H2_) | (have H2_ := (Option.bind_some _ _).symm.trans H; with_reducible exact H2_) | with_reducible exact H | (rw [hy575]; exact H) | exact H
   have Ny575 := Aside0.mk hy575
   clear hy575
   simp only [Option.some.injEq, Prod.mk.injEq] at H
   obtain ⟨rfl, rfl⟩ := H
   go_enter Try.func115, Try.ntmps115
   go_wp2_with (first | ((with_reducible refine gate_dst (N := 1) rfl ?_); refine box_event ?hg (N := 1) ?hd (cs := #[.slice A0_0 l0_0.length c0_0, .slice A0_1 l0_1.length c0_1]) (t := 42) ?hr ?_; (case hd => rfl); (case hg => rfl); (case hr => first | (go_simp; done) | (go_simp; rfl)); intro gb564 hg w4 hbox hb; have BK564 := Aside0.mk (hbox); have GW564 := Aside0.mk ((by rw [hg]; exact (below_size (bs HB)) : w.heap.size ≤ gb564)); have GE564 := Aside0.mk ((by rw [hg]; exact (below_size (bs HB)) : w.heap.size ≤ gb564)); replace HB := Aside0.mk (below_step (bs HB) hb); clear hb hbox hg) | ((with_reducible refine gate_dst (N := 2) rfl ?_); refine box_event ?hg (N := 2) ?hd (cs := #[.slice none 0 0, .slice none 0 0]) (t := 42) ?hr ?_; (case hd => rfl); (case hg => rfl); (case hr => first | (go_simp; done) | (go_simp; rfl)); intro gb565 hg w5 hbox hb; have BK565 := Aside0.mk (hbox); have GW565 := Aside0.mk ((by rw [hg]; exact (below_size (bs1 HB GE564)) : w.heap.size ≤ gb565)); have GE565 := Aside0.mk ((by rw [hg]; exact (below_size (bs1 HB GE564)) : w.heap.size ≤ gb565)); replace HB := Aside0.mk (below_step (bs1 HB GE564) hb); have NB564_565 := Aside0.mk ((bn BK564 hg : gb564 ≠ gb565)); have NB565_564 := Aside0.mk ((bm BK564 hg : gb565 ≠ gb564)); replace BK564 := nb BK564 hb; clear hb hbox hg) | ((with_reducible refine gate_dst (N := 3) rfl ?_); refine Kd.R_lit Kd.string _ 9 ?hg (N := 3) ?hd (xs := ([] : List ByteArray)) (inner := []) (ok := fun _ => True) (okp := fun _ => True) ?hr ?hp (fun _ hk => hk) trivial (Below.refl _ _) (Nat.le_refl _) (by simp) ?_; (case hd => rfl); (case hg => rfl); (case hr => first | (go_simp; done) | (go_simp; rfl)); (case hp => exact (Reps.none _ _)); intro v567 w6 ho7 hb hg_ hnew_; clear hg_ hnew_; (first | rw [← Ny566.out] at ho7 | (simp only [Int.reduceToNat] at ho7; rw [← Ny566.out] at ho7)); have HO568 := Aside0.mk (Kd.R_lower ho7 (below_size (bs2 HB GE564 GE565))); replace BK564 := nb BK564 hb; replace BK565 := nb BK565 hb; replace HB := Aside0.mk (below_step (bs2 HB GE564 GE565) hb); clear hb ho7; have hnb8 := NB564_565.out; have hnc8 := NB565_564.out; obtain ⟨hcz9_0, hcz9_1⟩ := cz2 BK564; obtain ⟨hfz9_0, hfz9_1⟩ := fz2 BK564) | ((with_reducible refine gate_builtin (b := .append) (xs := #[.tmp 3, .tmp 5]) rfl ?_); at_builtin; refine Kd.R_append_rows Kd.string (w0 := w) w.heap.size rfl (.tmp 3) (.tmp 5) 34 9 (.string ⟨#[]⟩) 16 rfl Try.underlying34 info9 rfl (by decide) (by omega) v567 y566 l0_0 _ _ _ (fun _ => True) (fun _ => False) rfl rfl ?aO ?aR (fun _ _ h => h) (fun _ h => h.elim) ?aF ?aB ?aS ?aL ?_; (case aR => exact cb HR0_0 HB); (case aB => exact (bs2 HB GE564 GE565)); (case aF => exact (fun _ _ => trivial)); (case aO => exact (rr HO568.out)); (case aS => exact (below_size (bs2 HB GE564 GE565))); (case aL => have := LMc2.out; omega); intro v570 w10 ho hb hg hat; rw [← Ny569.out] at ho; replace BK564 := Aside0.mk (blk_grown (bk BK564) hg (Kd.R_ne HO568.out BK564.out (by decide))); replace BK565 := Aside0.mk (blk_grown (bk BK565) hg (Kd.R_ne HO568.out BK565.out (by decide))); replace HB := Aside0.mk (hb); have HO571 := Aside0.mk (ho); clear HO568; clear ho hb hg hat; obtain ⟨Ao11, co11, eo11⟩ := Kd.R_slice HO571.out; subst eo11; obtain ⟨hcz12_0, hcz12_1⟩ := cz2 BK564; obtain ⟨hfz12_0, hfz12_1⟩ := fz2 BK564) | ((with_reducible refine gate_dst (N := 8) rfl ?_); refine Kd.R_lit k72 _ 72 ?hg (N := 8) ?hd (xs := ([] : List (S72))) (inner := []) (ok := fun _ => True) (okp := fun _ => True) ?hr ?hp (fun _ hk => hk) trivial (Below.refl _ _) (Nat.le_refl _) (by simp) ?_; (case hd => rfl); (case hg => rfl); (case hr => first | (go_simp; done) | (go_simp; rfl)); (case hp => exact (Reps.none _ _)); intro v573 w13 ho14 hb hg_ hnew_; clear hg_ hnew_; (first | rw [← Ny572.out] at ho14 | (simp only [Int.reduceToNat] at ho14; rw [← Ny572.out] at ho14)); replace HO571 := nf HO571 BK564 hb; have HO574 := Aside0.mk (Kd.R_lower ho14 (below_size (bs2 HB GE564 GE565))); replace BK564 := Aside0.mk (blk_below (g := gb564) (o := .cells #[.slice Ao11 y569.length co11, .slice A0_1 l0_1.length c0_1] 42 (0, 0)) (by (with_reducible repeat (first | refine blk_drewN ?_ _ | refine blk_drew ?_ | refine blk_alloc ?_ _)); refine blk_put (cs := #[.slice A0_0 l0_0.length c0_0, .slice A0_1 l0_1.length c0_1]) ?_ 0 _ rfl; (with_reducible repeat (first | refine blk_drewN ?_ _ | refine blk_drew ?_ | refine blk_alloc ?_ _)); exact BK564.out) hb); replace BK565 := Aside0.mk (blk_below (bf BK565 NB565_564) hb); replace HB := Aside0.mk (below_step (bs2 HB GE564 GE565) hb); clear hb ho14; obtain ⟨hcz15_0, hcz15_1⟩ := cz2 BK564; obtain ⟨hfz15_0, hfz15_1⟩ := fz2 BK564) | ((with_reducible refine gate_builtin (b := .append) (xs := #[.tmp 8, .tmp 10]) rfl ?_); at_builtin; refine Kd.R_append_rows k72 (w0 := w) w.heap.size rfl (.tmp 8) (.tmp 10) 26 72 (.agg #[(.int .i64 0), (.string ⟨#[]⟩)]) 24 rfl Try.underlying26 info72 rfl (by decide) (by omega) v573 y572 l0_1 _ _ _ (fun _ => True) (fun _ => False) rfl rfl ?aO ?aR (fun _ _ h => h) (fun _ h => h.elim) ?aF ?aB ?aS ?aL ?_; (case aR => exact cb HR0_1 HB); (case aB => exact (bs2 HB GE564 GE565)); (case aF => exact (fun _ _ => trivial)); (case aO => exact (rr HO574.out)); (case aS => exact (below_size (bs2 HB GE564 GE565))); (case aL => have := LMc3.out; omega); intro v576 w16 ho hb hg hat; rw [← Ny575.out] at ho; replace BK564 := Aside0.mk (blk_grown (bk BK564) hg (Kd.R_ne HO574.out BK564.out (by decide))); replace BK565 := Aside0.mk (blk_grown (bk BK565) hg (Kd.R_ne HO574.out BK565.out (by decide))); replace HO571 := Aside0.mk (Kd.R_over' (rr HO571.out) (Kd.R_typed (rr HO574.out)) (by decide) hg); replace HB := Aside0.mk (hb); have HO577 := Aside0.mk (ho); clear HO574; clear ho hb hg hat; obtain ⟨Ao17, co17, eo17⟩ := Kd.R_slice HO577.out; subst eo17; obtain ⟨hcz18_0, hcz18_1⟩ := cz2 BK564; obtain ⟨hfz18_0, hfz18_1⟩ := fz2 BK564; obtain ⟨hcz19_0, hcz19_1⟩ := cz2 BK565; obtain ⟨hfz19_0, hfz19_1⟩ := fz2 BK565))
   refine bodyPost_ret (results_cell_row rfl _ _ gb565 42 #[.slice Ao11 y569.length co11, .slice Ao17 y575.length co17] (0, 0) _ rfl (by (with_reducible repeat (first | refine blk_drewN ?_ _ | refine blk_drew ?_ | refine blk_alloc ?_ _)); refine blk_put (cs := #[.slice Ao11 y569.length co11, .slice none 0 0]) ?_ 1 _ rfl; (with_reducible repeat (first | refine blk_drewN ?_ _ | refine blk_drew ?_ | refine blk_alloc ?_ _)); refine blk_put (cs := #[.slice none 0 0, .slice none 0 0]) ?_ 0 _ rfl; (with_reducible repeat (first | refine blk_drewN ?_ _ | refine blk_drew ?_ | refine blk_alloc ?_ _)); refine blk_far ?_ NB565_564.out _; (with_reducible repeat (first | refine blk_drewN ?_ _ | refine blk_drew ?_ | refine blk_alloc ?_ _)); exact BK565.out) Try.underlying42 rfl (by kernel_rfl)) rfl ?_
   exact ⟨_, _, by first | rfl | (simp [errW_none, errW_some] <;> rfl) | (simp [*, errW_none, errW_some] <;> rfl), by (with_reducible repeat (first | apply Kd.R_alloc | apply Kd.R_drewN | apply Kd.R_drew)); exact Kd.R_mono (Kd.R_far (p := ⟨gb565, 1, none⟩) (Kd.R_far (p := ⟨gb565, 0, none⟩) (Kd.R_far (p := ⟨gb564, 1, none⟩) (Kd.R_types (Kd.R_types HO571.out BK564.out (by decide)) BK565.out (by decide)) (fun _ hk => hk.1.2) (.slice Ao17 y575.length co17)) (fun _ hk => hk.2) (.slice Ao11 y569.length co11)) (fun _ hk => hk.2) (.slice Ao17 y575.length co17)) (fun _ hk => trivial), by (with_reducible repeat (first | apply Kd.R_alloc | apply Kd.R_drewN | apply Kd.R_drew)); exact Kd.R_mono (Kd.R_far (p := ⟨gb565, 1, none⟩) (Kd.R_far (p := ⟨gb565, 0, none⟩) (Kd.R_far (p := ⟨gb564, 1, none⟩) (Kd.R_types (Kd.R_types HO577.out BK564.out (by decide)) BK565.out (by decide)) (fun _ hk => hk.1.2) (.slice Ao17 y575.length co17)) (fun _ hk => hk.2) (.slice Ao11 y569.length co11)) (fun _ hk => hk.2) (.slice Ao17 y575.length co17)) (fun _ hk => trivial), bs2 HB GE564 GE565⟩
  ·
   rw [if_neg c3] at H
   exact absurd H (by simp)
 ·
  rw [if_neg c2] at H
  exact absurd H (by simp)

/-! ### spec_l11Own: function 91 -/
def spec_l11Own.f (l0_0 : List ByteArray) (l0_1 : List (S72)) (l0_2 : List ByteArray) (a0_3 : Int) : Option (List ByteArray × (List (S72)) × List ByteArray × Int) := (spec_l1Own.f l0_0 l0_1).bind fun bt580 => ((some (([] : List ByteArray) : List ByteArray)).bind fun y586 => (if y586.length + l0_2.length < 8796093022208 then (some (bt580.1, bt580.2, (y586 ++ l0_2), a0_3)) else (none)))
set_option maxHeartbeats 8000000 in
set_option maxRecDepth 100000 in
theorem spec_l11Own.calls (A0_0 : Option Addr) (c0_0 : Nat) (l0_0 : List ByteArray) (A0_1 : Option Addr) (c0_1 : Nat) (l0_1 : List (S72)) (A0_2 : Option Addr) (c0_2 : Nat) (l0_2 : List ByteArray) (a0_3 : Int) (r1 : List ByteArray) (r2 : List (S72)) (r3 : List ByteArray) (r4 : Int) (w : World) (hr0_0 : Kd.C Kd.string w A0_0 l0_0.length l0_0) (hc0_0 : l0_0.length ≤ c0_0) (hr0_1 : Kd.C k72 w A0_1 l0_1.length l0_1) (hc0_1 : l0_1.length ≤ c0_1) (hr0_2 : Kd.C Kd.string w A0_2 l0_2.length l0_2) (hc0_2 : l0_2.length ≤ c0_2) (h : spec_l11Own.f l0_0 l0_1 l0_2 a0_3 = some (r1, r2, r3, r4)) :
  Calls Try.prog 91 #[.agg #[.slice A0_0 l0_0.length c0_0, .slice A0_1 l0_1.length c0_1, .slice A0_2 l0_2.length c0_2, .int .i64 a0_3]] w fun e w' => ∃ v0_ v1_ v2_ : Value, e = .returned (.agg #[v0_, v1_, v2_, .int .i64 r4]) ∧ Kd.R Kd.string 9 w' w.heap.size (fun k_ => some k_ ≠ (v2_ : Value).ownBlock) v0_ r1 ∧ Kd.R k72 72 w' w.heap.size (fun _ => True) v1_ r2 ∧ Kd.R Kd.string 9 w' w.heap.size (fun k_ => some k_ ≠ (v0_ : Value).ownBlock) v2_ r3 ∧ Below w.heap.size w w' := by
 have hu44 := Try.underlying44
 have hu42 := Try.underlying42
 have HR0_0 := Aside0.mk hr0_0
 have HC0_0 := Aside0.mk hc0_0
 clear hr0_0 hc0_0
 have HR0_1 := Aside0.mk hr0_1
 have HC0_1 := Aside0.mk hc0_1
 clear hr0_1 hc0_1
 have HR0_2 := Aside0.mk hr0_2
 have HC0_2 := Aside0.mk hc0_2
 clear hr0_2 hc0_2
 have HB := Aside0.mk (Below.refl w.heap.size w)
 have H : ((spec_l1Own.f l0_0 l0_1).bind fun bt580 => ((some (([] : List ByteArray) : List ByteArray)).bind fun y586 => (if y586.length + l0_2.length < 8796093022208 then (some (bt580.1, bt580.2, (y586 ++ l0_2), a0_3)) else (none)))) = some (r1, r2, r3, r4) := h
 clear h
 replace H := Option.bind_eq_some_iff.mp H
 obtain ⟨⟨t580, t583⟩, A20, H⟩ := H
 replace H : ((some (([] : List ByteArray) : List ByteArray)).bind fun y586 => (if y586.length + l0_2.length < 8796093022208 then (some (t580, t583, (y586 ++ l0_2), a0_3)) else (none))) = some (r1, r2, r3, r4) := H
 have A2 := Aside0.mk A20
 clear A20
 obtain ⟨y586, hy586⟩ : ∃ y_ : List ByteArray, y_ = (([] : List ByteArray)) := ⟨_, rfl⟩
 replace H : (if y586.length + l0_2.length < 8796093022208 then (some (t580, t583, (y586 ++ l0_2), a0_3)) else (none)) = some (r1, r2, r3, r4) := by first | (rw [hy586]; with_reducible exact H) | (have H2_ := (Option.bind_some _ _).symm.trans H; rw [hy586]; with_reducible exact H2_) | (have H2_ := (Option.bind_some _ _).symm.trans H; with_reducible exact H2_) | with_reducible exact H | (rw [hy586]; exact H) | exact H
 have Ny586 := Aside0.mk hy586
 clear hy586
 by_cases c3 : y586.length + l0_2.length < 8796093022208
 ·
  rw [if_pos c3] at H
  have LMc3 := Aside0.mk c3
  clear c3
  obtain ⟨y589, hy589⟩ : ∃ y_ : List ByteArray, y_ = (y586 ++ l0_2) := ⟨_, rfl⟩
  replace H : (some (t580, t583, y589, a0_3)) = some (r1, r2, r3, r4) := by first | (rw [hy589]; with_reducible exact H) | (have H2_ := (Option.bind_some _ _).symm.trans H; rw [hy589]; with_reducible exact H2_) | (have H2_ := (Option.bind_some _ _).symm.trans H; with_reducible exact H2_) | with_reducible exact H | (rw [hy589]; exact H) | exact H
  have Ny589 := Aside0.mk hy589
  clear hy589
  simp only [Option.some.injEq, Prod.mk.injEq] at H
  obtain ⟨rfl, rfl, rfl, rfl⟩ := H
  go_enter Try.func91, Try.ntmps91
  go_wp2_with (first | ((with_reducible refine gate_dst (N := 1) rfl ?_); refine box_event ?hg (N := 1) ?hd (cs := #[.slice A0_0 l0_0.length c0_0, .slice A0_1 l0_1.length c0_1, .slice A0_2 l0_2.length c0_2, .int .i64 a0_3]) (t := 44) ?hr ?_; (case hd => rfl); (case hg => rfl); (case hr => first | (go_simp; done) | (go_simp; rfl)); intro gb578 hg w4 hbox hb; have BK578 := Aside0.mk (hbox); have GW578 := Aside0.mk ((by rw [hg]; exact (below_size (bs HB)) : w.heap.size ≤ gb578)); have GE578 := Aside0.mk ((by rw [hg]; exact (below_size (bs HB)) : w.heap.size ≤ gb578)); replace HB := Aside0.mk (below_step (bs HB) hb); clear hb hbox hg) | ((with_reducible refine gate_dst (N := 2) rfl ?_); refine box_event ?hg (N := 2) ?hd (cs := #[.slice none 0 0, .slice none 0 0, .slice none 0 0, .int .i64 0]) (t := 44) ?hr ?_; (case hd => rfl); (case hg => rfl); (case hr => first | (go_simp; done) | (go_simp; rfl)); intro gb579 hg w5 hbox hb; have BK579 := Aside0.mk (hbox); have GW579 := Aside0.mk ((by rw [hg]; exact (below_size (bs1 HB GE578)) : w.heap.size ≤ gb579)); have GE579 := Aside0.mk ((by rw [hg]; exact (below_size (bs1 HB GE578)) : w.heap.size ≤ gb579)); replace HB := Aside0.mk (below_step (bs1 HB GE578) hb); have NB578_579 := Aside0.mk ((bn BK578 hg : gb578 ≠ gb579)); have NB579_578 := Aside0.mk ((bm BK578 hg : gb579 ≠ gb578)); replace BK578 := nb BK578 hb; clear hb hbox hg; have hnb6 := NB578_579.out; have hnc6 := NB579_578.out; obtain ⟨hcz7_0, hcz7_1, hcz7_2, hcz7_3⟩ := cz4 BK578; obtain ⟨hfz7_0, hfz7_1, hfz7_2, hfz7_3⟩ := fz4 BK578) | ((with_reducible refine gate_callee (f := 115) rfl ?_); refine gL (some 5) rfl rfl Try.func115 (by kernel_rfl) rfl #[.agg #[.slice A0_0 l0_0.length c0_0, .slice A0_1 l0_1.length c0_1]] rfl ?_; (with_reducible refine (spec_l1Own.calls _ _ l0_0 _ _ l0_1 t580 t583 _ ?side1 ?side2 ?side3 ?side4 A2.out).mono ?_); (case side1 => exact cb HR0_0 HB); (case side2 => exact HC0_0.out); (case side3 => exact cb HR0_1 HB); (case side4 => exact HC0_1.out); rintro e w8 ⟨v581, v584, rfl, ho0, ho1, hb⟩; refine ⟨_, rfl, ?_⟩; have HO582 := Aside0.mk (Kd.R_lower ho0 (below_size (bs2 HB GE578 GE579))); have HO585 := Aside0.mk (Kd.R_lower ho1 (below_size (bs2 HB GE578 GE579))); replace BK578 := nb BK578 hb; replace BK579 := nb BK579 hb; replace HB := Aside0.mk (below_step (bs2 HB GE578 GE579) hb); (try clear hb); (try clear hb2); (try clear hk); (try clear hi); (try clear ho0); (try clear ho1); obtain ⟨Ao9, co9, eo9⟩ := Kd.R_slice HO582.out; subst eo9; obtain ⟨hcz10_0, hcz10_1, hcz10_2, hcz10_3⟩ := cz4 BK578; obtain ⟨hfz10_0, hfz10_1, hfz10_2, hfz10_3⟩ := fz4 BK578; obtain ⟨Ao11, co11, eo11⟩ := Kd.R_slice HO585.out; subst eo11) | ((with_reducible refine gate_dst (N := 7) rfl ?_); refine Kd.R_lit Kd.string _ 9 ?hg (N := 7) ?hd (xs := ([] : List ByteArray)) (inner := []) (ok := fun _ => True) (okp := fun _ => True) ?hr ?hp (fun _ hk => hk) trivial (Below.refl _ _) (Nat.le_refl _) (by simp) ?_; (case hd => rfl); (case hg => rfl); (case hr => first | (go_simp; done) | (go_simp; rfl)); (case hp => exact (Reps.none _ _)); intro v587 w12 ho13 hb hg_ hnew_; clear hg_ hnew_; (first | rw [← Ny586.out] at ho13 | (simp only [Int.reduceToNat] at ho13; rw [← Ny586.out] at ho13)); replace HO585 := nf HO585 BK578 hb; have HO588 := Aside0.mk (Kd.R_lower (Kd.R_new' ho13 (Kd.R_lt (rf HO582 BK578))) (below_size (bs2 HB GE578 GE579))); replace HO582 := Aside0.mk (Kd.R_elder' (rf HO582 BK578) (Kd.R_base ho13) hb); replace BK578 := Aside0.mk (blk_below (g := gb578) (o := .cells #[.slice Ao9 t580.length co9, .slice Ao11 t583.length co11, .slice A0_2 l0_2.length c0_2, .int .i64 a0_3] 44 (0, 0)) (by (with_reducible repeat (first | refine blk_drewN ?_ _ | refine blk_drew ?_ | refine blk_alloc ?_ _)); refine blk_put (cs := #[.slice Ao9 t580.length co9, .slice A0_1 l0_1.length c0_1, .slice A0_2 l0_2.length c0_2, .int .i64 a0_3]) ?_ 1 _ rfl; (with_reducible repeat (first | refine blk_drewN ?_ _ | refine blk_drew ?_ | refine blk_alloc ?_ _)); refine blk_put (cs := #[.slice A0_0 l0_0.length c0_0, .slice A0_1 l0_1.length c0_1, .slice A0_2 l0_2.length c0_2, .int .i64 a0_3]) ?_ 0 _ rfl; (with_reducible repeat (first | refine blk_drewN ?_ _ | refine blk_drew ?_ | refine blk_alloc ?_ _)); exact BK578.out) hb); replace BK579 := Aside0.mk (blk_below (bf BK579 NB579_578) hb); replace HB := Aside0.mk (below_step (bs2 HB GE578 GE579) hb); clear hb ho13; obtain ⟨hcz14_0, hcz14_1, hcz14_2, hcz14_3⟩ := cz4 BK578; obtain ⟨hfz14_0, hfz14_1, hfz14_2, hfz14_3⟩ := fz4 BK578) | ((with_reducible refine gate_builtin (b := .append) (xs := #[.tmp 7, .tmp 9]) rfl ?_); at_builtin; refine Kd.R_append_rows Kd.string (w0 := w) w.heap.size rfl (.tmp 7) (.tmp 9) 34 9 (.string ⟨#[]⟩) 16 rfl Try.underlying34 info9 rfl (by decide) (by omega) v587 y586 l0_2 _ _ _ (fun k_ => some k_ ≠ (.slice Ao9 t580.length co9 : Value).ownBlock) (fun _ => False) rfl rfl ?aO ?aR (fun _ _ h => h) (fun _ h => h.elim) ?aF ?aB ?aS ?aL ?_; (case aR => exact cb HR0_2 HB); (case aB => exact (bs2 HB GE578 GE579)); (case aF => exact (fun k_ hk => Kd.fresh' (Kd.R_lt (rr HO582.out)) k_ hk)); (case aO => exact (by (with_reducible repeat (first | apply Kd.R_alloc | apply Kd.R_drewN | apply Kd.R_drew)); exact Kd.R_mono HO588.out (fun _ hk => hk.2))); (case aS => exact (below_size (bs2 HB GE578 GE579))); (case aL => have := LMc3.out; omega); intro v590 w15 ho hb hg hat; rw [← Ny589.out] at ho; replace BK578 := Aside0.mk (blk_grown (bk BK578) hg (Kd.R_ne HO588.out BK578.out (by decide))); replace BK579 := Aside0.mk (blk_grown (bk BK579) hg (Kd.R_ne HO588.out BK579.out (by decide))); replace HO582 := Aside0.mk (Kd.R_after (ok := (fun _ => True)) (rr HO582.out) hg hat); replace HO585 := Aside0.mk (Kd.R_over' (rr HO585.out) (Kd.R_typed (rr HO588.out)) (by decide) hg); replace HB := Aside0.mk (hb); have HO591 := Aside0.mk (ho); clear HO588; clear ho hb hg hat; obtain ⟨Ao16, co16, eo16⟩ := Kd.R_slice HO591.out; subst eo16; obtain ⟨hcz17_0, hcz17_1, hcz17_2, hcz17_3⟩ := cz4 BK578; obtain ⟨hfz17_0, hfz17_1, hfz17_2, hfz17_3⟩ := fz4 BK578; obtain ⟨hcz18_0, hcz18_1, hcz18_2, hcz18_3⟩ := cz4 BK579; obtain ⟨hfz18_0, hfz18_1, hfz18_2, hfz18_3⟩ := fz4 BK579))
  refine bodyPost_ret (results_cell_row rfl _ _ gb579 44 #[.slice Ao9 t580.length co9, .slice Ao11 t583.length co11, .slice Ao16 y589.length co16, .int .i64 a0_3] (0, 0) _ rfl (by (with_reducible repeat (first | refine blk_drewN ?_ _ | refine blk_drew ?_ | refine blk_alloc ?_ _)); refine blk_put (cs := #[.slice Ao9 t580.length co9, .slice Ao11 t583.length co11, .slice Ao16 y589.length co16, .int .i64 0]) ?_ 3 _ rfl; (with_reducible repeat (first | refine blk_drewN ?_ _ | refine blk_drew ?_ | refine blk_alloc ?_ _)); refine blk_put (cs := #[.slice Ao9 t580.length co9, .slice Ao11 t583.length co11, .slice none 0 0, .int .i64 0]) ?_ 2 _ rfl; (with_reducible repeat (first | refine blk_drewN ?_ _ | refine blk_drew ?_ | refine blk_alloc ?_ _)); refine blk_put (cs := #[.slice Ao9 t580.length co9, .slice none 0 0, .slice none 0 0, .int .i64 0]) ?_ 1 _ rfl; (with_reducible repeat (first | refine blk_drewN ?_ _ | refine blk_drew ?_ | refine blk_alloc ?_ _)); refine blk_put (cs := #[.slice none 0 0, .slice none 0 0, .slice none 0 0, .int .i64 0]) ?_ 0 _ rfl; (with_reducible repeat (first | refine blk_drewN ?_ _ | refine blk_drew ?_ | refine blk_alloc ?_ _)); refine blk_far ?_ NB579_578.out _; (with_reducible repeat (first | refine blk_drewN ?_ _ | refine blk_drew ?_ | refine blk_alloc ?_ _)); exact BK579.out) Try.underlying44 rfl (by kernel_rfl)) rfl ?_
  exact ⟨_, _, _, by first | rfl | (simp [errW_none, errW_some] <;> rfl) | (simp [*, errW_none, errW_some] <;> rfl), by (with_reducible repeat (first | apply Kd.R_alloc | apply Kd.R_drewN | apply Kd.R_drew)); exact Kd.R_mono (Kd.R_far (p := ⟨gb579, 3, none⟩) (Kd.R_far (p := ⟨gb579, 2, none⟩) (Kd.R_far (p := ⟨gb579, 1, none⟩) (Kd.R_far (p := ⟨gb579, 0, none⟩) (Kd.R_far (p := ⟨gb578, 2, none⟩) (Kd.R_types (Kd.R_types HO582.out BK578.out (by decide)) BK579.out (by decide)) (fun _ hk => hk.1.2) (.slice Ao16 y589.length co16)) (fun _ hk => hk.2) (.slice Ao9 t580.length co9)) (fun _ hk => hk.2) (.slice Ao11 t583.length co11)) (fun _ hk => hk.2) (.slice Ao16 y589.length co16)) (fun _ hk => hk.2) (.int .i64 a0_3)) (fun _ hk => hk.1.1.2), by (with_reducible repeat (first | apply Kd.R_alloc | apply Kd.R_drewN | apply Kd.R_drew)); exact Kd.R_mono (Kd.R_far (p := ⟨gb579, 3, none⟩) (Kd.R_far (p := ⟨gb579, 2, none⟩) (Kd.R_far (p := ⟨gb579, 1, none⟩) (Kd.R_far (p := ⟨gb579, 0, none⟩) (Kd.R_far (p := ⟨gb578, 2, none⟩) (Kd.R_types (Kd.R_types HO585.out BK578.out (by decide)) BK579.out (by decide)) (fun _ hk => hk.1.2) (.slice Ao16 y589.length co16)) (fun _ hk => hk.2) (.slice Ao9 t580.length co9)) (fun _ hk => hk.2) (.slice Ao11 t583.length co11)) (fun _ hk => hk.2) (.slice Ao16 y589.length co16)) (fun _ hk => hk.2) (.int .i64 a0_3)) (fun _ hk => trivial), by (with_reducible repeat (first | apply Kd.R_alloc | apply Kd.R_drewN | apply Kd.R_drew)); exact Kd.R_mono (Kd.R_far (p := ⟨gb579, 3, none⟩) (Kd.R_far (p := ⟨gb579, 2, none⟩) (Kd.R_far (p := ⟨gb579, 1, none⟩) (Kd.R_far (p := ⟨gb579, 0, none⟩) (Kd.R_far (p := ⟨gb578, 2, none⟩) (Kd.R_types (Kd.R_types HO591.out BK578.out (by decide)) BK579.out (by decide)) (fun _ hk => hk.1.2) (.slice Ao16 y589.length co16)) (fun _ hk => hk.2) (.slice Ao9 t580.length co9)) (fun _ hk => hk.2) (.slice Ao11 t583.length co11)) (fun _ hk => hk.2) (.slice Ao16 y589.length co16)) (fun _ hk => hk.2) (.int .i64 a0_3)) (fun _ hk => hk.1.1), bs2 HB GE578 GE579⟩
 ·
  rw [if_neg c3] at H
  exact absurd H (by simp)

/-! ### impl_Write_116: function 116 -/
-- slices.Clone: a copy in a row of the call's own; of nil: nil.
def impl_Write_116.f (l0 : List (S72)) : Option (List (S72)) := if l0.length * 24 ≤ 140737488355328 then some l0 else none
set_option maxRecDepth 100000 in
theorem impl_Write_116.calls (A0 : Option Addr) (c0 : Nat) (l0 : List (S72)) (r : List (S72)) (w : World) (hr0 : Kd.C k72 w A0 l0.length l0) (hc0 : l0.length ≤ c0) (h : impl_Write_116.f l0 = some r) :
    Calls Try.prog 116 #[.slice A0 l0.length c0] w fun e w' => ∃ v0_ : Value, e = .returned (v0_) ∧ Kd.R k72 72 w' w.heap.size (fun _ => True) v0_ r ∧ Below w.heap.size w w' := by
  have hus := Try.underlying26
  have huu : ∀ w, Sem.run Try.prog (underlying 26) w = .ok (TypeDesc.slice 72) w := run_underlying hus
  have hee : ∀ (w : World) (a : Option Addr) (n c n' c' : Nat), (binOp .eql 26 (.slice a n c) (.slice none n' c')).run Try.prog w = .ok (.bool a.isNone) w := fun w a n c n' c' => Lib.run_eql_slice_nil w _ _ a n c n' c' hus
  unfold impl_Write_116.f at h
  by_cases hl : l0.length * 24 ≤ 140737488355328
  · rw [if_pos hl] at h
    obtain rfl := Option.some.inj h
    have hR := Aside0.mk hr0
    have hL := Aside0.mk hl
    clear hr0 h hl
    rcases A0 with _ | ad
    · have h0 : l0 = [] := by
        rcases Nat.eq_zero_or_pos l0.length with h0 | h0
        · exact List.eq_nil_of_length_eq_zero h0
        · obtain ⟨ad, h, _⟩ := hR.out.2.2 h0
          cases h
      subst h0
      go_enter Try.func116, Try.ntmps116
      go_wp2
      go_ret
      exact ⟨_, rfl, Kd.R_nil _ _ _ _ _, Below.refl _ _⟩
    · go_enter Try.func116, Try.ntmps116
      go_wp2_with (first
        | ((with_reducible refine gate_dst (N := 5) rfl ?_); refine Kd.R_lit k72 _ 72 ?hg (N := 5) ?hd (xs := ([] : List (S72))) (inner := []) (ok := fun _ => True) (okp := fun _ => True) ?hr ?hp (fun _ hk => hk) trivial (Below.refl _ _) (Nat.le_refl _) (by simp) ?_; (case hd => rfl); (case hg => rfl); (case hr => first | (go_simp; done) | (go_simp; rfl)); (case hp => exact (Reps.none _ _)); intro v391 w4 ho5 hb hg_ hnew_; clear hg_ hnew_; have n0_ := Aside0.mk (Kd.R_lower ho5 (Nat.le_refl _)); have n1_ := Aside0.mk hb; clear ho5 hb)
        | ((with_reducible refine gate_builtin (b := .append) (xs := #[.tmp 5, .tmp 6]) rfl ?_); at_builtin; refine Kd.R_append_rows k72 (w0 := w) w.heap.size rfl (.tmp 5) (.tmp 6) 26 72 (.agg #[(.int .i64 0), (.string ⟨#[]⟩)]) 24 rfl hus info72 rfl (by decide) (by omega) v391 ([] : List (S72)) l0 _ _ _ (fun _ => True) (fun _ => False) rfl rfl ?aO ?aR (fun _ _ h => h) (fun _ h => h.elim) ?aF ?aB ?aS ?aL ?_; (case aR => exact Kd.C_below hR.out n1_.out); (case aB => exact n1_.out); (case aF => exact (fun _ _ => trivial)); (case aO => exact n0_.out); (case aS => exact n1_.out.size); (case aL => have := hL.out; simp only [List.length_nil, Nat.zero_add]; omega); intro v394 w6 ho hb hg hat; rw [List.nil_append] at ho; have m0_ := Aside0.mk ho; have m1_ := Aside0.mk hb; clear n0_ n1_ ho hb hg hat))
      go_ret
      exact ⟨_, rfl, m0_.out, m1_.out⟩
  · rw [if_neg hl] at h
    cases h

/-! ### impl_ownStore: function 92 -/
def impl_ownStore.f (l0_0 : List ByteArray) (l0_1 : List (S72)) (l0_2 : List ByteArray) (a0_3 : Int) : Option (List ByteArray × (List (S72)) × List ByteArray × Int) := (slices_Clone_string_string.f l0_0).bind fun t612 => ((impl_Write_116.f l0_1).bind fun t615 => ((slices_Clone_string_string.f l0_2).bind fun t618 => (some (t612, t615, t618, a0_3))))
def impl_ownStore.T1 : Bool × List (List Nat × List Nat) := (true, [([], []), ([0], [0]), ([1], [1]), ([2], [2]), ([], []), ([4], [4]), ([5], [5]), ([6, 3], [6]), ([3, 7], [3, 7]), ([], []), ([9], [9]), ([10, 7], [10]), ([], []), ([12], [12]), ([8, 11, 13], [8, 11, 13]), ([14, 11, 0, 1, 2, 3, 4, 5, 6, 7, 8, 9, 10, 11, 12, 13, 14], [14])])
def impl_ownStore.B1 : List Nat := [0, 1, 3, 7, 0, 16, 48, 127, 255, 0, 512, 1791, 0, 4096, 16383, 32767]
theorem impl_ownStore.tab1 : rtab .any (opsOf Try.f92 1) = impl_ownStore.T1 := by kernel_rfl
theorem impl_ownStore.bits1 : waitsOk impl_ownStore.T1.2 impl_ownStore.B1 = true := by kernel_rfl
set_option maxHeartbeats 8000000 in
set_option maxRecDepth 100000 in
theorem impl_ownStore.calls (A0_0 : Option Addr) (c0_0 : Nat) (l0_0 : List ByteArray) (A0_1 : Option Addr) (c0_1 : Nat) (l0_1 : List (S72)) (A0_2 : Option Addr) (c0_2 : Nat) (l0_2 : List ByteArray) (a0_3 : Int) (r1 : List ByteArray) (r2 : List (S72)) (r3 : List ByteArray) (r4 : Int) (w : World) (hr0_0 : Kd.C Kd.string w A0_0 l0_0.length l0_0) (hc0_0 : l0_0.length ≤ c0_0) (hr0_1 : Kd.C k72 w A0_1 l0_1.length l0_1) (hc0_1 : l0_1.length ≤ c0_1) (hr0_2 : Kd.C Kd.string w A0_2 l0_2.length l0_2) (hc0_2 : l0_2.length ≤ c0_2) (h : impl_ownStore.f l0_0 l0_1 l0_2 a0_3 = some (r1, r2, r3, r4)) :
  Calls Try.prog 92 #[.agg #[.slice A0_0 l0_0.length c0_0, .slice A0_1 l0_1.length c0_1, .slice A0_2 l0_2.length c0_2, .int .i64 a0_3]] w fun e w' => ∃ v0_ v1_ v2_ : Value, e = .returned (.agg #[v0_, v1_, v2_, .int .i64 r4]) ∧ Kd.R Kd.string 9 w' w.heap.size (fun k_ => some k_ ≠ (v2_ : Value).ownBlock) v0_ r1 ∧ Kd.R k72 72 w' w.heap.size (fun _ => True) v1_ r2 ∧ Kd.R Kd.string 9 w' w.heap.size (fun k_ => some k_ ≠ (v0_ : Value).ownBlock) v2_ r3 ∧ Below w.heap.size w w' := by
 have hu44 := Try.underlying44
 have hu42 := Try.underlying42
 have HR0_0 := Aside0.mk hr0_0
 have HC0_0 := Aside0.mk hc0_0
 clear hr0_0 hc0_0
 have HR0_1 := Aside0.mk hr0_1
 have HC0_1 := Aside0.mk hc0_1
 clear hr0_1 hc0_1
 have HR0_2 := Aside0.mk hr0_2
 have HC0_2 := Aside0.mk hc0_2
 clear hr0_2 hc0_2
 have HB := Aside0.mk (Below.refl w.heap.size w)
 have H : ((slices_Clone_string_string.f l0_0).bind fun t612 => ((impl_Write_116.f l0_1).bind fun t615 => ((slices_Clone_string_string.f l0_2).bind fun t618 => (some (t612, t615, t618, a0_3))))) = some (r1, r2, r3, r4) := h
 clear h
 replace H := Option.bind_eq_some_iff.mp H
 obtain ⟨t612, A20, H⟩ := H
 replace H : ((impl_Write_116.f l0_1).bind fun t615 => ((slices_Clone_string_string.f l0_2).bind fun t618 => (some (t612, t615, t618, a0_3)))) = some (r1, r2, r3, r4) := H
 have A2 := Aside0.mk A20
 clear A20
 replace H := Option.bind_eq_some_iff.mp H
 obtain ⟨t615, A30, H⟩ := H
 replace H : ((slices_Clone_string_string.f l0_2).bind fun t618 => (some (t612, t615, t618, a0_3))) = some (r1, r2, r3, r4) := H
 have A3 := Aside0.mk A30
 clear A30
 replace H := Option.bind_eq_some_iff.mp H
 obtain ⟨t618, A40, H⟩ := H
 replace H : (some (t612, t615, t618, a0_3)) = some (r1, r2, r3, r4) := H
 have A4 := Aside0.mk A40
 clear A40
 simp only [Option.some.injEq, Prod.mk.injEq] at H
 obtain ⟨rfl, rfl, rfl, rfl⟩ := H
 go_enter Try.func92, Try.ntmps92
 try go_wp2_with (first | ((with_reducible refine gate_dst (N := 1) rfl ?_); refine box_event ?hg (N := 1) ?hd (cs := #[.slice A0_0 l0_0.length c0_0, .slice A0_1 l0_1.length c0_1, .slice A0_2 l0_2.length c0_2, .int .i64 a0_3]) (t := 44) ?hr ?_; (case hd => rfl); (case hg => rfl); (case hr => first | (go_simp; done) | (go_simp; rfl)); intro gb610 hg w5 hbox hb; have BK610 := Aside0.mk (hbox); have GW610 := Aside0.mk ((by rw [hg]; exact (below_size (bs HB)) : w.heap.size ≤ gb610)); have GE610 := Aside0.mk ((by rw [hg]; exact (below_size (bs HB)) : w.heap.size ≤ gb610)); replace HB := Aside0.mk (below_step (bs HB) hb); clear hb hbox hg) | ((with_reducible refine gate_dst (N := 2) rfl ?_); refine box_event ?hg (N := 2) ?hd (cs := #[.slice none 0 0, .slice none 0 0, .slice none 0 0, .int .i64 0]) (t := 44) ?hr ?_; (case hd => rfl); (case hg => rfl); (case hr => first | (go_simp; done) | (go_simp; rfl)); intro gb611 hg w6 hbox hb; have BK611 := Aside0.mk (hbox); have GW611 := Aside0.mk ((by rw [hg]; exact (below_size (bs1 HB GE610)) : w.heap.size ≤ gb611)); have GE611 := Aside0.mk ((by rw [hg]; exact (below_size (bs1 HB GE610)) : w.heap.size ≤ gb611)); replace HB := Aside0.mk (below_step (bs1 HB GE610) hb); have NB610_611 := Aside0.mk ((bn BK610 hg : gb610 ≠ gb611)); have NB611_610 := Aside0.mk ((bm BK610 hg : gb611 ≠ gb610)); replace BK610 := nb BK610 hb; clear hb hbox hg))
 have n0_ := Aside0.mk (blk_drew BK610.out)
 have n1_ := Aside0.mk (blk_drew BK611.out)
 have n2_ := Aside0.mk (below_drew1 HB.out)
 clear BK610
 clear BK611
 clear HB
 have BK610 := n0_
 have BK611 := n1_
 have HB := n2_
 clear n0_ n1_ n2_
 refine start_ (n := 16) (S := fun w' => w'.cell? ⟨gb610, 0, none⟩ = some (.slice A0_0 l0_0.length c0_0) ∧ w'.cell? ⟨gb610, 1, none⟩ = some (.slice A0_1 l0_1.length c0_1) ∧ w'.cell? ⟨gb610, 2, none⟩ = some (.slice A0_2 l0_2.length c0_2) ∧ w'.cell? ⟨gb610, 3, none⟩ = some (.int .i64 a0_3)) (ds := []) #[false, false, false, false, false, false, false, false, false, false, false, false, false, false, false, false] (by kernel_rfl) rfl rfl ⟨(blk_cell BK610.out 0).trans rfl, (blk_cell BK610.out 1).trans rfl, (blk_cell BK610.out 2).trans rfl, (blk_cell BK610.out 3).trans rfl⟩ (fun hHeld => ?_); refine with_tabW impl_ownStore.tab1 impl_ownStore.bits1 (fun HT_ HW_ => ?_)
 generalize w6.drew = w7 at BK610 BK611 HB hHeld ⊢
 refine pureS 0 3 HT_.out ?_
 refine pureS 1 4 HT_.out ?_
 refine pureS 4 7 HT_.out ?_
 refine pureS 5 8 HT_.out ?_
 refine pureS 9 12 HT_.out ?_
 refine pureS 12 15 HT_.out ?_
 refine takeS 2 5 HT_.out HW_.out hHeld (hr := by rintro w' ⟨s0, s1, s2, s3⟩; go_simp; with_reducible rfl) (h := ?_)
 refine takeS 6 9 HT_.out HW_.out hHeld (hr := by rintro w' ⟨s0, s1, s2, s3⟩; go_simp; with_reducible rfl) (h := ?_)
 refine takeS 10 13 HT_.out HW_.out hHeld (hr := by rintro w' ⟨s0, s1, s2, s3⟩; go_simp; with_reducible rfl) (h := ?_)
 refine takeS 13 16 HT_.out HW_.out hHeld (hr := by rintro w' ⟨s0, s1, s2, s3⟩; go_simp; with_reducible rfl) (h := ?_)
 refine one_ (i := 3) (N := some 6) #[true, true, true, true, true, true, true, false, false, true, true, false, true, true, false, false] rfl rfl (one_of HT_.out (by kernel_rfl)) (by decide) (fun K hK => ?_)
 refine goes_ Try.func97 (by kernel_rfl) rfl #[.slice A0_0 l0_0.length c0_0] (by rfl) rfl rfl (by (try simp only [List.map_toArray, List.map_cons, List.map_nil]); first | done | rfl | (simp only [List.length_drop, List.length_take]; rfl)) ?_
 with_reducible refine (slices_Clone_string_string.calls _ _ l0_0 t612 _ ?side1 ?side2 A2.out).mono ?_
 (case side1 => exact cb HR0_0 HB)
 (case side2 => exact HC0_0.out)
 rintro e w8 ⟨v613, rfl, ho0, hb⟩
 refine ⟨_, rfl, ?_⟩
 have n0_ := Aside0.mk (Kd.R_lower ho0 (below_size (bs2 HB GE610 GE611)))
 have n1_ := Aside0.mk (bb BK610 hb)
 have n2_ := Aside0.mk (bb BK611 hb)
 have n3_ := Aside0.mk (below_step (bs2 HB GE610 GE611) hb)
 clear BK610
 clear BK611
 clear HB
 have HO614 := n0_
 have BK610 := n1_
 have BK611 := n2_
 have HB := n3_
 clear n0_ n1_ n2_ n3_
 (try clear hb)
 (try clear hb2)
 (try clear hk)
 (try clear hi)
 (try clear ho0)
 refine hK.out _ _ ⟨(blk_cell BK610.out 0).trans rfl, (blk_cell BK610.out 1).trans rfl, (blk_cell BK610.out 2).trans rfl, (blk_cell BK610.out 3).trans rfl⟩ (fun hHeld => ?_)
 clear hK K
 refine norm_ (a' := ?_) ?_ ?_
 rotate_left
 ·
  show Act.put _ (some 6) _ = _
  simp only [Act.put, List.setIfInBounds_toArray, List.set_cons_zero, List.set_cons_succ, i64_w, i32_w]
  rfl
 refine one_ (i := 7) (N := some 10) #[true, true, true, true, true, true, true, true, false, true, true, false, true, true, false, false] rfl rfl (one_of HT_.out (by kernel_rfl)) (by decide) (fun K hK => ?_)
 refine goes_ Try.func116 (by kernel_rfl) rfl #[.slice A0_1 l0_1.length c0_1] (by rfl) rfl rfl (by (try simp only [List.map_toArray, List.map_cons, List.map_nil]); first | done | rfl | (simp only [List.length_drop, List.length_take]; rfl)) ?_
 with_reducible refine (impl_Write_116.calls _ _ l0_1 t615 _ ?side1 ?side2 A3.out).mono ?_
 (case side1 => exact cb HR0_1 HB)
 (case side2 => exact HC0_1.out)
 rintro e w9 ⟨v616, rfl, ho0, hb⟩
 refine ⟨_, rfl, ?_⟩
 have n0_ := Aside0.mk (Kd.R_below (rr HO614.out) hb)
 have n1_ := Aside0.mk (Kd.R_lower ho0 (below_size (bs2 HB GE610 GE611)))
 have n2_ := Aside0.mk (bb BK610 hb)
 have n3_ := Aside0.mk (bb BK611 hb)
 have n4_ := Aside0.mk (below_step (bs2 HB GE610 GE611) hb)
 clear HO614
 clear BK610
 clear BK611
 clear HB
 have HO614 := n0_
 have HO617 := n1_
 have BK610 := n2_
 have BK611 := n3_
 have HB := n4_
 clear n0_ n1_ n2_ n3_ n4_
 (try clear hb)
 (try clear hb2)
 (try clear hk)
 (try clear hi)
 (try clear ho0)
 obtain ⟨Ao10, co10, eo10⟩ := Kd.R_slice HO617.out
 (first | subst eo10 | (injection eo10 with f1_ f2_ f3_; have f4_ := f1_.symm; have f5_ := f3_.symm; clear f1_ f2_ f3_; subst f4_; subst f5_))
 obtain ⟨Ao11, co11, eo11⟩ := Kd.R_slice HO614.out
 (first | subst eo11 | (injection eo11 with f1_ f2_ f3_; have f4_ := f1_.symm; have f5_ := f3_.symm; clear f1_ f2_ f3_; subst f4_; subst f5_))
 refine hK.out _ _ ⟨(blk_cell BK610.out 0).trans rfl, (blk_cell BK610.out 1).trans rfl, (blk_cell BK610.out 2).trans rfl, (blk_cell BK610.out 3).trans rfl⟩ (fun hHeld => ?_)
 clear hK K
 refine norm_ (a' := ?_) ?_ ?_
 rotate_left
 ·
  show Act.put _ (some 10) _ = _
  simp only [Act.put, List.setIfInBounds_toArray, List.set_cons_zero, List.set_cons_succ, i64_w, i32_w]
  rfl
 refine pureS 8 11 HT_.out ?_
 refine one_ (i := 11) (N := some 14) #[true, true, true, true, true, true, true, true, true, true, true, true, true, true, false, false] rfl rfl (one_of HT_.out (by kernel_rfl)) (by decide) (fun K hK => ?_)
 refine goes_ Try.func97 (by kernel_rfl) rfl #[.slice A0_2 l0_2.length c0_2] (by rfl) rfl rfl (by (try simp only [List.map_toArray, List.map_cons, List.map_nil]); first | done | rfl | (simp only [List.length_drop, List.length_take]; rfl)) ?_
 with_reducible refine (slices_Clone_string_string.calls _ _ l0_2 t618 _ ?side1 ?side2 A4.out).mono ?_
 (case side1 => exact cb HR0_2 HB)
 (case side2 => exact HC0_2.out)
 rintro e w12 ⟨v619, rfl, ho0, hb⟩
 refine ⟨_, rfl, ?_⟩
 have n0_ := Aside0.mk (Kd.R_elder' (rr HO614.out) (Kd.R_base ho0) hb)
 have n1_ := Aside0.mk (Kd.R_below (rr HO617.out) hb)
 have n2_ := Aside0.mk (Kd.R_lower (Kd.R_new' ho0 (Kd.R_lt (rr HO614.out))) (below_size (bs2 HB GE610 GE611)))
 have n3_ := Aside0.mk (bb BK610 hb)
 have n4_ := Aside0.mk (bb BK611 hb)
 have n5_ := Aside0.mk (below_step (bs2 HB GE610 GE611) hb)
 clear HO614
 clear HO617
 clear BK610
 clear BK611
 clear HB
 have HO614 := n0_
 have HO617 := n1_
 have HO620 := n2_
 have BK610 := n3_
 have BK611 := n4_
 have HB := n5_
 clear n0_ n1_ n2_ n3_ n4_ n5_
 (try clear hb)
 (try clear hb2)
 (try clear hk)
 (try clear hi)
 (try clear ho0)
 obtain ⟨Ao13, co13, eo13⟩ := Kd.R_slice HO620.out
 (first | subst eo13 | (injection eo13 with f1_ f2_ f3_; have f4_ := f1_.symm; have f5_ := f3_.symm; clear f1_ f2_ f3_; subst f4_; subst f5_))
 refine hK.out _ _ ⟨(blk_cell BK610.out 0).trans rfl, (blk_cell BK610.out 1).trans rfl, (blk_cell BK610.out 2).trans rfl, (blk_cell BK610.out 3).trans rfl⟩ (fun hHeld => ?_)
 clear hK K
 refine norm_ (a' := ?_) ?_ ?_
 rotate_left
 ·
  show Act.put _ (some 14) _ = _
  simp only [Act.put, List.setIfInBounds_toArray, List.set_cons_zero, List.set_cons_succ, i64_w, i32_w]
  rfl
 refine pureS 14 17 HT_.out ?_
 refine one_ (i := 15) (N := none) #[true, true, true, true, true, true, true, true, true, true, true, true, true, true, true, true] rfl rfl (one_of HT_.out (by kernel_rfl)) (by decide) (fun K hK => ?_)
 have hs14 : w12.cell? ⟨gb611, 0, none⟩ = some (.slice none 0 0) := (blk_cell BK611.out 0).trans rfl
 have hfs14 := blk_frozen BK611.out 0
 have hns14_0 := NB610_611.out
 have hms14_0 := NB611_610.out
 have hs15 : w12.cell? ⟨gb611, 1, none⟩ = some (.slice none 0 0) := (blk_cell BK611.out 1).trans rfl
 have hfs15 := blk_frozen BK611.out 1
 have hns15_0 := NB610_611.out
 have hms15_0 := NB611_610.out
 have hs16 : w12.cell? ⟨gb611, 2, none⟩ = some (.slice none 0 0) := (blk_cell BK611.out 2).trans rfl
 have hfs16 := blk_frozen BK611.out 2
 have hns16_0 := NB610_611.out
 have hms16_0 := NB611_610.out
 have hs17 : w12.cell? ⟨gb611, 3, none⟩ = some (.int .i64 0) := (blk_cell BK611.out 3).trans rfl
 have hfs17 := blk_frozen BK611.out 3
 have hns17_0 := NB610_611.out
 have hms17_0 := NB611_610.out
 refine skip_ (w1 := ?_) (by rfl) rfl ?_ ?_
 rotate_left
 ·
  go_simp
  rfl
 refine hK.out _ _ ⟨((cell_far (p := ⟨gb611, _, none⟩) NB610_611.out _).trans (((cell_far (p := ⟨gb611, _, none⟩) NB610_611.out _).trans (((cell_far (p := ⟨gb611, _, none⟩) NB610_611.out _).trans (((cell_far (p := ⟨gb611, _, none⟩) NB610_611.out _).trans (hHeld.1)))))))), ((cell_far (p := ⟨gb611, _, none⟩) NB610_611.out _).trans (((cell_far (p := ⟨gb611, _, none⟩) NB610_611.out _).trans (((cell_far (p := ⟨gb611, _, none⟩) NB610_611.out _).trans (((cell_far (p := ⟨gb611, _, none⟩) NB610_611.out _).trans (hHeld.2.1)))))))), ((cell_far (p := ⟨gb611, _, none⟩) NB610_611.out _).trans (((cell_far (p := ⟨gb611, _, none⟩) NB610_611.out _).trans (((cell_far (p := ⟨gb611, _, none⟩) NB610_611.out _).trans (((cell_far (p := ⟨gb611, _, none⟩) NB610_611.out _).trans (hHeld.2.2.1)))))))), ((cell_far (p := ⟨gb611, _, none⟩) NB610_611.out _).trans (((cell_far (p := ⟨gb611, _, none⟩) NB610_611.out _).trans (((cell_far (p := ⟨gb611, _, none⟩) NB610_611.out _).trans (((cell_far (p := ⟨gb611, _, none⟩) NB610_611.out _).trans (hHeld.2.2.2))))))))⟩ (fun hHeld => ?_)
 clear hK K
 refine done_ (done_of HT_.out (by kernel_rfl)) ?_
 try go_wp2
 refine bodyPost_ret (results_cell_row rfl _ _ gb611 44 #[.slice Ao11 t612.length co11, .slice Ao10 t615.length co10, .slice Ao13 t618.length co13, .int .i64 a0_3] (0, 0) _ rfl (by (with_reducible repeat (first | refine blk_drewN ?_ _ | refine blk_drew ?_ | refine blk_alloc ?_ _)); refine blk_put (cs := #[.slice Ao11 t612.length co11, .slice Ao10 t615.length co10, .slice Ao13 t618.length co13, .int .i64 0]) ?_ 3 _ rfl; (with_reducible repeat (first | refine blk_drewN ?_ _ | refine blk_drew ?_ | refine blk_alloc ?_ _)); refine blk_put (cs := #[.slice Ao11 t612.length co11, .slice Ao10 t615.length co10, .slice none 0 0, .int .i64 0]) ?_ 2 _ rfl; (with_reducible repeat (first | refine blk_drewN ?_ _ | refine blk_drew ?_ | refine blk_alloc ?_ _)); refine blk_put (cs := #[.slice Ao11 t612.length co11, .slice none 0 0, .slice none 0 0, .int .i64 0]) ?_ 1 _ rfl; (with_reducible repeat (first | refine blk_drewN ?_ _ | refine blk_drew ?_ | refine blk_alloc ?_ _)); refine blk_put (cs := #[.slice none 0 0, .slice none 0 0, .slice none 0 0, .int .i64 0]) ?_ 0 _ rfl; (with_reducible repeat (first | refine blk_drewN ?_ _ | refine blk_drew ?_ | refine blk_alloc ?_ _)); exact BK611.out) Try.underlying44 rfl (by kernel_rfl)) rfl ?_
 exact ⟨_, _, _, by first | rfl | (simp [errW_none, errW_some] <;> rfl) | (simp [*, errW_none, errW_some] <;> rfl), by (with_reducible repeat (first | apply Kd.R_alloc | apply Kd.R_drewN | apply Kd.R_drew)); exact Kd.R_mono (Kd.R_far (p := ⟨gb611, 3, none⟩) (Kd.R_far (p := ⟨gb611, 2, none⟩) (Kd.R_far (p := ⟨gb611, 1, none⟩) (Kd.R_far (p := ⟨gb611, 0, none⟩) (Kd.R_types HO614.out BK611.out (by decide)) (fun _ hk => hk.2) (.slice Ao11 t612.length co11)) (fun _ hk => hk.2) (.slice Ao10 t615.length co10)) (fun _ hk => hk.2) (.slice Ao13 t618.length co13)) (fun _ hk => hk.2) (.int .i64 a0_3)) (fun _ hk => hk.1.2), by (with_reducible repeat (first | apply Kd.R_alloc | apply Kd.R_drewN | apply Kd.R_drew)); exact Kd.R_mono (Kd.R_far (p := ⟨gb611, 3, none⟩) (Kd.R_far (p := ⟨gb611, 2, none⟩) (Kd.R_far (p := ⟨gb611, 1, none⟩) (Kd.R_far (p := ⟨gb611, 0, none⟩) (Kd.R_types HO617.out BK611.out (by decide)) (fun _ hk => hk.2) (.slice Ao11 t612.length co11)) (fun _ hk => hk.2) (.slice Ao10 t615.length co10)) (fun _ hk => hk.2) (.slice Ao13 t618.length co13)) (fun _ hk => hk.2) (.int .i64 a0_3)) (fun _ hk => trivial), by (with_reducible repeat (first | apply Kd.R_alloc | apply Kd.R_drewN | apply Kd.R_drew)); exact Kd.R_mono (Kd.R_far (p := ⟨gb611, 3, none⟩) (Kd.R_far (p := ⟨gb611, 2, none⟩) (Kd.R_far (p := ⟨gb611, 1, none⟩) (Kd.R_far (p := ⟨gb611, 0, none⟩) (Kd.R_types HO620.out BK611.out (by decide)) (fun _ hk => hk.2) (.slice Ao11 t612.length co11)) (fun _ hk => hk.2) (.slice Ao10 t615.length co10)) (fun _ hk => hk.2) (.slice Ao13 t618.length co13)) (fun _ hk => hk.2) (.int .i64 a0_3)) (fun _ hk => hk.1.2), bs2 HB GE610 GE611⟩

end Go.Proofs.Ytcdkgenfggdpaaa.G
