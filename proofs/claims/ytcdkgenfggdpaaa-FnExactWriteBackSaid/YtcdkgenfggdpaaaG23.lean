-- Printed by a program of this session (drive.py, by way of the kit's print). Not trusted: Lean checks it.
import Derived.Test.YtcdkgenfggdpaaaG0
import Derived.Test.YtcdkgenfggdpaaaG2
import Derived.Test.YtcdkgenfggdpaaaG6
import Derived.Test.YtcdkgenfggdpaaaG7
import Derived.Test.YtcdkgenfggdpaaaG13
namespace Go.Proofs.Ytcdkgenfggdpaaa.G
open Go.RowKit Go.Proofs.YtcdkgenfggdpaaaW.PrintWords Go.Proofs.YtcdkgenfggdpaaaW.PrintLast Go.Proofs.YtcdkgenfggdpaaaW.PrintMore
attribute [local go_sem] max2_int min2_int max_two min_two max_three min_three max_four min_four   -- for this text's walks alone
set_option linter.unusedVariables false
set_option linter.unusedSimpArgs false

/-! ### spec_WriteSector: function 117 -/
def spec_WriteSector.f (k : Nat) (l0_0 : List ByteArray) (l0_1 : List (S72)) (a1_0 : Int) (a1_1 : ByteArray) : Option (List ByteArray × (List (S72)) × Bool) := (spec_GoodDevice.f k l0_0 l0_1).bind fun t984 => (if t984 = true then ((spec_l1Write.f a1_0 a1_1 (l0_0.length : Int)).bind fun t985 => (if t985 = true then (if (l0_1.length : Int) = 60 then (some (([] : List ByteArray), ([] : List (S72)), false)) else ((spec_l1Own.f l0_0 l0_1).bind fun bt986 => (if bt986.2.length < 5864062014805 then (some (bt986.1, (bt986.2 ++ [(⟨a1_0, a1_1⟩ : S72)]), true)) else (none)))) else (some (([] : List ByteArray), ([] : List (S72)), false)))) else (some (([] : List ByteArray), ([] : List (S72)), false)))
theorem spec_WriteSector.mono : ∀ a0 a1 a2 a3 k, LeO (spec_WriteSector.f k a0 a1 a2 a3) (spec_WriteSector.f (k + 1) a0 a1 a2 a3) := by
 intro a0 a1 a2 a3 k
 unfold spec_WriteSector.f
 repeat' first
   | (with_reducible exact spec_GoodDevice.mono _ _ _)
   | (with_reducible exact LeO.refl _)
   | (with_reducible exact LeO.none _)
   | (with_reducible refine LeO.ite ?_ ?_)
   | (with_reducible refine LeO.bind ?_ (fun _ => ?_))
   | exact spec_GoodDevice.mono _ _ _
   | exact LeO.none _
   | refine LeO.ite ?_ ?_
   | refine LeO.bind ?_ (fun _ => ?_)
set_option maxHeartbeats 8000000 in
set_option maxRecDepth 100000 in
theorem spec_WriteSector.calls (k : Nat) (A0_0 : Option Addr) (c0_0 : Nat) (l0_0 : List ByteArray) (A0_1 : Option Addr) (c0_1 : Nat) (l0_1 : List (S72)) (a1_0 : Int) (a1_1 : ByteArray) (r1 : List ByteArray) (r2 : List (S72)) (r3 : Bool) (w : World) (hr0_0 : Kd.C Kd.string w A0_0 l0_0.length l0_0) (hc0_0 : l0_0.length ≤ c0_0) (hr0_1 : Kd.C k72 w A0_1 l0_1.length l0_1) (hc0_1 : l0_1.length ≤ c0_1) (h : spec_WriteSector.f k l0_0 l0_1 a1_0 a1_1 = some (r1, r2, r3)) :
  Calls Try.prog 117 #[.agg #[.slice A0_0 l0_0.length c0_0, .slice A0_1 l0_1.length c0_1], .agg #[.int .i64 a1_0, .string a1_1]] w fun e w' => ∃ v0_ v1_ : Value, e = .returned (.tuple #[.agg #[v0_, v1_], .bool r3]) ∧ Kd.R Kd.string 9 w' w.heap.size (fun _ => True) v0_ r1 ∧ Kd.R k72 72 w' w.heap.size (fun _ => True) v1_ r2 ∧ Below w.heap.size w w' := by
 have hu42 := Try.underlying42
 have hu72 := Try.underlying72
 have HR0_0 := Aside0.mk hr0_0
 have HC0_0 := Aside0.mk hc0_0
 clear hr0_0 hc0_0
 have HR0_1 := Aside0.mk hr0_1
 have HC0_1 := Aside0.mk hc0_1
 clear hr0_1 hc0_1
 have HB := Aside0.mk (Below.refl w.heap.size w)
 have H : ((spec_GoodDevice.f k l0_0 l0_1).bind fun t984 => (if t984 = true then ((spec_l1Write.f a1_0 a1_1 (l0_0.length : Int)).bind fun t985 => (if t985 = true then (if (l0_1.length : Int) = 60 then (some (([] : List ByteArray), ([] : List (S72)), false)) else ((spec_l1Own.f l0_0 l0_1).bind fun bt986 => (if bt986.2.length < 5864062014805 then (some (bt986.1, (bt986.2 ++ [(⟨a1_0, a1_1⟩ : S72)]), true)) else (none)))) else (some (([] : List ByteArray), ([] : List (S72)), false)))) else (some (([] : List ByteArray), ([] : List (S72)), false)))) = some (r1, r2, r3) := h
 clear h
 replace H := Option.bind_eq_some_iff.mp H
 obtain ⟨t984, A30, H⟩ := H
 replace H : (if t984 = true then ((spec_l1Write.f a1_0 a1_1 (l0_0.length : Int)).bind fun t985 => (if t985 = true then (if (l0_1.length : Int) = 60 then (some (([] : List ByteArray), ([] : List (S72)), false)) else ((spec_l1Own.f l0_0 l0_1).bind fun bt986 => (if bt986.2.length < 5864062014805 then (some (bt986.1, (bt986.2 ++ [(⟨a1_0, a1_1⟩ : S72)]), true)) else (none)))) else (some (([] : List ByteArray), ([] : List (S72)), false)))) else (some (([] : List ByteArray), ([] : List (S72)), false))) = some (r1, r2, r3) := H
 have A3 := Aside0.mk A30
 clear A30
 by_cases c4 : t984 = true
 ·
  subst c4
  rw [if_pos rfl] at H
  replace H := Option.bind_eq_some_iff.mp H
  obtain ⟨t985, A50, H⟩ := H
  replace H : (if t985 = true then (if (l0_1.length : Int) = 60 then (some (([] : List ByteArray), ([] : List (S72)), false)) else ((spec_l1Own.f l0_0 l0_1).bind fun bt986 => (if bt986.2.length < 5864062014805 then (some (bt986.1, (bt986.2 ++ [(⟨a1_0, a1_1⟩ : S72)]), true)) else (none)))) else (some (([] : List ByteArray), ([] : List (S72)), false))) = some (r1, r2, r3) := H
  have A5 := Aside0.mk A50
  clear A50
  by_cases c6 : t985 = true
  ·
   subst c6
   rw [if_pos rfl] at H
   by_cases c7 : (l0_1.length : Int) = 60
   ·
    rw [if_pos c7] at H
    have c7b0 : ((l0_1.length : Int) == 60) = true := beq_iff_eq.mpr c7
    have c7b1 : ((l0_1.length : Int) != 60) = false := bne_eq_false_iff_eq.mpr c7
    clear c7
    simp only [Option.some.injEq, Prod.mk.injEq] at H
    obtain ⟨rfl, rfl, rfl⟩ := H
    go_enter Try.func117, Try.ntmps117
    go_wp2_with (first | ((with_reducible refine gate_dst (N := 2) rfl ?_); (try (refine gate_guard (by rfl) ?_; dsimp only)); refine box_event ?hg (N := 2) ?hd (cs := #[.slice A0_0 l0_0.length c0_0, .slice A0_1 l0_1.length c0_1]) (t := 42) ?hr ?_; (case hd => rfl); (case hg => rfl); (case hr => first | (go_simp; done) | (go_simp; rfl)); intro gb981 hg w8 hbox hb; have BK981 := Aside0.mk (hbox); have GW981 := Aside0.mk ((by rw [hg]; exact (below_size (bs HB)) : w.heap.size ≤ gb981)); have GE981 := Aside0.mk ((by rw [hg]; exact (below_size (bs HB)) : w.heap.size ≤ gb981)); replace HB := Aside0.mk (below_step (bs HB) hb); clear hb hbox hg) | ((with_reducible refine gate_dst (N := 3) rfl ?_); (try (refine gate_guard (by rfl) ?_; dsimp only)); refine box_event ?hg (N := 3) ?hd (cs := #[.int .i64 a1_0, .string a1_1]) (t := 72) ?hr ?_; (case hd => rfl); (case hg => rfl); (case hr => first | (go_simp; done) | (go_simp; rfl)); intro gb982 hg w9 hbox hb; have BK982 := Aside0.mk (hbox); have GW982 := Aside0.mk ((by rw [hg]; exact (below_size (bs1 HB GE981)) : w.heap.size ≤ gb982)); have GE982 := Aside0.mk ((by rw [hg]; exact (below_size (bs1 HB GE981)) : w.heap.size ≤ gb982)); replace HB := Aside0.mk (below_step (bs1 HB GE981) hb); have NB981_982 := Aside0.mk ((bn BK981 hg : gb981 ≠ gb982)); have NB982_981 := Aside0.mk ((bm BK981 hg : gb982 ≠ gb981)); replace BK981 := nb BK981 hb; clear hb hbox hg) | ((with_reducible refine gate_dst (N := 4) rfl ?_); (try (refine gate_guard (by rfl) ?_; dsimp only)); refine box_event ?hg (N := 4) ?hd (cs := #[.slice none 0 0, .slice none 0 0]) (t := 42) ?hr ?_; (case hd => rfl); (case hg => rfl); (case hr => first | (go_simp; done) | (go_simp; rfl)); intro gb983 hg w10 hbox hb; have BK983 := Aside0.mk (hbox); have GW983 := Aside0.mk ((by rw [hg]; exact (below_size (bs2 HB GE981 GE982)) : w.heap.size ≤ gb983)); have GE983 := Aside0.mk ((by rw [hg]; exact (below_size (bs2 HB GE981 GE982)) : w.heap.size ≤ gb983)); replace HB := Aside0.mk (below_step (bs2 HB GE981 GE982) hb); have NB981_983 := Aside0.mk ((bn BK981 hg : gb981 ≠ gb983)); have NB983_981 := Aside0.mk ((bm BK981 hg : gb983 ≠ gb981)); replace BK981 := nb BK981 hb; have NB982_983 := Aside0.mk ((bn BK982 hg : gb982 ≠ gb983)); have NB983_982 := Aside0.mk ((bm BK982 hg : gb983 ≠ gb982)); replace BK982 := nb BK982 hb; clear hb hbox hg; have hnb11 := NB981_982.out; have hnc11 := NB982_981.out; have hnb12 := NB981_983.out; have hnc12 := NB983_981.out; obtain ⟨hcz13_0, hcz13_1⟩ := cz2 BK981; obtain ⟨hfz13_0, hfz13_1⟩ := fz2 BK981) | ((with_reducible refine gate_callee (f := 71) rfl ?_); refine gL (some 7) rfl rfl Try.func71 (by kernel_rfl) rfl #[.agg #[.slice A0_0 l0_0.length c0_0, .slice A0_1 l0_1.length c0_1]] rfl ?_; (with_reducible refine (spec_GoodDevice.calls k _ _ l0_0 _ _ l0_1 true _ ?side1 ?side2 ?side3 ?side4 A3.out).mono ?_); (case side1 => exact cb HR0_0 HB); (case side2 => exact HC0_0.out); (case side3 => exact cb HR0_1 HB); (case side4 => exact HC0_1.out); rintro e w14 ⟨rfl, hb⟩; refine ⟨_, rfl, ?_⟩; replace BK981 := nb BK981 hb; replace BK982 := nb BK982 hb; replace BK983 := nb BK983 hb; replace HB := Aside0.mk (below_step (bs3 HB GE981 GE982 GE983) hb); (try clear hb); (try clear hb2); (try clear hk); (try clear hi); have hnb15 := NB982_983.out; have hnc15 := NB983_982.out; obtain ⟨hcz16_0, hcz16_1⟩ := cz2 BK982; obtain ⟨hfz16_0, hfz16_1⟩ := fz2 BK982; obtain ⟨hcz17_0, hcz17_1⟩ := cz2 BK981; obtain ⟨hfz17_0, hfz17_1⟩ := fz2 BK981) | (go_at_call 105; (with_reducible refine (spec_l1Write.calls a1_0 a1_1 (l0_0.length : Int) true _ A5.out).mono ?_); rintro e w18 ⟨rfl, hb⟩; replace BK981 := nb BK981 hb; replace BK982 := nb BK982 hb; replace BK983 := nb BK983 hb; replace HB := Aside0.mk (below_step (bs3 HB GE981 GE982 GE983) hb); (try clear hb); (try clear hb2); (try clear hk); (try clear hi); obtain ⟨hcz19_0, hcz19_1⟩ := cz2 BK981; obtain ⟨hfz19_0, hfz19_1⟩ := fz2 BK981; obtain ⟨hcz20_0, hcz20_1⟩ := cz2 BK983; obtain ⟨hfz20_0, hfz20_1⟩ := fz2 BK983))
    refine bodyPost_ret (results_ct rfl _ _ gb983 42 #[.slice none 0 0, .slice none 0 0] (0, 0) _ rfl (by (with_reducible repeat (first | refine blk_drewN ?_ _ | refine blk_drew ?_ | refine blk_alloc ?_ _)); refine blk_put (cs := #[.slice none 0 0, .slice none 0 0]) ?_ 1 _ rfl; (with_reducible repeat (first | refine blk_drewN ?_ _ | refine blk_drew ?_ | refine blk_alloc ?_ _)); refine blk_put (cs := #[.slice none 0 0, .slice none 0 0]) ?_ 0 _ rfl; (with_reducible repeat (first | refine blk_drewN ?_ _ | refine blk_drew ?_ | refine blk_alloc ?_ _)); exact BK983.out) Try.underlying42 rfl (by kernel_rfl)) rfl ?_
    exact ⟨_, _, by first | rfl | (simp [errW_none, errW_some] <;> rfl) | (simp [*, errW_none, errW_some] <;> rfl), by first | exact Kd.R_nil _ _ _ _ _ | exact Kd.N_nil _ _ _ _ _ | exact Kd.V_nil _ _ _ _ _ | exact Kd.Q_nil _ _ _ _ _ | exact Kd.S_nil _ _ _ _ _, by first | exact Kd.R_nil _ _ _ _ _ | exact Kd.N_nil _ _ _ _ _ | exact Kd.V_nil _ _ _ _ _ | exact Kd.Q_nil _ _ _ _ _ | exact Kd.S_nil _ _ _ _ _, bs3 HB GE981 GE982 GE983⟩
   ·
    rw [if_neg c7] at H
    have c7b0 : ((l0_1.length : Int) == 60) = false := beq_eq_false_iff_ne.mpr c7
    have c7b1 : ((l0_1.length : Int) != 60) = true := bne_iff_ne.mpr c7
    replace H := Option.bind_eq_some_iff.mp H
    obtain ⟨⟨t986, t989⟩, A210, H⟩ := H
    replace H : (if t989.length < 5864062014805 then (some (t986, (t989 ++ [(⟨a1_0, a1_1⟩ : S72)]), true)) else (none)) = some (r1, r2, r3) := H
    have A21 := Aside0.mk A210
    clear A210
    by_cases c22 : t989.length < 5864062014805
    ·
     rw [if_pos c22] at H
     have LMc22 := Aside0.mk c22
     clear c22
     obtain ⟨y992, hy992⟩ : ∃ y_ : List (S72), y_ = (t989 ++ [(⟨a1_0, a1_1⟩ : S72)]) := ⟨_, rfl⟩
     replace H : (some (t986, y992, true)) = some (r1, r2, r3) := by first | (rw [hy992]; with_reducible exact H) | (have H2_ := (Option.bind_some _ _).symm.trans H; rw [hy992]; with_reducible exact H2_) | (have H2_ := (Option.bind_some _ _).symm.trans H; with_reducible exact H2_) | with_reducible exact H | (rw [hy992]; exact H) | exact H
     have Ny992 := Aside0.mk hy992
     clear hy992
     simp only [Option.some.injEq, Prod.mk.injEq] at H
     obtain ⟨rfl, rfl, rfl⟩ := H
     go_enter Try.func117, Try.ntmps117
     go_wp2_with (first | ((with_reducible refine gate_dst (N := 2) rfl ?_); (try (refine gate_guard (by rfl) ?_; dsimp only)); refine box_event ?hg (N := 2) ?hd (cs := #[.slice A0_0 l0_0.length c0_0, .slice A0_1 l0_1.length c0_1]) (t := 42) ?hr ?_; (case hd => rfl); (case hg => rfl); (case hr => first | (go_simp; done) | (go_simp; rfl)); intro gb981 hg w23 hbox hb; have BK981 := Aside0.mk (hbox); have GW981 := Aside0.mk ((by rw [hg]; exact (below_size (bs HB)) : w.heap.size ≤ gb981)); have GE981 := Aside0.mk ((by rw [hg]; exact (below_size (bs HB)) : w.heap.size ≤ gb981)); replace HB := Aside0.mk (below_step (bs HB) hb); clear hb hbox hg) | ((with_reducible refine gate_dst (N := 3) rfl ?_); (try (refine gate_guard (by rfl) ?_; dsimp only)); refine box_event ?hg (N := 3) ?hd (cs := #[.int .i64 a1_0, .string a1_1]) (t := 72) ?hr ?_; (case hd => rfl); (case hg => rfl); (case hr => first | (go_simp; done) | (go_simp; rfl)); intro gb982 hg w24 hbox hb; have BK982 := Aside0.mk (hbox); have GW982 := Aside0.mk ((by rw [hg]; exact (below_size (bs1 HB GE981)) : w.heap.size ≤ gb982)); have GE982 := Aside0.mk ((by rw [hg]; exact (below_size (bs1 HB GE981)) : w.heap.size ≤ gb982)); replace HB := Aside0.mk (below_step (bs1 HB GE981) hb); have NB981_982 := Aside0.mk ((bn BK981 hg : gb981 ≠ gb982)); have NB982_981 := Aside0.mk ((bm BK981 hg : gb982 ≠ gb981)); replace BK981 := nb BK981 hb; clear hb hbox hg) | ((with_reducible refine gate_dst (N := 4) rfl ?_); (try (refine gate_guard (by rfl) ?_; dsimp only)); refine box_event ?hg (N := 4) ?hd (cs := #[.slice none 0 0, .slice none 0 0]) (t := 42) ?hr ?_; (case hd => rfl); (case hg => rfl); (case hr => first | (go_simp; done) | (go_simp; rfl)); intro gb983 hg w25 hbox hb; have BK983 := Aside0.mk (hbox); have GW983 := Aside0.mk ((by rw [hg]; exact (below_size (bs2 HB GE981 GE982)) : w.heap.size ≤ gb983)); have GE983 := Aside0.mk ((by rw [hg]; exact (below_size (bs2 HB GE981 GE982)) : w.heap.size ≤ gb983)); replace HB := Aside0.mk (below_step (bs2 HB GE981 GE982) hb); have NB981_983 := Aside0.mk ((bn BK981 hg : gb981 ≠ gb983)); have NB983_981 := Aside0.mk ((bm BK981 hg : gb983 ≠ gb981)); replace BK981 := nb BK981 hb; have NB982_983 := Aside0.mk ((bn BK982 hg : gb982 ≠ gb983)); have NB983_982 := Aside0.mk ((bm BK982 hg : gb983 ≠ gb982)); replace BK982 := nb BK982 hb; clear hb hbox hg; have hnb26 := NB981_982.out; have hnc26 := NB982_981.out; have hnb27 := NB981_983.out; have hnc27 := NB983_981.out; obtain ⟨hcz28_0, hcz28_1⟩ := cz2 BK981; obtain ⟨hfz28_0, hfz28_1⟩ := fz2 BK981) | ((with_reducible refine gate_callee (f := 71) rfl ?_); refine gL (some 7) rfl rfl Try.func71 (by kernel_rfl) rfl #[.agg #[.slice A0_0 l0_0.length c0_0, .slice A0_1 l0_1.length c0_1]] rfl ?_; (with_reducible refine (spec_GoodDevice.calls k _ _ l0_0 _ _ l0_1 true _ ?side1 ?side2 ?side3 ?side4 A3.out).mono ?_); (case side1 => exact cb HR0_0 HB); (case side2 => exact HC0_0.out); (case side3 => exact cb HR0_1 HB); (case side4 => exact HC0_1.out); rintro e w29 ⟨rfl, hb⟩; refine ⟨_, rfl, ?_⟩; replace BK981 := nb BK981 hb; replace BK982 := nb BK982 hb; replace BK983 := nb BK983 hb; replace HB := Aside0.mk (below_step (bs3 HB GE981 GE982 GE983) hb); (try clear hb); (try clear hb2); (try clear hk); (try clear hi); have hnb30 := NB982_983.out; have hnc30 := NB983_982.out; obtain ⟨hcz31_0, hcz31_1⟩ := cz2 BK982; obtain ⟨hfz31_0, hfz31_1⟩ := fz2 BK982; obtain ⟨hcz32_0, hcz32_1⟩ := cz2 BK981; obtain ⟨hfz32_0, hfz32_1⟩ := fz2 BK981) | (go_at_call 105; (with_reducible refine (spec_l1Write.calls a1_0 a1_1 (l0_0.length : Int) true _ A5.out).mono ?_); rintro e w33 ⟨rfl, hb⟩; replace BK981 := nb BK981 hb; replace BK982 := nb BK982 hb; replace BK983 := nb BK983 hb; replace HB := Aside0.mk (below_step (bs3 HB GE981 GE982 GE983) hb); (try clear hb); (try clear hb2); (try clear hk); (try clear hi); obtain ⟨hcz34_0, hcz34_1⟩ := cz2 BK981; obtain ⟨hfz34_0, hfz34_1⟩ := fz2 BK981) | ((with_reducible refine gate_callee (f := 115) rfl ?_); refine gL (some 25) rfl rfl Try.func115 (by kernel_rfl) rfl #[.agg #[.slice A0_0 l0_0.length c0_0, .slice A0_1 l0_1.length c0_1]] rfl ?_; (with_reducible refine (spec_l1Own.calls _ _ l0_0 _ _ l0_1 t986 t989 _ ?side1 ?side2 ?side3 ?side4 A21.out).mono ?_); (case side1 => exact cb HR0_0 HB); (case side2 => exact HC0_0.out); (case side3 => exact cb HR0_1 HB); (case side4 => exact HC0_1.out); rintro e w35 ⟨v987, v990, rfl, ho0, ho1, hb⟩; refine ⟨_, rfl, ?_⟩; have HO988 := Aside0.mk (Kd.R_lower ho0 (below_size (bs3 HB GE981 GE982 GE983))); have HO991 := Aside0.mk (Kd.R_lower (Kd.R_newB ho1 (g := gb982) (o := .cells #[.int .i64 a1_0, .string a1_1] 72 (0, 0)) (bk BK982)) (below_size (bs3 HB GE981 GE982 GE983))); replace BK981 := nb BK981 hb; replace BK982 := nb BK982 hb; replace BK983 := nb BK983 hb; replace HB := Aside0.mk (below_step (bs3 HB GE981 GE982 GE983) hb); (try clear hb); (try clear hb2); (try clear hk); (try clear hi); (try clear ho0); (try clear ho1); obtain ⟨Ao36, co36, eo36⟩ := Kd.R_slice HO988.out; subst eo36; obtain ⟨hcz37_0, hcz37_1⟩ := cz2 BK981; obtain ⟨hfz37_0, hfz37_1⟩ := fz2 BK981; obtain ⟨Ao38, co38, eo38⟩ := Kd.R_slice HO991.out; subst eo38; obtain ⟨hcz39_0, hcz39_1⟩ := cz2 BK982; obtain ⟨hfz39_0, hfz39_1⟩ := fz2 BK982) | ((with_reducible refine gate_builtin (b := .append) (xs := #[.tmp 27, .tmp 29]) rfl ?_); (try (refine gate_guard (by rfl) ?_; dsimp only)); at_builtin; refine Kd.R_append k72 (w0 := w) w.heap.size rfl (.tmp 27) (.tmp 29) 26 72 (.agg #[(.int .i64 0), (.string ⟨#[]⟩)]) 24 rfl Try.underlying26 info72 rfl (by decide) (by omega) (.slice Ao38 t989.length co38) t989 (⟨a1_0, a1_1⟩ : S72) [.int .i64 a1_0, .string a1_1] (fun k_ => k_ ≠ gb982) (fun _ => False) rfl (by first | (go_simp; done) | (go_simp; rfl)) ?aP (fun _ hk => hk.elim) ?aF ?aO ?aB ?aS ?aL ?_; (case aP => exact k72_mkM _ _ _ (⟨a1_0, a1_1⟩ : S72)); (case aB => exact (bs3 HB GE981 GE982 GE983)); (case aF => exact (fun k_ hk => Kd.freshB (bf BK982 NB982_981) k_ hk)); (case aO => exact (by (with_reducible repeat (first | apply Kd.R_alloc | apply Kd.R_drewN | apply Kd.R_drew)); exact Kd.R_mono (Kd.R_far (p := ⟨gb981, 1, none⟩) (Kd.R_far (p := ⟨gb981, 0, none⟩) (Kd.R_types HO991.out BK981.out (by decide)) (fun _ hk => hk.2) (.slice Ao36 t986.length co36)) (fun _ hk => hk.2) (.slice Ao38 t989.length co38)) (fun _ hk => hk.1.2))); (case aS => exact (below_size (bs3 HB GE981 GE982 GE983))); (case aL => have := LMc22.out; omega); intro v993 w40 ho hb hg hat; rw [← Ny992.out] at ho; replace BK982 := Aside0.mk (blk_grown (bf BK982 NB982_981) hg (Kd.R_away HO991.out (fun _ hk => hk.2))); replace BK983 := Aside0.mk (blk_grown (bf BK983 NB983_981) hg (Kd.R_ne HO991.out BK983.out (by decide))); replace HO988 := Aside0.mk (Kd.R_over' (rf HO988 BK981) (Kd.R_typed (rf HO991 BK981)) (by decide) hg); replace BK981 := Aside0.mk (blk_grown (g := gb981) (o := .cells #[.slice Ao36 t986.length co36, .slice Ao38 t989.length co38] 42 (0, 0)) (by (with_reducible repeat (first | refine blk_drewN ?_ _ | refine blk_drew ?_ | refine blk_alloc ?_ _)); refine blk_put (cs := #[.slice Ao36 t986.length co36, .slice A0_1 l0_1.length c0_1]) ?_ 1 _ rfl; (with_reducible repeat (first | refine blk_drewN ?_ _ | refine blk_drew ?_ | refine blk_alloc ?_ _)); refine blk_put (cs := #[.slice A0_0 l0_0.length c0_0, .slice A0_1 l0_1.length c0_1]) ?_ 0 _ rfl; (with_reducible repeat (first | refine blk_drewN ?_ _ | refine blk_drew ?_ | refine blk_alloc ?_ _)); exact BK981.out) hg (Kd.R_ne HO991.out BK981.out (by decide))); replace HB := Aside0.mk (hb); have HO994 := Aside0.mk (ho); clear HO991; clear ho hb hg hat; obtain ⟨Ao41, co41, eo41⟩ := Kd.R_slice HO994.out; subst eo41; obtain ⟨hcz42_0, hcz42_1⟩ := cz2 BK981; obtain ⟨hfz42_0, hfz42_1⟩ := fz2 BK981; obtain ⟨hcz43_0, hcz43_1⟩ := cz2 BK983; obtain ⟨hfz43_0, hfz43_1⟩ := fz2 BK983))
     refine bodyPost_ret (results_ct rfl _ _ gb983 42 #[.slice Ao36 t986.length co36, .slice Ao41 y992.length co41] (0, 0) _ rfl (by (with_reducible repeat (first | refine blk_drewN ?_ _ | refine blk_drew ?_ | refine blk_alloc ?_ _)); refine blk_put (cs := #[.slice Ao36 t986.length co36, .slice none 0 0]) ?_ 1 _ rfl; (with_reducible repeat (first | refine blk_drewN ?_ _ | refine blk_drew ?_ | refine blk_alloc ?_ _)); refine blk_put (cs := #[.slice none 0 0, .slice none 0 0]) ?_ 0 _ rfl; (with_reducible repeat (first | refine blk_drewN ?_ _ | refine blk_drew ?_ | refine blk_alloc ?_ _)); refine blk_far ?_ NB983_981.out _; (with_reducible repeat (first | refine blk_drewN ?_ _ | refine blk_drew ?_ | refine blk_alloc ?_ _)); exact BK983.out) Try.underlying42 rfl (by kernel_rfl)) rfl ?_
     exact ⟨_, _, by first | rfl | (simp [errW_none, errW_some] <;> rfl) | (simp [*, errW_none, errW_some] <;> rfl), by (with_reducible repeat (first | apply Kd.R_alloc | apply Kd.R_drewN | apply Kd.R_drew)); exact Kd.R_mono (Kd.R_far (p := ⟨gb983, 1, none⟩) (Kd.R_far (p := ⟨gb983, 0, none⟩) (Kd.R_far (p := ⟨gb981, 1, none⟩) (Kd.R_types (Kd.R_types HO988.out BK981.out (by decide)) BK983.out (by decide)) (fun _ hk => hk.1.2) (.slice Ao41 y992.length co41)) (fun _ hk => hk.2) (.slice Ao36 t986.length co36)) (fun _ hk => hk.2) (.slice Ao41 y992.length co41)) (fun _ hk => trivial), by (with_reducible repeat (first | apply Kd.R_alloc | apply Kd.R_drewN | apply Kd.R_drew)); exact Kd.R_mono (Kd.R_far (p := ⟨gb983, 1, none⟩) (Kd.R_far (p := ⟨gb983, 0, none⟩) (Kd.R_far (p := ⟨gb981, 1, none⟩) (Kd.R_types (Kd.R_types HO994.out BK981.out (by decide)) BK983.out (by decide)) (fun _ hk => hk.1.2) (.slice Ao41 y992.length co41)) (fun _ hk => hk.2) (.slice Ao36 t986.length co36)) (fun _ hk => hk.2) (.slice Ao41 y992.length co41)) (fun _ hk => trivial), bs3 HB GE981 GE982 GE983⟩
    ·
     rw [if_neg c22] at H
     exact absurd H (by simp)
  ·
   replace c6 := Bool.eq_false_iff.mpr c6
   subst c6
   rw [if_neg (show ¬ (false = true) by decide)] at H
   simp only [Option.some.injEq, Prod.mk.injEq] at H
   obtain ⟨rfl, rfl, rfl⟩ := H
   go_enter Try.func117, Try.ntmps117
   go_wp2_with (first | ((with_reducible refine gate_dst (N := 2) rfl ?_); (try (refine gate_guard (by rfl) ?_; dsimp only)); refine box_event ?hg (N := 2) ?hd (cs := #[.slice A0_0 l0_0.length c0_0, .slice A0_1 l0_1.length c0_1]) (t := 42) ?hr ?_; (case hd => rfl); (case hg => rfl); (case hr => first | (go_simp; done) | (go_simp; rfl)); intro gb981 hg w44 hbox hb; have BK981 := Aside0.mk (hbox); have GW981 := Aside0.mk ((by rw [hg]; exact (below_size (bs HB)) : w.heap.size ≤ gb981)); have GE981 := Aside0.mk ((by rw [hg]; exact (below_size (bs HB)) : w.heap.size ≤ gb981)); replace HB := Aside0.mk (below_step (bs HB) hb); clear hb hbox hg) | ((with_reducible refine gate_dst (N := 3) rfl ?_); (try (refine gate_guard (by rfl) ?_; dsimp only)); refine box_event ?hg (N := 3) ?hd (cs := #[.int .i64 a1_0, .string a1_1]) (t := 72) ?hr ?_; (case hd => rfl); (case hg => rfl); (case hr => first | (go_simp; done) | (go_simp; rfl)); intro gb982 hg w45 hbox hb; have BK982 := Aside0.mk (hbox); have GW982 := Aside0.mk ((by rw [hg]; exact (below_size (bs1 HB GE981)) : w.heap.size ≤ gb982)); have GE982 := Aside0.mk ((by rw [hg]; exact (below_size (bs1 HB GE981)) : w.heap.size ≤ gb982)); replace HB := Aside0.mk (below_step (bs1 HB GE981) hb); have NB981_982 := Aside0.mk ((bn BK981 hg : gb981 ≠ gb982)); have NB982_981 := Aside0.mk ((bm BK981 hg : gb982 ≠ gb981)); replace BK981 := nb BK981 hb; clear hb hbox hg) | ((with_reducible refine gate_dst (N := 4) rfl ?_); (try (refine gate_guard (by rfl) ?_; dsimp only)); refine box_event ?hg (N := 4) ?hd (cs := #[.slice none 0 0, .slice none 0 0]) (t := 42) ?hr ?_; (case hd => rfl); (case hg => rfl); (case hr => first | (go_simp; done) | (go_simp; rfl)); intro gb983 hg w46 hbox hb; have BK983 := Aside0.mk (hbox); have GW983 := Aside0.mk ((by rw [hg]; exact (below_size (bs2 HB GE981 GE982)) : w.heap.size ≤ gb983)); have GE983 := Aside0.mk ((by rw [hg]; exact (below_size (bs2 HB GE981 GE982)) : w.heap.size ≤ gb983)); replace HB := Aside0.mk (below_step (bs2 HB GE981 GE982) hb); have NB981_983 := Aside0.mk ((bn BK981 hg : gb981 ≠ gb983)); have NB983_981 := Aside0.mk ((bm BK981 hg : gb983 ≠ gb981)); replace BK981 := nb BK981 hb; have NB982_983 := Aside0.mk ((bn BK982 hg : gb982 ≠ gb983)); have NB983_982 := Aside0.mk ((bm BK982 hg : gb983 ≠ gb982)); replace BK982 := nb BK982 hb; clear hb hbox hg; have hnb47 := NB981_982.out; have hnc47 := NB982_981.out; have hnb48 := NB981_983.out; have hnc48 := NB983_981.out; obtain ⟨hcz49_0, hcz49_1⟩ := cz2 BK981; obtain ⟨hfz49_0, hfz49_1⟩ := fz2 BK981) | ((with_reducible refine gate_callee (f := 71) rfl ?_); refine gL (some 7) rfl rfl Try.func71 (by kernel_rfl) rfl #[.agg #[.slice A0_0 l0_0.length c0_0, .slice A0_1 l0_1.length c0_1]] rfl ?_; (with_reducible refine (spec_GoodDevice.calls k _ _ l0_0 _ _ l0_1 true _ ?side1 ?side2 ?side3 ?side4 A3.out).mono ?_); (case side1 => exact cb HR0_0 HB); (case side2 => exact HC0_0.out); (case side3 => exact cb HR0_1 HB); (case side4 => exact HC0_1.out); rintro e w50 ⟨rfl, hb⟩; refine ⟨_, rfl, ?_⟩; replace BK981 := nb BK981 hb; replace BK982 := nb BK982 hb; replace BK983 := nb BK983 hb; replace HB := Aside0.mk (below_step (bs3 HB GE981 GE982 GE983) hb); (try clear hb); (try clear hb2); (try clear hk); (try clear hi); have hnb51 := NB982_983.out; have hnc51 := NB983_982.out; obtain ⟨hcz52_0, hcz52_1⟩ := cz2 BK982; obtain ⟨hfz52_0, hfz52_1⟩ := fz2 BK982; obtain ⟨hcz53_0, hcz53_1⟩ := cz2 BK981; obtain ⟨hfz53_0, hfz53_1⟩ := fz2 BK981) | (go_at_call 105; (with_reducible refine (spec_l1Write.calls a1_0 a1_1 (l0_0.length : Int) false _ A5.out).mono ?_); rintro e w54 ⟨rfl, hb⟩; replace BK981 := nb BK981 hb; replace BK982 := nb BK982 hb; replace BK983 := nb BK983 hb; replace HB := Aside0.mk (below_step (bs3 HB GE981 GE982 GE983) hb); (try clear hb); (try clear hb2); (try clear hk); (try clear hi); obtain ⟨hcz55_0, hcz55_1⟩ := cz2 BK983; obtain ⟨hfz55_0, hfz55_1⟩ := fz2 BK983))
   refine bodyPost_ret (results_ct rfl _ _ gb983 42 #[.slice none 0 0, .slice none 0 0] (0, 0) _ rfl (by (with_reducible repeat (first | refine blk_drewN ?_ _ | refine blk_drew ?_ | refine blk_alloc ?_ _)); refine blk_put (cs := #[.slice none 0 0, .slice none 0 0]) ?_ 1 _ rfl; (with_reducible repeat (first | refine blk_drewN ?_ _ | refine blk_drew ?_ | refine blk_alloc ?_ _)); refine blk_put (cs := #[.slice none 0 0, .slice none 0 0]) ?_ 0 _ rfl; (with_reducible repeat (first | refine blk_drewN ?_ _ | refine blk_drew ?_ | refine blk_alloc ?_ _)); exact BK983.out) Try.underlying42 rfl (by kernel_rfl)) rfl ?_
   exact ⟨_, _, by first | rfl | (simp [errW_none, errW_some] <;> rfl) | (simp [*, errW_none, errW_some] <;> rfl), by first | exact Kd.R_nil _ _ _ _ _ | exact Kd.N_nil _ _ _ _ _ | exact Kd.V_nil _ _ _ _ _ | exact Kd.Q_nil _ _ _ _ _ | exact Kd.S_nil _ _ _ _ _, by first | exact Kd.R_nil _ _ _ _ _ | exact Kd.N_nil _ _ _ _ _ | exact Kd.V_nil _ _ _ _ _ | exact Kd.Q_nil _ _ _ _ _ | exact Kd.S_nil _ _ _ _ _, bs3 HB GE981 GE982 GE983⟩
 ·
  replace c4 := Bool.eq_false_iff.mpr c4
  subst c4
  rw [if_neg (show ¬ (false = true) by decide)] at H
  simp only [Option.some.injEq, Prod.mk.injEq] at H
  obtain ⟨rfl, rfl, rfl⟩ := H
  go_enter Try.func117, Try.ntmps117
  go_wp2_with (first | ((with_reducible refine gate_dst (N := 2) rfl ?_); (try (refine gate_guard (by rfl) ?_; dsimp only)); refine box_event ?hg (N := 2) ?hd (cs := #[.slice A0_0 l0_0.length c0_0, .slice A0_1 l0_1.length c0_1]) (t := 42) ?hr ?_; (case hd => rfl); (case hg => rfl); (case hr => first | (go_simp; done) | (go_simp; rfl)); intro gb981 hg w56 hbox hb; have BK981 := Aside0.mk (hbox); have GW981 := Aside0.mk ((by rw [hg]; exact (below_size (bs HB)) : w.heap.size ≤ gb981)); have GE981 := Aside0.mk ((by rw [hg]; exact (below_size (bs HB)) : w.heap.size ≤ gb981)); replace HB := Aside0.mk (below_step (bs HB) hb); clear hb hbox hg) | ((with_reducible refine gate_dst (N := 3) rfl ?_); (try (refine gate_guard (by rfl) ?_; dsimp only)); refine box_event ?hg (N := 3) ?hd (cs := #[.int .i64 a1_0, .string a1_1]) (t := 72) ?hr ?_; (case hd => rfl); (case hg => rfl); (case hr => first | (go_simp; done) | (go_simp; rfl)); intro gb982 hg w57 hbox hb; have BK982 := Aside0.mk (hbox); have GW982 := Aside0.mk ((by rw [hg]; exact (below_size (bs1 HB GE981)) : w.heap.size ≤ gb982)); have GE982 := Aside0.mk ((by rw [hg]; exact (below_size (bs1 HB GE981)) : w.heap.size ≤ gb982)); replace HB := Aside0.mk (below_step (bs1 HB GE981) hb); have NB981_982 := Aside0.mk ((bn BK981 hg : gb981 ≠ gb982)); have NB982_981 := Aside0.mk ((bm BK981 hg : gb982 ≠ gb981)); replace BK981 := nb BK981 hb; clear hb hbox hg) | ((with_reducible refine gate_dst (N := 4) rfl ?_); (try (refine gate_guard (by rfl) ?_; dsimp only)); refine box_event ?hg (N := 4) ?hd (cs := #[.slice none 0 0, .slice none 0 0]) (t := 42) ?hr ?_; (case hd => rfl); (case hg => rfl); (case hr => first | (go_simp; done) | (go_simp; rfl)); intro gb983 hg w58 hbox hb; have BK983 := Aside0.mk (hbox); have GW983 := Aside0.mk ((by rw [hg]; exact (below_size (bs2 HB GE981 GE982)) : w.heap.size ≤ gb983)); have GE983 := Aside0.mk ((by rw [hg]; exact (below_size (bs2 HB GE981 GE982)) : w.heap.size ≤ gb983)); replace HB := Aside0.mk (below_step (bs2 HB GE981 GE982) hb); have NB981_983 := Aside0.mk ((bn BK981 hg : gb981 ≠ gb983)); have NB983_981 := Aside0.mk ((bm BK981 hg : gb983 ≠ gb981)); replace BK981 := nb BK981 hb; have NB982_983 := Aside0.mk ((bn BK982 hg : gb982 ≠ gb983)); have NB983_982 := Aside0.mk ((bm BK982 hg : gb983 ≠ gb982)); replace BK982 := nb BK982 hb; clear hb hbox hg; have hnb59 := NB981_982.out; have hnc59 := NB982_981.out; have hnb60 := NB981_983.out; have hnc60 := NB983_981.out; obtain ⟨hcz61_0, hcz61_1⟩ := cz2 BK981; obtain ⟨hfz61_0, hfz61_1⟩ := fz2 BK981) | ((with_reducible refine gate_callee (f := 71) rfl ?_); refine gL (some 7) rfl rfl Try.func71 (by kernel_rfl) rfl #[.agg #[.slice A0_0 l0_0.length c0_0, .slice A0_1 l0_1.length c0_1]] rfl ?_; (with_reducible refine (spec_GoodDevice.calls k _ _ l0_0 _ _ l0_1 false _ ?side1 ?side2 ?side3 ?side4 A3.out).mono ?_); (case side1 => exact cb HR0_0 HB); (case side2 => exact HC0_0.out); (case side3 => exact cb HR0_1 HB); (case side4 => exact HC0_1.out); rintro e w62 ⟨rfl, hb⟩; refine ⟨_, rfl, ?_⟩; replace BK981 := nb BK981 hb; replace BK982 := nb BK982 hb; replace BK983 := nb BK983 hb; replace HB := Aside0.mk (below_step (bs3 HB GE981 GE982 GE983) hb); (try clear hb); (try clear hb2); (try clear hk); (try clear hi); have hnb63 := NB983_982.out; have hnc63 := NB982_983.out; obtain ⟨hcz64_0, hcz64_1⟩ := cz2 BK983; obtain ⟨hfz64_0, hfz64_1⟩ := fz2 BK983))
  refine bodyPost_ret (results_ct rfl _ _ gb983 42 #[.slice none 0 0, .slice none 0 0] (0, 0) _ rfl (by (with_reducible repeat (first | refine blk_drewN ?_ _ | refine blk_drew ?_ | refine blk_alloc ?_ _)); refine blk_put (cs := #[.slice none 0 0, .slice none 0 0]) ?_ 1 _ rfl; (with_reducible repeat (first | refine blk_drewN ?_ _ | refine blk_drew ?_ | refine blk_alloc ?_ _)); refine blk_put (cs := #[.slice none 0 0, .slice none 0 0]) ?_ 0 _ rfl; (with_reducible repeat (first | refine blk_drewN ?_ _ | refine blk_drew ?_ | refine blk_alloc ?_ _)); exact BK983.out) Try.underlying42 rfl (by kernel_rfl)) rfl ?_
  exact ⟨_, _, by first | rfl | (simp [errW_none, errW_some] <;> rfl) | (simp [*, errW_none, errW_some] <;> rfl), by first | exact Kd.R_nil _ _ _ _ _ | exact Kd.N_nil _ _ _ _ _ | exact Kd.V_nil _ _ _ _ _ | exact Kd.Q_nil _ _ _ _ _ | exact Kd.S_nil _ _ _ _ _, by first | exact Kd.R_nil _ _ _ _ _ | exact Kd.N_nil _ _ _ _ _ | exact Kd.V_nil _ _ _ _ _ | exact Kd.Q_nil _ _ _ _ _ | exact Kd.S_nil _ _ _ _ _, bs3 HB GE981 GE982 GE983⟩

/-! ### spec_l11Back: function 93 -/
def spec_l11Back.l0 : Nat → List (S72) → Int → Int → List ByteArray → List (S72) → List ByteArray → Int → Option (List ByteArray × (List (S72)) × List ByteArray × Int × Bool)
 | 0, _, _, _, _, _, _, _ => none
 | k + 1, x23, x24, x25, x996000, x996001, x996002, x996003 => if x25 < x24 then (if 0 ≤ x25 then (if x25 < (x23.length : Int) then ((spec_WriteSector.f k x996000 x996001 ((rd_T72 x23 x25).f0) ((rd_T72 x23 x25).f1)).bind fun bt1007 => (if bt1007.2.2 = true then (spec_l11Back.l0 k x23 x24 (wrap64 (x25 + 1)) bt1007.1 bt1007.2.1 x996002 x996003) else (some (([] : List ByteArray), ([] : List (S72)), ([] : List ByteArray), 0, false)))) else (none)) else (none)) else (some (x996000, x996001, x996002, x996003, true))
def spec_l11Back.f (k : Nat) (l0_0 : List ByteArray) (l0_1 : List (S72)) (l0_2 : List ByteArray) (a0_3 : Int) : Option (List ByteArray × (List (S72)) × List ByteArray × Int × Bool) := if 0 ≤ a0_3 then (if a0_3 ≤ (l0_2.length : Int) then ((spec_l11Writes.f k (l0_2.take (a0_3 : Int).toNat) (l0_0.length : Int)).bind fun bt1001 => (spec_l11Back.l0 k bt1001.1 (bt1001.1.length : Int) 0 l0_0 l0_1 l0_2 a0_3)) else (none)) else (none)
theorem spec_l11Back.mono_l : ∀ k, (∀ y0 y1 y2 y3 y4 y5 y6, LeO (spec_l11Back.l0 k y0 y1 y2 y3 y4 y5 y6) (spec_l11Back.l0 (k + 1) y0 y1 y2 y3 y4 y5 y6))
 | 0 => fun _ _ _ _ _ _ _ r h => by simp [spec_l11Back.l0] at h
 | k + 1 => by
  have ih0 := spec_l11Back.mono_l k
  ·
   intro y0 y1 y2 y3 y4 y5 y6
   unfold spec_l11Back.l0
   repeat' first
   | (with_reducible exact ih0 _ _ _ _ _ _ _)
   | (with_reducible exact spec_WriteSector.mono _ _ _ _ _)
   | (with_reducible exact spec_l11Writes.mono _ _ _)
   | (with_reducible exact LeO.refl _)
   | (with_reducible exact LeO.none _)
   | (with_reducible refine LeO.ite ?_ ?_)
   | (with_reducible refine LeO.bind ?_ (fun _ => ?_))
   | exact ih0 _ _ _ _ _ _ _
   | exact spec_WriteSector.mono _ _ _ _ _
   | exact spec_l11Writes.mono _ _ _
   | exact LeO.none _
   | refine LeO.ite ?_ ?_
   | refine LeO.bind ?_ (fun _ => ?_)
theorem spec_l11Back.mono : ∀ a0 a1 a2 a3 k, LeO (spec_l11Back.f k a0 a1 a2 a3) (spec_l11Back.f (k + 1) a0 a1 a2 a3) := by
 intro a0 a1 a2 a3 k
 have ih0 := spec_l11Back.mono_l k
 unfold spec_l11Back.f
 repeat' first
   | (with_reducible exact ih0 _ _ _ _ _ _ _)
   | (with_reducible exact spec_WriteSector.mono _ _ _ _ _)
   | (with_reducible exact spec_l11Writes.mono _ _ _)
   | (with_reducible exact LeO.refl _)
   | (with_reducible exact LeO.none _)
   | (with_reducible refine LeO.ite ?_ ?_)
   | (with_reducible refine LeO.bind ?_ (fun _ => ?_))
   | exact ih0 _ _ _ _ _ _ _
   | exact spec_WriteSector.mono _ _ _ _ _
   | exact spec_l11Writes.mono _ _ _
   | exact LeO.none _
   | refine LeO.ite ?_ ?_
   | refine LeO.bind ?_ (fun _ => ?_)
def spec_l11Back.T1 : Bool × List (List Nat × List Nat) := (true, [([], []), ([0], [0]), ([], []), ([2], [2]), ([1, 3], [1, 3]), ([], []), ([5], [5]), ([6], [6]), ([7], [7]), ([4, 8], [4, 8]), ([9], [9]), ([10], [10]), ([10], [10]), ([11, 9, 0, 1, 2, 3, 4, 5, 6, 7, 8, 9, 10, 11], [11]), ([12, 13, 0, 1, 2, 3, 4, 5, 6, 7, 8, 9, 10, 11, 12, 13], [12])])
def spec_l11Back.B1 : List Nat := [0, 1, 0, 4, 15, 0, 32, 96, 224, 511, 1023, 2047, 2047, 4095, 16383]
theorem spec_l11Back.tab1 : rtab .any (opsOf Try.f93 1) = spec_l11Back.T1 := by kernel_rfl
theorem spec_l11Back.bits1 : waitsOk spec_l11Back.T1.2 spec_l11Back.B1 = true := by kernel_rfl
set_option maxHeartbeats 8000000 in
set_option maxRecDepth 100000 in
theorem spec_l11Back.calls (k : Nat) (P0_0_ : Nat → Prop) (A0_0 : Option Addr) (c0_0 : Nat) (l0_0 : List ByteArray) (P0_1_ : Nat → Prop) (A0_1 : Option Addr) (c0_1 : Nat) (l0_1 : List (S72)) (P0_2_ : Nat → Prop) (u9000_ : Value) (l0_2 : List ByteArray) (a0_3 : Int) (r1 : List ByteArray) (r2 : List (S72)) (r3 : List ByteArray) (r4 : Int) (r5 : Bool) (w0 w : World) (hB : Below w0.heap.size w0 w) (hs0_0 : Kd.V Kd.string 9 w w0.heap.size (fun k_ => P0_0_ k_ ∧ some k_ ≠ (u9000_ : Value).ownBlock) (.slice A0_0 l0_0.length c0_0) l0_0) (hs0_1 : Kd.V k72 72 w w0.heap.size (fun k_ => P0_1_ k_ ∧ some k_ ≠ (u9000_ : Value).ownBlock) (.slice A0_1 l0_1.length c0_1) l0_1) (ho0_2 : Kd.R Kd.string 9 w w0.heap.size P0_2_ u9000_ l0_2) (h : spec_l11Back.f k l0_0 l0_1 l0_2 a0_3 = some (r1, r2, r3, r4, r5)) :
  Calls Try.prog 93 #[.agg #[.slice A0_0 l0_0.length c0_0, .slice A0_1 l0_1.length c0_1, u9000_, .int .i64 a0_3]] w fun e w' => ∃ v0_ v1_ v2_ : Value, e = .returned (.tuple #[.agg #[v0_, v1_, v2_, .int .i64 r4], .bool r5]) ∧ Kd.V Kd.string 9 w' w0.heap.size (fun k_ => ((P0_2_ k_ ∨ P0_0_ k_ ∨ P0_1_ k_) ∨ w.heap.size ≤ k_) ∧ some k_ ≠ (v2_ : Value).ownBlock) v0_ r1 ∧ Kd.V k72 72 w' w0.heap.size (fun k_ => ((P0_2_ k_ ∨ P0_0_ k_ ∨ P0_1_ k_) ∨ w.heap.size ≤ k_) ∧ some k_ ≠ (v2_ : Value).ownBlock) v1_ r2 ∧ Kd.R Kd.string 9 w' w0.heap.size (fun k_ => (P0_2_ k_ ∨ w.heap.size ≤ k_)) v2_ r3 ∧ Below w0.heap.size w0 w' ∧ Kept w w' (fun k_ => P0_2_ k_) := by
 have hu44 := Try.underlying44
 have hu72 := Try.underlying72
 have hu42 := Try.underlying42
 have HO0_0 := Aside0.mk (show Kd.V Kd.string 9 w w0.heap.size (fun k_ => ((P0_2_ k_ ∨ P0_0_ k_ ∨ P0_1_ k_) ∨ w.heap.size ≤ k_) ∧ some k_ ≠ (u9000_ : Value).ownBlock) (.slice A0_0 l0_0.length c0_0) l0_0 from Kd.V_mono hs0_0 (fun k_ hk => ⟨.inl (.inr (.inl hk.1)), hk.2⟩))
 have HO0_1 := Aside0.mk (show Kd.V k72 72 w w0.heap.size (fun k_ => ((P0_2_ k_ ∨ P0_0_ k_ ∨ P0_1_ k_) ∨ w.heap.size ≤ k_) ∧ some k_ ≠ (u9000_ : Value).ownBlock) (.slice A0_1 l0_1.length c0_1) l0_1 from Kd.V_mono hs0_1 (fun k_ hk => ⟨.inl (.inr (.inr hk.1)), hk.2⟩))
 have HO0_2 := Aside0.mk (show Kd.R Kd.string 9 w w0.heap.size (fun k_ => (P0_2_ k_ ∨ w.heap.size ≤ k_)) u9000_ l0_2 from Kd.R_mono ho0_2 (fun k_ hk => (.inl hk)))
 have HK := Aside0.mk (Kept.refl w (fun k_ => P0_2_ k_))
 have HW0 := Aside0.mk hB.size
 have HB := Aside0.mk hB
 clear hB
 have H : (if 0 ≤ a0_3 then (if a0_3 ≤ (l0_2.length : Int) then ((spec_l11Writes.f k (l0_2.take (a0_3 : Int).toNat) (l0_0.length : Int)).bind fun bt1001 => (spec_l11Back.l0 k bt1001.1 (bt1001.1.length : Int) 0 l0_0 l0_1 l0_2 a0_3)) else (none)) else (none)) = some (r1, r2, r3, r4, r5) := h
 clear h
 by_cases c2 : 0 ≤ a0_3
 ·
  rw [if_pos c2] at H
  have c2b0 := eq_true c2
  have c2b1 : decide (0 ≤ a0_3) = true := decide_eq_true c2
  clear c2
  by_cases c3 : a0_3 ≤ (l0_2.length : Int)
  ·
   rw [if_pos c3] at H
   have c3b0 := eq_true c3
   have c3b1 : decide (a0_3 ≤ (l0_2.length : Int)) = true := decide_eq_true c3
   clear c3
   obtain ⟨y997, hy997⟩ : ∃ y_ : List ByteArray, y_ = (l0_2.take (a0_3 : Int).toNat) := ⟨_, rfl⟩
   replace H : ((spec_l11Writes.f k y997 (l0_0.length : Int)).bind fun bt1001 => (spec_l11Back.l0 k bt1001.1 (bt1001.1.length : Int) 0 l0_0 l0_1 l0_2 a0_3)) = some (r1, r2, r3, r4, r5) := by first | (rw [hy997]; with_reducible exact H) | (have H2_ := (Option.bind_some _ _).symm.trans H; rw [hy997]; with_reducible exact H2_) | (have H2_ := (Option.bind_some _ _).symm.trans H; with_reducible exact H2_) | with_reducible exact H | (rw [hy997]; exact H) | exact H
   have Ny997 := Aside0.mk hy997
   clear hy997
   replace H := Option.bind_eq_some_iff.mp H
   obtain ⟨⟨t1001, t1002⟩, A40, H⟩ := H
   replace H : (spec_l11Back.l0 k t1001 (t1001.length : Int) 0 l0_0 l0_1 l0_2 a0_3) = some (r1, r2, r3, r4, r5) := H
   have A4 := Aside0.mk A40
   clear A40
   have H' := Aside0.mk H
   clear H
   obtain ⟨Ao5, co5, eo5⟩ := Kd.R_slice HO0_2.out
   subst eo5
   go_enter Try.func93, Try.ntmps93
   try go_wp2_with (first | ((with_reducible refine gate_dst (N := 1) rfl ?_); refine box_event ?hg (N := 1) ?hd (cs := #[.slice A0_0 l0_0.length c0_0, .slice A0_1 l0_1.length c0_1, .slice Ao5 l0_2.length co5, .int .i64 a0_3]) (t := 44) ?hr ?_; (case hd => rfl); (case hg => rfl); (case hr => first | (go_simp; done) | (go_simp; rfl)); intro gb995 hg w6 hbox hb; replace HO0_2 := nr HO0_2 hb; replace HO0_0 := Aside0.mk (Kd.V_below (Kd.V_elderB (by (with_reducible repeat (first | apply Kd.V_alloc | apply Kd.V_drewN | apply Kd.V_drew)); exact HO0_0.out) gb995 (Nat.le_of_eq hg.symm)) hb); replace HO0_1 := Aside0.mk (Kd.V_below (Kd.V_elderB (by (with_reducible repeat (first | apply Kd.V_alloc | apply Kd.V_drewN | apply Kd.V_drew)); exact HO0_1.out) gb995 (Nat.le_of_eq hg.symm)) hb); have BK995 := Aside0.mk (hbox); have GW995 := Aside0.mk ((by rw [hg]; exact (by first | exact HK.out.1 | exact (show Kept w _ (fun k_ => P0_2_ k_) from by repeat (first | (with_reducible first | exact HK.out | apply Kept.alloc | apply Kept.drewN | apply Kept.drew) | exact HK.out)).1) : w.heap.size ≤ gb995)); replace HK := Aside0.mk (Kept.below (S := (fun k_ => P0_2_ k_)) (by repeat (first | (with_reducible first | exact HK.out | apply Kept.alloc | apply Kept.drewN | apply Kept.drew) | exact HK.out)) hb); have GE995 := Aside0.mk ((by rw [hg]; exact (below_size (bs HB)) : w0.heap.size ≤ gb995)); replace HB := Aside0.mk (below_step (bs HB) hb); clear hb hbox hg) | ((with_reducible refine gate_dst (N := 2) rfl ?_); refine box_event ?hg (N := 2) ?hd (cs := #[.slice none 0 0, .slice none 0 0, .slice none 0 0, .int .i64 0]) (t := 44) ?hr ?_; (case hd => rfl); (case hg => rfl); (case hr => first | (go_simp; done) | (go_simp; rfl)); intro gb996 hg w7 hbox hb; replace HO0_2 := nr HO0_2 hb; replace HO0_0 := Aside0.mk (Kd.V_below (Kd.V_elderB (by (with_reducible repeat (first | apply Kd.V_alloc | apply Kd.V_drewN | apply Kd.V_drew)); exact HO0_0.out) gb996 (Nat.le_of_eq hg.symm)) hb); replace HO0_1 := Aside0.mk (Kd.V_below (Kd.V_elderB (by (with_reducible repeat (first | apply Kd.V_alloc | apply Kd.V_drewN | apply Kd.V_drew)); exact HO0_1.out) gb996 (Nat.le_of_eq hg.symm)) hb); have BK996 := Aside0.mk (hbox); have GW996 := Aside0.mk ((by rw [hg]; exact (by first | exact HK.out.1 | exact (show Kept w _ (fun k_ => P0_2_ k_) from by repeat (first | (with_reducible first | exact HK.out | apply Kept.alloc | apply Kept.drewN | apply Kept.drew | refine Kept.setCell ?_ (.inr GW995.out) _) | exact HK.out)).1) : w.heap.size ≤ gb996)); replace HK := Aside0.mk (Kept.below (S := (fun k_ => P0_2_ k_)) (by repeat (first | (with_reducible first | exact HK.out | apply Kept.alloc | apply Kept.drewN | apply Kept.drew | refine Kept.setCell ?_ (.inr GW995.out) _) | exact HK.out)) hb); have GE996 := Aside0.mk ((by rw [hg]; exact (below_size (bs1 HB GE995)) : w0.heap.size ≤ gb996)); replace HB := Aside0.mk (below_step (bs1 HB GE995) hb); have NB995_996 := Aside0.mk ((bn BK995 hg : gb995 ≠ gb996)); have NB996_995 := Aside0.mk ((bm BK995 hg : gb996 ≠ gb995)); replace BK995 := nb BK995 hb; clear hb hbox hg))
   have n0_ := Aside0.mk (Kd.R_drew HO0_2.out)
   have n1_ := Aside0.mk (Kd.V_drew HO0_0.out)
   have n2_ := Aside0.mk (Kd.V_drew HO0_1.out)
   have n3_ := Aside0.mk (blk_drew BK995.out)
   have n4_ := Aside0.mk (blk_drew BK996.out)
   have n5_ := Aside0.mk (Kept.drew HK.out)
   have n6_ := Aside0.mk (below_drew1 HB.out)
   clear HO0_2
   clear HO0_0
   clear HO0_1
   clear BK995
   clear BK996
   clear HK
   clear HB
   have HO0_2 := n0_
   have HO0_0 := n1_
   have HO0_1 := n2_
   have BK995 := n3_
   have BK996 := n4_
   have HK := n5_
   have HB := n6_
   clear n0_ n1_ n2_ n3_ n4_ n5_ n6_
   have q9 : (a0_3 : Int) ≤ ((l0_2.length : Int) : Int) := of_decide_eq_true (by first | (with_reducible assumption) | assumption)
   obtain ⟨i09, hi09, _, hsz9, _⟩ := info_parts info9
   have hroom9 : l0_2.length ≤ co5 := (Kd.R_reads' HO0_2.out).2.1
   have hC9 : Kd.C Kd.string _ Ao5 l0_2.length l0_2 := (Kd.R_reads' HO0_2.out).2.2
   have hcut9 := cut_to (P := Try.prog) 34 9 .i64 Try.underlying34 hi09 Ao5 l0_2.length co5 a0_3 (of_decide_eq_true (by first | (with_reducible assumption) | assumption)) q9 hroom9
   have hr9 := Kd.C_take (m := (a0_3 : Int).toNat) hC9 (by omega)
   have hy9 : y997.length = (a0_3 : Int).toNat := (by rw [Ny997.out, List.length_take]; omega)
   rw [← Ny997.out] at hr9
   rw [← hy9] at hcut9
   have HR1000 := Aside0.mk hr9
   have HC1000 := Aside0.mk (show y997.length ≤ co5 from by omega)
   clear hr9 hC9 hroom9 hi09 hsz9
   have KY9 := Aside0.mk hy9
   clear hy9
   have KL9 := Aside0.mk (show (a0_3 : Int).toNat ≤ l0_2.length from by omega)
   replace q9 := eq_true q9
   refine start_ (n := 15) (S := fun w' => w'.cell? ⟨gb995, 0, none⟩ = some (.slice A0_0 l0_0.length c0_0) ∧ w'.cell? ⟨gb995, 1, none⟩ = some (.slice A0_1 l0_1.length c0_1) ∧ w'.cell? ⟨gb995, 2, none⟩ = some (.slice Ao5 l0_2.length co5) ∧ w'.cell? ⟨gb995, 3, none⟩ = some (.int .i64 a0_3)) (ds := []) #[false, false, false, false, false, false, false, false, false, false, false, false, false, false, false] (by kernel_rfl) rfl rfl ⟨(blk_cell BK995.out 0).trans rfl, (blk_cell BK995.out 1).trans rfl, (blk_cell BK995.out 2).trans rfl, (blk_cell BK995.out 3).trans rfl⟩ (fun hHeld => ?_); refine with_tabW spec_l11Back.tab1 spec_l11Back.bits1 (fun HT_ HW_ => ?_)
   generalize w7.drew = w8 at HO0_2 HO0_0 HO0_1 BK995 BK996 HK HB HR1000 hHeld ⊢
   refine pureS 0 11 HT_.out ?_
   refine pureS 2 13 HT_.out ?_
   refine pureS 5 16 HT_.out ?_
   refine pureS 6 17 HT_.out ?_
   refine takeS 1 12 HT_.out HW_.out hHeld (hr := by rintro w' ⟨s0, s1, s2, s3⟩; go_simp; with_reducible rfl) (h := ?_)
   refine takeS 3 14 HT_.out HW_.out hHeld (hr := by rintro w' ⟨s0, s1, s2, s3⟩; go_simp; with_reducible rfl) (h := ?_)
   refine pureS 4 15 HT_.out ?_
   refine takeS 7 18 HT_.out HW_.out hHeld (hr := by rintro w' ⟨s0, s1, s2, s3⟩; go_simp; with_reducible rfl) (h := ?_)
   refine pureS 8 19 HT_.out ?_
   refine one_ (i := 9) (N := some 20) #[true, true, true, true, true, true, true, true, true, true, false, false, false, false, false] rfl rfl (one_of HT_.out (by kernel_rfl)) (by decide) (fun K hK => ?_)
   refine goes_ Try.func73 (by kernel_rfl) rfl #[.slice Ao5 y997.length co5, .int .i64 (l0_0.length : Int)] (by rfl) rfl rfl (by (try simp only [List.map_toArray, List.map_cons, List.map_nil]); first | done | rfl | (simp only [List.length_drop, List.length_take]; rfl)) ?_
   with_reducible refine (spec_l11Writes.calls k _ _ y997 (l0_0.length : Int) t1001 t1002 _ ?side1 ?side2 A4.out).mono ?_
   (case side1 => repeat (first | exact (by repeat (first | (with_reducible exact HR1000.out) | (with_reducible refine Kd.C_alloc ?_ _) | (with_reducible refine Kd.C_drewN ?_ _) | (with_reducible refine Kd.C_drew ?_) | exact HR1000.out)) | (with_reducible refine Kd.C_alloc ?_ _) | (with_reducible refine Kd.C_drewN ?_ _) | (with_reducible refine Kd.C_drew ?_)))
   (case side2 => exact HC1000.out)
   rintro e w10 ⟨v1003, rfl, ho0, hb⟩
   refine ⟨_, rfl, ?_⟩
   have n0_ := Aside0.mk (Kd.R_below (rr HO0_2.out) hb)
   have n1_ := Aside0.mk (Kd.V_elder' (by (with_reducible repeat (first | apply Kd.V_alloc | apply Kd.V_drewN | apply Kd.V_drew)); exact HO0_0.out) (Kd.R_base ho0) hb)
   have n2_ := Aside0.mk (Kd.V_elder' (by (with_reducible repeat (first | apply Kd.V_alloc | apply Kd.V_drewN | apply Kd.V_drew)); exact HO0_1.out) (Kd.R_base ho0) hb)
   have n3_ := Aside0.mk (Kd.R_lower (Kd.R_newM (M := fun k_ => (P0_2_ k_ ∨ w.heap.size ≤ k_)) ho0 (by first | exact HK.out.1 | exact (show Kept w _ (fun k_ => P0_2_ k_) from by repeat (first | (with_reducible first | exact HK.out | apply Kept.alloc | apply Kept.drewN | apply Kept.drew | refine Kept.setCell ?_ (.inr GW995.out) _ | refine Kept.setCell ?_ (.inr GW996.out) _) | exact HK.out)).1) (fun k_ h_ => .inr h_)) (below_size (bs2 HB GE995 GE996)))
   have n4_ := Aside0.mk (bb BK995 hb)
   have n5_ := Aside0.mk (bb BK996 hb)
   have n6_ := Aside0.mk (Kd.C_below (by repeat (first | (with_reducible exact HR1000.out) | (with_reducible refine Kd.C_alloc ?_ _) | (with_reducible refine Kd.C_drewN ?_ _) | (with_reducible refine Kd.C_drew ?_) | exact HR1000.out)) hb)
   have n7_ := Aside0.mk (Kept.below (S := (fun k_ => P0_2_ k_)) (by repeat (first | (with_reducible first | exact HK.out | apply Kept.alloc | apply Kept.drewN | apply Kept.drew | refine Kept.setCell ?_ (.inr GW995.out) _ | refine Kept.setCell ?_ (.inr GW996.out) _) | exact HK.out)) hb)
   have n8_ := Aside0.mk (below_step (bs2 HB GE995 GE996) hb)
   clear HO0_2
   clear HO0_0
   clear HO0_1
   clear BK995
   clear BK996
   clear HR1000
   clear HK
   clear HB
   have HO0_2 := n0_
   have HO0_0 := n1_
   have HO0_1 := n2_
   have HO1004 := n3_
   have BK995 := n4_
   have BK996 := n5_
   have HR1000 := n6_
   have HK := n7_
   have HB := n8_
   clear n0_ n1_ n2_ n3_ n4_ n5_ n6_ n7_ n8_
   (try clear hb)
   (try clear hb2)
   (try clear hk)
   (try clear hi)
   (try clear ho0)
   refine hK.out _ _ ⟨(blk_cell BK995.out 0).trans rfl, (blk_cell BK995.out 1).trans rfl, (blk_cell BK995.out 2).trans rfl, (blk_cell BK995.out 3).trans rfl⟩ (fun hHeld => ?_)
   clear hK K
   refine norm_ (a' := ?_) ?_ ?_
   rotate_left
   ·
    show Act.put _ (some 20) _ = _
    simp only [Act.put, List.setIfInBounds_toArray, List.set_cons_zero, List.set_cons_succ, i64_w, i32_w]
    rfl
   refine pureS 10 10 HT_.out ?_
   refine pureS 11 21 HT_.out ?_
   refine pureS 12 22 HT_.out ?_
   refine pureS 13 4 HT_.out ?_
   refine pureS 14 5 HT_.out ?_
   refine done_ (done_of HT_.out (by kernel_rfl)) ?_
   obtain ⟨Ao11, co11, eo11⟩ := Kd.R_slice HO1004.out
   subst eo11
   try go_wp2
   go_loopg [25] k (fun kq v25 w' => ∃ (x25_1 : Int) (x996000_1 : List ByteArray) (x996001_1 : List (S72)) (x997003_1 : Int) (u996000 : Value) (u996001 : Value), v25 = .int .i64 x25_1 ∧ Aside0 (spec_l11Back.l0 kq t1001 (t1001.length : Int) x25_1 x996000_1 x996001_1 l0_2 a0_3 = some (r1, r2, r3, r4, r5)) ∧ Aside0 (kq ≤ k) ∧ Aside0 (Kd.R k72 72 w' w0.heap.size (fun k_ => (P0_2_ k_ ∨ w.heap.size ≤ k_)) (.slice Ao11 t1001.length co11) t1001) ∧ Aside0 (Kd.V Kd.string 9 w' w0.heap.size (fun k_ => ((P0_2_ k_ ∨ P0_0_ k_ ∨ P0_1_ k_) ∨ w.heap.size ≤ k_) ∧ some k_ ≠ ((.slice Ao11 t1001.length co11) : Value).ownBlock ∧ some k_ ≠ ((.slice Ao5 l0_2.length co5) : Value).ownBlock ∧ k_ ≠ gb995 ∧ k_ ≠ gb996) u996000 x996000_1) ∧ Aside0 (Kd.V k72 72 w' w0.heap.size (fun k_ => ((P0_2_ k_ ∨ P0_0_ k_ ∨ P0_1_ k_) ∨ w.heap.size ≤ k_) ∧ some k_ ≠ ((.slice Ao11 t1001.length co11) : Value).ownBlock ∧ some k_ ≠ ((.slice Ao5 l0_2.length co5) : Value).ownBlock ∧ k_ ≠ gb995 ∧ k_ ≠ gb996) u996001 x996001_1) ∧ Aside0 (Kd.R Kd.string 9 w' w0.heap.size (fun k_ => (P0_2_ k_ ∨ w.heap.size ≤ k_)) (.slice Ao5 l0_2.length co5) l0_2) ∧ Aside0 (w'.heap[gb995]? = some (.cells #[u996000, u996001, (.slice Ao5 l0_2.length co5), .int .i64 a0_3] 44 (0, 0))) ∧ Aside0 (w'.heap[gb996]? = some (.cells #[(.slice none 0 0), (.slice none 0 0), (.slice none 0 0), .int .i64 x997003_1] 44 (0, 0))) ∧ Aside0 (Kept w w' (fun k_ => P0_2_ k_)) ∧ Aside0 (Below w0.heap.size w0 w'))
   case atStart => exact ⟨(0), (l0_0), (l0_1), (0), (.slice A0_0 l0_0.length c0_0), (.slice A0_1 l0_1.length c0_1), (by first | rfl | (simp; done) | (simp [*]; done)), H', ⟨Nat.le_refl _⟩, rm HO1004 (fun _ hk => hk.1), ⟨by (with_reducible repeat (first | apply Kd.V_alloc | apply Kd.V_drewN | apply Kd.V_drew)); exact Kd.V_mono HO0_0.out (fun _ hk => ⟨hk.1.1.1.1, ⟨hk.2, ⟨hk.1.1.1.2, ⟨hk.1.1.2, hk.1.2⟩⟩⟩⟩)⟩, ⟨by (with_reducible repeat (first | apply Kd.V_alloc | apply Kd.V_drewN | apply Kd.V_drew)); exact Kd.V_mono HO0_1.out (fun _ hk => ⟨hk.1.1.1.1, ⟨hk.2, ⟨hk.1.1.1.2, ⟨hk.1.1.2, hk.1.2⟩⟩⟩⟩)⟩, ⟨rr HO0_2.out⟩, ⟨bk BK995⟩, ⟨bk BK996⟩, ⟨by repeat (first | (with_reducible first | exact HK.out | apply Kept.alloc | apply Kept.drewN | apply Kept.drew | refine Kept.setCell ?_ (.inr GW995.out) _ | refine Kept.setCell ?_ (.inr GW996.out) _) | exact HK.out)⟩, ⟨bs2 HB GE995 GE996⟩⟩
   case round =>
    clear H'
    try clear c2
    try clear c2b0
    try clear c2b1
    try clear p2
    try clear c3
    try clear c3b0
    try clear c3b1
    try clear c7
    try clear c9
    try clear q9
    try clear q9
    obtain ⟨x25_1, x996000_1, x996001_1, x997003_1, u996000, u996001, rfl, HA, HK1, HO_23, HO_996000, HO_996001, HO_996002, BK995, BK996, HK, HB⟩ := hrel
    cases gk with
    | zero => exact absurd HA.out (by simp [spec_l11Back.l0])
    | succ k1 =>
     have H := HA.out
     clear HA
     simp only [spec_l11Back.l0] at H
     by_cases c12 : x25_1 < (t1001.length : Int)
     ·
      rw [if_pos c12] at H
      have c12b0 : decide (x25_1 < (t1001.length : Int)) = true := decide_eq_true c12
      clear c12
      by_cases c13 : 0 ≤ x25_1
      ·
       rw [if_pos c13] at H
       have c13b0 : decide (0 ≤ x25_1) = true := decide_eq_true c13
       clear c13
       by_cases c14 : x25_1 < (t1001.length : Int)
       ·
        rw [if_pos c14] at H
        have c14b0 : decide (x25_1 < (t1001.length : Int)) = true := decide_eq_true c14
        clear c14
        replace H := Option.bind_eq_some_iff.mp H
        obtain ⟨⟨t1007, t1010, t1013⟩, A150, H⟩ := H
        replace H : (if t1013 = true then (spec_l11Back.l0 k1 t1001 (t1001.length : Int) (wrap64 (x25_1 + 1)) t1007 t1010 l0_2 a0_3) else (some (([] : List ByteArray), ([] : List (S72)), ([] : List ByteArray), 0, false))) = some (r1, r2, r3, r4, r5) := H
        have A15 := Aside0.mk A150
        clear A150
        by_cases c16 : t1013 = true
        ·
         subst c16
         rw [if_pos rfl] at H
         have H' := Aside0.mk H
         clear H
         have p1005 : 0 ≤ (x25_1 : Int) := of_decide_eq_true (by first | (with_reducible assumption) | assumption)
         have q1005 : x25_1 < (t1001.length : Int) := of_decide_eq_true (by first | (with_reducible assumption) | assumption)
         obtain ⟨ad1005, e1005, hx1005_0, hx1005_1⟩ := at_T72 (Kd.R_reads' HO_23.out).2.2 x25_1 p1005 q1005
         cases e1005
         replace p1005 := eq_true p1005
         replace q1005 := eq_true q1005
         go_wp2_with (first | ((with_reducible refine gate_dst (N := 7) rfl ?_); refine box_event ?hg (N := 7) ?hd (cs := #[.int .i64 0, .string (⟨#[]⟩ : ByteArray)]) (t := 72) ?hr ?_; (case hd => rfl); (case hg => rfl); (case hr => first | (go_simp; done) | (go_simp; rfl)); intro gb1006 hg w17 hbox hb; replace HO_23 := Aside0.mk (Kd.R_below (Kd.R_elderB (rr HO_23.out) gb1006 (Nat.le_of_eq hg.symm)) hb); replace HO_996000 := Aside0.mk (Kd.V_below (Kd.V_elderB (by (with_reducible repeat (first | apply Kd.V_alloc | apply Kd.V_drewN | apply Kd.V_drew)); exact HO_996000.out) gb1006 (Nat.le_of_eq hg.symm)) hb); replace HO_996001 := Aside0.mk (Kd.V_below (Kd.V_elderB (by (with_reducible repeat (first | apply Kd.V_alloc | apply Kd.V_drewN | apply Kd.V_drew)); exact HO_996001.out) gb1006 (Nat.le_of_eq hg.symm)) hb); replace HO_996002 := nr HO_996002 hb; have BK1006 := Aside0.mk (hbox); have GW1006 := Aside0.mk ((by rw [hg]; exact (by first | exact HK.out.1 | exact (show Kept w _ (fun k_ => P0_2_ k_) from by repeat (first | (with_reducible first | exact HK.out | apply Kept.alloc | apply Kept.drewN | apply Kept.drew | refine Kept.setCell ?_ (.inr GW995.out) _ | refine Kept.setCell ?_ (.inr GW996.out) _) | exact HK.out)).1) : w.heap.size ≤ gb1006)); replace HK := Aside0.mk (Kept.below (S := (fun k_ => P0_2_ k_)) (by repeat (first | (with_reducible first | exact HK.out | apply Kept.alloc | apply Kept.drewN | apply Kept.drew | refine Kept.setCell ?_ (.inr GW995.out) _ | refine Kept.setCell ?_ (.inr GW996.out) _) | exact HK.out)) hb); have GE1006 := Aside0.mk ((by rw [hg]; exact (below_size (bs2 HB GE995 GE996)) : w0.heap.size ≤ gb1006)); replace HB := Aside0.mk (below_step (bs2 HB GE995 GE996) hb); have NB995_1006 := Aside0.mk ((bn BK995 hg : gb995 ≠ gb1006)); have NB1006_995 := Aside0.mk ((bm BK995 hg : gb1006 ≠ gb995)); replace BK995 := nb BK995 hb; have NB996_1006 := Aside0.mk ((bn BK996 hg : gb996 ≠ gb1006)); have NB1006_996 := Aside0.mk ((bm BK996 hg : gb1006 ≠ gb996)); replace BK996 := nb BK996 hb; clear hb hbox hg; have hnb18 := NB1006_995.out; have hnc18 := NB995_1006.out; have hnb19 := NB1006_996.out; have hnc19 := NB996_1006.out; obtain ⟨hcz20_0, hcz20_1⟩ := cz2 BK1006; obtain ⟨hfz20_0, hfz20_1⟩ := fz2 BK1006; have hnb21 := NB995_996.out; have hnc21 := NB996_995.out; obtain ⟨hcz22_0, hcz22_1, hcz22_2, hcz22_3⟩ := cz4 BK995; obtain ⟨hfz22_0, hfz22_1, hfz22_2, hfz22_3⟩ := fz4 BK995; obtain ⟨Ao23, co23, eo23⟩ := Kd.V_slice HO_996000.out; subst eo23; obtain ⟨Ao24, co24, eo24⟩ := Kd.V_slice HO_996001.out; subst eo24) | ((with_reducible refine gate_callee (f := 117) rfl ?_); refine gL (some 33) rfl rfl Try.func117 (by kernel_rfl) rfl #[.agg #[.slice Ao23 x996000_1.length co23, .slice Ao24 x996001_1.length co24], .agg #[.int .i64 ((rd_T72 t1001 x25_1).f0), .string ((rd_T72 t1001 x25_1).f1)]] rfl ?_; (with_reducible refine (spec_WriteSector.calls k1 _ _ x996000_1 _ _ x996001_1 ((rd_T72 t1001 x25_1).f0) ((rd_T72 t1001 x25_1).f1) t1007 t1010 true _ ?side1 ?side2 ?side3 ?side4 A15.out).mono ?_); (case side1 => refine (Kd.V_reads' (e := 9) (base := w0.heap.size) (ok := fun k_ => ((((P0_2_ k_ ∨ P0_0_ k_ ∨ P0_1_ k_) ∨ w.heap.size ≤ k_) ∧ (some k_ ≠ (.slice (some ad1005) t1001.length co11 : Value).ownBlock ∧ (some k_ ≠ (.slice Ao5 l0_2.length co5 : Value).ownBlock ∧ (k_ ≠ gb995 ∧ k_ ≠ gb996)))) ∧ k_ ≠ gb1006)) (n := x996000_1.length) (c := co23) ?_).2.2; exact (by (with_reducible repeat (first | apply Kd.V_alloc | apply Kd.V_drewN | apply Kd.V_drew)); exact (Kd.V_mono (Kd.V_far (p := ⟨gb1006, 1, none⟩) (Kd.V_far (p := ⟨gb1006, 0, none⟩) (Kd.V_mono HO_996000.out (fun k_ hk => (⟨hk, hk.2⟩ : _ ∧ k_ ≠ gb1006))) (fun _ hk => hk.2) (.int .i64 ((rd_T72 t1001 x25_1).f0))) (fun _ hk => hk.2) (.string ((rd_T72 t1001 x25_1).f1))) (fun _ h_ => h_.1)))); (case side2 => exact (Kd.V_reads' HO_996000.out).2.1); (case side3 => refine (Kd.V_reads' (e := 72) (base := w0.heap.size) (ok := fun k_ => ((((P0_2_ k_ ∨ P0_0_ k_ ∨ P0_1_ k_) ∨ w.heap.size ≤ k_) ∧ (some k_ ≠ (.slice (some ad1005) t1001.length co11 : Value).ownBlock ∧ (some k_ ≠ (.slice Ao5 l0_2.length co5 : Value).ownBlock ∧ (k_ ≠ gb995 ∧ k_ ≠ gb996)))) ∧ k_ ≠ gb1006)) (n := x996001_1.length) (c := co24) ?_).2.2; exact (by (with_reducible repeat (first | apply Kd.V_alloc | apply Kd.V_drewN | apply Kd.V_drew)); exact (Kd.V_mono (Kd.V_far (p := ⟨gb1006, 1, none⟩) (Kd.V_far (p := ⟨gb1006, 0, none⟩) (Kd.V_mono HO_996001.out (fun k_ hk => (⟨hk, hk.2⟩ : _ ∧ k_ ≠ gb1006))) (fun _ hk => hk.2) (.int .i64 ((rd_T72 t1001 x25_1).f0))) (fun _ hk => hk.2) (.string ((rd_T72 t1001 x25_1).f1))) (fun _ h_ => h_.1)))); (case side4 => exact (Kd.V_reads' HO_996001.out).2.1); rintro e w25 ⟨v1008, v1011, rfl, ho0, ho1, hb⟩; refine ⟨_, rfl, ?_⟩; replace HO_996000 := Aside0.mk (Kd.V_mono (Kd.V_told (Kd.V_told (Kd.V_old (by (with_reducible repeat (first | apply Kd.V_alloc | apply Kd.V_drewN | apply Kd.V_drew)); exact (Kd.V_mono (Kd.V_far (p := ⟨gb1006, 1, none⟩) (Kd.V_far (p := ⟨gb1006, 0, none⟩) (Kd.V_mono HO_996000.out (fun k_ hk => (⟨hk, hk.2⟩ : _ ∧ k_ ≠ gb1006))) (fun _ hk => hk.2) (.int .i64 ((rd_T72 t1001 x25_1).f0))) (fun _ hk => hk.2) (.string ((rd_T72 t1001 x25_1).f1))) (fun _ h_ => h_.1))) hb) (Kd.R_base ho0)) (Kd.R_base ho1)) (fun _ h_ => h_.1)); replace HO_996001 := Aside0.mk (Kd.V_mono (Kd.V_told (Kd.V_told (Kd.V_old (by (with_reducible repeat (first | apply Kd.V_alloc | apply Kd.V_drewN | apply Kd.V_drew)); exact (Kd.V_mono (Kd.V_far (p := ⟨gb1006, 1, none⟩) (Kd.V_far (p := ⟨gb1006, 0, none⟩) (Kd.V_mono HO_996001.out (fun k_ hk => (⟨hk, hk.2⟩ : _ ∧ k_ ≠ gb1006))) (fun _ hk => hk.2) (.int .i64 ((rd_T72 t1001 x25_1).f0))) (fun _ hk => hk.2) (.string ((rd_T72 t1001 x25_1).f1))) (fun _ h_ => h_.1))) hb) (Kd.R_base ho0)) (Kd.R_base ho1)) (fun _ h_ => h_.1)); have HO1009 := Aside0.mk (Kd.R_lower (Kd.R_new' (Kd.R_newM (M := fun k_ => (P0_2_ k_ ∨ w.heap.size ≤ k_)) ho0 (show Kept w _ (fun k_ => P0_2_ k_) from by repeat (first | (with_reducible first | exact HK.out | apply Kept.alloc | apply Kept.drewN | apply Kept.drew | refine Kept.setCell ?_ (.inr GW995.out) _ | refine Kept.setCell ?_ (.inr GW996.out) _ | refine Kept.setCell ?_ (.inr GW1006.out) _) | exact HK.out)).1 (fun k_ h_ => .inr h_)) (Kd.R_lt (by (with_reducible repeat (first | apply Kd.R_alloc | apply Kd.R_drewN | apply Kd.R_drew)); exact (Kd.R_mono (Kd.R_far (p := ⟨gb1006, 1, none⟩) (Kd.R_far (p := ⟨gb1006, 0, none⟩) (Kd.R_types HO_996002.out BK1006.out (by decide)) (fun _ hk => hk.2) (.int .i64 ((rd_T72 t1001 x25_1).f0))) (fun _ hk => hk.2) (.string ((rd_T72 t1001 x25_1).f1))) (fun _ h_ => h_.1))))) (below_size (bs3 HB GE995 GE996 GE1006))); replace HO_996002 := Aside0.mk (Kd.R_elder' (by (with_reducible repeat (first | apply Kd.R_alloc | apply Kd.R_drewN | apply Kd.R_drew)); exact (Kd.R_mono (Kd.R_far (p := ⟨gb1006, 1, none⟩) (Kd.R_far (p := ⟨gb1006, 0, none⟩) (Kd.R_types HO_996002.out BK1006.out (by decide)) (fun _ hk => hk.2) (.int .i64 ((rd_T72 t1001 x25_1).f0))) (fun _ hk => hk.2) (.string ((rd_T72 t1001 x25_1).f1))) (fun _ h_ => h_.1))) (Kd.R_base ho0) hb); have HO1012 := Aside0.mk (Kd.R_lower (Kd.R_newB (Kd.R_new' (Kd.R_newM (M := fun k_ => (P0_2_ k_ ∨ w.heap.size ≤ k_)) ho1 (show Kept w _ (fun k_ => P0_2_ k_) from by repeat (first | (with_reducible first | exact HK.out | apply Kept.alloc | apply Kept.drewN | apply Kept.drew | refine Kept.setCell ?_ (.inr GW995.out) _ | refine Kept.setCell ?_ (.inr GW996.out) _ | refine Kept.setCell ?_ (.inr GW1006.out) _) | exact HK.out)).1 (fun k_ h_ => .inr h_)) (Kd.R_lt (by (with_reducible repeat (first | apply Kd.R_alloc | apply Kd.R_drewN | apply Kd.R_drew)); exact (Kd.R_mono (Kd.R_far (p := ⟨gb1006, 1, none⟩) (Kd.R_far (p := ⟨gb1006, 0, none⟩) (Kd.R_mono HO_23.out (fun k_ hk => (⟨hk, hk.2⟩ : _ ∧ k_ ≠ gb1006))) (fun _ hk => hk.2) (.int .i64 ((rd_T72 t1001 x25_1).f0))) (fun _ hk => hk.2) (.string ((rd_T72 t1001 x25_1).f1))) (fun _ h_ => h_.1))))) (g := gb1006) (o := .cells #[.int .i64 ((rd_T72 t1001 x25_1).f0), .string ((rd_T72 t1001 x25_1).f1)] 72 (0, 0)) (by (with_reducible repeat (first | refine blk_drewN ?_ _ | refine blk_drew ?_ | refine blk_alloc ?_ _)); refine blk_put (cs := #[.int .i64 ((rd_T72 t1001 x25_1).f0), .string (⟨#[]⟩ : ByteArray)]) ?_ 1 _ rfl; (with_reducible repeat (first | refine blk_drewN ?_ _ | refine blk_drew ?_ | refine blk_alloc ?_ _)); refine blk_put (cs := #[.int .i64 0, .string (⟨#[]⟩ : ByteArray)]) ?_ 0 _ rfl; (with_reducible repeat (first | refine blk_drewN ?_ _ | refine blk_drew ?_ | refine blk_alloc ?_ _)); exact BK1006.out)) (below_size (bs3 HB GE995 GE996 GE1006))); replace HO_23 := Aside0.mk (Kd.R_elder' (by (with_reducible repeat (first | apply Kd.R_alloc | apply Kd.R_drewN | apply Kd.R_drew)); exact (Kd.R_mono (Kd.R_far (p := ⟨gb1006, 1, none⟩) (Kd.R_far (p := ⟨gb1006, 0, none⟩) (Kd.R_mono HO_23.out (fun k_ hk => (⟨hk, hk.2⟩ : _ ∧ k_ ≠ gb1006))) (fun _ hk => hk.2) (.int .i64 ((rd_T72 t1001 x25_1).f0))) (fun _ hk => hk.2) (.string ((rd_T72 t1001 x25_1).f1))) (fun _ h_ => h_.1))) (Kd.R_base ho1) hb); replace BK995 := Aside0.mk (blk_below (bf BK995 NB995_1006) hb); replace BK996 := Aside0.mk (blk_below (bf BK996 NB996_1006) hb); replace BK1006 := Aside0.mk (blk_below (g := gb1006) (o := .cells #[.int .i64 ((rd_T72 t1001 x25_1).f0), .string ((rd_T72 t1001 x25_1).f1)] 72 (0, 0)) (by (with_reducible repeat (first | refine blk_drewN ?_ _ | refine blk_drew ?_ | refine blk_alloc ?_ _)); refine blk_put (cs := #[.int .i64 ((rd_T72 t1001 x25_1).f0), .string (⟨#[]⟩ : ByteArray)]) ?_ 1 _ rfl; (with_reducible repeat (first | refine blk_drewN ?_ _ | refine blk_drew ?_ | refine blk_alloc ?_ _)); refine blk_put (cs := #[.int .i64 0, .string (⟨#[]⟩ : ByteArray)]) ?_ 0 _ rfl; (with_reducible repeat (first | refine blk_drewN ?_ _ | refine blk_drew ?_ | refine blk_alloc ?_ _)); exact BK1006.out) hb); replace HK := Aside0.mk (Kept.below (S := (fun k_ => P0_2_ k_)) (by repeat (first | (with_reducible first | exact HK.out | apply Kept.alloc | apply Kept.drewN | apply Kept.drew | refine Kept.setCell ?_ (.inr GW995.out) _ | refine Kept.setCell ?_ (.inr GW996.out) _ | refine Kept.setCell ?_ (.inr GW1006.out) _) | exact HK.out)) hb); replace HB := Aside0.mk (below_step (bs3 HB GE995 GE996 GE1006) hb); (try clear hb); (try clear hb2); (try clear hk); (try clear hi); (try clear ho0); (try clear ho1)) | ((with_reducible refine gate_dst (N := 8) rfl ?_); refine box_event ?hg (N := 8) ?hd (cs := #[.slice none 0 0, .slice none 0 0]) (t := 42) ?hr ?_; (case hd => rfl); (case hg => rfl); (case hr => first | (go_simp; done) | (go_simp; rfl)); intro gb1014 hg w26 hbox hb; replace HO_23 := nr HO_23 hb; replace HO_996000 := Aside0.mk (Kd.V_below (Kd.V_elderB (by (with_reducible repeat (first | apply Kd.V_alloc | apply Kd.V_drewN | apply Kd.V_drew)); exact HO_996000.out) gb1014 (Nat.le_of_eq hg.symm)) hb); replace HO_996001 := Aside0.mk (Kd.V_below (Kd.V_elderB (by (with_reducible repeat (first | apply Kd.V_alloc | apply Kd.V_drewN | apply Kd.V_drew)); exact HO_996001.out) gb1014 (Nat.le_of_eq hg.symm)) hb); replace HO_996002 := nr HO_996002 hb; replace HO1009 := nr HO1009 hb; replace HO1012 := nr HO1012 hb; have BK1014 := Aside0.mk (hbox); have GW1014 := Aside0.mk ((by rw [hg]; exact (by first | exact HK.out.1 | exact (show Kept w _ (fun k_ => P0_2_ k_) from by repeat (first | (with_reducible first | exact HK.out | apply Kept.alloc | apply Kept.drewN | apply Kept.drew | refine Kept.setCell ?_ (.inr GW995.out) _ | refine Kept.setCell ?_ (.inr GW996.out) _ | refine Kept.setCell ?_ (.inr GW1006.out) _) | exact HK.out)).1) : w.heap.size ≤ gb1014)); replace HK := Aside0.mk (Kept.below (S := (fun k_ => P0_2_ k_)) (by repeat (first | (with_reducible first | exact HK.out | apply Kept.alloc | apply Kept.drewN | apply Kept.drew | refine Kept.setCell ?_ (.inr GW995.out) _ | refine Kept.setCell ?_ (.inr GW996.out) _ | refine Kept.setCell ?_ (.inr GW1006.out) _) | exact HK.out)) hb); have GE1014 := Aside0.mk ((by rw [hg]; exact (below_size (bs3 HB GE995 GE996 GE1006)) : w0.heap.size ≤ gb1014)); replace HB := Aside0.mk (below_step (bs3 HB GE995 GE996 GE1006) hb); have NB995_1014 := Aside0.mk ((bn BK995 hg : gb995 ≠ gb1014)); have NB1014_995 := Aside0.mk ((bm BK995 hg : gb1014 ≠ gb995)); replace BK995 := nb BK995 hb; have NB996_1014 := Aside0.mk ((bn BK996 hg : gb996 ≠ gb1014)); have NB1014_996 := Aside0.mk ((bm BK996 hg : gb1014 ≠ gb996)); replace BK996 := nb BK996 hb; have NB1006_1014 := Aside0.mk ((bn BK1006 hg : gb1006 ≠ gb1014)); have NB1014_1006 := Aside0.mk ((bm BK1006 hg : gb1014 ≠ gb1006)); replace BK1006 := nb BK1006 hb; clear hb hbox hg; obtain ⟨Ao27, co27, eo27⟩ := Kd.R_slice HO1009.out; subst eo27; have hnb28 := NB1014_995.out; have hnc28 := NB995_1014.out; have hnb29 := NB1014_996.out; have hnc29 := NB996_1014.out; have hnb30 := NB1014_1006.out; have hnc30 := NB1006_1014.out; obtain ⟨hcz31_0, hcz31_1⟩ := cz2 BK1014; obtain ⟨hfz31_0, hfz31_1⟩ := fz2 BK1014; obtain ⟨Ao32, co32, eo32⟩ := Kd.R_slice HO1012.out; subst eo32; obtain ⟨hcz33_0, hcz33_1, hcz33_2, hcz33_3⟩ := cz4 BK995; obtain ⟨hfz33_0, hfz33_1, hfz33_2, hfz33_3⟩ := fz4 BK995))
         go_roundg k1
         case measure => have := HK1.out; omega
         case rel => exact ⟨(wrap64 (x25_1 + 1)), (t1007), (t1010), (x997003_1), (.slice Ao27 t1007.length co27), (.slice Ao32 t1010.length co32), (by first | rfl | (simp; done) | (simp [*]; done)), H', ⟨by have := HK1.out; omega⟩, ⟨by (with_reducible repeat (first | apply Kd.R_alloc | apply Kd.R_drewN | apply Kd.R_drew)); exact Kd.R_mono (Kd.R_far (p := ⟨gb995, 1, none⟩) (Kd.R_far (p := ⟨gb995, 0, none⟩) (Kd.R_far (p := ⟨gb1014, 1, none⟩) (Kd.R_far (p := ⟨gb1014, 0, none⟩) (Kd.R_types (Kd.R_types HO_23.out BK1014.out (by decide)) BK995.out (by decide)) (fun _ hk => hk.1.2) (.slice Ao27 t1007.length co27)) (fun _ hk => hk.1.2) (.slice Ao32 t1010.length co32)) (fun _ hk => hk.2) (.slice Ao27 t1007.length co27)) (fun _ hk => hk.2) (.slice Ao32 t1010.length co32)) (fun _ hk => hk.1.1.1.1)⟩, ⟨Kd.V_mono (Kd.R_V (ok := fun k_ => ((P0_2_ k_ ∨ w.heap.size ≤ k_) ∧ (some k_ ≠ (.slice (some ad1005) t1001.length co11 : Value).ownBlock ∧ (some k_ ≠ (.slice Ao5 l0_2.length co5 : Value).ownBlock ∧ (k_ ≠ gb995 ∧ k_ ≠ gb996))))) (by (with_reducible repeat (first | apply Kd.R_alloc | apply Kd.R_drewN | apply Kd.R_drew)); exact Kd.R_mono (Kd.R_far (p := ⟨gb995, 1, none⟩) (Kd.R_far (p := ⟨gb995, 0, none⟩) (Kd.R_far (p := ⟨gb1014, 1, none⟩) (Kd.R_far (p := ⟨gb1014, 0, none⟩) (Kd.R_types (Kd.R_types (Kd.R_types (Kd.R_types (Kd.R_apart' HO1009.out (Kd.R_typed HO_23.out) (by decide)) BK995.out (by decide)) BK996.out (by decide)) BK1014.out (by decide)) BK995.out (by decide)) (fun _ hk => hk.1.2) (.slice Ao27 t1007.length co27)) (fun _ hk => hk.1.2) (.slice Ao32 t1010.length co32)) (fun _ hk => hk.2) (.slice Ao27 t1007.length co27)) (fun _ hk => hk.2) (.slice Ao32 t1010.length co32)) (fun _ hk => ⟨hk.1.1.1.1.1.1.1, ⟨hk.1.1.1.1.2, ⟨hk.1.1.1.1.1.2, ⟨hk.1.1.1.2, hk.1.1.2⟩⟩⟩⟩))) (fun k_ hk => by first | exact ⟨(Or.imp_left (fun h_ => (.inl h_)) (hk.1)), hk.2⟩ | exact (Or.imp_left (fun h_ => (.inl h_)) (hk)))⟩, ⟨Kd.V_mono (Kd.R_V (ok := fun k_ => ((P0_2_ k_ ∨ w.heap.size ≤ k_) ∧ (some k_ ≠ (.slice (some ad1005) t1001.length co11 : Value).ownBlock ∧ (some k_ ≠ (.slice Ao5 l0_2.length co5 : Value).ownBlock ∧ (k_ ≠ gb995 ∧ k_ ≠ gb996))))) (by (with_reducible repeat (first | apply Kd.R_alloc | apply Kd.R_drewN | apply Kd.R_drew)); exact Kd.R_mono (Kd.R_far (p := ⟨gb995, 1, none⟩) (Kd.R_far (p := ⟨gb995, 0, none⟩) (Kd.R_far (p := ⟨gb1014, 1, none⟩) (Kd.R_far (p := ⟨gb1014, 0, none⟩) (Kd.R_types (Kd.R_types (Kd.R_types (Kd.R_types (Kd.R_apart' HO1012.out (Kd.R_typed HO_996002.out) (by decide)) BK995.out (by decide)) BK996.out (by decide)) BK1014.out (by decide)) BK995.out (by decide)) (fun _ hk => hk.1.2) (.slice Ao27 t1007.length co27)) (fun _ hk => hk.1.2) (.slice Ao32 t1010.length co32)) (fun _ hk => hk.2) (.slice Ao27 t1007.length co27)) (fun _ hk => hk.2) (.slice Ao32 t1010.length co32)) (fun _ hk => ⟨hk.1.1.1.1.1.1.1.1, ⟨hk.1.1.1.1.1.1.2, ⟨hk.1.1.1.1.2, ⟨hk.1.1.1.2, hk.1.1.2⟩⟩⟩⟩))) (fun k_ hk => by first | exact ⟨(Or.imp_left (fun h_ => (.inl h_)) (hk.1)), hk.2⟩ | exact (Or.imp_left (fun h_ => (.inl h_)) (hk)))⟩, ⟨by (with_reducible repeat (first | apply Kd.R_alloc | apply Kd.R_drewN | apply Kd.R_drew)); exact Kd.R_mono (Kd.R_far (p := ⟨gb995, 1, none⟩) (Kd.R_far (p := ⟨gb995, 0, none⟩) (Kd.R_far (p := ⟨gb1014, 1, none⟩) (Kd.R_far (p := ⟨gb1014, 0, none⟩) (Kd.R_types (Kd.R_types HO_996002.out BK1014.out (by decide)) BK995.out (by decide)) (fun _ hk => hk.1.2) (.slice Ao27 t1007.length co27)) (fun _ hk => hk.1.2) (.slice Ao32 t1010.length co32)) (fun _ hk => hk.2) (.slice Ao27 t1007.length co27)) (fun _ hk => hk.2) (.slice Ao32 t1010.length co32)) (fun _ hk => hk.1.1.1)⟩, ⟨by (with_reducible repeat (first | refine blk_drewN ?_ _ | refine blk_drew ?_ | refine blk_alloc ?_ _)); refine blk_put (cs := #[.slice Ao27 t1007.length co27, .slice Ao24 x996001_1.length co24, .slice Ao5 l0_2.length co5, .int .i64 a0_3]) ?_ 1 _ rfl; (with_reducible repeat (first | refine blk_drewN ?_ _ | refine blk_drew ?_ | refine blk_alloc ?_ _)); refine blk_put (cs := #[.slice Ao23 x996000_1.length co23, .slice Ao24 x996001_1.length co24, .slice Ao5 l0_2.length co5, .int .i64 a0_3]) ?_ 0 _ rfl; (with_reducible repeat (first | refine blk_drewN ?_ _ | refine blk_drew ?_ | refine blk_alloc ?_ _)); refine blk_far ?_ NB995_1014.out _; (with_reducible repeat (first | refine blk_drewN ?_ _ | refine blk_drew ?_ | refine blk_alloc ?_ _)); refine blk_far ?_ NB995_1014.out _; (with_reducible repeat (first | refine blk_drewN ?_ _ | refine blk_drew ?_ | refine blk_alloc ?_ _)); exact BK995.out⟩, ⟨by (with_reducible repeat (first | refine blk_drewN ?_ _ | refine blk_drew ?_ | refine blk_alloc ?_ _)); refine blk_far ?_ NB996_995.out _; (with_reducible repeat (first | refine blk_drewN ?_ _ | refine blk_drew ?_ | refine blk_alloc ?_ _)); refine blk_far ?_ NB996_995.out _; (with_reducible repeat (first | refine blk_drewN ?_ _ | refine blk_drew ?_ | refine blk_alloc ?_ _)); refine blk_far ?_ NB996_1014.out _; (with_reducible repeat (first | refine blk_drewN ?_ _ | refine blk_drew ?_ | refine blk_alloc ?_ _)); refine blk_far ?_ NB996_1014.out _; (with_reducible repeat (first | refine blk_drewN ?_ _ | refine blk_drew ?_ | refine blk_alloc ?_ _)); exact BK996.out⟩, ⟨by repeat (first | (with_reducible first | exact HK.out | apply Kept.alloc | apply Kept.drewN | apply Kept.drew | refine Kept.setCell ?_ (.inr GW995.out) _ | refine Kept.setCell ?_ (.inr GW996.out) _ | refine Kept.setCell ?_ (.inr GW1006.out) _ | refine Kept.setCell ?_ (.inr GW1014.out) _) | exact HK.out)⟩, ⟨bs4 HB GE995 GE996 GE1006 GE1014⟩⟩
        ·
         replace c16 := Bool.eq_false_iff.mpr c16
         subst c16
         rw [if_neg (show ¬ (false = true) by decide)] at H
         simp only [Option.some.injEq, Prod.mk.injEq] at H
         obtain ⟨rfl, rfl, rfl, rfl, rfl⟩ := H
         have p1005 : 0 ≤ (x25_1 : Int) := of_decide_eq_true (by first | (with_reducible assumption) | assumption)
         have q1005 : x25_1 < (t1001.length : Int) := of_decide_eq_true (by first | (with_reducible assumption) | assumption)
         obtain ⟨ad1005, e1005, hx1005_0, hx1005_1⟩ := at_T72 (Kd.R_reads' HO_23.out).2.2 x25_1 p1005 q1005
         cases e1005
         replace p1005 := eq_true p1005
         replace q1005 := eq_true q1005
         go_wp2_with (first | ((with_reducible refine gate_dst (N := 7) rfl ?_); refine box_event ?hg (N := 7) ?hd (cs := #[.int .i64 0, .string (⟨#[]⟩ : ByteArray)]) (t := 72) ?hr ?_; (case hd => rfl); (case hg => rfl); (case hr => first | (go_simp; done) | (go_simp; rfl)); intro gb1006 hg w34 hbox hb; replace HO_23 := Aside0.mk (Kd.R_below (Kd.R_elderB (rr HO_23.out) gb1006 (Nat.le_of_eq hg.symm)) hb); replace HO_996000 := Aside0.mk (Kd.V_below (Kd.V_elderB (by (with_reducible repeat (first | apply Kd.V_alloc | apply Kd.V_drewN | apply Kd.V_drew)); exact HO_996000.out) gb1006 (Nat.le_of_eq hg.symm)) hb); replace HO_996001 := Aside0.mk (Kd.V_below (Kd.V_elderB (by (with_reducible repeat (first | apply Kd.V_alloc | apply Kd.V_drewN | apply Kd.V_drew)); exact HO_996001.out) gb1006 (Nat.le_of_eq hg.symm)) hb); replace HO_996002 := nr HO_996002 hb; have BK1006 := Aside0.mk (hbox); have GW1006 := Aside0.mk ((by rw [hg]; exact (by first | exact HK.out.1 | exact (show Kept w _ (fun k_ => P0_2_ k_) from by repeat (first | (with_reducible first | exact HK.out | apply Kept.alloc | apply Kept.drewN | apply Kept.drew | refine Kept.setCell ?_ (.inr GW995.out) _ | refine Kept.setCell ?_ (.inr GW996.out) _) | exact HK.out)).1) : w.heap.size ≤ gb1006)); replace HK := Aside0.mk (Kept.below (S := (fun k_ => P0_2_ k_)) (by repeat (first | (with_reducible first | exact HK.out | apply Kept.alloc | apply Kept.drewN | apply Kept.drew | refine Kept.setCell ?_ (.inr GW995.out) _ | refine Kept.setCell ?_ (.inr GW996.out) _) | exact HK.out)) hb); have GE1006 := Aside0.mk ((by rw [hg]; exact (below_size (bs2 HB GE995 GE996)) : w0.heap.size ≤ gb1006)); replace HB := Aside0.mk (below_step (bs2 HB GE995 GE996) hb); have NB995_1006 := Aside0.mk ((bn BK995 hg : gb995 ≠ gb1006)); have NB1006_995 := Aside0.mk ((bm BK995 hg : gb1006 ≠ gb995)); replace BK995 := nb BK995 hb; have NB996_1006 := Aside0.mk ((bn BK996 hg : gb996 ≠ gb1006)); have NB1006_996 := Aside0.mk ((bm BK996 hg : gb1006 ≠ gb996)); replace BK996 := nb BK996 hb; clear hb hbox hg; have hnb35 := NB1006_995.out; have hnc35 := NB995_1006.out; have hnb36 := NB1006_996.out; have hnc36 := NB996_1006.out; obtain ⟨hcz37_0, hcz37_1⟩ := cz2 BK1006; obtain ⟨hfz37_0, hfz37_1⟩ := fz2 BK1006; have hnb38 := NB995_996.out; have hnc38 := NB996_995.out; obtain ⟨hcz39_0, hcz39_1, hcz39_2, hcz39_3⟩ := cz4 BK995; obtain ⟨hfz39_0, hfz39_1, hfz39_2, hfz39_3⟩ := fz4 BK995; obtain ⟨Ao40, co40, eo40⟩ := Kd.V_slice HO_996000.out; subst eo40; obtain ⟨Ao41, co41, eo41⟩ := Kd.V_slice HO_996001.out; subst eo41) | ((with_reducible refine gate_callee (f := 117) rfl ?_); refine gL (some 33) rfl rfl Try.func117 (by kernel_rfl) rfl #[.agg #[.slice Ao40 x996000_1.length co40, .slice Ao41 x996001_1.length co41], .agg #[.int .i64 ((rd_T72 t1001 x25_1).f0), .string ((rd_T72 t1001 x25_1).f1)]] rfl ?_; (with_reducible refine (spec_WriteSector.calls k1 _ _ x996000_1 _ _ x996001_1 ((rd_T72 t1001 x25_1).f0) ((rd_T72 t1001 x25_1).f1) t1007 t1010 false _ ?side1 ?side2 ?side3 ?side4 A15.out).mono ?_); (case side1 => refine (Kd.V_reads' (e := 9) (base := w0.heap.size) (ok := fun k_ => ((((P0_2_ k_ ∨ P0_0_ k_ ∨ P0_1_ k_) ∨ w.heap.size ≤ k_) ∧ (some k_ ≠ (.slice (some ad1005) t1001.length co11 : Value).ownBlock ∧ (some k_ ≠ (.slice Ao5 l0_2.length co5 : Value).ownBlock ∧ (k_ ≠ gb995 ∧ k_ ≠ gb996)))) ∧ k_ ≠ gb1006)) (n := x996000_1.length) (c := co40) ?_).2.2; exact (by (with_reducible repeat (first | apply Kd.V_alloc | apply Kd.V_drewN | apply Kd.V_drew)); exact (Kd.V_mono (Kd.V_far (p := ⟨gb1006, 1, none⟩) (Kd.V_far (p := ⟨gb1006, 0, none⟩) (Kd.V_mono HO_996000.out (fun k_ hk => (⟨hk, hk.2⟩ : _ ∧ k_ ≠ gb1006))) (fun _ hk => hk.2) (.int .i64 ((rd_T72 t1001 x25_1).f0))) (fun _ hk => hk.2) (.string ((rd_T72 t1001 x25_1).f1))) (fun _ h_ => h_.1)))); (case side2 => exact (Kd.V_reads' HO_996000.out).2.1); (case side3 => refine (Kd.V_reads' (e := 72) (base := w0.heap.size) (ok := fun k_ => ((((P0_2_ k_ ∨ P0_0_ k_ ∨ P0_1_ k_) ∨ w.heap.size ≤ k_) ∧ (some k_ ≠ (.slice (some ad1005) t1001.length co11 : Value).ownBlock ∧ (some k_ ≠ (.slice Ao5 l0_2.length co5 : Value).ownBlock ∧ (k_ ≠ gb995 ∧ k_ ≠ gb996)))) ∧ k_ ≠ gb1006)) (n := x996001_1.length) (c := co41) ?_).2.2; exact (by (with_reducible repeat (first | apply Kd.V_alloc | apply Kd.V_drewN | apply Kd.V_drew)); exact (Kd.V_mono (Kd.V_far (p := ⟨gb1006, 1, none⟩) (Kd.V_far (p := ⟨gb1006, 0, none⟩) (Kd.V_mono HO_996001.out (fun k_ hk => (⟨hk, hk.2⟩ : _ ∧ k_ ≠ gb1006))) (fun _ hk => hk.2) (.int .i64 ((rd_T72 t1001 x25_1).f0))) (fun _ hk => hk.2) (.string ((rd_T72 t1001 x25_1).f1))) (fun _ h_ => h_.1)))); (case side4 => exact (Kd.V_reads' HO_996001.out).2.1); rintro e w42 ⟨v1008, v1011, rfl, ho0, ho1, hb⟩; refine ⟨_, rfl, ?_⟩; replace HO_996000 := Aside0.mk (Kd.V_mono (Kd.V_told (Kd.V_told (Kd.V_old (by (with_reducible repeat (first | apply Kd.V_alloc | apply Kd.V_drewN | apply Kd.V_drew)); exact (Kd.V_mono (Kd.V_far (p := ⟨gb1006, 1, none⟩) (Kd.V_far (p := ⟨gb1006, 0, none⟩) (Kd.V_mono HO_996000.out (fun k_ hk => (⟨hk, hk.2⟩ : _ ∧ k_ ≠ gb1006))) (fun _ hk => hk.2) (.int .i64 ((rd_T72 t1001 x25_1).f0))) (fun _ hk => hk.2) (.string ((rd_T72 t1001 x25_1).f1))) (fun _ h_ => h_.1))) hb) (Kd.R_base ho0)) (Kd.R_base ho1)) (fun _ h_ => h_.1)); replace HO_996001 := Aside0.mk (Kd.V_mono (Kd.V_told (Kd.V_told (Kd.V_old (by (with_reducible repeat (first | apply Kd.V_alloc | apply Kd.V_drewN | apply Kd.V_drew)); exact (Kd.V_mono (Kd.V_far (p := ⟨gb1006, 1, none⟩) (Kd.V_far (p := ⟨gb1006, 0, none⟩) (Kd.V_mono HO_996001.out (fun k_ hk => (⟨hk, hk.2⟩ : _ ∧ k_ ≠ gb1006))) (fun _ hk => hk.2) (.int .i64 ((rd_T72 t1001 x25_1).f0))) (fun _ hk => hk.2) (.string ((rd_T72 t1001 x25_1).f1))) (fun _ h_ => h_.1))) hb) (Kd.R_base ho0)) (Kd.R_base ho1)) (fun _ h_ => h_.1)); have HO1009 := Aside0.mk (Kd.R_lower (Kd.R_new' (Kd.R_newM (M := fun k_ => (P0_2_ k_ ∨ w.heap.size ≤ k_)) ho0 (show Kept w _ (fun k_ => P0_2_ k_) from by repeat (first | (with_reducible first | exact HK.out | apply Kept.alloc | apply Kept.drewN | apply Kept.drew | refine Kept.setCell ?_ (.inr GW995.out) _ | refine Kept.setCell ?_ (.inr GW996.out) _ | refine Kept.setCell ?_ (.inr GW1006.out) _) | exact HK.out)).1 (fun k_ h_ => .inr h_)) (Kd.R_lt (by (with_reducible repeat (first | apply Kd.R_alloc | apply Kd.R_drewN | apply Kd.R_drew)); exact (Kd.R_mono (Kd.R_far (p := ⟨gb1006, 1, none⟩) (Kd.R_far (p := ⟨gb1006, 0, none⟩) (Kd.R_types HO_996002.out BK1006.out (by decide)) (fun _ hk => hk.2) (.int .i64 ((rd_T72 t1001 x25_1).f0))) (fun _ hk => hk.2) (.string ((rd_T72 t1001 x25_1).f1))) (fun _ h_ => h_.1))))) (below_size (bs3 HB GE995 GE996 GE1006))); replace HO_996002 := Aside0.mk (Kd.R_elder' (by (with_reducible repeat (first | apply Kd.R_alloc | apply Kd.R_drewN | apply Kd.R_drew)); exact (Kd.R_mono (Kd.R_far (p := ⟨gb1006, 1, none⟩) (Kd.R_far (p := ⟨gb1006, 0, none⟩) (Kd.R_types HO_996002.out BK1006.out (by decide)) (fun _ hk => hk.2) (.int .i64 ((rd_T72 t1001 x25_1).f0))) (fun _ hk => hk.2) (.string ((rd_T72 t1001 x25_1).f1))) (fun _ h_ => h_.1))) (Kd.R_base ho0) hb); have HO1012 := Aside0.mk (Kd.R_lower (Kd.R_newB (Kd.R_new' (Kd.R_newM (M := fun k_ => (P0_2_ k_ ∨ w.heap.size ≤ k_)) ho1 (show Kept w _ (fun k_ => P0_2_ k_) from by repeat (first | (with_reducible first | exact HK.out | apply Kept.alloc | apply Kept.drewN | apply Kept.drew | refine Kept.setCell ?_ (.inr GW995.out) _ | refine Kept.setCell ?_ (.inr GW996.out) _ | refine Kept.setCell ?_ (.inr GW1006.out) _) | exact HK.out)).1 (fun k_ h_ => .inr h_)) (Kd.R_lt (by (with_reducible repeat (first | apply Kd.R_alloc | apply Kd.R_drewN | apply Kd.R_drew)); exact (Kd.R_mono (Kd.R_far (p := ⟨gb1006, 1, none⟩) (Kd.R_far (p := ⟨gb1006, 0, none⟩) (Kd.R_mono HO_23.out (fun k_ hk => (⟨hk, hk.2⟩ : _ ∧ k_ ≠ gb1006))) (fun _ hk => hk.2) (.int .i64 ((rd_T72 t1001 x25_1).f0))) (fun _ hk => hk.2) (.string ((rd_T72 t1001 x25_1).f1))) (fun _ h_ => h_.1))))) (g := gb1006) (o := .cells #[.int .i64 ((rd_T72 t1001 x25_1).f0), .string ((rd_T72 t1001 x25_1).f1)] 72 (0, 0)) (by (with_reducible repeat (first | refine blk_drewN ?_ _ | refine blk_drew ?_ | refine blk_alloc ?_ _)); refine blk_put (cs := #[.int .i64 ((rd_T72 t1001 x25_1).f0), .string (⟨#[]⟩ : ByteArray)]) ?_ 1 _ rfl; (with_reducible repeat (first | refine blk_drewN ?_ _ | refine blk_drew ?_ | refine blk_alloc ?_ _)); refine blk_put (cs := #[.int .i64 0, .string (⟨#[]⟩ : ByteArray)]) ?_ 0 _ rfl; (with_reducible repeat (first | refine blk_drewN ?_ _ | refine blk_drew ?_ | refine blk_alloc ?_ _)); exact BK1006.out)) (below_size (bs3 HB GE995 GE996 GE1006))); replace HO_23 := Aside0.mk (Kd.R_elder' (by (with_reducible repeat (first | apply Kd.R_alloc | apply Kd.R_drewN | apply Kd.R_drew)); exact (Kd.R_mono (Kd.R_far (p := ⟨gb1006, 1, none⟩) (Kd.R_far (p := ⟨gb1006, 0, none⟩) (Kd.R_mono HO_23.out (fun k_ hk => (⟨hk, hk.2⟩ : _ ∧ k_ ≠ gb1006))) (fun _ hk => hk.2) (.int .i64 ((rd_T72 t1001 x25_1).f0))) (fun _ hk => hk.2) (.string ((rd_T72 t1001 x25_1).f1))) (fun _ h_ => h_.1))) (Kd.R_base ho1) hb); replace BK995 := Aside0.mk (blk_below (bf BK995 NB995_1006) hb); replace BK996 := Aside0.mk (blk_below (bf BK996 NB996_1006) hb); replace BK1006 := Aside0.mk (blk_below (g := gb1006) (o := .cells #[.int .i64 ((rd_T72 t1001 x25_1).f0), .string ((rd_T72 t1001 x25_1).f1)] 72 (0, 0)) (by (with_reducible repeat (first | refine blk_drewN ?_ _ | refine blk_drew ?_ | refine blk_alloc ?_ _)); refine blk_put (cs := #[.int .i64 ((rd_T72 t1001 x25_1).f0), .string (⟨#[]⟩ : ByteArray)]) ?_ 1 _ rfl; (with_reducible repeat (first | refine blk_drewN ?_ _ | refine blk_drew ?_ | refine blk_alloc ?_ _)); refine blk_put (cs := #[.int .i64 0, .string (⟨#[]⟩ : ByteArray)]) ?_ 0 _ rfl; (with_reducible repeat (first | refine blk_drewN ?_ _ | refine blk_drew ?_ | refine blk_alloc ?_ _)); exact BK1006.out) hb); replace HK := Aside0.mk (Kept.below (S := (fun k_ => P0_2_ k_)) (by repeat (first | (with_reducible first | exact HK.out | apply Kept.alloc | apply Kept.drewN | apply Kept.drew | refine Kept.setCell ?_ (.inr GW995.out) _ | refine Kept.setCell ?_ (.inr GW996.out) _ | refine Kept.setCell ?_ (.inr GW1006.out) _) | exact HK.out)) hb); replace HB := Aside0.mk (below_step (bs3 HB GE995 GE996 GE1006) hb); (try clear hb); (try clear hb2); (try clear hk); (try clear hi); (try clear ho0); (try clear ho1)) | ((with_reducible refine gate_dst (N := 8) rfl ?_); refine box_event ?hg (N := 8) ?hd (cs := #[.slice none 0 0, .slice none 0 0]) (t := 42) ?hr ?_; (case hd => rfl); (case hg => rfl); (case hr => first | (go_simp; done) | (go_simp; rfl)); intro gb1014 hg w43 hbox hb; replace HO_23 := nr HO_23 hb; replace HO_996000 := Aside0.mk (Kd.V_below (Kd.V_elderB (by (with_reducible repeat (first | apply Kd.V_alloc | apply Kd.V_drewN | apply Kd.V_drew)); exact HO_996000.out) gb1014 (Nat.le_of_eq hg.symm)) hb); replace HO_996001 := Aside0.mk (Kd.V_below (Kd.V_elderB (by (with_reducible repeat (first | apply Kd.V_alloc | apply Kd.V_drewN | apply Kd.V_drew)); exact HO_996001.out) gb1014 (Nat.le_of_eq hg.symm)) hb); replace HO_996002 := nr HO_996002 hb; replace HO1009 := nr HO1009 hb; replace HO1012 := nr HO1012 hb; have BK1014 := Aside0.mk (hbox); have GW1014 := Aside0.mk ((by rw [hg]; exact (by first | exact HK.out.1 | exact (show Kept w _ (fun k_ => P0_2_ k_) from by repeat (first | (with_reducible first | exact HK.out | apply Kept.alloc | apply Kept.drewN | apply Kept.drew | refine Kept.setCell ?_ (.inr GW995.out) _ | refine Kept.setCell ?_ (.inr GW996.out) _ | refine Kept.setCell ?_ (.inr GW1006.out) _) | exact HK.out)).1) : w.heap.size ≤ gb1014)); replace HK := Aside0.mk (Kept.below (S := (fun k_ => P0_2_ k_)) (by repeat (first | (with_reducible first | exact HK.out | apply Kept.alloc | apply Kept.drewN | apply Kept.drew | refine Kept.setCell ?_ (.inr GW995.out) _ | refine Kept.setCell ?_ (.inr GW996.out) _ | refine Kept.setCell ?_ (.inr GW1006.out) _) | exact HK.out)) hb); have GE1014 := Aside0.mk ((by rw [hg]; exact (below_size (bs3 HB GE995 GE996 GE1006)) : w0.heap.size ≤ gb1014)); replace HB := Aside0.mk (below_step (bs3 HB GE995 GE996 GE1006) hb); have NB995_1014 := Aside0.mk ((bn BK995 hg : gb995 ≠ gb1014)); have NB1014_995 := Aside0.mk ((bm BK995 hg : gb1014 ≠ gb995)); replace BK995 := nb BK995 hb; have NB996_1014 := Aside0.mk ((bn BK996 hg : gb996 ≠ gb1014)); have NB1014_996 := Aside0.mk ((bm BK996 hg : gb1014 ≠ gb996)); replace BK996 := nb BK996 hb; have NB1006_1014 := Aside0.mk ((bn BK1006 hg : gb1006 ≠ gb1014)); have NB1014_1006 := Aside0.mk ((bm BK1006 hg : gb1014 ≠ gb1006)); replace BK1006 := nb BK1006 hb; clear hb hbox hg; obtain ⟨Ao44, co44, eo44⟩ := Kd.R_slice HO1009.out; subst eo44; have hnb45 := NB1014_995.out; have hnc45 := NB995_1014.out; have hnb46 := NB1014_996.out; have hnc46 := NB996_1014.out; have hnb47 := NB1014_1006.out; have hnc47 := NB1006_1014.out; obtain ⟨hcz48_0, hcz48_1⟩ := cz2 BK1014; obtain ⟨hfz48_0, hfz48_1⟩ := fz2 BK1014; obtain ⟨Ao49, co49, eo49⟩ := Kd.R_slice HO1012.out; subst eo49; obtain ⟨hcz50_0, hcz50_1, hcz50_2, hcz50_3⟩ := cz4 BK996; obtain ⟨hfz50_0, hfz50_1, hfz50_2, hfz50_3⟩ := fz4 BK996))
         refine bodyPost_ret (results_ct rfl _ _ gb996 44 #[.slice none 0 0, .slice none 0 0, .slice none 0 0, .int .i64 0] (0, 0) _ rfl (by (with_reducible repeat (first | refine blk_drewN ?_ _ | refine blk_drew ?_ | refine blk_alloc ?_ _)); refine blk_put (cs := #[.slice none 0 0, .slice none 0 0, .slice none 0 0, .int .i64 x997003_1]) ?_ 3 _ rfl; (with_reducible repeat (first | refine blk_drewN ?_ _ | refine blk_drew ?_ | refine blk_alloc ?_ _)); refine blk_put (cs := #[.slice none 0 0, .slice none 0 0, .slice none 0 0, .int .i64 x997003_1]) ?_ 2 _ rfl; (with_reducible repeat (first | refine blk_drewN ?_ _ | refine blk_drew ?_ | refine blk_alloc ?_ _)); refine blk_put (cs := #[.slice none 0 0, .slice none 0 0, .slice none 0 0, .int .i64 x997003_1]) ?_ 1 _ rfl; (with_reducible repeat (first | refine blk_drewN ?_ _ | refine blk_drew ?_ | refine blk_alloc ?_ _)); refine blk_put (cs := #[.slice none 0 0, .slice none 0 0, .slice none 0 0, .int .i64 x997003_1]) ?_ 0 _ rfl; (with_reducible repeat (first | refine blk_drewN ?_ _ | refine blk_drew ?_ | refine blk_alloc ?_ _)); refine blk_far ?_ NB996_1014.out _; (with_reducible repeat (first | refine blk_drewN ?_ _ | refine blk_drew ?_ | refine blk_alloc ?_ _)); refine blk_far ?_ NB996_1014.out _; (with_reducible repeat (first | refine blk_drewN ?_ _ | refine blk_drew ?_ | refine blk_alloc ?_ _)); exact BK996.out) Try.underlying44 rfl (by kernel_rfl)) rfl ?_
         exact ⟨_, _, _, by first | rfl | (simp [errW_none, errW_some] <;> rfl) | (simp [*, errW_none, errW_some] <;> rfl), by first | exact Kd.R_nil _ _ _ _ _ | exact Kd.N_nil _ _ _ _ _ | exact Kd.V_nil _ _ _ _ _ | exact Kd.Q_nil _ _ _ _ _ | exact Kd.S_nil _ _ _ _ _, by first | exact Kd.R_nil _ _ _ _ _ | exact Kd.N_nil _ _ _ _ _ | exact Kd.V_nil _ _ _ _ _ | exact Kd.Q_nil _ _ _ _ _ | exact Kd.S_nil _ _ _ _ _, by first | exact Kd.R_nil _ _ _ _ _ | exact Kd.N_nil _ _ _ _ _ | exact Kd.V_nil _ _ _ _ _ | exact Kd.Q_nil _ _ _ _ _ | exact Kd.S_nil _ _ _ _ _, bs4 HB GE995 GE996 GE1006 GE1014, by repeat (first | (with_reducible first | exact HK.out | apply Kept.alloc | apply Kept.drewN | apply Kept.drew | refine Kept.setCell ?_ (.inr GW995.out) _ | refine Kept.setCell ?_ (.inr GW996.out) _ | refine Kept.setCell ?_ (.inr GW1006.out) _ | refine Kept.setCell ?_ (.inr GW1014.out) _) | exact HK.out)⟩
       ·
        rw [if_neg c14] at H
        exact absurd H (by simp)
      ·
       rw [if_neg c13] at H
       exact absurd H (by simp)
     ·
      rw [if_neg c12] at H
      have c12b0 : decide (x25_1 < (t1001.length : Int)) = false := decide_eq_false c12
      clear c12
      simp only [Option.some.injEq, Prod.mk.injEq] at H
      obtain ⟨rfl, rfl, rfl, rfl, rfl⟩ := H
      have hnb51 := NB995_996.out
      have hnc51 := NB996_995.out
      obtain ⟨hcz52_0, hcz52_1, hcz52_2, hcz52_3⟩ := cz4 BK995
      obtain ⟨hfz52_0, hfz52_1, hfz52_2, hfz52_3⟩ := fz4 BK995
      obtain ⟨Ao53, co53, eo53⟩ := Kd.V_slice HO_996000.out
      subst eo53
      obtain ⟨hcz54_0, hcz54_1, hcz54_2, hcz54_3⟩ := cz4 BK996
      obtain ⟨hfz54_0, hfz54_1, hfz54_2, hfz54_3⟩ := fz4 BK996
      obtain ⟨Ao55, co55, eo55⟩ := Kd.V_slice HO_996001.out
      subst eo55
      go_wp2
      refine bodyPost_ret (results_ct rfl _ _ gb996 44 #[.slice Ao53 x996000_1.length co53, .slice Ao55 x996001_1.length co55, .slice Ao5 l0_2.length co5, .int .i64 a0_3] (0, 0) _ rfl (by (with_reducible repeat (first | refine blk_drewN ?_ _ | refine blk_drew ?_ | refine blk_alloc ?_ _)); refine blk_put (cs := #[.slice Ao53 x996000_1.length co53, .slice Ao55 x996001_1.length co55, .slice Ao5 l0_2.length co5, .int .i64 x997003_1]) ?_ 3 _ rfl; (with_reducible repeat (first | refine blk_drewN ?_ _ | refine blk_drew ?_ | refine blk_alloc ?_ _)); refine blk_put (cs := #[.slice Ao53 x996000_1.length co53, .slice Ao55 x996001_1.length co55, .slice none 0 0, .int .i64 x997003_1]) ?_ 2 _ rfl; (with_reducible repeat (first | refine blk_drewN ?_ _ | refine blk_drew ?_ | refine blk_alloc ?_ _)); refine blk_put (cs := #[.slice Ao53 x996000_1.length co53, .slice none 0 0, .slice none 0 0, .int .i64 x997003_1]) ?_ 1 _ rfl; (with_reducible repeat (first | refine blk_drewN ?_ _ | refine blk_drew ?_ | refine blk_alloc ?_ _)); refine blk_put (cs := #[.slice none 0 0, .slice none 0 0, .slice none 0 0, .int .i64 x997003_1]) ?_ 0 _ rfl; (with_reducible repeat (first | refine blk_drewN ?_ _ | refine blk_drew ?_ | refine blk_alloc ?_ _)); exact BK996.out) Try.underlying44 rfl (by kernel_rfl)) rfl ?_
      exact ⟨_, _, _, by first | rfl | (simp [errW_none, errW_some] <;> rfl) | (simp [*, errW_none, errW_some] <;> rfl), by (with_reducible repeat (first | apply Kd.V_alloc | apply Kd.V_drewN | apply Kd.V_drew)); exact Kd.V_mono (Kd.V_far (p := ⟨gb996, 3, none⟩) (Kd.V_far (p := ⟨gb996, 2, none⟩) (Kd.V_far (p := ⟨gb996, 1, none⟩) (Kd.V_far (p := ⟨gb996, 0, none⟩) (Kd.V_mono HO_996000.out (fun k_ hk => (⟨hk, hk.2.2.2.2⟩ : _ ∧ k_ ≠ gb996))) (fun _ hk => hk.2) (.slice Ao53 x996000_1.length co53)) (fun _ hk => hk.2) (.slice Ao55 x996001_1.length co55)) (fun _ hk => hk.2) (.slice Ao5 l0_2.length co5)) (fun _ hk => hk.2) (.int .i64 a0_3)) (fun _ hk => ⟨hk.1.1, hk.1.2.2.1⟩), by (with_reducible repeat (first | apply Kd.V_alloc | apply Kd.V_drewN | apply Kd.V_drew)); exact Kd.V_mono (Kd.V_far (p := ⟨gb996, 3, none⟩) (Kd.V_far (p := ⟨gb996, 2, none⟩) (Kd.V_far (p := ⟨gb996, 1, none⟩) (Kd.V_far (p := ⟨gb996, 0, none⟩) (Kd.V_mono HO_996001.out (fun k_ hk => (⟨hk, hk.2.2.2.2⟩ : _ ∧ k_ ≠ gb996))) (fun _ hk => hk.2) (.slice Ao53 x996000_1.length co53)) (fun _ hk => hk.2) (.slice Ao55 x996001_1.length co55)) (fun _ hk => hk.2) (.slice Ao5 l0_2.length co5)) (fun _ hk => hk.2) (.int .i64 a0_3)) (fun _ hk => ⟨hk.1.1, hk.1.2.2.1⟩), by (with_reducible repeat (first | apply Kd.R_alloc | apply Kd.R_drewN | apply Kd.R_drew)); exact Kd.R_mono (Kd.R_far (p := ⟨gb996, 3, none⟩) (Kd.R_far (p := ⟨gb996, 2, none⟩) (Kd.R_far (p := ⟨gb996, 1, none⟩) (Kd.R_far (p := ⟨gb996, 0, none⟩) (Kd.R_types HO_996002.out BK996.out (by decide)) (fun _ hk => hk.2) (.slice Ao53 x996000_1.length co53)) (fun _ hk => hk.2) (.slice Ao55 x996001_1.length co55)) (fun _ hk => hk.2) (.slice Ao5 l0_2.length co5)) (fun _ hk => hk.2) (.int .i64 a0_3)) (fun _ hk => hk.1), bs2 HB GE995 GE996, by repeat (first | (with_reducible first | exact HK.out | apply Kept.alloc | apply Kept.drewN | apply Kept.drew | refine Kept.setCell ?_ (.inr GW995.out) _ | refine Kept.setCell ?_ (.inr GW996.out) _) | exact HK.out)⟩
  ·
   rw [if_neg c3] at H
   exact absurd H (by simp)
 ·
  rw [if_neg c2] at H
  exact absurd H (by simp)

/-! ### spec_WriteBack: function 45 -/
def spec_WriteBack.f (k : Nat) (l0_0 : List ByteArray) (l0_1 : List (S72)) (l0_2 : List ByteArray) (a0_3 : Int) : Option (List ByteArray × (List (S72)) × List ByteArray × Int × Bool) := (spec_GoodStore.f k l0_0 l0_1 l0_2 a0_3).bind fun t1017 => (if t1017 = true then ((spec_l11Own.f l0_0 l0_1 l0_2 a0_3).bind fun bt1018 => ((spec_l11Back.f k bt1018.1 bt1018.2.1 bt1018.2.2.1 bt1018.2.2.2).bind fun bt1028 => (some (bt1028.1, bt1028.2.1, bt1028.2.2.1, bt1028.2.2.2.1, bt1028.2.2.2.2)))) else (some (([] : List ByteArray), ([] : List (S72)), ([] : List ByteArray), 0, false)))
theorem spec_WriteBack.mono : ∀ a0 a1 a2 a3 k, LeO (spec_WriteBack.f k a0 a1 a2 a3) (spec_WriteBack.f (k + 1) a0 a1 a2 a3) := by
 intro a0 a1 a2 a3 k
 unfold spec_WriteBack.f
 repeat' first
   | (with_reducible exact spec_GoodStore.mono _ _ _ _ _)
   | (with_reducible exact spec_l11Back.mono _ _ _ _ _)
   | (with_reducible exact LeO.refl _)
   | (with_reducible exact LeO.none _)
   | (with_reducible refine LeO.ite ?_ ?_)
   | (with_reducible refine LeO.bind ?_ (fun _ => ?_))
   | exact spec_GoodStore.mono _ _ _ _ _
   | exact spec_l11Back.mono _ _ _ _ _
   | exact LeO.none _
   | refine LeO.ite ?_ ?_
   | refine LeO.bind ?_ (fun _ => ?_)
set_option maxHeartbeats 8000000 in
set_option maxRecDepth 100000 in
theorem spec_WriteBack.calls (k : Nat) (A0_0 : Option Addr) (c0_0 : Nat) (l0_0 : List ByteArray) (A0_1 : Option Addr) (c0_1 : Nat) (l0_1 : List (S72)) (A0_2 : Option Addr) (c0_2 : Nat) (l0_2 : List ByteArray) (a0_3 : Int) (r1 : List ByteArray) (r2 : List (S72)) (r3 : List ByteArray) (r4 : Int) (r5 : Bool) (w : World) (hr0_0 : Kd.C Kd.string w A0_0 l0_0.length l0_0) (hc0_0 : l0_0.length ≤ c0_0) (hr0_1 : Kd.C k72 w A0_1 l0_1.length l0_1) (hc0_1 : l0_1.length ≤ c0_1) (hr0_2 : Kd.C Kd.string w A0_2 l0_2.length l0_2) (hc0_2 : l0_2.length ≤ c0_2) (h : spec_WriteBack.f k l0_0 l0_1 l0_2 a0_3 = some (r1, r2, r3, r4, r5)) :
  Calls Try.prog 45 #[.agg #[.slice A0_0 l0_0.length c0_0, .slice A0_1 l0_1.length c0_1, .slice A0_2 l0_2.length c0_2, .int .i64 a0_3]] w fun e w' => ∃ v0_ v1_ v2_ : Value, e = .returned (.tuple #[.agg #[v0_, v1_, v2_, .int .i64 r4], .bool r5]) ∧ Kd.V Kd.string 9 w' w.heap.size (fun k_ => (w.heap.size ≤ k_) ∧ some k_ ≠ (v2_ : Value).ownBlock) v0_ r1 ∧ Kd.V k72 72 w' w.heap.size (fun k_ => (w.heap.size ≤ k_) ∧ some k_ ≠ (v2_ : Value).ownBlock) v1_ r2 ∧ Kd.R Kd.string 9 w' w.heap.size (fun k_ => (w.heap.size ≤ k_)) v2_ r3 ∧ Below w.heap.size w w' := by
 have hu44 := Try.underlying44
 have HR0_0 := Aside0.mk hr0_0
 have HC0_0 := Aside0.mk hc0_0
 clear hr0_0 hc0_0
 have HR0_1 := Aside0.mk hr0_1
 have HC0_1 := Aside0.mk hc0_1
 clear hr0_1 hc0_1
 have HR0_2 := Aside0.mk hr0_2
 have HC0_2 := Aside0.mk hc0_2
 clear hr0_2 hc0_2
 have HB := Aside0.mk (Below.refl w.heap.size w)
 have H : ((spec_GoodStore.f k l0_0 l0_1 l0_2 a0_3).bind fun t1017 => (if t1017 = true then ((spec_l11Own.f l0_0 l0_1 l0_2 a0_3).bind fun bt1018 => ((spec_l11Back.f k bt1018.1 bt1018.2.1 bt1018.2.2.1 bt1018.2.2.2).bind fun bt1028 => (some (bt1028.1, bt1028.2.1, bt1028.2.2.1, bt1028.2.2.2.1, bt1028.2.2.2.2)))) else (some (([] : List ByteArray), ([] : List (S72)), ([] : List ByteArray), 0, false)))) = some (r1, r2, r3, r4, r5) := h
 clear h
 replace H := Option.bind_eq_some_iff.mp H
 obtain ⟨t1017, A20, H⟩ := H
 replace H : (if t1017 = true then ((spec_l11Own.f l0_0 l0_1 l0_2 a0_3).bind fun bt1018 => ((spec_l11Back.f k bt1018.1 bt1018.2.1 bt1018.2.2.1 bt1018.2.2.2).bind fun bt1028 => (some (bt1028.1, bt1028.2.1, bt1028.2.2.1, bt1028.2.2.2.1, bt1028.2.2.2.2)))) else (some (([] : List ByteArray), ([] : List (S72)), ([] : List ByteArray), 0, false))) = some (r1, r2, r3, r4, r5) := H
 have A2 := Aside0.mk A20
 clear A20
 by_cases c3 : t1017 = true
 ·
  subst c3
  rw [if_pos rfl] at H
  replace H := Option.bind_eq_some_iff.mp H
  obtain ⟨⟨t1018, t1021, t1024, t1027⟩, A40, H⟩ := H
  replace H : ((spec_l11Back.f k t1018 t1021 t1024 t1027).bind fun bt1028 => (some (bt1028.1, bt1028.2.1, bt1028.2.2.1, bt1028.2.2.2.1, bt1028.2.2.2.2))) = some (r1, r2, r3, r4, r5) := H
  have A4 := Aside0.mk A40
  clear A40
  replace H := Option.bind_eq_some_iff.mp H
  obtain ⟨⟨t1028, t1031, t1034, t1037, t1038⟩, A50, H⟩ := H
  replace H : (some (t1028, t1031, t1034, t1037, t1038)) = some (r1, r2, r3, r4, r5) := H
  have A5 := Aside0.mk A50
  clear A50
  simp only [Option.some.injEq, Prod.mk.injEq] at H
  obtain ⟨rfl, rfl, rfl, rfl, rfl⟩ := H
  go_enter Try.func45, Try.ntmps45
  go_wp2_with (first | ((with_reducible refine gate_dst (N := 1) rfl ?_); refine box_event ?hg (N := 1) ?hd (cs := #[.slice A0_0 l0_0.length c0_0, .slice A0_1 l0_1.length c0_1, .slice A0_2 l0_2.length c0_2, .int .i64 a0_3]) (t := 44) ?hr ?_; (case hd => rfl); (case hg => rfl); (case hr => first | (go_simp; done) | (go_simp; rfl)); intro gb1015 hg w6 hbox hb; have BK1015 := Aside0.mk (hbox); have GW1015 := Aside0.mk ((by rw [hg]; exact (below_size (bs HB)) : w.heap.size ≤ gb1015)); have GE1015 := Aside0.mk ((by rw [hg]; exact (below_size (bs HB)) : w.heap.size ≤ gb1015)); replace HB := Aside0.mk (below_step (bs HB) hb); clear hb hbox hg) | ((with_reducible refine gate_dst (N := 2) rfl ?_); refine box_event ?hg (N := 2) ?hd (cs := #[.slice none 0 0, .slice none 0 0, .slice none 0 0, .int .i64 0]) (t := 44) ?hr ?_; (case hd => rfl); (case hg => rfl); (case hr => first | (go_simp; done) | (go_simp; rfl)); intro gb1016 hg w7 hbox hb; have BK1016 := Aside0.mk (hbox); have GW1016 := Aside0.mk ((by rw [hg]; exact (below_size (bs1 HB GE1015)) : w.heap.size ≤ gb1016)); have GE1016 := Aside0.mk ((by rw [hg]; exact (below_size (bs1 HB GE1015)) : w.heap.size ≤ gb1016)); replace HB := Aside0.mk (below_step (bs1 HB GE1015) hb); have NB1015_1016 := Aside0.mk ((bn BK1015 hg : gb1015 ≠ gb1016)); have NB1016_1015 := Aside0.mk ((bm BK1015 hg : gb1016 ≠ gb1015)); replace BK1015 := nb BK1015 hb; clear hb hbox hg; have hnb8 := NB1015_1016.out; have hnc8 := NB1016_1015.out; obtain ⟨hcz9_0, hcz9_1, hcz9_2, hcz9_3⟩ := cz4 BK1015; obtain ⟨hfz9_0, hfz9_1, hfz9_2, hfz9_3⟩ := fz4 BK1015) | ((with_reducible refine gate_callee (f := 26) rfl ?_); refine gL (some 5) rfl rfl Try.func26 (by kernel_rfl) rfl #[.agg #[.slice A0_0 l0_0.length c0_0, .slice A0_1 l0_1.length c0_1, .slice A0_2 l0_2.length c0_2, .int .i64 a0_3]] rfl ?_; (with_reducible refine (spec_GoodStore.calls k _ _ l0_0 _ _ l0_1 _ _ l0_2 a0_3 true _ ?side1 ?side2 ?side3 ?side4 ?side5 ?side6 A2.out).mono ?_); (case side1 => exact cb HR0_0 HB); (case side2 => exact HC0_0.out); (case side3 => exact cb HR0_1 HB); (case side4 => exact HC0_1.out); (case side5 => exact cb HR0_2 HB); (case side6 => exact HC0_2.out); rintro e w10 ⟨rfl, hb⟩; refine ⟨_, rfl, ?_⟩; replace BK1015 := nb BK1015 hb; replace BK1016 := nb BK1016 hb; replace HB := Aside0.mk (below_step (bs2 HB GE1015 GE1016) hb); (try clear hb); (try clear hb2); (try clear hk); (try clear hi); obtain ⟨hcz11_0, hcz11_1, hcz11_2, hcz11_3⟩ := cz4 BK1015; obtain ⟨hfz11_0, hfz11_1, hfz11_2, hfz11_3⟩ := fz4 BK1015) | ((with_reducible refine gate_callee (f := 91) rfl ?_); refine gL (some 9) rfl rfl Try.func91 (by kernel_rfl) rfl #[.agg #[.slice A0_0 l0_0.length c0_0, .slice A0_1 l0_1.length c0_1, .slice A0_2 l0_2.length c0_2, .int .i64 a0_3]] rfl ?_; (with_reducible refine (spec_l11Own.calls _ _ l0_0 _ _ l0_1 _ _ l0_2 a0_3 t1018 t1021 t1024 t1027 _ ?side1 ?side2 ?side3 ?side4 ?side5 ?side6 A4.out).mono ?_); (case side1 => exact cb HR0_0 HB); (case side2 => exact HC0_0.out); (case side3 => exact cb HR0_1 HB); (case side4 => exact HC0_1.out); (case side5 => exact cb HR0_2 HB); (case side6 => exact HC0_2.out); rintro e w12 ⟨v1019, v1022, v1025, rfl, ho0, ho1, ho2, hb⟩; refine ⟨_, rfl, ?_⟩; have HO1020 := Aside0.mk (Kd.R_lower (Kd.R_newM (M := fun k_ => (w.heap.size ≤ k_)) ho0 (below_size (bs2 HB GE1015 GE1016)) (fun k_ h_ => h_)) (below_size (bs2 HB GE1015 GE1016))); have HO1023 := Aside0.mk (Kd.R_lower (Kd.R_newM (M := fun k_ => (w.heap.size ≤ k_)) ho1 (below_size (bs2 HB GE1015 GE1016)) (fun k_ h_ => h_)) (below_size (bs2 HB GE1015 GE1016))); have HO1026 := Aside0.mk (Kd.R_lower (Kd.R_newM (M := fun k_ => (w.heap.size ≤ k_)) ho2 (below_size (bs2 HB GE1015 GE1016)) (fun k_ h_ => h_)) (below_size (bs2 HB GE1015 GE1016))); replace BK1015 := nb BK1015 hb; replace BK1016 := nb BK1016 hb; replace HB := Aside0.mk (below_step (bs2 HB GE1015 GE1016) hb); (try clear hb); (try clear hb2); (try clear hk); (try clear hi); (try clear ho0); (try clear ho1); (try clear ho2); obtain ⟨Ao13, co13, eo13⟩ := Kd.R_slice HO1020.out; subst eo13; obtain ⟨Ao14, co14, eo14⟩ := Kd.R_slice HO1023.out; subst eo14; obtain ⟨Ao15, co15, eo15⟩ := Kd.R_slice HO1026.out; subst eo15) | ((with_reducible refine gate_callee (f := 93) rfl ?_); refine gL (some 10) rfl rfl Try.func93 (by kernel_rfl) rfl #[.agg #[.slice Ao13 t1018.length co13, .slice Ao14 t1021.length co14, .slice Ao15 t1024.length co15, .int .i64 t1027]] rfl ?_; (with_reducible refine (spec_l11Back.calls k (fun k_ => some k_ = (.slice Ao13 t1018.length co13 : Value).ownBlock) _ _ t1018 (fun k_ => some k_ = (.slice Ao14 t1021.length co14 : Value).ownBlock) _ _ t1021 (fun k_ => some k_ = (.slice Ao15 t1024.length co15 : Value).ownBlock) (.slice Ao15 t1024.length co15) t1024 t1027 t1028 t1031 t1034 t1037 t1038 w _ ?side1 ?side2 ?side3 ?side4 A5.out).mono ?_); (case side1 => repeat (first | (with_reducible first | exact HB.out | apply below_alloc | apply pw_below_drewN | apply below_drew1 | refine below_set ?_ GE1015.out | refine below_set ?_ GE1016.out) | exact HB.out)); (case side2 => exact Kd.V_mono (Kd.R_V (Kd.R_tight rfl (Kd.R_types (Kd.R_types (Kd.R_apart' (HO1020.out) (Kd.R_typed HO1023.out) (by decide)) BK1015.out (by decide)) BK1016.out (by decide)))) (fun k_ hk_ => ⟨hk_, ((Kd.R_types (Kd.R_types (Kd.R_apart' (HO1020.out) (Kd.R_typed HO1023.out) (by decide)) BK1015.out (by decide)) BK1016.out (by decide)).1 k_ hk_.symm).1.1.1.2⟩)); (case side3 => exact Kd.V_mono (Kd.R_V (Kd.R_tight rfl (Kd.R_types (Kd.R_types (Kd.R_apart' (Kd.R_apart' (HO1023.out) (Kd.R_typed HO1020.out) (by decide)) (Kd.R_typed HO1026.out) (by decide)) BK1015.out (by decide)) BK1016.out (by decide)))) (fun k_ hk_ => ⟨hk_, ((Kd.R_types (Kd.R_types (Kd.R_apart' (Kd.R_apart' (HO1023.out) (Kd.R_typed HO1020.out) (by decide)) (Kd.R_typed HO1026.out) (by decide)) BK1015.out (by decide)) BK1016.out (by decide)).1 k_ hk_.symm).1.1.2⟩)); (case side4 => exact Kd.R_tight rfl HO1026.out); rintro e w16 ⟨v1029, v1032, v1035, rfl, ho0, ho1, ho2, hb, hkp⟩; refine ⟨_, rfl, ?_⟩; have HO1030 := Aside0.mk (Kd.V_mono (ok' := fun k_ => (w.heap.size ≤ k_) ∧ some k_ ≠ (v1035 : Value).ownBlock ∧ k_ ≠ gb1015 ∧ k_ ≠ gb1016) ho0 (fun k_ hk_ => ⟨Or.elim hk_.1 (fun hs_ => Or.elim hs_ (fun hs_ => (HO1026.out.1 k_ (hs_).symm).1) (fun hs_ => Or.elim hs_ (fun hs_ => ((Kd.R_types (Kd.R_types (Kd.R_apart' (HO1020.out) (Kd.R_typed HO1023.out) (by decide)) BK1015.out (by decide)) BK1016.out (by decide)).1 k_ hs_.symm).1.1.1.1) (fun hs_ => ((Kd.R_types (Kd.R_types (Kd.R_apart' (Kd.R_apart' (HO1023.out) (Kd.R_typed HO1020.out) (by decide)) (Kd.R_typed HO1026.out) (by decide)) BK1015.out (by decide)) BK1016.out (by decide)).1 k_ hs_.symm).1.1.1.1.1))) (fun hn_ => (Nat.le_trans (below_size (bs2 HB GE1015 GE1016)) hn_)), hk_.2, Or.elim hk_.1 (fun hs_ => Or.elim hs_ (fun hs_ => fun e_ => (Kd.R_ne HO1026.out BK1015.out (by decide)) (by rw [← e_]; exact hs_)) (fun hs_ => Or.elim hs_ (fun hs_ => ((Kd.R_types (Kd.R_types (Kd.R_apart' (HO1020.out) (Kd.R_typed HO1023.out) (by decide)) BK1015.out (by decide)) BK1016.out (by decide)).1 k_ hs_.symm).1.2) (fun hs_ => ((Kd.R_types (Kd.R_types (Kd.R_apart' (Kd.R_apart' (HO1023.out) (Kd.R_typed HO1020.out) (by decide)) (Kd.R_typed HO1026.out) (by decide)) BK1015.out (by decide)) BK1016.out (by decide)).1 k_ hs_.symm).1.2))) (fun hn_ => (Kd.freshB (bk BK1015) k_ hn_)), Or.elim hk_.1 (fun hs_ => Or.elim hs_ (fun hs_ => fun e_ => (Kd.R_ne HO1026.out BK1016.out (by decide)) (by rw [← e_]; exact hs_)) (fun hs_ => Or.elim hs_ (fun hs_ => ((Kd.R_types (Kd.R_types (Kd.R_apart' (HO1020.out) (Kd.R_typed HO1023.out) (by decide)) BK1015.out (by decide)) BK1016.out (by decide)).1 k_ hs_.symm).2) (fun hs_ => ((Kd.R_types (Kd.R_types (Kd.R_apart' (Kd.R_apart' (HO1023.out) (Kd.R_typed HO1020.out) (by decide)) (Kd.R_typed HO1026.out) (by decide)) BK1015.out (by decide)) BK1016.out (by decide)).1 k_ hs_.symm).2))) (fun hn_ => (Kd.freshB (bk BK1016) k_ hn_))⟩)); have HO1033 := Aside0.mk (Kd.V_mono (ok' := fun k_ => (w.heap.size ≤ k_) ∧ some k_ ≠ (v1035 : Value).ownBlock ∧ k_ ≠ gb1015 ∧ k_ ≠ gb1016) ho1 (fun k_ hk_ => ⟨Or.elim hk_.1 (fun hs_ => Or.elim hs_ (fun hs_ => (HO1026.out.1 k_ (hs_).symm).1) (fun hs_ => Or.elim hs_ (fun hs_ => ((Kd.R_types (Kd.R_types (Kd.R_apart' (HO1020.out) (Kd.R_typed HO1023.out) (by decide)) BK1015.out (by decide)) BK1016.out (by decide)).1 k_ hs_.symm).1.1.1.1) (fun hs_ => ((Kd.R_types (Kd.R_types (Kd.R_apart' (Kd.R_apart' (HO1023.out) (Kd.R_typed HO1020.out) (by decide)) (Kd.R_typed HO1026.out) (by decide)) BK1015.out (by decide)) BK1016.out (by decide)).1 k_ hs_.symm).1.1.1.1.1))) (fun hn_ => (Nat.le_trans (below_size (bs2 HB GE1015 GE1016)) hn_)), hk_.2, Or.elim hk_.1 (fun hs_ => Or.elim hs_ (fun hs_ => fun e_ => (Kd.R_ne HO1026.out BK1015.out (by decide)) (by rw [← e_]; exact hs_)) (fun hs_ => Or.elim hs_ (fun hs_ => ((Kd.R_types (Kd.R_types (Kd.R_apart' (HO1020.out) (Kd.R_typed HO1023.out) (by decide)) BK1015.out (by decide)) BK1016.out (by decide)).1 k_ hs_.symm).1.2) (fun hs_ => ((Kd.R_types (Kd.R_types (Kd.R_apart' (Kd.R_apart' (HO1023.out) (Kd.R_typed HO1020.out) (by decide)) (Kd.R_typed HO1026.out) (by decide)) BK1015.out (by decide)) BK1016.out (by decide)).1 k_ hs_.symm).1.2))) (fun hn_ => (Kd.freshB (bk BK1015) k_ hn_)), Or.elim hk_.1 (fun hs_ => Or.elim hs_ (fun hs_ => fun e_ => (Kd.R_ne HO1026.out BK1016.out (by decide)) (by rw [← e_]; exact hs_)) (fun hs_ => Or.elim hs_ (fun hs_ => ((Kd.R_types (Kd.R_types (Kd.R_apart' (HO1020.out) (Kd.R_typed HO1023.out) (by decide)) BK1015.out (by decide)) BK1016.out (by decide)).1 k_ hs_.symm).2) (fun hs_ => ((Kd.R_types (Kd.R_types (Kd.R_apart' (Kd.R_apart' (HO1023.out) (Kd.R_typed HO1020.out) (by decide)) (Kd.R_typed HO1026.out) (by decide)) BK1015.out (by decide)) BK1016.out (by decide)).1 k_ hs_.symm).2))) (fun hn_ => (Kd.freshB (bk BK1016) k_ hn_))⟩)); replace BK1015 := Aside0.mk (blk_kept (bk BK1015) hkp (fun hs_ => (fun e_ => (Kd.R_ne HO1026.out BK1015.out (by decide)) e_) hs_)); replace BK1016 := Aside0.mk (blk_kept (bk BK1016) hkp (fun hs_ => (fun e_ => (Kd.R_ne HO1026.out BK1016.out (by decide)) e_) hs_)); replace HO1020 := Aside0.mk (Kd.R_mono (ok' := fun k_ => (w.heap.size ≤ k_) ∧ some k_ ≠ (v1035 : Value).ownBlock) (Kd.R_keptB (HO1020.out) hkp (fun k_ hk_ hs_ => (hk_.2) hs_)) (fun k_ hk_ => ⟨hk_.1.1, fun e_ => Or.elim (ho2.1 k_ e_.symm) (fun hs_ => hk_.2.1 hs_) (fun hn_ => Nat.not_le.2 hk_.2.2 hn_)⟩)); replace HO1023 := Aside0.mk (Kd.R_mono (ok' := fun k_ => (w.heap.size ≤ k_)) (Kd.R_keptB ((Kd.R_apart' HO1023.out (Kd.R_typed HO1026.out) (by decide))) hkp (fun k_ hk_ hs_ => (hk_.2) hs_)) (fun k_ hk_ => hk_.1.1.1)); have HO1036 := Aside0.mk (Kd.R_mono (ok' := fun k_ => (w.heap.size ≤ k_)) ho2 (fun k_ hk_ => Or.elim hk_ (fun hs_ => (HO1026.out.1 k_ (hs_).symm).1) (fun hn_ => (Nat.le_trans (below_size (bs2 HB GE1015 GE1016)) hn_)))); replace HB := Aside0.mk (hb); clear HO1026; (try clear hb); (try clear hkp); (try clear ho0); (try clear ho1); (try clear ho2); obtain ⟨Ao17, co17, eo17⟩ := Kd.V_slice HO1030.out; subst eo17; obtain ⟨hcz18_0, hcz18_1, hcz18_2, hcz18_3⟩ := cz4 BK1016; obtain ⟨hfz18_0, hfz18_1, hfz18_2, hfz18_3⟩ := fz4 BK1016; obtain ⟨Ao19, co19, eo19⟩ := Kd.V_slice HO1033.out; subst eo19; obtain ⟨Ao20, co20, eo20⟩ := Kd.R_slice HO1036.out; subst eo20))
  refine bodyPost_ret (results_ct rfl _ _ gb1016 44 #[.slice Ao17 t1028.length co17, .slice Ao19 t1031.length co19, .slice Ao20 t1034.length co20, .int .i64 t1037] (0, 0) _ rfl (by (with_reducible repeat (first | refine blk_drewN ?_ _ | refine blk_drew ?_ | refine blk_alloc ?_ _)); refine blk_put (cs := #[.slice Ao17 t1028.length co17, .slice Ao19 t1031.length co19, .slice Ao20 t1034.length co20, .int .i64 0]) ?_ 3 _ rfl; (with_reducible repeat (first | refine blk_drewN ?_ _ | refine blk_drew ?_ | refine blk_alloc ?_ _)); refine blk_put (cs := #[.slice Ao17 t1028.length co17, .slice Ao19 t1031.length co19, .slice none 0 0, .int .i64 0]) ?_ 2 _ rfl; (with_reducible repeat (first | refine blk_drewN ?_ _ | refine blk_drew ?_ | refine blk_alloc ?_ _)); refine blk_put (cs := #[.slice Ao17 t1028.length co17, .slice none 0 0, .slice none 0 0, .int .i64 0]) ?_ 1 _ rfl; (with_reducible repeat (first | refine blk_drewN ?_ _ | refine blk_drew ?_ | refine blk_alloc ?_ _)); refine blk_put (cs := #[.slice none 0 0, .slice none 0 0, .slice none 0 0, .int .i64 0]) ?_ 0 _ rfl; (with_reducible repeat (first | refine blk_drewN ?_ _ | refine blk_drew ?_ | refine blk_alloc ?_ _)); exact BK1016.out) Try.underlying44 rfl (by kernel_rfl)) rfl ?_
  exact ⟨_, _, _, by first | rfl | (simp [errW_none, errW_some] <;> rfl) | (simp [*, errW_none, errW_some] <;> rfl), by (with_reducible repeat (first | apply Kd.V_alloc | apply Kd.V_drewN | apply Kd.V_drew)); exact Kd.V_mono (Kd.V_far (p := ⟨gb1016, 3, none⟩) (Kd.V_far (p := ⟨gb1016, 2, none⟩) (Kd.V_far (p := ⟨gb1016, 1, none⟩) (Kd.V_far (p := ⟨gb1016, 0, none⟩) (Kd.V_mono HO1030.out (fun k_ hk => (⟨hk, hk.2.2.2⟩ : _ ∧ k_ ≠ gb1016))) (fun _ hk => hk.2) (.slice Ao17 t1028.length co17)) (fun _ hk => hk.2) (.slice Ao19 t1031.length co19)) (fun _ hk => hk.2) (.slice Ao20 t1034.length co20)) (fun _ hk => hk.2) (.int .i64 t1037)) (fun _ hk => ⟨hk.1.1, hk.1.2.1⟩), by (with_reducible repeat (first | apply Kd.V_alloc | apply Kd.V_drewN | apply Kd.V_drew)); exact Kd.V_mono (Kd.V_far (p := ⟨gb1016, 3, none⟩) (Kd.V_far (p := ⟨gb1016, 2, none⟩) (Kd.V_far (p := ⟨gb1016, 1, none⟩) (Kd.V_far (p := ⟨gb1016, 0, none⟩) (Kd.V_mono HO1033.out (fun k_ hk => (⟨hk, hk.2.2.2⟩ : _ ∧ k_ ≠ gb1016))) (fun _ hk => hk.2) (.slice Ao17 t1028.length co17)) (fun _ hk => hk.2) (.slice Ao19 t1031.length co19)) (fun _ hk => hk.2) (.slice Ao20 t1034.length co20)) (fun _ hk => hk.2) (.int .i64 t1037)) (fun _ hk => ⟨hk.1.1, hk.1.2.1⟩), by (with_reducible repeat (first | apply Kd.R_alloc | apply Kd.R_drewN | apply Kd.R_drew)); exact Kd.R_mono (Kd.R_far (p := ⟨gb1016, 3, none⟩) (Kd.R_far (p := ⟨gb1016, 2, none⟩) (Kd.R_far (p := ⟨gb1016, 1, none⟩) (Kd.R_far (p := ⟨gb1016, 0, none⟩) (Kd.R_types HO1036.out BK1016.out (by decide)) (fun _ hk => hk.2) (.slice Ao17 t1028.length co17)) (fun _ hk => hk.2) (.slice Ao19 t1031.length co19)) (fun _ hk => hk.2) (.slice Ao20 t1034.length co20)) (fun _ hk => hk.2) (.int .i64 t1037)) (fun _ hk => hk.1), bs2 HB GE1015 GE1016⟩
 ·
  replace c3 := Bool.eq_false_iff.mpr c3
  subst c3
  rw [if_neg (show ¬ (false = true) by decide)] at H
  simp only [Option.some.injEq, Prod.mk.injEq] at H
  obtain ⟨rfl, rfl, rfl, rfl, rfl⟩ := H
  go_enter Try.func45, Try.ntmps45
  go_wp2_with (first | ((with_reducible refine gate_dst (N := 1) rfl ?_); refine box_event ?hg (N := 1) ?hd (cs := #[.slice A0_0 l0_0.length c0_0, .slice A0_1 l0_1.length c0_1, .slice A0_2 l0_2.length c0_2, .int .i64 a0_3]) (t := 44) ?hr ?_; (case hd => rfl); (case hg => rfl); (case hr => first | (go_simp; done) | (go_simp; rfl)); intro gb1015 hg w21 hbox hb; have BK1015 := Aside0.mk (hbox); have GW1015 := Aside0.mk ((by rw [hg]; exact (below_size (bs HB)) : w.heap.size ≤ gb1015)); have GE1015 := Aside0.mk ((by rw [hg]; exact (below_size (bs HB)) : w.heap.size ≤ gb1015)); replace HB := Aside0.mk (below_step (bs HB) hb); clear hb hbox hg) | ((with_reducible refine gate_dst (N := 2) rfl ?_); refine box_event ?hg (N := 2) ?hd (cs := #[.slice none 0 0, .slice none 0 0, .slice none 0 0, .int .i64 0]) (t := 44) ?hr ?_; (case hd => rfl); (case hg => rfl); (case hr => first | (go_simp; done) | (go_simp; rfl)); intro gb1016 hg w22 hbox hb; have BK1016 := Aside0.mk (hbox); have GW1016 := Aside0.mk ((by rw [hg]; exact (below_size (bs1 HB GE1015)) : w.heap.size ≤ gb1016)); have GE1016 := Aside0.mk ((by rw [hg]; exact (below_size (bs1 HB GE1015)) : w.heap.size ≤ gb1016)); replace HB := Aside0.mk (below_step (bs1 HB GE1015) hb); have NB1015_1016 := Aside0.mk ((bn BK1015 hg : gb1015 ≠ gb1016)); have NB1016_1015 := Aside0.mk ((bm BK1015 hg : gb1016 ≠ gb1015)); replace BK1015 := nb BK1015 hb; clear hb hbox hg; have hnb23 := NB1015_1016.out; have hnc23 := NB1016_1015.out; obtain ⟨hcz24_0, hcz24_1, hcz24_2, hcz24_3⟩ := cz4 BK1015; obtain ⟨hfz24_0, hfz24_1, hfz24_2, hfz24_3⟩ := fz4 BK1015) | ((with_reducible refine gate_callee (f := 26) rfl ?_); refine gL (some 5) rfl rfl Try.func26 (by kernel_rfl) rfl #[.agg #[.slice A0_0 l0_0.length c0_0, .slice A0_1 l0_1.length c0_1, .slice A0_2 l0_2.length c0_2, .int .i64 a0_3]] rfl ?_; (with_reducible refine (spec_GoodStore.calls k _ _ l0_0 _ _ l0_1 _ _ l0_2 a0_3 false _ ?side1 ?side2 ?side3 ?side4 ?side5 ?side6 A2.out).mono ?_); (case side1 => exact cb HR0_0 HB); (case side2 => exact HC0_0.out); (case side3 => exact cb HR0_1 HB); (case side4 => exact HC0_1.out); (case side5 => exact cb HR0_2 HB); (case side6 => exact HC0_2.out); rintro e w25 ⟨rfl, hb⟩; refine ⟨_, rfl, ?_⟩; replace BK1015 := nb BK1015 hb; replace BK1016 := nb BK1016 hb; replace HB := Aside0.mk (below_step (bs2 HB GE1015 GE1016) hb); (try clear hb); (try clear hb2); (try clear hk); (try clear hi); obtain ⟨hcz26_0, hcz26_1, hcz26_2, hcz26_3⟩ := cz4 BK1016; obtain ⟨hfz26_0, hfz26_1, hfz26_2, hfz26_3⟩ := fz4 BK1016))
  refine bodyPost_ret (results_ct rfl _ _ gb1016 44 #[.slice none 0 0, .slice none 0 0, .slice none 0 0, .int .i64 0] (0, 0) _ rfl (by (with_reducible repeat (first | refine blk_drewN ?_ _ | refine blk_drew ?_ | refine blk_alloc ?_ _)); refine blk_put (cs := #[.slice none 0 0, .slice none 0 0, .slice none 0 0, .int .i64 0]) ?_ 3 _ rfl; (with_reducible repeat (first | refine blk_drewN ?_ _ | refine blk_drew ?_ | refine blk_alloc ?_ _)); refine blk_put (cs := #[.slice none 0 0, .slice none 0 0, .slice none 0 0, .int .i64 0]) ?_ 2 _ rfl; (with_reducible repeat (first | refine blk_drewN ?_ _ | refine blk_drew ?_ | refine blk_alloc ?_ _)); refine blk_put (cs := #[.slice none 0 0, .slice none 0 0, .slice none 0 0, .int .i64 0]) ?_ 1 _ rfl; (with_reducible repeat (first | refine blk_drewN ?_ _ | refine blk_drew ?_ | refine blk_alloc ?_ _)); refine blk_put (cs := #[.slice none 0 0, .slice none 0 0, .slice none 0 0, .int .i64 0]) ?_ 0 _ rfl; (with_reducible repeat (first | refine blk_drewN ?_ _ | refine blk_drew ?_ | refine blk_alloc ?_ _)); exact BK1016.out) Try.underlying44 rfl (by kernel_rfl)) rfl ?_
  exact ⟨_, _, _, by first | rfl | (simp [errW_none, errW_some] <;> rfl) | (simp [*, errW_none, errW_some] <;> rfl), by first | exact Kd.R_nil _ _ _ _ _ | exact Kd.N_nil _ _ _ _ _ | exact Kd.V_nil _ _ _ _ _ | exact Kd.Q_nil _ _ _ _ _ | exact Kd.S_nil _ _ _ _ _, by first | exact Kd.R_nil _ _ _ _ _ | exact Kd.N_nil _ _ _ _ _ | exact Kd.V_nil _ _ _ _ _ | exact Kd.Q_nil _ _ _ _ _ | exact Kd.S_nil _ _ _ _ _, by first | exact Kd.R_nil _ _ _ _ _ | exact Kd.N_nil _ _ _ _ _ | exact Kd.V_nil _ _ _ _ _ | exact Kd.Q_nil _ _ _ _ _ | exact Kd.S_nil _ _ _ _ _, bs2 HB GE1015 GE1016⟩

/-! ### impl_WriteBack: function 46 -/
def impl_WriteBack.f (k : Nat) (l0_0 : List ByteArray) (l0_1 : List (S72)) (l0_2 : List ByteArray) (a0_3 : Int) : Option (List ByteArray × (List (S72)) × List ByteArray × Int × Bool) := (impl_GoodStore.f k l0_0 l0_1 l0_2 a0_3).bind fun t1041 => (if t1041 = true then ((impl_ownStore.f l0_0 l0_1 l0_2 a0_3).bind fun bt1042 => (if 0 ≤ a0_3 then (if a0_3 ≤ (l0_2.length : Int) then ((impl_writesOf.f k (l0_2.take (a0_3 : Int).toNat)).bind fun t1054 => (if bt1042.2.1.length + t1054.length < 5864062014805 then ((some (bt1042.2.1 ++ t1054 : List (S72))).bind fun y1057 => ((impl_GoodDevice.f k bt1042.1 y1057).bind fun t1060 => (if t1060 = true then (some (bt1042.1, y1057, bt1042.2.2.1, bt1042.2.2.2, true)) else (some (([] : List ByteArray), ([] : List (S72)), ([] : List ByteArray), 0, false))))) else (none))) else (none)) else (none))) else (some (([] : List ByteArray), ([] : List (S72)), ([] : List ByteArray), 0, false)))
theorem impl_WriteBack.mono : ∀ a0 a1 a2 a3 k, LeO (impl_WriteBack.f k a0 a1 a2 a3) (impl_WriteBack.f (k + 1) a0 a1 a2 a3) := by
 intro a0 a1 a2 a3 k
 unfold impl_WriteBack.f
 repeat' first
   | (with_reducible exact impl_GoodDevice.mono _ _ _)
   | (with_reducible exact impl_GoodStore.mono _ _ _ _ _)
   | (with_reducible exact impl_writesOf.mono _ _)
   | (with_reducible exact LeO.refl _)
   | (with_reducible exact LeO.none _)
   | (with_reducible refine LeO.ite ?_ ?_)
   | (with_reducible refine LeO.bind ?_ (fun _ => ?_))
   | exact impl_GoodDevice.mono _ _ _
   | exact impl_GoodStore.mono _ _ _ _ _
   | exact impl_writesOf.mono _ _
   | exact LeO.none _
   | refine LeO.ite ?_ ?_
   | refine LeO.bind ?_ (fun _ => ?_)
def impl_WriteBack.T4 : Bool × List (List Nat × List Nat) := (true, [([], []), ([0], [0]), ([1], [1]), ([], []), ([3], [3]), ([], []), ([5], [5]), ([4, 6], [4, 6]), ([7], [7]), ([2, 8, 8], [2, 8]), ([0, 1, 2, 3, 4, 5, 6, 7, 8, 9], []), ([10, 0, 1, 2, 3, 4, 5, 6, 7, 8, 9], [10]), ([11, 9, 9, 0, 1, 2, 3, 4, 5, 6, 7, 8, 9], [9, 11])])
def impl_WriteBack.B4 : List Nat := [0, 1, 3, 0, 8, 0, 32, 120, 248, 511, 1023, 2047, 4095]
theorem impl_WriteBack.tab4 : rtab .any (opsOf Try.f46 4) = impl_WriteBack.T4 := by kernel_rfl
theorem impl_WriteBack.bits4 : waitsOk impl_WriteBack.T4.2 impl_WriteBack.B4 = true := by kernel_rfl
set_option maxHeartbeats 8000000 in
set_option maxRecDepth 100000 in
theorem impl_WriteBack.calls (k : Nat) (A0_0 : Option Addr) (c0_0 : Nat) (l0_0 : List ByteArray) (A0_1 : Option Addr) (c0_1 : Nat) (l0_1 : List (S72)) (A0_2 : Option Addr) (c0_2 : Nat) (l0_2 : List ByteArray) (a0_3 : Int) (r1 : List ByteArray) (r2 : List (S72)) (r3 : List ByteArray) (r4 : Int) (r5 : Bool) (w : World) (hr0_0 : Kd.C Kd.string w A0_0 l0_0.length l0_0) (hc0_0 : l0_0.length ≤ c0_0) (hr0_1 : Kd.C k72 w A0_1 l0_1.length l0_1) (hc0_1 : l0_1.length ≤ c0_1) (hr0_2 : Kd.C Kd.string w A0_2 l0_2.length l0_2) (hc0_2 : l0_2.length ≤ c0_2) (h : impl_WriteBack.f k l0_0 l0_1 l0_2 a0_3 = some (r1, r2, r3, r4, r5)) :
  Calls Try.prog 46 #[.agg #[.slice A0_0 l0_0.length c0_0, .slice A0_1 l0_1.length c0_1, .slice A0_2 l0_2.length c0_2, .int .i64 a0_3]] w fun e w' => ∃ v0_ v1_ v2_ : Value, e = .returned (.tuple #[.agg #[v0_, v1_, v2_, .int .i64 r4], .bool r5]) ∧ Kd.R Kd.string 9 w' w.heap.size (fun k_ => some k_ ≠ (v2_ : Value).ownBlock) v0_ r1 ∧ Kd.R k72 72 w' w.heap.size (fun _ => True) v1_ r2 ∧ Kd.R Kd.string 9 w' w.heap.size (fun k_ => some k_ ≠ (v0_ : Value).ownBlock) v2_ r3 ∧ Below w.heap.size w w' := by
 have hu44 := Try.underlying44
 have hu42 := Try.underlying42
 have HR0_0 := Aside0.mk hr0_0
 have HC0_0 := Aside0.mk hc0_0
 clear hr0_0 hc0_0
 have HR0_1 := Aside0.mk hr0_1
 have HC0_1 := Aside0.mk hc0_1
 clear hr0_1 hc0_1
 have HR0_2 := Aside0.mk hr0_2
 have HC0_2 := Aside0.mk hc0_2
 clear hr0_2 hc0_2
 have HB := Aside0.mk (Below.refl w.heap.size w)
 have H : ((impl_GoodStore.f k l0_0 l0_1 l0_2 a0_3).bind fun t1041 => (if t1041 = true then ((impl_ownStore.f l0_0 l0_1 l0_2 a0_3).bind fun bt1042 => (if 0 ≤ a0_3 then (if a0_3 ≤ (l0_2.length : Int) then ((impl_writesOf.f k (l0_2.take (a0_3 : Int).toNat)).bind fun t1054 => (if bt1042.2.1.length + t1054.length < 5864062014805 then ((some (bt1042.2.1 ++ t1054 : List (S72))).bind fun y1057 => ((impl_GoodDevice.f k bt1042.1 y1057).bind fun t1060 => (if t1060 = true then (some (bt1042.1, y1057, bt1042.2.2.1, bt1042.2.2.2, true)) else (some (([] : List ByteArray), ([] : List (S72)), ([] : List ByteArray), 0, false))))) else (none))) else (none)) else (none))) else (some (([] : List ByteArray), ([] : List (S72)), ([] : List ByteArray), 0, false)))) = some (r1, r2, r3, r4, r5) := h
 clear h
 replace H := Option.bind_eq_some_iff.mp H
 obtain ⟨t1041, A20, H⟩ := H
 replace H : (if t1041 = true then ((impl_ownStore.f l0_0 l0_1 l0_2 a0_3).bind fun bt1042 => (if 0 ≤ a0_3 then (if a0_3 ≤ (l0_2.length : Int) then ((impl_writesOf.f k (l0_2.take (a0_3 : Int).toNat)).bind fun t1054 => (if bt1042.2.1.length + t1054.length < 5864062014805 then ((some (bt1042.2.1 ++ t1054 : List (S72))).bind fun y1057 => ((impl_GoodDevice.f k bt1042.1 y1057).bind fun t1060 => (if t1060 = true then (some (bt1042.1, y1057, bt1042.2.2.1, bt1042.2.2.2, true)) else (some (([] : List ByteArray), ([] : List (S72)), ([] : List ByteArray), 0, false))))) else (none))) else (none)) else (none))) else (some (([] : List ByteArray), ([] : List (S72)), ([] : List ByteArray), 0, false))) = some (r1, r2, r3, r4, r5) := H
 have A2 := Aside0.mk A20
 clear A20
 by_cases c3 : t1041 = true
 ·
  subst c3
  rw [if_pos rfl] at H
  replace H := Option.bind_eq_some_iff.mp H
  obtain ⟨⟨t1042, t1045, t1048, t1051⟩, A40, H⟩ := H
  replace H : (if 0 ≤ a0_3 then (if a0_3 ≤ (l0_2.length : Int) then ((impl_writesOf.f k (l0_2.take (a0_3 : Int).toNat)).bind fun t1054 => (if t1045.length + t1054.length < 5864062014805 then ((some (t1045 ++ t1054 : List (S72))).bind fun y1057 => ((impl_GoodDevice.f k t1042 y1057).bind fun t1060 => (if t1060 = true then (some (t1042, y1057, t1048, t1051, true)) else (some (([] : List ByteArray), ([] : List (S72)), ([] : List ByteArray), 0, false))))) else (none))) else (none)) else (none)) = some (r1, r2, r3, r4, r5) := H
  have A4 := Aside0.mk A40
  clear A40
  by_cases c5 : 0 ≤ a0_3
  ·
   rw [if_pos c5] at H
   have c5b0 := eq_true c5
   have c5b1 : decide (0 ≤ a0_3) = true := decide_eq_true c5
   clear c5
   by_cases c6 : a0_3 ≤ (l0_2.length : Int)
   ·
    rw [if_pos c6] at H
    have c6b0 := eq_true c6
    have c6b1 : decide (a0_3 ≤ (l0_2.length : Int)) = true := decide_eq_true c6
    clear c6
    replace H := Option.bind_eq_some_iff.mp H
    obtain ⟨t1054, A70, H⟩ := H
    replace H : (if t1045.length + t1054.length < 5864062014805 then ((some (t1045 ++ t1054 : List (S72))).bind fun y1057 => ((impl_GoodDevice.f k t1042 y1057).bind fun t1060 => (if t1060 = true then (some (t1042, y1057, t1048, t1051, true)) else (some (([] : List ByteArray), ([] : List (S72)), ([] : List ByteArray), 0, false))))) else (none)) = some (r1, r2, r3, r4, r5) := H
    have A7 := Aside0.mk A70
    clear A70
    by_cases c8 : t1045.length + t1054.length < 5864062014805
    ·
     rw [if_pos c8] at H
     have LMc8 := Aside0.mk c8
     clear c8
     obtain ⟨y1057, hy1057⟩ : ∃ y_ : List (S72), y_ = (t1045 ++ t1054) := ⟨_, rfl⟩
     replace H : ((impl_GoodDevice.f k t1042 y1057).bind fun t1060 => (if t1060 = true then (some (t1042, y1057, t1048, t1051, true)) else (some (([] : List ByteArray), ([] : List (S72)), ([] : List ByteArray), 0, false)))) = some (r1, r2, r3, r4, r5) := by first | (rw [hy1057]; with_reducible exact H) | (have H2_ := (Option.bind_some _ _).symm.trans H; rw [hy1057]; with_reducible exact H2_) | (have H2_ := (Option.bind_some _ _).symm.trans H; with_reducible exact H2_) | with_reducible exact H | (rw [hy1057]; exact H) | exact H
     have Ny1057 := Aside0.mk hy1057
     clear hy1057
     replace H := Option.bind_eq_some_iff.mp H
     obtain ⟨t1060, A90, H⟩ := H
     replace H : (if t1060 = true then (some (t1042, y1057, t1048, t1051, true)) else (some (([] : List ByteArray), ([] : List (S72)), ([] : List ByteArray), 0, false))) = some (r1, r2, r3, r4, r5) := H
     have A9 := Aside0.mk A90
     clear A90
     by_cases c10 : t1060 = true
     ·
      subst c10
      rw [if_pos rfl] at H
      simp only [Option.some.injEq, Prod.mk.injEq] at H
      obtain ⟨rfl, rfl, rfl, rfl, rfl⟩ := H
      go_enter Try.func46, Try.ntmps46
      try go_wp2_with (first | ((with_reducible refine gate_dst (N := 1) rfl ?_); refine box_event ?hg (N := 1) ?hd (cs := #[.slice A0_0 l0_0.length c0_0, .slice A0_1 l0_1.length c0_1, .slice A0_2 l0_2.length c0_2, .int .i64 a0_3]) (t := 44) ?hr ?_; (case hd => rfl); (case hg => rfl); (case hr => first | (go_simp; done) | (go_simp; rfl)); intro gb1039 hg w11 hbox hb; have BK1039 := Aside0.mk (hbox); have GW1039 := Aside0.mk ((by rw [hg]; exact (below_size (bs HB)) : w.heap.size ≤ gb1039)); have GE1039 := Aside0.mk ((by rw [hg]; exact (below_size (bs HB)) : w.heap.size ≤ gb1039)); replace HB := Aside0.mk (below_step (bs HB) hb); clear hb hbox hg) | ((with_reducible refine gate_dst (N := 2) rfl ?_); refine box_event ?hg (N := 2) ?hd (cs := #[.slice none 0 0, .slice none 0 0, .slice none 0 0, .int .i64 0]) (t := 44) ?hr ?_; (case hd => rfl); (case hg => rfl); (case hr => first | (go_simp; done) | (go_simp; rfl)); intro gb1040 hg w12 hbox hb; have BK1040 := Aside0.mk (hbox); have GW1040 := Aside0.mk ((by rw [hg]; exact (below_size (bs1 HB GE1039)) : w.heap.size ≤ gb1040)); have GE1040 := Aside0.mk ((by rw [hg]; exact (below_size (bs1 HB GE1039)) : w.heap.size ≤ gb1040)); replace HB := Aside0.mk (below_step (bs1 HB GE1039) hb); have NB1039_1040 := Aside0.mk ((bn BK1039 hg : gb1039 ≠ gb1040)); have NB1040_1039 := Aside0.mk ((bm BK1039 hg : gb1040 ≠ gb1039)); replace BK1039 := nb BK1039 hb; clear hb hbox hg; have hnb13 := NB1039_1040.out; have hnc13 := NB1040_1039.out; obtain ⟨hcz14_0, hcz14_1, hcz14_2, hcz14_3⟩ := cz4 BK1039; obtain ⟨hfz14_0, hfz14_1, hfz14_2, hfz14_3⟩ := fz4 BK1039) | ((with_reducible refine gate_callee (f := 28) rfl ?_); refine gL (some 6) rfl rfl Try.func28 (by kernel_rfl) rfl #[.agg #[.slice A0_0 l0_0.length c0_0, .slice A0_1 l0_1.length c0_1, .slice A0_2 l0_2.length c0_2, .int .i64 a0_3]] rfl ?_; (with_reducible refine (impl_GoodStore.calls k _ _ l0_0 _ _ l0_1 _ _ l0_2 a0_3 true _ ?side1 ?side2 ?side3 ?side4 ?side5 ?side6 A2.out).mono ?_); (case side1 => exact cb HR0_0 HB); (case side2 => exact HC0_0.out); (case side3 => exact cb HR0_1 HB); (case side4 => exact HC0_1.out); (case side5 => exact cb HR0_2 HB); (case side6 => exact HC0_2.out); rintro e w15 ⟨rfl, hb⟩; refine ⟨_, rfl, ?_⟩; replace BK1039 := nb BK1039 hb; replace BK1040 := nb BK1040 hb; replace HB := Aside0.mk (below_step (bs2 HB GE1039 GE1040) hb); (try clear hb); (try clear hb2); (try clear hk); (try clear hi); obtain ⟨hcz16_0, hcz16_1, hcz16_2, hcz16_3⟩ := cz4 BK1039; obtain ⟨hfz16_0, hfz16_1, hfz16_2, hfz16_3⟩ := fz4 BK1039) | ((with_reducible refine gate_callee (f := 92) rfl ?_); refine gL (some 10) rfl rfl Try.func92 (by kernel_rfl) rfl #[.agg #[.slice A0_0 l0_0.length c0_0, .slice A0_1 l0_1.length c0_1, .slice A0_2 l0_2.length c0_2, .int .i64 a0_3]] rfl ?_; (with_reducible refine (impl_ownStore.calls _ _ l0_0 _ _ l0_1 _ _ l0_2 a0_3 t1042 t1045 t1048 t1051 _ ?side1 ?side2 ?side3 ?side4 ?side5 ?side6 A4.out).mono ?_); (case side1 => exact cb HR0_0 HB); (case side2 => exact HC0_0.out); (case side3 => exact cb HR0_1 HB); (case side4 => exact HC0_1.out); (case side5 => exact cb HR0_2 HB); (case side6 => exact HC0_2.out); rintro e w17 ⟨v1043, v1046, v1049, rfl, ho0, ho1, ho2, hb⟩; refine ⟨_, rfl, ?_⟩; have HO1044 := Aside0.mk (Kd.R_lower ho0 (below_size (bs2 HB GE1039 GE1040))); have HO1047 := Aside0.mk (Kd.R_lower ho1 (below_size (bs2 HB GE1039 GE1040))); have HO1050 := Aside0.mk (Kd.R_lower ho2 (below_size (bs2 HB GE1039 GE1040))); replace BK1039 := nb BK1039 hb; replace BK1040 := nb BK1040 hb; replace HB := Aside0.mk (below_step (bs2 HB GE1039 GE1040) hb); (try clear hb); (try clear hb2); (try clear hk); (try clear hi); (try clear ho0); (try clear ho1); (try clear ho2)) | ((with_reducible refine gate_dst (N := 4) rfl ?_); refine box_event ?hg (N := 4) ?hd (cs := #[.slice none 0 0, .slice none 0 0, .slice none 0 0, .int .i64 0]) (t := 44) ?hr ?_; (case hd => rfl); (case hg => rfl); (case hr => first | (go_simp; done) | (go_simp; rfl)); intro gb1052 hg w18 hbox hb; replace HO1044 := nr HO1044 hb; replace HO1047 := nr HO1047 hb; replace HO1050 := nr HO1050 hb; have BK1052 := Aside0.mk (hbox); have GW1052 := Aside0.mk ((by rw [hg]; exact (below_size (bs2 HB GE1039 GE1040)) : w.heap.size ≤ gb1052)); have GE1052 := Aside0.mk ((by rw [hg]; exact (below_size (bs2 HB GE1039 GE1040)) : w.heap.size ≤ gb1052)); replace HB := Aside0.mk (below_step (bs2 HB GE1039 GE1040) hb); have NB1039_1052 := Aside0.mk ((bn BK1039 hg : gb1039 ≠ gb1052)); have NB1052_1039 := Aside0.mk ((bm BK1039 hg : gb1052 ≠ gb1039)); replace BK1039 := nb BK1039 hb; have NB1040_1052 := Aside0.mk ((bn BK1040 hg : gb1040 ≠ gb1052)); have NB1052_1040 := Aside0.mk ((bm BK1040 hg : gb1052 ≠ gb1040)); replace BK1040 := nb BK1040 hb; clear hb hbox hg; obtain ⟨Ao19, co19, eo19⟩ := Kd.R_slice HO1044.out; subst eo19; have hnb20 := NB1052_1039.out; have hnc20 := NB1039_1052.out; have hnb21 := NB1052_1040.out; have hnc21 := NB1040_1052.out; obtain ⟨hcz22_0, hcz22_1, hcz22_2, hcz22_3⟩ := cz4 BK1052; obtain ⟨hfz22_0, hfz22_1, hfz22_2, hfz22_3⟩ := fz4 BK1052; obtain ⟨Ao23, co23, eo23⟩ := Kd.R_slice HO1047.out; subst eo23; obtain ⟨Ao24, co24, eo24⟩ := Kd.R_slice HO1050.out; subst eo24))
      have n0_ : Aside0 (Kd.R Kd.string 9 ((((w18.setCell ⟨gb1052, 0, none⟩ (.slice Ao19 t1042.length co19)).setCell ⟨gb1052, 1, none⟩ (.slice Ao23 t1045.length co23)).setCell ⟨gb1052, 2, none⟩ (.slice Ao24 t1048.length co24)).setCell ⟨gb1052, 3, none⟩ (.int .i64 t1051)) w.heap.size (fun k_ => some k_ ≠ (.slice Ao24 t1048.length co24 : Value).ownBlock) (.slice Ao19 t1042.length co19) t1042) := ⟨by (with_reducible repeat (first | apply Kd.R_alloc | apply Kd.R_drewN | apply Kd.R_drew)); exact Kd.R_mono (Kd.R_far (p := ⟨gb1052, 3, none⟩) (Kd.R_far (p := ⟨gb1052, 2, none⟩) (Kd.R_far (p := ⟨gb1052, 1, none⟩) (Kd.R_far (p := ⟨gb1052, 0, none⟩) (Kd.R_types HO1044.out BK1052.out (by decide)) (fun _ hk => hk.2) (.slice Ao19 t1042.length co19)) (fun _ hk => hk.2) (.slice Ao23 t1045.length co23)) (fun _ hk => hk.2) (.slice Ao24 t1048.length co24)) (fun _ hk => hk.2) (.int .i64 t1051)) (fun _ hk => hk.1)⟩
      have n1_ : Aside0 (Kd.R k72 72 ((((w18.setCell ⟨gb1052, 0, none⟩ (.slice Ao19 t1042.length co19)).setCell ⟨gb1052, 1, none⟩ (.slice Ao23 t1045.length co23)).setCell ⟨gb1052, 2, none⟩ (.slice Ao24 t1048.length co24)).setCell ⟨gb1052, 3, none⟩ (.int .i64 t1051)) w.heap.size (fun _ => True) (.slice Ao23 t1045.length co23) t1045) := ⟨by (with_reducible repeat (first | apply Kd.R_alloc | apply Kd.R_drewN | apply Kd.R_drew)); exact Kd.R_mono (Kd.R_far (p := ⟨gb1052, 3, none⟩) (Kd.R_far (p := ⟨gb1052, 2, none⟩) (Kd.R_far (p := ⟨gb1052, 1, none⟩) (Kd.R_far (p := ⟨gb1052, 0, none⟩) (Kd.R_types HO1047.out BK1052.out (by decide)) (fun _ hk => hk.2) (.slice Ao19 t1042.length co19)) (fun _ hk => hk.2) (.slice Ao23 t1045.length co23)) (fun _ hk => hk.2) (.slice Ao24 t1048.length co24)) (fun _ hk => hk.2) (.int .i64 t1051)) (fun _ hk => trivial)⟩
      have n2_ : Aside0 (Kd.R Kd.string 9 ((((w18.setCell ⟨gb1052, 0, none⟩ (.slice Ao19 t1042.length co19)).setCell ⟨gb1052, 1, none⟩ (.slice Ao23 t1045.length co23)).setCell ⟨gb1052, 2, none⟩ (.slice Ao24 t1048.length co24)).setCell ⟨gb1052, 3, none⟩ (.int .i64 t1051)) w.heap.size (fun k_ => some k_ ≠ (.slice Ao19 t1042.length co19 : Value).ownBlock) (.slice Ao24 t1048.length co24) t1048) := ⟨by (with_reducible repeat (first | apply Kd.R_alloc | apply Kd.R_drewN | apply Kd.R_drew)); exact Kd.R_mono (Kd.R_far (p := ⟨gb1052, 3, none⟩) (Kd.R_far (p := ⟨gb1052, 2, none⟩) (Kd.R_far (p := ⟨gb1052, 1, none⟩) (Kd.R_far (p := ⟨gb1052, 0, none⟩) (Kd.R_types HO1050.out BK1052.out (by decide)) (fun _ hk => hk.2) (.slice Ao19 t1042.length co19)) (fun _ hk => hk.2) (.slice Ao23 t1045.length co23)) (fun _ hk => hk.2) (.slice Ao24 t1048.length co24)) (fun _ hk => hk.2) (.int .i64 t1051)) (fun _ hk => hk.1)⟩
      have n3_ : Aside0 (((((w18.setCell ⟨gb1052, 0, none⟩ (.slice Ao19 t1042.length co19)).setCell ⟨gb1052, 1, none⟩ (.slice Ao23 t1045.length co23)).setCell ⟨gb1052, 2, none⟩ (.slice Ao24 t1048.length co24)).setCell ⟨gb1052, 3, none⟩ (.int .i64 t1051)).heap[gb1039]? = some (.cells #[.slice A0_0 l0_0.length c0_0, .slice A0_1 l0_1.length c0_1, .slice A0_2 l0_2.length c0_2, .int .i64 a0_3] 44 (0, 0))) := ⟨bf BK1039 NB1039_1052⟩
      have n4_ : Aside0 (((((w18.setCell ⟨gb1052, 0, none⟩ (.slice Ao19 t1042.length co19)).setCell ⟨gb1052, 1, none⟩ (.slice Ao23 t1045.length co23)).setCell ⟨gb1052, 2, none⟩ (.slice Ao24 t1048.length co24)).setCell ⟨gb1052, 3, none⟩ (.int .i64 t1051)).heap[gb1040]? = some (.cells #[.slice none 0 0, .slice none 0 0, .slice none 0 0, .int .i64 0] 44 (0, 0))) := ⟨bf BK1040 NB1040_1052⟩
      have n5_ : Aside0 (((((w18.setCell ⟨gb1052, 0, none⟩ (.slice Ao19 t1042.length co19)).setCell ⟨gb1052, 1, none⟩ (.slice Ao23 t1045.length co23)).setCell ⟨gb1052, 2, none⟩ (.slice Ao24 t1048.length co24)).setCell ⟨gb1052, 3, none⟩ (.int .i64 t1051)).heap[gb1052]? = some (.cells #[.slice Ao19 t1042.length co19, .slice Ao23 t1045.length co23, .slice Ao24 t1048.length co24, .int .i64 t1051] 44 (0, 0))) := ⟨by (with_reducible repeat (first | refine blk_drewN ?_ _ | refine blk_drew ?_ | refine blk_alloc ?_ _)); refine blk_put (cs := #[.slice Ao19 t1042.length co19, .slice Ao23 t1045.length co23, .slice Ao24 t1048.length co24, .int .i64 0]) ?_ 3 _ rfl; (with_reducible repeat (first | refine blk_drewN ?_ _ | refine blk_drew ?_ | refine blk_alloc ?_ _)); refine blk_put (cs := #[.slice Ao19 t1042.length co19, .slice Ao23 t1045.length co23, .slice none 0 0, .int .i64 0]) ?_ 2 _ rfl; (with_reducible repeat (first | refine blk_drewN ?_ _ | refine blk_drew ?_ | refine blk_alloc ?_ _)); refine blk_put (cs := #[.slice Ao19 t1042.length co19, .slice none 0 0, .slice none 0 0, .int .i64 0]) ?_ 1 _ rfl; (with_reducible repeat (first | refine blk_drewN ?_ _ | refine blk_drew ?_ | refine blk_alloc ?_ _)); refine blk_put (cs := #[.slice none 0 0, .slice none 0 0, .slice none 0 0, .int .i64 0]) ?_ 0 _ rfl; (with_reducible repeat (first | refine blk_drewN ?_ _ | refine blk_drew ?_ | refine blk_alloc ?_ _)); exact BK1052.out⟩
      have n6_ : Aside0 (Below w.heap.size w ((((w18.setCell ⟨gb1052, 0, none⟩ (.slice Ao19 t1042.length co19)).setCell ⟨gb1052, 1, none⟩ (.slice Ao23 t1045.length co23)).setCell ⟨gb1052, 2, none⟩ (.slice Ao24 t1048.length co24)).setCell ⟨gb1052, 3, none⟩ (.int .i64 t1051))) := ⟨bs3 HB GE1039 GE1040 GE1052⟩
      (try clear HO1044)
      (try clear HO1047)
      (try clear HO1050)
      (try clear BK1039)
      (try clear BK1040)
      (try clear BK1052)
      (try clear HB)
      generalize ((((w18.setCell ⟨gb1052, 0, none⟩ (.slice Ao19 t1042.length co19)).setCell ⟨gb1052, 1, none⟩ (.slice Ao23 t1045.length co23)).setCell ⟨gb1052, 2, none⟩ (.slice Ao24 t1048.length co24)).setCell ⟨gb1052, 3, none⟩ (.int .i64 t1051)) = w25 at n0_ n1_ n2_ n3_ n4_ n5_ n6_ ⊢
      have HO1044 := n0_
      have HO1047 := n1_
      have HO1050 := n2_
      have BK1039 := n3_
      have BK1040 := n4_
      have BK1052 := n5_
      have HB := n6_
      clear n0_ n1_ n2_ n3_ n4_ n5_ n6_
      have n0_ := Aside0.mk (Kd.R_drew HO1044.out)
      have n1_ := Aside0.mk (Kd.R_drew HO1047.out)
      have n2_ := Aside0.mk (Kd.R_drew HO1050.out)
      have n3_ := Aside0.mk (blk_drew BK1039.out)
      have n4_ := Aside0.mk (blk_drew BK1040.out)
      have n5_ := Aside0.mk (blk_drew BK1052.out)
      have n6_ := Aside0.mk (below_drew1 HB.out)
      clear HO1044
      clear HO1047
      clear HO1050
      clear BK1039
      clear BK1040
      clear BK1052
      clear HB
      have HO1044 := n0_
      have HO1047 := n1_
      have HO1050 := n2_
      have BK1039 := n3_
      have BK1040 := n4_
      have BK1052 := n5_
      have HB := n6_
      clear n0_ n1_ n2_ n3_ n4_ n5_ n6_
      obtain ⟨i027, hi027, _, hsz27, _⟩ := info_parts info9
      obtain ⟨hcut27, hA27, hC27⟩ := print_take_of (P := Try.prog) Value.string (⟨#[]⟩ : ByteArray) 34 9 .i64 Try.underlying34 hi027 hsz27 A0_2 c0_2 l0_2 a0_3 (of_decide_eq_true (by first | (with_reducible assumption) | assumption)) (of_decide_eq_true (by first | (with_reducible assumption) | assumption)) HC0_2.out
      have HR1053 := Aside0.mk (Kd.C_of_reads (h1 := fun _ => rfl) (hA27 _ (Kd.reads_of_C HR0_2.out)))
      have HC1053 := Aside0.mk hC27
      clear hA27 hC27 hi027 hsz27
      refine start_ (n := 13) (S := fun w' => w'.cell? ⟨gb1052, 0, none⟩ = some (.slice Ao19 t1042.length co19) ∧ w'.cell? ⟨gb1052, 1, none⟩ = some (.slice Ao23 t1045.length co23) ∧ w'.cell? ⟨gb1052, 2, none⟩ = some (.slice Ao24 t1048.length co24) ∧ w'.cell? ⟨gb1052, 3, none⟩ = some (.int .i64 t1051) ∧ w'.cell? ⟨gb1039, 0, none⟩ = some (.slice A0_0 l0_0.length c0_0) ∧ w'.cell? ⟨gb1039, 1, none⟩ = some (.slice A0_1 l0_1.length c0_1) ∧ w'.cell? ⟨gb1039, 2, none⟩ = some (.slice A0_2 l0_2.length c0_2) ∧ w'.cell? ⟨gb1039, 3, none⟩ = some (.int .i64 a0_3)) (ds := [12]) #[false, false, false, false, false, false, false, false, false, false, false, false, false] (by kernel_rfl) rfl rfl ⟨(blk_cell BK1052.out 0).trans rfl, (blk_cell BK1052.out 1).trans rfl, (blk_cell BK1052.out 2).trans rfl, (blk_cell BK1052.out 3).trans rfl, (blk_cell BK1039.out 0).trans rfl, (blk_cell BK1039.out 1).trans rfl, (blk_cell BK1039.out 2).trans rfl, (blk_cell BK1039.out 3).trans rfl⟩ (fun hHeld => ?_); refine with_tabW impl_WriteBack.tab4 impl_WriteBack.bits4 (fun HT_ HW_ => ?_)
      generalize w25.drew = w26 at HO1044 HO1047 HO1050 BK1039 BK1040 BK1052 HB HR1053 hHeld ⊢
      refine pureS 0 11 HT_.out ?_
      refine pureS 1 12 HT_.out ?_
      refine pureS 3 14 HT_.out ?_
      refine pureS 5 16 HT_.out ?_
      refine takeS 2 13 HT_.out HW_.out hHeld (hr := by rintro w' ⟨s0, s1, s2, s3, s4, s5, s6, s7⟩; go_simp; with_reducible rfl) (h := ?_)
      refine takeS 4 15 HT_.out HW_.out hHeld (hr := by rintro w' ⟨s0, s1, s2, s3, s4, s5, s6, s7⟩; go_simp; with_reducible rfl) (h := ?_)
      refine takeS 6 17 HT_.out HW_.out hHeld (hr := by rintro w' ⟨s0, s1, s2, s3, s4, s5, s6, s7⟩; go_simp; with_reducible rfl) (h := ?_)
      refine pureS 7 18 HT_.out ?_
      refine one_ (i := 8) (N := some 19) #[true, true, true, true, true, true, true, true, true, false, false, false, false] rfl rfl (one_of HT_.out (by kernel_rfl)) (by decide) (fun K hK => ?_)
      refine goes_ Try.func78 (by kernel_rfl) rfl #[.slice A0_2 (l0_2.take (a0_3 : Int).toNat).length c0_2] (by rfl) rfl rfl (by (try simp only [List.map_toArray, List.map_cons, List.map_nil]); first | done | (rw [show (l0_2.take (a0_3 : Int).toNat).length = a0_3.toNat from (by rw [List.length_take]; have h_ : (a0_3 : Int) ≤ (l0_2.length : Int) := of_decide_eq_true (by first | (with_reducible assumption) | assumption); omega)] <;> rfl) | rfl | (simp only [List.length_drop, List.length_take]; rfl)) ?_
      with_reducible refine (impl_writesOf.calls k _ _ (l0_2.take (a0_3 : Int).toNat) t1054 _ ?side1 ?side2 A7.out).mono ?_
      (case side1 => exact cb HR1053 HB)
      (case side2 => exact HC1053.out)
      rintro e w28 ⟨v1055, rfl, ho0, hb⟩
      refine ⟨_, rfl, ?_⟩
      have n0_ := Aside0.mk (Kd.R_below (rr HO1044.out) hb)
      have n1_ := Aside0.mk (Kd.R_elder' (rr HO1047.out) (Kd.R_base ho0) hb)
      have n2_ := Aside0.mk (Kd.R_below (rr HO1050.out) hb)
      have n3_ := Aside0.mk (Kd.R_lower (Kd.R_new' ho0 (Kd.R_lt (rr HO1047.out))) (below_size (bs3 HB GE1039 GE1040 GE1052)))
      have n4_ := Aside0.mk (bb BK1039 hb)
      have n5_ := Aside0.mk (bb BK1040 hb)
      have n6_ := Aside0.mk (bb BK1052 hb)
      have n7_ := Aside0.mk (below_step (bs3 HB GE1039 GE1040 GE1052) hb)
      clear HO1044
      clear HO1047
      clear HO1050
      clear BK1039
      clear BK1040
      clear BK1052
      clear HB
      have HO1044 := n0_
      have HO1047 := n1_
      have HO1050 := n2_
      have HO1056 := n3_
      have BK1039 := n4_
      have BK1040 := n5_
      have BK1052 := n6_
      have HB := n7_
      clear n0_ n1_ n2_ n3_ n4_ n5_ n6_ n7_
      (try clear hb)
      (try clear hb2)
      (try clear hk)
      (try clear hi)
      (try clear ho0)
      obtain ⟨Ao30, co30, eo30⟩ := Kd.R_slice HO1056.out
      (first | subst eo30 | (injection eo30 with f1_ f2_ f3_; have f4_ := f1_.symm; have f5_ := f3_.symm; clear f1_ f2_ f3_; subst f4_; subst f5_))
      refine hK.out _ _ ⟨(blk_cell BK1052.out 0).trans rfl, (blk_cell BK1052.out 1).trans rfl, (blk_cell BK1052.out 2).trans rfl, (blk_cell BK1052.out 3).trans rfl, (blk_cell BK1039.out 0).trans rfl, (blk_cell BK1039.out 1).trans rfl, (blk_cell BK1039.out 2).trans rfl, (blk_cell BK1039.out 3).trans rfl⟩ (fun hHeld => ?_)
      clear hK K
      refine norm_ (a' := ?_) ?_ ?_
      rotate_left
      ·
       show Act.put _ (some 19) _ = _
       simp only [Act.put, List.setIfInBounds_toArray, List.set_cons_zero, List.set_cons_succ, i64_w, i32_w]
       rfl
      refine one_ (i := 9) (N := some 20) #[true, true, true, true, true, true, true, true, true, true, false, false, false] rfl rfl (one_of HT_.out (by kernel_rfl)) (by decide) (fun K hK => ?_)
      refine Kd.R_append_rows_step k72 (w0 := w) w.heap.size (by rfl) (.tmp 13) (.tmp 19) 26 72 (.agg #[(.int .i64 0), (.string ⟨#[]⟩)]) 24 rfl Try.underlying26 info72 rfl (by decide) (by omega) (.slice Ao23 t1045.length co23) t1045 t1054 _ _ _ (fun k_ => some k_ ≠ (.slice Ao30 t1054.length co30 : Value).ownBlock) (fun _ => False) rfl rfl ?aO ?aR (fun _ _ h => h) (fun _ h => h.elim) ?aF ?aB ?aS ?aL ?_
      (case aR => exact rc0 HO1056)
      (case aB => exact (bs3 HB GE1039 GE1040 GE1052))
      (case aF => exact (fun k_ hk => Kd.fresh' (Kd.R_lt (rr HO1056.out)) k_ hk))
      (case aO => exact (by (with_reducible repeat (first | apply Kd.R_alloc | apply Kd.R_drewN | apply Kd.R_drew)); exact Kd.R_mono HO1047.out (fun _ hk => hk.2)))
      (case aS => exact (below_size (bs3 HB GE1039 GE1040 GE1052)))
      (case aL => have := LMc8.out; omega)
      intro v1058 w29 ho hb hg hat
      rw [← Ny1057.out] at ho
      have n0_ := Aside0.mk (blk_grown (bk BK1039) hg (Kd.R_ne HO1047.out BK1039.out (by decide)))
      have n1_ := Aside0.mk (blk_grown (bk BK1040) hg (Kd.R_ne HO1047.out BK1040.out (by decide)))
      have n2_ := Aside0.mk (Kd.R_over' (rr HO1044.out) (Kd.R_typed (rr HO1047.out)) (by decide) hg)
      have n3_ := Aside0.mk (Kd.R_over' (rr HO1050.out) (Kd.R_typed (rr HO1047.out)) (by decide) hg)
      have n4_ := Aside0.mk (blk_grown (bk BK1052) hg (Kd.R_ne HO1047.out BK1052.out (by decide)))
      have n5_ := Aside0.mk (Kd.R_after (ok := (fun _ => True)) (rr HO1056.out) hg hat)
      have n6_ := Aside0.mk (hb)
      have n7_ := Aside0.mk (ho)
      clear BK1039
      clear BK1040
      clear HO1044
      clear HO1050
      clear BK1052
      clear HO1056
      clear HB
      clear HO1047
      have BK1039 := n0_
      have BK1040 := n1_
      have HO1044 := n2_
      have HO1050 := n3_
      have BK1052 := n4_
      have HO1056 := n5_
      have HB := n6_
      have HO1059 := n7_
      clear n0_ n1_ n2_ n3_ n4_ n5_ n6_ n7_
      clear ho hb hg hat
      obtain ⟨Ao31, co31, eo31⟩ := Kd.R_slice HO1059.out
      (first | subst eo31 | (injection eo31 with f1_ f2_ f3_; have f4_ := f1_.symm; have f5_ := f3_.symm; clear f1_ f2_ f3_; subst f4_; subst f5_))
      refine hK.out _ _ ⟨(blk_cell BK1052.out 0).trans rfl, (blk_cell BK1052.out 1).trans rfl, (blk_cell BK1052.out 2).trans rfl, (blk_cell BK1052.out 3).trans rfl, (blk_cell BK1039.out 0).trans rfl, (blk_cell BK1039.out 1).trans rfl, (blk_cell BK1039.out 2).trans rfl, (blk_cell BK1039.out 3).trans rfl⟩ (fun hHeld => ?_)
      clear hK K
      refine norm_ (a' := ?_) ?_ ?_
      rotate_left
      ·
       show Act.put _ (some 20) _ = _
       simp only [Act.put, List.setIfInBounds_toArray, List.set_cons_zero, List.set_cons_succ, i64_w, i32_w]
       rfl
      refine pureS 10 21 HT_.out ?_
      refine pureS 11 22 HT_.out ?_
      refine last_ (i := 12) (N := none) #[true, true, true, true, true, true, true, true, true, true, true, true, true] rfl rfl (one_of HT_.out (by kernel_rfl)) (by decide) (fun K hK => ?_)
      have hs32 : w29.cell? ⟨gb1052, 1, none⟩ = some (.slice Ao23 t1045.length co23) := (blk_cell BK1052.out 1).trans rfl
      have hfs32 := blk_frozen BK1052.out 1
      have hns32_0 := NB1039_1052.out
      have hns32_1 := NB1040_1052.out
      have hms32_0 := NB1052_1039.out
      have hms32_1 := NB1052_1040.out
      refine skip_ (w1 := ?_) (by rfl) rfl ?_ ?_
      rotate_left
      ·
       go_simp
       rfl
      refine hK.out _ _ ?_
      clear hK K
      refine done_ (done_of HT_.out (by kernel_rfl)) ?_
      obtain ⟨hcz33_0, hcz33_1, hcz33_2, hcz33_3⟩ := cz4 BK1052
      obtain ⟨hfz33_0, hfz33_1, hfz33_2, hfz33_3⟩ := fz4 BK1052
      try go_wp2_with (first | ((with_reducible refine gate_callee (f := 76) rfl ?_); refine gL (some 25) rfl rfl Try.func76 (by kernel_rfl) rfl #[.agg #[.slice Ao19 t1042.length co19, .slice Ao31 y1057.length co31]] rfl ?_; (with_reducible refine (impl_GoodDevice.calls k _ _ t1042 _ _ y1057 true _ ?side1 ?side2 ?side3 ?side4 A9.out).mono ?_); (case side1 => exact rc HO1044 BK1052); (case side2 => exact (Kd.R_reads' HO1044.out).2.1); (case side3 => exact rc HO1059 BK1052); (case side4 => exact (Kd.R_reads' HO1059.out).2.1); rintro e w34 ⟨rfl, hb⟩; refine ⟨_, rfl, ?_⟩; replace HO1044 := nf HO1044 BK1052 hb; replace HO1050 := nf HO1050 BK1052 hb; replace HO1056 := nf HO1056 BK1052 hb; replace HO1059 := nf HO1059 BK1052 hb; replace BK1039 := Aside0.mk (blk_below (bf BK1039 NB1039_1052) hb); replace BK1040 := Aside0.mk (blk_below (bf BK1040 NB1040_1052) hb); replace BK1052 := Aside0.mk (blk_below (g := gb1052) (o := .cells #[.slice Ao19 t1042.length co19, .slice Ao31 y1057.length co31, .slice Ao24 t1048.length co24, .int .i64 t1051] 44 (0, 0)) (by (with_reducible repeat (first | refine blk_drewN ?_ _ | refine blk_drew ?_ | refine blk_alloc ?_ _)); refine blk_put (cs := #[.slice Ao19 t1042.length co19, .slice Ao23 t1045.length co23, .slice Ao24 t1048.length co24, .int .i64 t1051]) ?_ 1 _ rfl; (with_reducible repeat (first | refine blk_drewN ?_ _ | refine blk_drew ?_ | refine blk_alloc ?_ _)); exact BK1052.out) hb); replace HB := Aside0.mk (below_step (bs3 HB GE1039 GE1040 GE1052) hb); (try clear hb); (try clear hb2); (try clear hk); (try clear hi); obtain ⟨hcz35_0, hcz35_1, hcz35_2, hcz35_3⟩ := cz4 BK1052; obtain ⟨hfz35_0, hfz35_1, hfz35_2, hfz35_3⟩ := fz4 BK1052; obtain ⟨hcz36_0, hcz36_1, hcz36_2, hcz36_3⟩ := cz4 BK1040; obtain ⟨hfz36_0, hfz36_1, hfz36_2, hfz36_3⟩ := fz4 BK1040))
      refine bodyPost_ret (results_ct rfl _ _ gb1040 44 #[.slice Ao19 t1042.length co19, .slice Ao31 y1057.length co31, .slice Ao24 t1048.length co24, .int .i64 t1051] (0, 0) _ rfl (by (with_reducible repeat (first | refine blk_drewN ?_ _ | refine blk_drew ?_ | refine blk_alloc ?_ _)); refine blk_put (cs := #[.slice Ao19 t1042.length co19, .slice Ao31 y1057.length co31, .slice Ao24 t1048.length co24, .int .i64 0]) ?_ 3 _ rfl; (with_reducible repeat (first | refine blk_drewN ?_ _ | refine blk_drew ?_ | refine blk_alloc ?_ _)); refine blk_put (cs := #[.slice Ao19 t1042.length co19, .slice Ao31 y1057.length co31, .slice none 0 0, .int .i64 0]) ?_ 2 _ rfl; (with_reducible repeat (first | refine blk_drewN ?_ _ | refine blk_drew ?_ | refine blk_alloc ?_ _)); refine blk_put (cs := #[.slice Ao19 t1042.length co19, .slice none 0 0, .slice none 0 0, .int .i64 0]) ?_ 1 _ rfl; (with_reducible repeat (first | refine blk_drewN ?_ _ | refine blk_drew ?_ | refine blk_alloc ?_ _)); refine blk_put (cs := #[.slice none 0 0, .slice none 0 0, .slice none 0 0, .int .i64 0]) ?_ 0 _ rfl; (with_reducible repeat (first | refine blk_drewN ?_ _ | refine blk_drew ?_ | refine blk_alloc ?_ _)); exact BK1040.out) Try.underlying44 rfl (by kernel_rfl)) rfl ?_
      exact ⟨_, _, _, by first | rfl | (simp [errW_none, errW_some] <;> rfl) | (simp [*, errW_none, errW_some] <;> rfl), by (with_reducible repeat (first | apply Kd.R_alloc | apply Kd.R_drewN | apply Kd.R_drew)); exact Kd.R_mono (Kd.R_far (p := ⟨gb1040, 3, none⟩) (Kd.R_far (p := ⟨gb1040, 2, none⟩) (Kd.R_far (p := ⟨gb1040, 1, none⟩) (Kd.R_far (p := ⟨gb1040, 0, none⟩) (Kd.R_types HO1044.out BK1040.out (by decide)) (fun _ hk => hk.2) (.slice Ao19 t1042.length co19)) (fun _ hk => hk.2) (.slice Ao31 y1057.length co31)) (fun _ hk => hk.2) (.slice Ao24 t1048.length co24)) (fun _ hk => hk.2) (.int .i64 t1051)) (fun _ hk => hk.1), by (with_reducible repeat (first | apply Kd.R_alloc | apply Kd.R_drewN | apply Kd.R_drew)); exact Kd.R_mono (Kd.R_far (p := ⟨gb1040, 3, none⟩) (Kd.R_far (p := ⟨gb1040, 2, none⟩) (Kd.R_far (p := ⟨gb1040, 1, none⟩) (Kd.R_far (p := ⟨gb1040, 0, none⟩) (Kd.R_types HO1059.out BK1040.out (by decide)) (fun _ hk => hk.2) (.slice Ao19 t1042.length co19)) (fun _ hk => hk.2) (.slice Ao31 y1057.length co31)) (fun _ hk => hk.2) (.slice Ao24 t1048.length co24)) (fun _ hk => hk.2) (.int .i64 t1051)) (fun _ hk => trivial), by (with_reducible repeat (first | apply Kd.R_alloc | apply Kd.R_drewN | apply Kd.R_drew)); exact Kd.R_mono (Kd.R_far (p := ⟨gb1040, 3, none⟩) (Kd.R_far (p := ⟨gb1040, 2, none⟩) (Kd.R_far (p := ⟨gb1040, 1, none⟩) (Kd.R_far (p := ⟨gb1040, 0, none⟩) (Kd.R_types HO1050.out BK1040.out (by decide)) (fun _ hk => hk.2) (.slice Ao19 t1042.length co19)) (fun _ hk => hk.2) (.slice Ao31 y1057.length co31)) (fun _ hk => hk.2) (.slice Ao24 t1048.length co24)) (fun _ hk => hk.2) (.int .i64 t1051)) (fun _ hk => hk.1), bs3 HB GE1039 GE1040 GE1052⟩
     ·
      replace c10 := Bool.eq_false_iff.mpr c10
      subst c10
      rw [if_neg (show ¬ (false = true) by decide)] at H
      simp only [Option.some.injEq, Prod.mk.injEq] at H
      obtain ⟨rfl, rfl, rfl, rfl, rfl⟩ := H
      go_enter Try.func46, Try.ntmps46
      try go_wp2_with (first | ((with_reducible refine gate_dst (N := 1) rfl ?_); refine box_event ?hg (N := 1) ?hd (cs := #[.slice A0_0 l0_0.length c0_0, .slice A0_1 l0_1.length c0_1, .slice A0_2 l0_2.length c0_2, .int .i64 a0_3]) (t := 44) ?hr ?_; (case hd => rfl); (case hg => rfl); (case hr => first | (go_simp; done) | (go_simp; rfl)); intro gb1039 hg w37 hbox hb; have BK1039 := Aside0.mk (hbox); have GW1039 := Aside0.mk ((by rw [hg]; exact (below_size (bs HB)) : w.heap.size ≤ gb1039)); have GE1039 := Aside0.mk ((by rw [hg]; exact (below_size (bs HB)) : w.heap.size ≤ gb1039)); replace HB := Aside0.mk (below_step (bs HB) hb); clear hb hbox hg) | ((with_reducible refine gate_dst (N := 2) rfl ?_); refine box_event ?hg (N := 2) ?hd (cs := #[.slice none 0 0, .slice none 0 0, .slice none 0 0, .int .i64 0]) (t := 44) ?hr ?_; (case hd => rfl); (case hg => rfl); (case hr => first | (go_simp; done) | (go_simp; rfl)); intro gb1040 hg w38 hbox hb; have BK1040 := Aside0.mk (hbox); have GW1040 := Aside0.mk ((by rw [hg]; exact (below_size (bs1 HB GE1039)) : w.heap.size ≤ gb1040)); have GE1040 := Aside0.mk ((by rw [hg]; exact (below_size (bs1 HB GE1039)) : w.heap.size ≤ gb1040)); replace HB := Aside0.mk (below_step (bs1 HB GE1039) hb); have NB1039_1040 := Aside0.mk ((bn BK1039 hg : gb1039 ≠ gb1040)); have NB1040_1039 := Aside0.mk ((bm BK1039 hg : gb1040 ≠ gb1039)); replace BK1039 := nb BK1039 hb; clear hb hbox hg; have hnb39 := NB1039_1040.out; have hnc39 := NB1040_1039.out; obtain ⟨hcz40_0, hcz40_1, hcz40_2, hcz40_3⟩ := cz4 BK1039; obtain ⟨hfz40_0, hfz40_1, hfz40_2, hfz40_3⟩ := fz4 BK1039) | ((with_reducible refine gate_callee (f := 28) rfl ?_); refine gL (some 6) rfl rfl Try.func28 (by kernel_rfl) rfl #[.agg #[.slice A0_0 l0_0.length c0_0, .slice A0_1 l0_1.length c0_1, .slice A0_2 l0_2.length c0_2, .int .i64 a0_3]] rfl ?_; (with_reducible refine (impl_GoodStore.calls k _ _ l0_0 _ _ l0_1 _ _ l0_2 a0_3 true _ ?side1 ?side2 ?side3 ?side4 ?side5 ?side6 A2.out).mono ?_); (case side1 => exact cb HR0_0 HB); (case side2 => exact HC0_0.out); (case side3 => exact cb HR0_1 HB); (case side4 => exact HC0_1.out); (case side5 => exact cb HR0_2 HB); (case side6 => exact HC0_2.out); rintro e w41 ⟨rfl, hb⟩; refine ⟨_, rfl, ?_⟩; replace BK1039 := nb BK1039 hb; replace BK1040 := nb BK1040 hb; replace HB := Aside0.mk (below_step (bs2 HB GE1039 GE1040) hb); (try clear hb); (try clear hb2); (try clear hk); (try clear hi); obtain ⟨hcz42_0, hcz42_1, hcz42_2, hcz42_3⟩ := cz4 BK1039; obtain ⟨hfz42_0, hfz42_1, hfz42_2, hfz42_3⟩ := fz4 BK1039) | ((with_reducible refine gate_callee (f := 92) rfl ?_); refine gL (some 10) rfl rfl Try.func92 (by kernel_rfl) rfl #[.agg #[.slice A0_0 l0_0.length c0_0, .slice A0_1 l0_1.length c0_1, .slice A0_2 l0_2.length c0_2, .int .i64 a0_3]] rfl ?_; (with_reducible refine (impl_ownStore.calls _ _ l0_0 _ _ l0_1 _ _ l0_2 a0_3 t1042 t1045 t1048 t1051 _ ?side1 ?side2 ?side3 ?side4 ?side5 ?side6 A4.out).mono ?_); (case side1 => exact cb HR0_0 HB); (case side2 => exact HC0_0.out); (case side3 => exact cb HR0_1 HB); (case side4 => exact HC0_1.out); (case side5 => exact cb HR0_2 HB); (case side6 => exact HC0_2.out); rintro e w43 ⟨v1043, v1046, v1049, rfl, ho0, ho1, ho2, hb⟩; refine ⟨_, rfl, ?_⟩; have HO1044 := Aside0.mk (Kd.R_lower ho0 (below_size (bs2 HB GE1039 GE1040))); have HO1047 := Aside0.mk (Kd.R_lower ho1 (below_size (bs2 HB GE1039 GE1040))); have HO1050 := Aside0.mk (Kd.R_lower ho2 (below_size (bs2 HB GE1039 GE1040))); replace BK1039 := nb BK1039 hb; replace BK1040 := nb BK1040 hb; replace HB := Aside0.mk (below_step (bs2 HB GE1039 GE1040) hb); (try clear hb); (try clear hb2); (try clear hk); (try clear hi); (try clear ho0); (try clear ho1); (try clear ho2)) | ((with_reducible refine gate_dst (N := 4) rfl ?_); refine box_event ?hg (N := 4) ?hd (cs := #[.slice none 0 0, .slice none 0 0, .slice none 0 0, .int .i64 0]) (t := 44) ?hr ?_; (case hd => rfl); (case hg => rfl); (case hr => first | (go_simp; done) | (go_simp; rfl)); intro gb1052 hg w44 hbox hb; replace HO1044 := nr HO1044 hb; replace HO1047 := nr HO1047 hb; replace HO1050 := nr HO1050 hb; have BK1052 := Aside0.mk (hbox); have GW1052 := Aside0.mk ((by rw [hg]; exact (below_size (bs2 HB GE1039 GE1040)) : w.heap.size ≤ gb1052)); have GE1052 := Aside0.mk ((by rw [hg]; exact (below_size (bs2 HB GE1039 GE1040)) : w.heap.size ≤ gb1052)); replace HB := Aside0.mk (below_step (bs2 HB GE1039 GE1040) hb); have NB1039_1052 := Aside0.mk ((bn BK1039 hg : gb1039 ≠ gb1052)); have NB1052_1039 := Aside0.mk ((bm BK1039 hg : gb1052 ≠ gb1039)); replace BK1039 := nb BK1039 hb; have NB1040_1052 := Aside0.mk ((bn BK1040 hg : gb1040 ≠ gb1052)); have NB1052_1040 := Aside0.mk ((bm BK1040 hg : gb1052 ≠ gb1040)); replace BK1040 := nb BK1040 hb; clear hb hbox hg; obtain ⟨Ao45, co45, eo45⟩ := Kd.R_slice HO1044.out; subst eo45; have hnb46 := NB1052_1039.out; have hnc46 := NB1039_1052.out; have hnb47 := NB1052_1040.out; have hnc47 := NB1040_1052.out; obtain ⟨hcz48_0, hcz48_1, hcz48_2, hcz48_3⟩ := cz4 BK1052; obtain ⟨hfz48_0, hfz48_1, hfz48_2, hfz48_3⟩ := fz4 BK1052; obtain ⟨Ao49, co49, eo49⟩ := Kd.R_slice HO1047.out; subst eo49; obtain ⟨Ao50, co50, eo50⟩ := Kd.R_slice HO1050.out; subst eo50))
      have n0_ : Aside0 (Kd.R Kd.string 9 ((((w44.setCell ⟨gb1052, 0, none⟩ (.slice Ao45 t1042.length co45)).setCell ⟨gb1052, 1, none⟩ (.slice Ao49 t1045.length co49)).setCell ⟨gb1052, 2, none⟩ (.slice Ao50 t1048.length co50)).setCell ⟨gb1052, 3, none⟩ (.int .i64 t1051)) w.heap.size (fun k_ => some k_ ≠ (.slice Ao50 t1048.length co50 : Value).ownBlock) (.slice Ao45 t1042.length co45) t1042) := ⟨by (with_reducible repeat (first | apply Kd.R_alloc | apply Kd.R_drewN | apply Kd.R_drew)); exact Kd.R_mono (Kd.R_far (p := ⟨gb1052, 3, none⟩) (Kd.R_far (p := ⟨gb1052, 2, none⟩) (Kd.R_far (p := ⟨gb1052, 1, none⟩) (Kd.R_far (p := ⟨gb1052, 0, none⟩) (Kd.R_types HO1044.out BK1052.out (by decide)) (fun _ hk => hk.2) (.slice Ao45 t1042.length co45)) (fun _ hk => hk.2) (.slice Ao49 t1045.length co49)) (fun _ hk => hk.2) (.slice Ao50 t1048.length co50)) (fun _ hk => hk.2) (.int .i64 t1051)) (fun _ hk => hk.1)⟩
      have n1_ : Aside0 (Kd.R k72 72 ((((w44.setCell ⟨gb1052, 0, none⟩ (.slice Ao45 t1042.length co45)).setCell ⟨gb1052, 1, none⟩ (.slice Ao49 t1045.length co49)).setCell ⟨gb1052, 2, none⟩ (.slice Ao50 t1048.length co50)).setCell ⟨gb1052, 3, none⟩ (.int .i64 t1051)) w.heap.size (fun _ => True) (.slice Ao49 t1045.length co49) t1045) := ⟨by (with_reducible repeat (first | apply Kd.R_alloc | apply Kd.R_drewN | apply Kd.R_drew)); exact Kd.R_mono (Kd.R_far (p := ⟨gb1052, 3, none⟩) (Kd.R_far (p := ⟨gb1052, 2, none⟩) (Kd.R_far (p := ⟨gb1052, 1, none⟩) (Kd.R_far (p := ⟨gb1052, 0, none⟩) (Kd.R_types HO1047.out BK1052.out (by decide)) (fun _ hk => hk.2) (.slice Ao45 t1042.length co45)) (fun _ hk => hk.2) (.slice Ao49 t1045.length co49)) (fun _ hk => hk.2) (.slice Ao50 t1048.length co50)) (fun _ hk => hk.2) (.int .i64 t1051)) (fun _ hk => trivial)⟩
      have n2_ : Aside0 (Kd.R Kd.string 9 ((((w44.setCell ⟨gb1052, 0, none⟩ (.slice Ao45 t1042.length co45)).setCell ⟨gb1052, 1, none⟩ (.slice Ao49 t1045.length co49)).setCell ⟨gb1052, 2, none⟩ (.slice Ao50 t1048.length co50)).setCell ⟨gb1052, 3, none⟩ (.int .i64 t1051)) w.heap.size (fun k_ => some k_ ≠ (.slice Ao45 t1042.length co45 : Value).ownBlock) (.slice Ao50 t1048.length co50) t1048) := ⟨by (with_reducible repeat (first | apply Kd.R_alloc | apply Kd.R_drewN | apply Kd.R_drew)); exact Kd.R_mono (Kd.R_far (p := ⟨gb1052, 3, none⟩) (Kd.R_far (p := ⟨gb1052, 2, none⟩) (Kd.R_far (p := ⟨gb1052, 1, none⟩) (Kd.R_far (p := ⟨gb1052, 0, none⟩) (Kd.R_types HO1050.out BK1052.out (by decide)) (fun _ hk => hk.2) (.slice Ao45 t1042.length co45)) (fun _ hk => hk.2) (.slice Ao49 t1045.length co49)) (fun _ hk => hk.2) (.slice Ao50 t1048.length co50)) (fun _ hk => hk.2) (.int .i64 t1051)) (fun _ hk => hk.1)⟩
      have n3_ : Aside0 (((((w44.setCell ⟨gb1052, 0, none⟩ (.slice Ao45 t1042.length co45)).setCell ⟨gb1052, 1, none⟩ (.slice Ao49 t1045.length co49)).setCell ⟨gb1052, 2, none⟩ (.slice Ao50 t1048.length co50)).setCell ⟨gb1052, 3, none⟩ (.int .i64 t1051)).heap[gb1039]? = some (.cells #[.slice A0_0 l0_0.length c0_0, .slice A0_1 l0_1.length c0_1, .slice A0_2 l0_2.length c0_2, .int .i64 a0_3] 44 (0, 0))) := ⟨bf BK1039 NB1039_1052⟩
      have n4_ : Aside0 (((((w44.setCell ⟨gb1052, 0, none⟩ (.slice Ao45 t1042.length co45)).setCell ⟨gb1052, 1, none⟩ (.slice Ao49 t1045.length co49)).setCell ⟨gb1052, 2, none⟩ (.slice Ao50 t1048.length co50)).setCell ⟨gb1052, 3, none⟩ (.int .i64 t1051)).heap[gb1040]? = some (.cells #[.slice none 0 0, .slice none 0 0, .slice none 0 0, .int .i64 0] 44 (0, 0))) := ⟨bf BK1040 NB1040_1052⟩
      have n5_ : Aside0 (((((w44.setCell ⟨gb1052, 0, none⟩ (.slice Ao45 t1042.length co45)).setCell ⟨gb1052, 1, none⟩ (.slice Ao49 t1045.length co49)).setCell ⟨gb1052, 2, none⟩ (.slice Ao50 t1048.length co50)).setCell ⟨gb1052, 3, none⟩ (.int .i64 t1051)).heap[gb1052]? = some (.cells #[.slice Ao45 t1042.length co45, .slice Ao49 t1045.length co49, .slice Ao50 t1048.length co50, .int .i64 t1051] 44 (0, 0))) := ⟨by (with_reducible repeat (first | refine blk_drewN ?_ _ | refine blk_drew ?_ | refine blk_alloc ?_ _)); refine blk_put (cs := #[.slice Ao45 t1042.length co45, .slice Ao49 t1045.length co49, .slice Ao50 t1048.length co50, .int .i64 0]) ?_ 3 _ rfl; (with_reducible repeat (first | refine blk_drewN ?_ _ | refine blk_drew ?_ | refine blk_alloc ?_ _)); refine blk_put (cs := #[.slice Ao45 t1042.length co45, .slice Ao49 t1045.length co49, .slice none 0 0, .int .i64 0]) ?_ 2 _ rfl; (with_reducible repeat (first | refine blk_drewN ?_ _ | refine blk_drew ?_ | refine blk_alloc ?_ _)); refine blk_put (cs := #[.slice Ao45 t1042.length co45, .slice none 0 0, .slice none 0 0, .int .i64 0]) ?_ 1 _ rfl; (with_reducible repeat (first | refine blk_drewN ?_ _ | refine blk_drew ?_ | refine blk_alloc ?_ _)); refine blk_put (cs := #[.slice none 0 0, .slice none 0 0, .slice none 0 0, .int .i64 0]) ?_ 0 _ rfl; (with_reducible repeat (first | refine blk_drewN ?_ _ | refine blk_drew ?_ | refine blk_alloc ?_ _)); exact BK1052.out⟩
      have n6_ : Aside0 (Below w.heap.size w ((((w44.setCell ⟨gb1052, 0, none⟩ (.slice Ao45 t1042.length co45)).setCell ⟨gb1052, 1, none⟩ (.slice Ao49 t1045.length co49)).setCell ⟨gb1052, 2, none⟩ (.slice Ao50 t1048.length co50)).setCell ⟨gb1052, 3, none⟩ (.int .i64 t1051))) := ⟨bs3 HB GE1039 GE1040 GE1052⟩
      (try clear HO1044)
      (try clear HO1047)
      (try clear HO1050)
      (try clear BK1039)
      (try clear BK1040)
      (try clear BK1052)
      (try clear HB)
      generalize ((((w44.setCell ⟨gb1052, 0, none⟩ (.slice Ao45 t1042.length co45)).setCell ⟨gb1052, 1, none⟩ (.slice Ao49 t1045.length co49)).setCell ⟨gb1052, 2, none⟩ (.slice Ao50 t1048.length co50)).setCell ⟨gb1052, 3, none⟩ (.int .i64 t1051)) = w51 at n0_ n1_ n2_ n3_ n4_ n5_ n6_ ⊢
      have HO1044 := n0_
      have HO1047 := n1_
      have HO1050 := n2_
      have BK1039 := n3_
      have BK1040 := n4_
      have BK1052 := n5_
      have HB := n6_
      clear n0_ n1_ n2_ n3_ n4_ n5_ n6_
      have n0_ := Aside0.mk (Kd.R_drew HO1044.out)
      have n1_ := Aside0.mk (Kd.R_drew HO1047.out)
      have n2_ := Aside0.mk (Kd.R_drew HO1050.out)
      have n3_ := Aside0.mk (blk_drew BK1039.out)
      have n4_ := Aside0.mk (blk_drew BK1040.out)
      have n5_ := Aside0.mk (blk_drew BK1052.out)
      have n6_ := Aside0.mk (below_drew1 HB.out)
      clear HO1044
      clear HO1047
      clear HO1050
      clear BK1039
      clear BK1040
      clear BK1052
      clear HB
      have HO1044 := n0_
      have HO1047 := n1_
      have HO1050 := n2_
      have BK1039 := n3_
      have BK1040 := n4_
      have BK1052 := n5_
      have HB := n6_
      clear n0_ n1_ n2_ n3_ n4_ n5_ n6_
      obtain ⟨i053, hi053, _, hsz53, _⟩ := info_parts info9
      obtain ⟨hcut53, hA53, hC53⟩ := print_take_of (P := Try.prog) Value.string (⟨#[]⟩ : ByteArray) 34 9 .i64 Try.underlying34 hi053 hsz53 A0_2 c0_2 l0_2 a0_3 (of_decide_eq_true (by first | (with_reducible assumption) | assumption)) (of_decide_eq_true (by first | (with_reducible assumption) | assumption)) HC0_2.out
      have HR1053 := Aside0.mk (Kd.C_of_reads (h1 := fun _ => rfl) (hA53 _ (Kd.reads_of_C HR0_2.out)))
      have HC1053 := Aside0.mk hC53
      clear hA53 hC53 hi053 hsz53
      refine start_ (n := 13) (S := fun w' => w'.cell? ⟨gb1052, 0, none⟩ = some (.slice Ao45 t1042.length co45) ∧ w'.cell? ⟨gb1052, 1, none⟩ = some (.slice Ao49 t1045.length co49) ∧ w'.cell? ⟨gb1052, 2, none⟩ = some (.slice Ao50 t1048.length co50) ∧ w'.cell? ⟨gb1052, 3, none⟩ = some (.int .i64 t1051) ∧ w'.cell? ⟨gb1039, 0, none⟩ = some (.slice A0_0 l0_0.length c0_0) ∧ w'.cell? ⟨gb1039, 1, none⟩ = some (.slice A0_1 l0_1.length c0_1) ∧ w'.cell? ⟨gb1039, 2, none⟩ = some (.slice A0_2 l0_2.length c0_2) ∧ w'.cell? ⟨gb1039, 3, none⟩ = some (.int .i64 a0_3)) (ds := [12]) #[false, false, false, false, false, false, false, false, false, false, false, false, false] (by kernel_rfl) rfl rfl ⟨(blk_cell BK1052.out 0).trans rfl, (blk_cell BK1052.out 1).trans rfl, (blk_cell BK1052.out 2).trans rfl, (blk_cell BK1052.out 3).trans rfl, (blk_cell BK1039.out 0).trans rfl, (blk_cell BK1039.out 1).trans rfl, (blk_cell BK1039.out 2).trans rfl, (blk_cell BK1039.out 3).trans rfl⟩ (fun hHeld => ?_); refine with_tabW impl_WriteBack.tab4 impl_WriteBack.bits4 (fun HT_ HW_ => ?_)
      generalize w51.drew = w52 at HO1044 HO1047 HO1050 BK1039 BK1040 BK1052 HB HR1053 hHeld ⊢
      refine pureS 0 11 HT_.out ?_
      refine pureS 1 12 HT_.out ?_
      refine pureS 3 14 HT_.out ?_
      refine pureS 5 16 HT_.out ?_
      refine takeS 2 13 HT_.out HW_.out hHeld (hr := by rintro w' ⟨s0, s1, s2, s3, s4, s5, s6, s7⟩; go_simp; with_reducible rfl) (h := ?_)
      refine takeS 4 15 HT_.out HW_.out hHeld (hr := by rintro w' ⟨s0, s1, s2, s3, s4, s5, s6, s7⟩; go_simp; with_reducible rfl) (h := ?_)
      refine takeS 6 17 HT_.out HW_.out hHeld (hr := by rintro w' ⟨s0, s1, s2, s3, s4, s5, s6, s7⟩; go_simp; with_reducible rfl) (h := ?_)
      refine pureS 7 18 HT_.out ?_
      refine one_ (i := 8) (N := some 19) #[true, true, true, true, true, true, true, true, true, false, false, false, false] rfl rfl (one_of HT_.out (by kernel_rfl)) (by decide) (fun K hK => ?_)
      refine goes_ Try.func78 (by kernel_rfl) rfl #[.slice A0_2 (l0_2.take (a0_3 : Int).toNat).length c0_2] (by rfl) rfl rfl (by (try simp only [List.map_toArray, List.map_cons, List.map_nil]); first | done | (rw [show (l0_2.take (a0_3 : Int).toNat).length = a0_3.toNat from (by rw [List.length_take]; have h_ : (a0_3 : Int) ≤ (l0_2.length : Int) := of_decide_eq_true (by first | (with_reducible assumption) | assumption); omega)] <;> rfl) | rfl | (simp only [List.length_drop, List.length_take]; rfl)) ?_
      with_reducible refine (impl_writesOf.calls k _ _ (l0_2.take (a0_3 : Int).toNat) t1054 _ ?side1 ?side2 A7.out).mono ?_
      (case side1 => exact cb HR1053 HB)
      (case side2 => exact HC1053.out)
      rintro e w54 ⟨v1055, rfl, ho0, hb⟩
      refine ⟨_, rfl, ?_⟩
      have n0_ := Aside0.mk (Kd.R_below (rr HO1044.out) hb)
      have n1_ := Aside0.mk (Kd.R_elder' (rr HO1047.out) (Kd.R_base ho0) hb)
      have n2_ := Aside0.mk (Kd.R_below (rr HO1050.out) hb)
      have n3_ := Aside0.mk (Kd.R_lower (Kd.R_new' ho0 (Kd.R_lt (rr HO1047.out))) (below_size (bs3 HB GE1039 GE1040 GE1052)))
      have n4_ := Aside0.mk (bb BK1039 hb)
      have n5_ := Aside0.mk (bb BK1040 hb)
      have n6_ := Aside0.mk (bb BK1052 hb)
      have n7_ := Aside0.mk (below_step (bs3 HB GE1039 GE1040 GE1052) hb)
      clear HO1044
      clear HO1047
      clear HO1050
      clear BK1039
      clear BK1040
      clear BK1052
      clear HB
      have HO1044 := n0_
      have HO1047 := n1_
      have HO1050 := n2_
      have HO1056 := n3_
      have BK1039 := n4_
      have BK1040 := n5_
      have BK1052 := n6_
      have HB := n7_
      clear n0_ n1_ n2_ n3_ n4_ n5_ n6_ n7_
      (try clear hb)
      (try clear hb2)
      (try clear hk)
      (try clear hi)
      (try clear ho0)
      obtain ⟨Ao56, co56, eo56⟩ := Kd.R_slice HO1056.out
      (first | subst eo56 | (injection eo56 with f1_ f2_ f3_; have f4_ := f1_.symm; have f5_ := f3_.symm; clear f1_ f2_ f3_; subst f4_; subst f5_))
      refine hK.out _ _ ⟨(blk_cell BK1052.out 0).trans rfl, (blk_cell BK1052.out 1).trans rfl, (blk_cell BK1052.out 2).trans rfl, (blk_cell BK1052.out 3).trans rfl, (blk_cell BK1039.out 0).trans rfl, (blk_cell BK1039.out 1).trans rfl, (blk_cell BK1039.out 2).trans rfl, (blk_cell BK1039.out 3).trans rfl⟩ (fun hHeld => ?_)
      clear hK K
      refine norm_ (a' := ?_) ?_ ?_
      rotate_left
      ·
       show Act.put _ (some 19) _ = _
       simp only [Act.put, List.setIfInBounds_toArray, List.set_cons_zero, List.set_cons_succ, i64_w, i32_w]
       rfl
      refine one_ (i := 9) (N := some 20) #[true, true, true, true, true, true, true, true, true, true, false, false, false] rfl rfl (one_of HT_.out (by kernel_rfl)) (by decide) (fun K hK => ?_)
      refine Kd.R_append_rows_step k72 (w0 := w) w.heap.size (by rfl) (.tmp 13) (.tmp 19) 26 72 (.agg #[(.int .i64 0), (.string ⟨#[]⟩)]) 24 rfl Try.underlying26 info72 rfl (by decide) (by omega) (.slice Ao49 t1045.length co49) t1045 t1054 _ _ _ (fun k_ => some k_ ≠ (.slice Ao56 t1054.length co56 : Value).ownBlock) (fun _ => False) rfl rfl ?aO ?aR (fun _ _ h => h) (fun _ h => h.elim) ?aF ?aB ?aS ?aL ?_
      (case aR => exact rc0 HO1056)
      (case aB => exact (bs3 HB GE1039 GE1040 GE1052))
      (case aF => exact (fun k_ hk => Kd.fresh' (Kd.R_lt (rr HO1056.out)) k_ hk))
      (case aO => exact (by (with_reducible repeat (first | apply Kd.R_alloc | apply Kd.R_drewN | apply Kd.R_drew)); exact Kd.R_mono HO1047.out (fun _ hk => hk.2)))
      (case aS => exact (below_size (bs3 HB GE1039 GE1040 GE1052)))
      (case aL => have := LMc8.out; omega)
      intro v1058 w55 ho hb hg hat
      rw [← Ny1057.out] at ho
      have n0_ := Aside0.mk (blk_grown (bk BK1039) hg (Kd.R_ne HO1047.out BK1039.out (by decide)))
      have n1_ := Aside0.mk (blk_grown (bk BK1040) hg (Kd.R_ne HO1047.out BK1040.out (by decide)))
      have n2_ := Aside0.mk (Kd.R_over' (rr HO1044.out) (Kd.R_typed (rr HO1047.out)) (by decide) hg)
      have n3_ := Aside0.mk (Kd.R_over' (rr HO1050.out) (Kd.R_typed (rr HO1047.out)) (by decide) hg)
      have n4_ := Aside0.mk (blk_grown (bk BK1052) hg (Kd.R_ne HO1047.out BK1052.out (by decide)))
      have n5_ := Aside0.mk (Kd.R_after (ok := (fun _ => True)) (rr HO1056.out) hg hat)
      have n6_ := Aside0.mk (hb)
      have n7_ := Aside0.mk (ho)
      clear BK1039
      clear BK1040
      clear HO1044
      clear HO1050
      clear BK1052
      clear HO1056
      clear HB
      clear HO1047
      have BK1039 := n0_
      have BK1040 := n1_
      have HO1044 := n2_
      have HO1050 := n3_
      have BK1052 := n4_
      have HO1056 := n5_
      have HB := n6_
      have HO1059 := n7_
      clear n0_ n1_ n2_ n3_ n4_ n5_ n6_ n7_
      clear ho hb hg hat
      obtain ⟨Ao57, co57, eo57⟩ := Kd.R_slice HO1059.out
      (first | subst eo57 | (injection eo57 with f1_ f2_ f3_; have f4_ := f1_.symm; have f5_ := f3_.symm; clear f1_ f2_ f3_; subst f4_; subst f5_))
      refine hK.out _ _ ⟨(blk_cell BK1052.out 0).trans rfl, (blk_cell BK1052.out 1).trans rfl, (blk_cell BK1052.out 2).trans rfl, (blk_cell BK1052.out 3).trans rfl, (blk_cell BK1039.out 0).trans rfl, (blk_cell BK1039.out 1).trans rfl, (blk_cell BK1039.out 2).trans rfl, (blk_cell BK1039.out 3).trans rfl⟩ (fun hHeld => ?_)
      clear hK K
      refine norm_ (a' := ?_) ?_ ?_
      rotate_left
      ·
       show Act.put _ (some 20) _ = _
       simp only [Act.put, List.setIfInBounds_toArray, List.set_cons_zero, List.set_cons_succ, i64_w, i32_w]
       rfl
      refine pureS 10 21 HT_.out ?_
      refine pureS 11 22 HT_.out ?_
      refine last_ (i := 12) (N := none) #[true, true, true, true, true, true, true, true, true, true, true, true, true] rfl rfl (one_of HT_.out (by kernel_rfl)) (by decide) (fun K hK => ?_)
      have hs58 : w55.cell? ⟨gb1052, 1, none⟩ = some (.slice Ao49 t1045.length co49) := (blk_cell BK1052.out 1).trans rfl
      have hfs58 := blk_frozen BK1052.out 1
      have hns58_0 := NB1039_1052.out
      have hns58_1 := NB1040_1052.out
      have hms58_0 := NB1052_1039.out
      have hms58_1 := NB1052_1040.out
      refine skip_ (w1 := ?_) (by rfl) rfl ?_ ?_
      rotate_left
      ·
       go_simp
       rfl
      refine hK.out _ _ ?_
      clear hK K
      refine done_ (done_of HT_.out (by kernel_rfl)) ?_
      obtain ⟨hcz59_0, hcz59_1, hcz59_2, hcz59_3⟩ := cz4 BK1052
      obtain ⟨hfz59_0, hfz59_1, hfz59_2, hfz59_3⟩ := fz4 BK1052
      try go_wp2_with (first | ((with_reducible refine gate_callee (f := 76) rfl ?_); refine gL (some 25) rfl rfl Try.func76 (by kernel_rfl) rfl #[.agg #[.slice Ao45 t1042.length co45, .slice Ao57 y1057.length co57]] rfl ?_; (with_reducible refine (impl_GoodDevice.calls k _ _ t1042 _ _ y1057 false _ ?side1 ?side2 ?side3 ?side4 A9.out).mono ?_); (case side1 => exact rc HO1044 BK1052); (case side2 => exact (Kd.R_reads' HO1044.out).2.1); (case side3 => exact rc HO1059 BK1052); (case side4 => exact (Kd.R_reads' HO1059.out).2.1); rintro e w60 ⟨rfl, hb⟩; refine ⟨_, rfl, ?_⟩; replace HO1044 := nf HO1044 BK1052 hb; replace HO1050 := nf HO1050 BK1052 hb; replace HO1056 := nf HO1056 BK1052 hb; replace HO1059 := nf HO1059 BK1052 hb; replace BK1039 := Aside0.mk (blk_below (bf BK1039 NB1039_1052) hb); replace BK1040 := Aside0.mk (blk_below (bf BK1040 NB1040_1052) hb); replace BK1052 := Aside0.mk (blk_below (g := gb1052) (o := .cells #[.slice Ao45 t1042.length co45, .slice Ao57 y1057.length co57, .slice Ao50 t1048.length co50, .int .i64 t1051] 44 (0, 0)) (by (with_reducible repeat (first | refine blk_drewN ?_ _ | refine blk_drew ?_ | refine blk_alloc ?_ _)); refine blk_put (cs := #[.slice Ao45 t1042.length co45, .slice Ao49 t1045.length co49, .slice Ao50 t1048.length co50, .int .i64 t1051]) ?_ 1 _ rfl; (with_reducible repeat (first | refine blk_drewN ?_ _ | refine blk_drew ?_ | refine blk_alloc ?_ _)); exact BK1052.out) hb); replace HB := Aside0.mk (below_step (bs3 HB GE1039 GE1040 GE1052) hb); (try clear hb); (try clear hb2); (try clear hk); (try clear hi); obtain ⟨hcz61_0, hcz61_1, hcz61_2, hcz61_3⟩ := cz4 BK1040; obtain ⟨hfz61_0, hfz61_1, hfz61_2, hfz61_3⟩ := fz4 BK1040))
      refine bodyPost_ret (results_ct rfl _ _ gb1040 44 #[.slice none 0 0, .slice none 0 0, .slice none 0 0, .int .i64 0] (0, 0) _ rfl (by (with_reducible repeat (first | refine blk_drewN ?_ _ | refine blk_drew ?_ | refine blk_alloc ?_ _)); refine blk_put (cs := #[.slice none 0 0, .slice none 0 0, .slice none 0 0, .int .i64 0]) ?_ 3 _ rfl; (with_reducible repeat (first | refine blk_drewN ?_ _ | refine blk_drew ?_ | refine blk_alloc ?_ _)); refine blk_put (cs := #[.slice none 0 0, .slice none 0 0, .slice none 0 0, .int .i64 0]) ?_ 2 _ rfl; (with_reducible repeat (first | refine blk_drewN ?_ _ | refine blk_drew ?_ | refine blk_alloc ?_ _)); refine blk_put (cs := #[.slice none 0 0, .slice none 0 0, .slice none 0 0, .int .i64 0]) ?_ 1 _ rfl; (with_reducible repeat (first | refine blk_drewN ?_ _ | refine blk_drew ?_ | refine blk_alloc ?_ _)); refine blk_put (cs := #[.slice none 0 0, .slice none 0 0, .slice none 0 0, .int .i64 0]) ?_ 0 _ rfl; (with_reducible repeat (first | refine blk_drewN ?_ _ | refine blk_drew ?_ | refine blk_alloc ?_ _)); exact BK1040.out) Try.underlying44 rfl (by kernel_rfl)) rfl ?_
      exact ⟨_, _, _, by first | rfl | (simp [errW_none, errW_some] <;> rfl) | (simp [*, errW_none, errW_some] <;> rfl), by first | exact Kd.R_nil _ _ _ _ _ | exact Kd.N_nil _ _ _ _ _ | exact Kd.V_nil _ _ _ _ _ | exact Kd.Q_nil _ _ _ _ _ | exact Kd.S_nil _ _ _ _ _, by first | exact Kd.R_nil _ _ _ _ _ | exact Kd.N_nil _ _ _ _ _ | exact Kd.V_nil _ _ _ _ _ | exact Kd.Q_nil _ _ _ _ _ | exact Kd.S_nil _ _ _ _ _, by first | exact Kd.R_nil _ _ _ _ _ | exact Kd.N_nil _ _ _ _ _ | exact Kd.V_nil _ _ _ _ _ | exact Kd.Q_nil _ _ _ _ _ | exact Kd.S_nil _ _ _ _ _, bs3 HB GE1039 GE1040 GE1052⟩
    ·
     rw [if_neg c8] at H
     exact absurd H (by simp)
   ·
    rw [if_neg c6] at H
    exact absurd H (by simp)
  ·
   rw [if_neg c5] at H
   exact absurd H (by simp)
 ·
  replace c3 := Bool.eq_false_iff.mpr c3
  subst c3
  rw [if_neg (show ¬ (false = true) by decide)] at H
  simp only [Option.some.injEq, Prod.mk.injEq] at H
  obtain ⟨rfl, rfl, rfl, rfl, rfl⟩ := H
  go_enter Try.func46, Try.ntmps46
  go_wp2_with (first | ((with_reducible refine gate_dst (N := 1) rfl ?_); refine box_event ?hg (N := 1) ?hd (cs := #[.slice A0_0 l0_0.length c0_0, .slice A0_1 l0_1.length c0_1, .slice A0_2 l0_2.length c0_2, .int .i64 a0_3]) (t := 44) ?hr ?_; (case hd => rfl); (case hg => rfl); (case hr => first | (go_simp; done) | (go_simp; rfl)); intro gb1039 hg w62 hbox hb; have BK1039 := Aside0.mk (hbox); have GW1039 := Aside0.mk ((by rw [hg]; exact (below_size (bs HB)) : w.heap.size ≤ gb1039)); have GE1039 := Aside0.mk ((by rw [hg]; exact (below_size (bs HB)) : w.heap.size ≤ gb1039)); replace HB := Aside0.mk (below_step (bs HB) hb); clear hb hbox hg) | ((with_reducible refine gate_dst (N := 2) rfl ?_); refine box_event ?hg (N := 2) ?hd (cs := #[.slice none 0 0, .slice none 0 0, .slice none 0 0, .int .i64 0]) (t := 44) ?hr ?_; (case hd => rfl); (case hg => rfl); (case hr => first | (go_simp; done) | (go_simp; rfl)); intro gb1040 hg w63 hbox hb; have BK1040 := Aside0.mk (hbox); have GW1040 := Aside0.mk ((by rw [hg]; exact (below_size (bs1 HB GE1039)) : w.heap.size ≤ gb1040)); have GE1040 := Aside0.mk ((by rw [hg]; exact (below_size (bs1 HB GE1039)) : w.heap.size ≤ gb1040)); replace HB := Aside0.mk (below_step (bs1 HB GE1039) hb); have NB1039_1040 := Aside0.mk ((bn BK1039 hg : gb1039 ≠ gb1040)); have NB1040_1039 := Aside0.mk ((bm BK1039 hg : gb1040 ≠ gb1039)); replace BK1039 := nb BK1039 hb; clear hb hbox hg; have hnb64 := NB1039_1040.out; have hnc64 := NB1040_1039.out; obtain ⟨hcz65_0, hcz65_1, hcz65_2, hcz65_3⟩ := cz4 BK1039; obtain ⟨hfz65_0, hfz65_1, hfz65_2, hfz65_3⟩ := fz4 BK1039) | ((with_reducible refine gate_callee (f := 28) rfl ?_); refine gL (some 6) rfl rfl Try.func28 (by kernel_rfl) rfl #[.agg #[.slice A0_0 l0_0.length c0_0, .slice A0_1 l0_1.length c0_1, .slice A0_2 l0_2.length c0_2, .int .i64 a0_3]] rfl ?_; (with_reducible refine (impl_GoodStore.calls k _ _ l0_0 _ _ l0_1 _ _ l0_2 a0_3 false _ ?side1 ?side2 ?side3 ?side4 ?side5 ?side6 A2.out).mono ?_); (case side1 => exact cb HR0_0 HB); (case side2 => exact HC0_0.out); (case side3 => exact cb HR0_1 HB); (case side4 => exact HC0_1.out); (case side5 => exact cb HR0_2 HB); (case side6 => exact HC0_2.out); rintro e w66 ⟨rfl, hb⟩; refine ⟨_, rfl, ?_⟩; replace BK1039 := nb BK1039 hb; replace BK1040 := nb BK1040 hb; replace HB := Aside0.mk (below_step (bs2 HB GE1039 GE1040) hb); (try clear hb); (try clear hb2); (try clear hk); (try clear hi); obtain ⟨hcz67_0, hcz67_1, hcz67_2, hcz67_3⟩ := cz4 BK1040; obtain ⟨hfz67_0, hfz67_1, hfz67_2, hfz67_3⟩ := fz4 BK1040))
  refine bodyPost_ret (results_ct rfl _ _ gb1040 44 #[.slice none 0 0, .slice none 0 0, .slice none 0 0, .int .i64 0] (0, 0) _ rfl (by (with_reducible repeat (first | refine blk_drewN ?_ _ | refine blk_drew ?_ | refine blk_alloc ?_ _)); refine blk_put (cs := #[.slice none 0 0, .slice none 0 0, .slice none 0 0, .int .i64 0]) ?_ 3 _ rfl; (with_reducible repeat (first | refine blk_drewN ?_ _ | refine blk_drew ?_ | refine blk_alloc ?_ _)); refine blk_put (cs := #[.slice none 0 0, .slice none 0 0, .slice none 0 0, .int .i64 0]) ?_ 2 _ rfl; (with_reducible repeat (first | refine blk_drewN ?_ _ | refine blk_drew ?_ | refine blk_alloc ?_ _)); refine blk_put (cs := #[.slice none 0 0, .slice none 0 0, .slice none 0 0, .int .i64 0]) ?_ 1 _ rfl; (with_reducible repeat (first | refine blk_drewN ?_ _ | refine blk_drew ?_ | refine blk_alloc ?_ _)); refine blk_put (cs := #[.slice none 0 0, .slice none 0 0, .slice none 0 0, .int .i64 0]) ?_ 0 _ rfl; (with_reducible repeat (first | refine blk_drewN ?_ _ | refine blk_drew ?_ | refine blk_alloc ?_ _)); exact BK1040.out) Try.underlying44 rfl (by kernel_rfl)) rfl ?_
  exact ⟨_, _, _, by first | rfl | (simp [errW_none, errW_some] <;> rfl) | (simp [*, errW_none, errW_some] <;> rfl), by first | exact Kd.R_nil _ _ _ _ _ | exact Kd.N_nil _ _ _ _ _ | exact Kd.V_nil _ _ _ _ _ | exact Kd.Q_nil _ _ _ _ _ | exact Kd.S_nil _ _ _ _ _, by first | exact Kd.R_nil _ _ _ _ _ | exact Kd.N_nil _ _ _ _ _ | exact Kd.V_nil _ _ _ _ _ | exact Kd.Q_nil _ _ _ _ _ | exact Kd.S_nil _ _ _ _ _, by first | exact Kd.R_nil _ _ _ _ _ | exact Kd.N_nil _ _ _ _ _ | exact Kd.V_nil _ _ _ _ _ | exact Kd.Q_nil _ _ _ _ _ | exact Kd.S_nil _ _ _ _ _, bs2 HB GE1039 GE1040⟩

end Go.Proofs.Ytcdkgenfggdpaaa.G
