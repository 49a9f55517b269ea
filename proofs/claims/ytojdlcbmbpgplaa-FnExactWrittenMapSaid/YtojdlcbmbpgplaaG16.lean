-- Printed by a program of this session (drive.py, by way of the kit's print). Not trusted: Lean checks it.
import Derived.Test.YtojdlcbmbpgplaaG0
import Derived.Test.YtojdlcbmbpgplaaG3
import Derived.Test.YtojdlcbmbpgplaaG4
import Derived.Test.YtojdlcbmbpgplaaG5
import Derived.Test.YtojdlcbmbpgplaaG8
import Derived.Test.YtojdlcbmbpgplaaG9
namespace Go.Proofs.Ytojdlcbmbpgplaa.G
open Go.RowKit Go.Proofs.YtojdlcbmbpgplaaW.PrintWords Go.Proofs.YtojdlcbmbpgplaaW.PrintLast Go.Proofs.YtojdlcbmbpgplaaW.PrintMore
attribute [local go_sem] max2_int min2_int max_two min_two max_three min_three max_four min_four   -- for this text's walks alone
set_option linter.unusedVariables false
set_option linter.unusedSimpArgs false

/-! ### spec_MapPiece: function 29 -/
mutual
def spec_MapPiece.j0 : Nat → Bool → List (S48) → Int → Int → Int → Bool → Option ((List (S48)) × Bool)
 | 0, _, _, _, _, _, _ => none
 | k + 1, x16, x396000, x397000, x397001, x397002, x397003 => if x16 = true then (some (([] : List (S48)), false)) else (spec_MapPiece.l0 k x396000 (x396000.length : Int) 0 x396000 x397000 x397001 x397002 x397003)
def spec_MapPiece.l0 : Nat → List (S48) → Int → Int → List (S48) → Int → Int → Int → Bool → Option ((List (S48)) × Bool)
 | 0, _, _, _, _, _, _, _, _ => none
 | k + 1, x19, x20, x21, x396000, x397000, x397001, x397002, x397003 => if x21 < x20 then (if 0 ≤ x21 then (if x21 < (x19.length : Int) then (if ((rd_T48 x19 x21).f0) < (wrap64 (x397000 + x397001)) then (if x397000 < (wrap64 (((rd_T48 x19 x21).f0) + ((rd_T48 x19 x21).f1))) then (some (([] : List (S48)), false)) else (if ((rd_T48 x19 x21).f2) < (wrap64 (x397002 + x397001)) then (if x397002 < (wrap64 (((rd_T48 x19 x21).f2) + ((rd_T48 x19 x21).f1))) then (some (([] : List (S48)), false)) else (spec_MapPiece.l0 k x19 x20 (wrap64 (x21 + 1)) x396000 x397000 x397001 x397002 x397003)) else (spec_MapPiece.l0 k x19 x20 (wrap64 (x21 + 1)) x396000 x397000 x397001 x397002 x397003))) else (if ((rd_T48 x19 x21).f2) < (wrap64 (x397002 + x397001)) then (if x397002 < (wrap64 (((rd_T48 x19 x21).f2) + ((rd_T48 x19 x21).f1))) then (some (([] : List (S48)), false)) else (spec_MapPiece.l0 k x19 x20 (wrap64 (x21 + 1)) x396000 x397000 x397001 x397002 x397003)) else (spec_MapPiece.l0 k x19 x20 (wrap64 (x21 + 1)) x396000 x397000 x397001 x397002 x397003))) else (none)) else (none)) else ((spec_l9Put.f k x396000 x397000 x397001 x397002 x397003).bind fun t402 => ((spec_l9Joined.f k t402).bind fun t405 => ((spec_GoodMap.f k t405).bind fun t409 => (if t409 = true then (some (t405, true)) else (some (([] : List (S48)), false))))))
end
def spec_MapPiece.f (k : Nat) (l0_0 : List (S48)) (a1_0 : Int) (a1_1 : Int) (a1_2 : Int) (a1_3 : Bool) : Option ((List (S48)) × Bool) := (spec_GoodMap.f k l0_0).bind fun t398 => (if t398 = true then ((spec_l9Piece.f a1_0 a1_1 a1_2 a1_3).bind fun t399 => (spec_MapPiece.j0 k (!t399) l0_0 a1_0 a1_1 a1_2 a1_3)) else (spec_MapPiece.j0 k true l0_0 a1_0 a1_1 a1_2 a1_3))
theorem spec_MapPiece.mono_l : ∀ k, (∀ y0 y1 y2 y3 y4 y5, LeO (spec_MapPiece.j0 k y0 y1 y2 y3 y4 y5) (spec_MapPiece.j0 (k + 1) y0 y1 y2 y3 y4 y5)) ∧ (∀ y0 y1 y2 y3 y4 y5 y6 y7, LeO (spec_MapPiece.l0 k y0 y1 y2 y3 y4 y5 y6 y7) (spec_MapPiece.l0 (k + 1) y0 y1 y2 y3 y4 y5 y6 y7))
 | 0 => ⟨fun _ _ _ _ _ _ r h => by simp [spec_MapPiece.j0] at h, fun _ _ _ _ _ _ _ _ r h => by simp [spec_MapPiece.l0] at h⟩
 | k + 1 => by
  obtain ⟨ih0, ih1⟩ := spec_MapPiece.mono_l k
  refine ⟨?_, ?_⟩
  ·
   intro y0 y1 y2 y3 y4 y5
   unfold spec_MapPiece.j0
   repeat' first
   | (with_reducible exact ih0 _ _ _ _ _ _)
   | (with_reducible exact ih1 _ _ _ _ _ _ _ _)
   | (with_reducible exact spec_GoodMap.mono _ _)
   | (with_reducible exact spec_l9Joined.mono _ _)
   | (with_reducible exact spec_l9Put.mono _ _ _ _ _ _)
   | (with_reducible exact LeO.refl _)
   | (with_reducible exact LeO.none _)
   | (with_reducible refine LeO.ite ?_ ?_)
   | (with_reducible refine LeO.bind ?_ (fun _ => ?_))
   | exact ih0 _ _ _ _ _ _
   | exact ih1 _ _ _ _ _ _ _ _
   | exact spec_GoodMap.mono _ _
   | exact spec_l9Joined.mono _ _
   | exact spec_l9Put.mono _ _ _ _ _ _
   | exact LeO.none _
   | refine LeO.ite ?_ ?_
   | refine LeO.bind ?_ (fun _ => ?_)
  ·
   intro y0 y1 y2 y3 y4 y5 y6 y7
   unfold spec_MapPiece.l0
   repeat' first
   | (with_reducible exact ih0 _ _ _ _ _ _)
   | (with_reducible exact ih1 _ _ _ _ _ _ _ _)
   | (with_reducible exact spec_GoodMap.mono _ _)
   | (with_reducible exact spec_l9Joined.mono _ _)
   | (with_reducible exact spec_l9Put.mono _ _ _ _ _ _)
   | (with_reducible exact LeO.refl _)
   | (with_reducible exact LeO.none _)
   | (with_reducible refine LeO.ite ?_ ?_)
   | (with_reducible refine LeO.bind ?_ (fun _ => ?_))
   | exact ih0 _ _ _ _ _ _
   | exact ih1 _ _ _ _ _ _ _ _
   | exact spec_GoodMap.mono _ _
   | exact spec_l9Joined.mono _ _
   | exact spec_l9Put.mono _ _ _ _ _ _
   | exact LeO.none _
   | refine LeO.ite ?_ ?_
   | refine LeO.bind ?_ (fun _ => ?_)
theorem spec_MapPiece.mono : ∀ a0 a1 a2 a3 a4 k, LeO (spec_MapPiece.f k a0 a1 a2 a3 a4) (spec_MapPiece.f (k + 1) a0 a1 a2 a3 a4) := by
 intro a0 a1 a2 a3 a4 k
 obtain ⟨ih0, ih1⟩ := spec_MapPiece.mono_l k
 unfold spec_MapPiece.f
 repeat' first
   | (with_reducible exact ih0 _ _ _ _ _ _)
   | (with_reducible exact ih1 _ _ _ _ _ _ _ _)
   | (with_reducible exact spec_GoodMap.mono _ _)
   | (with_reducible exact spec_l9Joined.mono _ _)
   | (with_reducible exact spec_l9Put.mono _ _ _ _ _ _)
   | (with_reducible exact LeO.refl _)
   | (with_reducible exact LeO.none _)
   | (with_reducible refine LeO.ite ?_ ?_)
   | (with_reducible refine LeO.bind ?_ (fun _ => ?_))
   | exact ih0 _ _ _ _ _ _
   | exact ih1 _ _ _ _ _ _ _ _
   | exact spec_GoodMap.mono _ _
   | exact spec_l9Joined.mono _ _
   | exact spec_l9Put.mono _ _ _ _ _ _
   | exact LeO.none _
   | refine LeO.ite ?_ ?_
   | refine LeO.bind ?_ (fun _ => ?_)
set_option maxHeartbeats 8000000 in
set_option maxRecDepth 100000 in
theorem spec_MapPiece.calls (k : Nat) (A0_0 : Option Addr) (c0_0 : Nat) (l0_0 : List (S48)) (a1_0 : Int) (a1_1 : Int) (a1_2 : Int) (a1_3 : Bool) (r1 : List (S48)) (r2 : Bool) (w : World) (hr0_0 : Kd.C k48 w A0_0 l0_0.length l0_0) (hc0_0 : l0_0.length ≤ c0_0) (h : spec_MapPiece.f k l0_0 a1_0 a1_1 a1_2 a1_3 = some (r1, r2)) :
  Calls Try.prog 29 #[.agg #[.slice A0_0 l0_0.length c0_0], .agg #[.int .i64 a1_0, .int .i64 a1_1, .int .i64 a1_2, .bool a1_3]] w fun e w' => ∃ v0_ : Value, e = .returned (.tuple #[.agg #[v0_], .bool r2]) ∧ Kd.R k48 48 w' w.heap.size (fun _ => True) v0_ r1 ∧ Below w.heap.size w w' := by
 have hu29 := Try.underlying29
 have hu48 := Try.underlying48
 have HR0_0 := Aside0.mk hr0_0
 have HC0_0 := Aside0.mk hc0_0
 clear hr0_0 hc0_0
 have HB := Aside0.mk (Below.refl w.heap.size w)
 have H : ((spec_GoodMap.f k l0_0).bind fun t398 => (if t398 = true then ((spec_l9Piece.f a1_0 a1_1 a1_2 a1_3).bind fun t399 => (spec_MapPiece.j0 k (!t399) l0_0 a1_0 a1_1 a1_2 a1_3)) else (spec_MapPiece.j0 k true l0_0 a1_0 a1_1 a1_2 a1_3))) = some (r1, r2) := h
 clear h
 have HC3 := Aside0.mk H
 clear H
 go_enter Try.func29, Try.ntmps29
 go_upto_region 1 with (first | ((with_reducible refine gate_dst (N := 2) rfl ?_); refine box_event ?hg (N := 2) ?hd (cs := #[.slice A0_0 l0_0.length c0_0]) (t := 29) ?hr ?_; (case hd => rfl); (case hg => rfl); (case hr => first | (go_simp; done) | (go_simp; rfl)); intro gb395 hg w4 hbox hb; have BK395 := Aside0.mk (hbox); have GW395 := Aside0.mk ((by rw [hg]; exact (below_size (bs HB)) : w.heap.size ≤ gb395)); have GE395 := Aside0.mk ((by rw [hg]; exact (below_size (bs HB)) : w.heap.size ≤ gb395)); replace HB := Aside0.mk (below_step (bs HB) hb); clear hb hbox hg) | ((with_reducible refine gate_dst (N := 3) rfl ?_); refine box_event ?hg (N := 3) ?hd (cs := #[.int .i64 a1_0, .int .i64 a1_1, .int .i64 a1_2, .bool a1_3]) (t := 48) ?hr ?_; (case hd => rfl); (case hg => rfl); (case hr => first | (go_simp; done) | (go_simp; rfl)); intro gb396 hg w5 hbox hb; have BK396 := Aside0.mk (hbox); have GW396 := Aside0.mk ((by rw [hg]; exact (below_size (bs1 HB GE395)) : w.heap.size ≤ gb396)); have GE396 := Aside0.mk ((by rw [hg]; exact (below_size (bs1 HB GE395)) : w.heap.size ≤ gb396)); replace HB := Aside0.mk (below_step (bs1 HB GE395) hb); have NB395_396 := Aside0.mk ((bn BK395 hg : gb395 ≠ gb396)); have NB396_395 := Aside0.mk ((bm BK395 hg : gb396 ≠ gb395)); replace BK395 := nb BK395 hb; clear hb hbox hg) | ((with_reducible refine gate_dst (N := 4) rfl ?_); refine box_event ?hg (N := 4) ?hd (cs := #[.slice none 0 0]) (t := 29) ?hr ?_; (case hd => rfl); (case hg => rfl); (case hr => first | (go_simp; done) | (go_simp; rfl)); intro gb397 hg w6 hbox hb; have BK397 := Aside0.mk (hbox); have GW397 := Aside0.mk ((by rw [hg]; exact (below_size (bs2 HB GE395 GE396)) : w.heap.size ≤ gb397)); have GE397 := Aside0.mk ((by rw [hg]; exact (below_size (bs2 HB GE395 GE396)) : w.heap.size ≤ gb397)); replace HB := Aside0.mk (below_step (bs2 HB GE395 GE396) hb); have NB395_397 := Aside0.mk ((bn BK395 hg : gb395 ≠ gb397)); have NB397_395 := Aside0.mk ((bm BK395 hg : gb397 ≠ gb395)); replace BK395 := nb BK395 hb; have NB396_397 := Aside0.mk ((bn BK396 hg : gb396 ≠ gb397)); have NB397_396 := Aside0.mk ((bm BK396 hg : gb397 ≠ gb396)); replace BK396 := nb BK396 hb; clear hb hbox hg))
 (try simp only [Act.put, List.setIfInBounds_toArray, List.set_cons_zero, List.set_cons_succ])
 go_cut [16] (fun v16 wc => ∃ (kq : Nat) (x16_2 : Bool), v16 = .bool x16_2 ∧ Aside0 (spec_MapPiece.j0 kq x16_2 l0_0 a1_0 a1_1 a1_2 a1_3 = some (r1, r2)) ∧ Aside0 (kq ≤ k) ∧ Aside0 (wc.heap[gb395]? = some (.cells #[(.slice A0_0 l0_0.length c0_0)] 29 (0, 0))) ∧ Aside0 (wc.heap[gb396]? = some (.cells #[.int .i64 a1_0, .int .i64 a1_1, .int .i64 a1_2, .bool a1_3] 48 (0, 0))) ∧ Aside0 (wc.heap[gb397]? = some (.cells #[(.slice none 0 0)] 29 (0, 0))) ∧ Aside0 (Below w.heap.size w wc))
 case first =>
  have H := HC3.out
  clear HC3
  replace H := Option.bind_eq_some_iff.mp H
  obtain ⟨t398, A70, H⟩ := H
  replace H : (if t398 = true then ((spec_l9Piece.f a1_0 a1_1 a1_2 a1_3).bind fun t399 => (spec_MapPiece.j0 k (!t399) l0_0 a1_0 a1_1 a1_2 a1_3)) else (spec_MapPiece.j0 k true l0_0 a1_0 a1_1 a1_2 a1_3)) = some (r1, r2) := H
  have A7 := Aside0.mk A70
  clear A70
  by_cases c8 : t398 = true
  ·
   subst c8
   rw [if_pos rfl] at H
   replace H := Option.bind_eq_some_iff.mp H
   obtain ⟨t399, A90, H⟩ := H
   replace H : (spec_MapPiece.j0 k (!t399) l0_0 a1_0 a1_1 a1_2 a1_3) = some (r1, r2) := H
   have A9 := Aside0.mk A90
   clear A90
   have H' := Aside0.mk H
   clear H
   have hnb10 := NB395_396.out
   have hnc10 := NB396_395.out
   have hnb11 := NB395_397.out
   have hnc11 := NB397_395.out
   have hcz12_0 := cz1 BK395
   have hfz12_0 := fz1 BK395
   go_wp2_with (first | ((with_reducible refine gate_callee (f := 15) rfl ?_); refine gL (some 10) rfl rfl Try.func15 (by kernel_rfl) rfl #[.agg #[.slice A0_0 l0_0.length c0_0]] rfl ?_; (with_reducible refine (spec_GoodMap.calls k _ _ l0_0 true _ ?side1 ?side2 A7.out).mono ?_); (case side1 => exact cb HR0_0 HB); (case side2 => exact HC0_0.out); rintro e w13 ⟨rfl, hb⟩; refine ⟨_, rfl, ?_⟩; replace BK395 := nb BK395 hb; replace BK396 := nb BK396 hb; replace BK397 := nb BK397 hb; replace HB := Aside0.mk (below_step (bs3 HB GE395 GE396 GE397) hb); (try clear hb); (try clear hb2); (try clear hk); (try clear hi); have hnb14 := NB396_397.out; have hnc14 := NB397_396.out; obtain ⟨hcz15_0, hcz15_1, hcz15_2, hcz15_3⟩ := cz4 BK396; obtain ⟨hfz15_0, hfz15_1, hfz15_2, hfz15_3⟩ := fz4 BK396) | (go_at_call 48; (with_reducible refine (spec_l9Piece.calls a1_0 a1_1 a1_2 a1_3 t399 _ A9.out).mono ?_); rintro e w16 ⟨rfl, hb⟩; replace BK395 := nb BK395 hb; replace BK396 := nb BK396 hb; replace BK397 := nb BK397 hb; replace HB := Aside0.mk (below_step (bs3 HB GE395 GE396 GE397) hb); (try clear hb); (try clear hb2); (try clear hk); (try clear hi)))
   go_meet
   case rel => exact ⟨_, (!t399), (by first | rfl | (simp; done) | (simp [*]; done)), H', ⟨by first | omega | exact Nat.le_refl _⟩, ⟨bk BK395⟩, ⟨bk BK396⟩, ⟨bk BK397⟩, ⟨bs3 HB GE395 GE396 GE397⟩⟩
  ·
   replace c8 := Bool.eq_false_iff.mpr c8
   subst c8
   rw [if_neg (show ¬ (false = true) by decide)] at H
   have H' := Aside0.mk H
   clear H
   have hnb17 := NB395_396.out
   have hnc17 := NB396_395.out
   have hnb18 := NB395_397.out
   have hnc18 := NB397_395.out
   have hcz19_0 := cz1 BK395
   have hfz19_0 := fz1 BK395
   go_wp2_with (first | ((with_reducible refine gate_callee (f := 15) rfl ?_); refine gL (some 10) rfl rfl Try.func15 (by kernel_rfl) rfl #[.agg #[.slice A0_0 l0_0.length c0_0]] rfl ?_; (with_reducible refine (spec_GoodMap.calls k _ _ l0_0 false _ ?side1 ?side2 A7.out).mono ?_); (case side1 => exact cb HR0_0 HB); (case side2 => exact HC0_0.out); rintro e w20 ⟨rfl, hb⟩; refine ⟨_, rfl, ?_⟩; replace BK395 := nb BK395 hb; replace BK396 := nb BK396 hb; replace BK397 := nb BK397 hb; replace HB := Aside0.mk (below_step (bs3 HB GE395 GE396 GE397) hb); (try clear hb); (try clear hb2); (try clear hk); (try clear hi)))
   go_meet
   case rel => exact ⟨_, (true), (by first | rfl | (simp; done) | (simp [*]; done)), H', ⟨by first | omega | exact Nat.le_refl _⟩, ⟨bk BK395⟩, ⟨bk BK396⟩, ⟨bk BK397⟩, ⟨bs3 HB GE395 GE396 GE397⟩⟩
 case rest =>
  clear HC3
  try clear c1
  try clear c2
  try clear p2
  try clear c8
  try clear c10
  try clear c11
  try clear c14
  try clear c15
  try clear c17
  try clear c18
  try clear hcz12_0
  try clear hcz15_0 hcz15_1 hcz15_2 hcz15_3
  try clear hcz19_0
  try clear hfz12_0
  try clear hfz15_0 hfz15_1 hfz15_2 hfz15_3
  try clear hfz19_0
  obtain ⟨kq, x16_2, rfl, HA, HJ2, BK395, BK396, BK397, HB⟩ := hcut
  cases kq with
  | zero => exact absurd HA.out (by simp [spec_MapPiece.j0])
  | succ kj2 =>
   have H := HA.out
   clear HA
   simp only [spec_MapPiece.j0] at H
   by_cases c21 : x16_2 = true
   ·
    subst c21
    rw [if_pos rfl] at H
    simp only [Option.some.injEq, Prod.mk.injEq] at H
    obtain ⟨rfl, rfl⟩ := H
    have hnb22 := NB397_395.out
    have hnc22 := NB395_397.out
    have hnb23 := NB397_396.out
    have hnc23 := NB396_397.out
    have hcz24_0 := cz1 BK397
    have hfz24_0 := fz1 BK397
    go_wp2
    refine bodyPost_ret (results_ct rfl _ _ gb397 29 #[.slice none 0 0] (0, 0) _ rfl (by (with_reducible repeat (first | refine blk_drewN ?_ _ | refine blk_drew ?_ | refine blk_alloc ?_ _)); refine blk_put (cs := #[.slice none 0 0]) ?_ 0 _ rfl; (with_reducible repeat (first | refine blk_drewN ?_ _ | refine blk_drew ?_ | refine blk_alloc ?_ _)); exact BK397.out) Try.underlying29 rfl (by kernel_rfl)) rfl ?_
    exact ⟨_, by first | rfl | (simp [errW_none, errW_some] <;> rfl) | (simp [*, errW_none, errW_some] <;> rfl), by first | exact Kd.R_nil _ _ _ _ _ | exact Kd.N_nil _ _ _ _ _ | exact Kd.V_nil _ _ _ _ _ | exact Kd.Q_nil _ _ _ _ _ | exact Kd.S_nil _ _ _ _ _, bs3 HB GE395 GE396 GE397⟩
   ·
    replace c21 := Bool.eq_false_iff.mpr c21
    subst c21
    rw [if_neg (show ¬ (false = true) by decide)] at H
    have H' := Aside0.mk H
    clear H
    have hnb25 := NB395_396.out
    have hnc25 := NB396_395.out
    have hnb26 := NB395_397.out
    have hnc26 := NB397_395.out
    have hcz27_0 := cz1 BK395
    have hfz27_0 := fz1 BK395
    go_wp2
    go_loopg [21] kj2 (fun kq v21 w' => ∃ (x21_2 : Int), v21 = .int .i64 x21_2 ∧ Aside0 (spec_MapPiece.l0 kq l0_0 (l0_0.length : Int) x21_2 l0_0 a1_0 a1_1 a1_2 a1_3 = some (r1, r2)) ∧ Aside0 (kq ≤ kj2) ∧ Aside0 (w'.heap[gb395]? = some (.cells #[(.slice A0_0 l0_0.length c0_0)] 29 (0, 0))) ∧ Aside0 (w'.heap[gb396]? = some (.cells #[.int .i64 a1_0, .int .i64 a1_1, .int .i64 a1_2, .bool a1_3] 48 (0, 0))) ∧ Aside0 (w'.heap[gb397]? = some (.cells #[(.slice none 0 0)] 29 (0, 0))) ∧ Aside0 (Below w.heap.size w w'))
    case atStart => exact ⟨(0), (by first | rfl | (simp; done) | (simp [*]; done)), H', ⟨Nat.le_refl _⟩, ⟨bk BK395⟩, ⟨bk BK396⟩, ⟨bk BK397⟩, ⟨bs3 HB GE395 GE396 GE397⟩⟩
    case round =>
     clear H'
     try clear c1
     try clear c2
     try clear p2
     try clear c8
     try clear c10
     try clear c11
     try clear c14
     try clear c15
     try clear c17
     try clear c18
     try clear c21
     try clear c22
     try clear c23
     try clear c25
     try clear c26
     try clear hcz12_0
     try clear hcz15_0 hcz15_1 hcz15_2 hcz15_3
     try clear hcz19_0
     try clear hcz24_0
     try clear hcz27_0
     try clear hfz12_0
     try clear hfz15_0 hfz15_1 hfz15_2 hfz15_3
     try clear hfz19_0
     try clear hfz24_0
     try clear hfz27_0
     try clear p2
     obtain ⟨x21_2, rfl, HA, HK2, BK395, BK396, BK397, HB⟩ := hrel
     cases gk with
     | zero => exact absurd HA.out (by simp [spec_MapPiece.l0])
     | succ k2 =>
      have H := HA.out
      clear HA
      simp only [spec_MapPiece.l0] at H
      by_cases c28 : x21_2 < (l0_0.length : Int)
      ·
       rw [if_pos c28] at H
       have c28b0 : decide (x21_2 < (l0_0.length : Int)) = true := decide_eq_true c28
       clear c28
       by_cases c29 : 0 ≤ x21_2
       ·
        rw [if_pos c29] at H
        have c29b0 : decide (0 ≤ x21_2) = true := decide_eq_true c29
        clear c29
        by_cases c30 : x21_2 < (l0_0.length : Int)
        ·
         rw [if_pos c30] at H
         have c30b0 : decide (x21_2 < (l0_0.length : Int)) = true := decide_eq_true c30
         clear c30
         by_cases c31 : ((rd_T48 l0_0 x21_2).f0) < (wrap64 (a1_0 + a1_1))
         ·
          rw [if_pos c31] at H
          have c31b0 : decide (((rd_T48 l0_0 x21_2).f0) < (wrap64 (a1_0 + a1_1))) = true := decide_eq_true c31
          clear c31
          by_cases c32 : a1_0 < (wrap64 (((rd_T48 l0_0 x21_2).f0) + ((rd_T48 l0_0 x21_2).f1)))
          ·
           rw [if_pos c32] at H
           have c32b0 : decide (a1_0 < (wrap64 (((rd_T48 l0_0 x21_2).f0) + ((rd_T48 l0_0 x21_2).f1)))) = true := decide_eq_true c32
           clear c32
           simp only [Option.some.injEq, Prod.mk.injEq] at H
           obtain ⟨rfl, rfl⟩ := H
           have p400 : 0 ≤ (x21_2 : Int) := of_decide_eq_true (by first | (with_reducible assumption) | assumption)
           have q400 : x21_2 < (l0_0.length : Int) := of_decide_eq_true (by first | (with_reducible assumption) | assumption)
           obtain ⟨ad400, e400, hx400_0, hx400_1, hx400_2, hx400_3⟩ := at_T48 HR0_0.out x21_2 p400 q400
           cases e400
           replace hx400_0 := (HB.out.cell (World.block_lt_of_cell? w _ hx400_0)).trans hx400_0
           replace hx400_1 := (HB.out.cell (World.block_lt_of_cell? w _ hx400_1)).trans hx400_1
           replace hx400_2 := (HB.out.cell (World.block_lt_of_cell? w _ hx400_2)).trans hx400_2
           replace hx400_3 := (HB.out.cell (World.block_lt_of_cell? w _ hx400_3)).trans hx400_3
           replace p400 := eq_true p400
           replace q400 := eq_true q400
           go_wp2_with (first | ((with_reducible refine gate_dst (N := 7) rfl ?_); refine box_event ?hg (N := 7) ?hd (cs := #[.int .i64 0, .int .i64 0, .int .i64 0, .bool false]) (t := 48) ?hr ?_; (case hd => rfl); (case hg => rfl); (case hr => first | (go_simp; done) | (go_simp; rfl)); intro gb401 hg w33 hbox hb; have BK401 := Aside0.mk (hbox); have GW401 := Aside0.mk ((by rw [hg]; exact (below_size (bs3 HB GE395 GE396 GE397)) : w.heap.size ≤ gb401)); have GE401 := Aside0.mk ((by rw [hg]; exact (below_size (bs3 HB GE395 GE396 GE397)) : w.heap.size ≤ gb401)); replace HB := Aside0.mk (below_step (bs3 HB GE395 GE396 GE397) hb); have NB395_401 := Aside0.mk ((bn BK395 hg : gb395 ≠ gb401)); have NB401_395 := Aside0.mk ((bm BK395 hg : gb401 ≠ gb395)); replace BK395 := nb BK395 hb; have NB396_401 := Aside0.mk ((bn BK396 hg : gb396 ≠ gb401)); have NB401_396 := Aside0.mk ((bm BK396 hg : gb401 ≠ gb396)); replace BK396 := nb BK396 hb; have NB397_401 := Aside0.mk ((bn BK397 hg : gb397 ≠ gb401)); have NB401_397 := Aside0.mk ((bm BK397 hg : gb401 ≠ gb397)); replace BK397 := nb BK397 hb; clear hb hbox hg; have hnb34 := NB401_395.out; have hnc34 := NB395_401.out; have hnb35 := NB401_396.out; have hnc35 := NB396_401.out; have hnb36 := NB401_397.out; have hnc36 := NB397_401.out; obtain ⟨hcz37_0, hcz37_1, hcz37_2, hcz37_3⟩ := cz4 BK401; obtain ⟨hfz37_0, hfz37_1, hfz37_2, hfz37_3⟩ := fz4 BK401; have hnb38 := NB396_395.out; have hnc38 := NB395_396.out; have hnb39 := NB396_397.out; have hnc39 := NB397_396.out; obtain ⟨hcz40_0, hcz40_1, hcz40_2, hcz40_3⟩ := cz4 BK396; obtain ⟨hfz40_0, hfz40_1, hfz40_2, hfz40_3⟩ := fz4 BK396; have hnb41 := NB397_395.out; have hnc41 := NB395_397.out; have hcz42_0 := cz1 BK397; have hfz42_0 := fz1 BK397))
           refine bodyPost_ret (results_ct rfl _ _ gb397 29 #[.slice none 0 0] (0, 0) _ rfl (by (with_reducible repeat (first | refine blk_drewN ?_ _ | refine blk_drew ?_ | refine blk_alloc ?_ _)); refine blk_put (cs := #[.slice none 0 0]) ?_ 0 _ rfl; (with_reducible repeat (first | refine blk_drewN ?_ _ | refine blk_drew ?_ | refine blk_alloc ?_ _)); refine blk_far ?_ NB397_401.out _; (with_reducible repeat (first | refine blk_drewN ?_ _ | refine blk_drew ?_ | refine blk_alloc ?_ _)); refine blk_far ?_ NB397_401.out _; (with_reducible repeat (first | refine blk_drewN ?_ _ | refine blk_drew ?_ | refine blk_alloc ?_ _)); refine blk_far ?_ NB397_401.out _; (with_reducible repeat (first | refine blk_drewN ?_ _ | refine blk_drew ?_ | refine blk_alloc ?_ _)); refine blk_far ?_ NB397_401.out _; (with_reducible repeat (first | refine blk_drewN ?_ _ | refine blk_drew ?_ | refine blk_alloc ?_ _)); exact BK397.out) Try.underlying29 rfl (by kernel_rfl)) rfl ?_
           exact ⟨_, by first | rfl | (simp [errW_none, errW_some] <;> rfl) | (simp [*, errW_none, errW_some] <;> rfl), by first | exact Kd.R_nil _ _ _ _ _ | exact Kd.N_nil _ _ _ _ _ | exact Kd.V_nil _ _ _ _ _ | exact Kd.Q_nil _ _ _ _ _ | exact Kd.S_nil _ _ _ _ _, bs4 HB GE395 GE396 GE397 GE401⟩
          ·
           rw [if_neg c32] at H
           have c32b0 : decide (a1_0 < (wrap64 (((rd_T48 l0_0 x21_2).f0) + ((rd_T48 l0_0 x21_2).f1)))) = false := decide_eq_false c32
           clear c32
           by_cases c43 : ((rd_T48 l0_0 x21_2).f2) < (wrap64 (a1_2 + a1_1))
           ·
            rw [if_pos c43] at H
            have c43b0 : decide (((rd_T48 l0_0 x21_2).f2) < (wrap64 (a1_2 + a1_1))) = true := decide_eq_true c43
            clear c43
            by_cases c44 : a1_2 < (wrap64 (((rd_T48 l0_0 x21_2).f2) + ((rd_T48 l0_0 x21_2).f1)))
            ·
             rw [if_pos c44] at H
             have c44b0 : decide (a1_2 < (wrap64 (((rd_T48 l0_0 x21_2).f2) + ((rd_T48 l0_0 x21_2).f1)))) = true := decide_eq_true c44
             clear c44
             simp only [Option.some.injEq, Prod.mk.injEq] at H
             obtain ⟨rfl, rfl⟩ := H
             have p400 : 0 ≤ (x21_2 : Int) := of_decide_eq_true (by first | (with_reducible assumption) | assumption)
             have q400 : x21_2 < (l0_0.length : Int) := of_decide_eq_true (by first | (with_reducible assumption) | assumption)
             obtain ⟨ad400, e400, hx400_0, hx400_1, hx400_2, hx400_3⟩ := at_T48 HR0_0.out x21_2 p400 q400
             cases e400
             replace hx400_0 := (HB.out.cell (World.block_lt_of_cell? w _ hx400_0)).trans hx400_0
             replace hx400_1 := (HB.out.cell (World.block_lt_of_cell? w _ hx400_1)).trans hx400_1
             replace hx400_2 := (HB.out.cell (World.block_lt_of_cell? w _ hx400_2)).trans hx400_2
             replace hx400_3 := (HB.out.cell (World.block_lt_of_cell? w _ hx400_3)).trans hx400_3
             replace p400 := eq_true p400
             replace q400 := eq_true q400
             go_wp2_with (first | ((with_reducible refine gate_dst (N := 7) rfl ?_); refine box_event ?hg (N := 7) ?hd (cs := #[.int .i64 0, .int .i64 0, .int .i64 0, .bool false]) (t := 48) ?hr ?_; (case hd => rfl); (case hg => rfl); (case hr => first | (go_simp; done) | (go_simp; rfl)); intro gb401 hg w45 hbox hb; have BK401 := Aside0.mk (hbox); have GW401 := Aside0.mk ((by rw [hg]; exact (below_size (bs3 HB GE395 GE396 GE397)) : w.heap.size ≤ gb401)); have GE401 := Aside0.mk ((by rw [hg]; exact (below_size (bs3 HB GE395 GE396 GE397)) : w.heap.size ≤ gb401)); replace HB := Aside0.mk (below_step (bs3 HB GE395 GE396 GE397) hb); have NB395_401 := Aside0.mk ((bn BK395 hg : gb395 ≠ gb401)); have NB401_395 := Aside0.mk ((bm BK395 hg : gb401 ≠ gb395)); replace BK395 := nb BK395 hb; have NB396_401 := Aside0.mk ((bn BK396 hg : gb396 ≠ gb401)); have NB401_396 := Aside0.mk ((bm BK396 hg : gb401 ≠ gb396)); replace BK396 := nb BK396 hb; have NB397_401 := Aside0.mk ((bn BK397 hg : gb397 ≠ gb401)); have NB401_397 := Aside0.mk ((bm BK397 hg : gb401 ≠ gb397)); replace BK397 := nb BK397 hb; clear hb hbox hg; have hnb46 := NB401_395.out; have hnc46 := NB395_401.out; have hnb47 := NB401_396.out; have hnc47 := NB396_401.out; have hnb48 := NB401_397.out; have hnc48 := NB397_401.out; obtain ⟨hcz49_0, hcz49_1, hcz49_2, hcz49_3⟩ := cz4 BK401; obtain ⟨hfz49_0, hfz49_1, hfz49_2, hfz49_3⟩ := fz4 BK401; have hnb50 := NB396_395.out; have hnc50 := NB395_396.out; have hnb51 := NB396_397.out; have hnc51 := NB397_396.out; obtain ⟨hcz52_0, hcz52_1, hcz52_2, hcz52_3⟩ := cz4 BK396; obtain ⟨hfz52_0, hfz52_1, hfz52_2, hfz52_3⟩ := fz4 BK396; have hnb53 := NB397_395.out; have hnc53 := NB395_397.out; have hcz54_0 := cz1 BK397; have hfz54_0 := fz1 BK397))
             refine bodyPost_ret (results_ct rfl _ _ gb397 29 #[.slice none 0 0] (0, 0) _ rfl (by (with_reducible repeat (first | refine blk_drewN ?_ _ | refine blk_drew ?_ | refine blk_alloc ?_ _)); refine blk_put (cs := #[.slice none 0 0]) ?_ 0 _ rfl; (with_reducible repeat (first | refine blk_drewN ?_ _ | refine blk_drew ?_ | refine blk_alloc ?_ _)); refine blk_far ?_ NB397_401.out _; (with_reducible repeat (first | refine blk_drewN ?_ _ | refine blk_drew ?_ | refine blk_alloc ?_ _)); refine blk_far ?_ NB397_401.out _; (with_reducible repeat (first | refine blk_drewN ?_ _ | refine blk_drew ?_ | refine blk_alloc ?_ _)); refine blk_far ?_ NB397_401.out _; (with_reducible repeat (first | refine blk_drewN ?_ _ | refine blk_drew ?_ | refine blk_alloc ?_ _)); refine blk_far ?_ NB397_401.out _; (with_reducible repeat (first | refine blk_drewN ?_ _ | refine blk_drew ?_ | refine blk_alloc ?_ _)); exact BK397.out) Try.underlying29 rfl (by kernel_rfl)) rfl ?_
             exact ⟨_, by first | rfl | (simp [errW_none, errW_some] <;> rfl) | (simp [*, errW_none, errW_some] <;> rfl), by first | exact Kd.R_nil _ _ _ _ _ | exact Kd.N_nil _ _ _ _ _ | exact Kd.V_nil _ _ _ _ _ | exact Kd.Q_nil _ _ _ _ _ | exact Kd.S_nil _ _ _ _ _, bs4 HB GE395 GE396 GE397 GE401⟩
            ·
             rw [if_neg c44] at H
             have c44b0 : decide (a1_2 < (wrap64 (((rd_T48 l0_0 x21_2).f2) + ((rd_T48 l0_0 x21_2).f1)))) = false := decide_eq_false c44
             clear c44
             have H' := Aside0.mk H
             clear H
             have p400 : 0 ≤ (x21_2 : Int) := of_decide_eq_true (by first | (with_reducible assumption) | assumption)
             have q400 : x21_2 < (l0_0.length : Int) := of_decide_eq_true (by first | (with_reducible assumption) | assumption)
             obtain ⟨ad400, e400, hx400_0, hx400_1, hx400_2, hx400_3⟩ := at_T48 HR0_0.out x21_2 p400 q400
             cases e400
             replace hx400_0 := (HB.out.cell (World.block_lt_of_cell? w _ hx400_0)).trans hx400_0
             replace hx400_1 := (HB.out.cell (World.block_lt_of_cell? w _ hx400_1)).trans hx400_1
             replace hx400_2 := (HB.out.cell (World.block_lt_of_cell? w _ hx400_2)).trans hx400_2
             replace hx400_3 := (HB.out.cell (World.block_lt_of_cell? w _ hx400_3)).trans hx400_3
             replace p400 := eq_true p400
             replace q400 := eq_true q400
             go_wp2_with (first | ((with_reducible refine gate_dst (N := 7) rfl ?_); refine box_event ?hg (N := 7) ?hd (cs := #[.int .i64 0, .int .i64 0, .int .i64 0, .bool false]) (t := 48) ?hr ?_; (case hd => rfl); (case hg => rfl); (case hr => first | (go_simp; done) | (go_simp; rfl)); intro gb401 hg w55 hbox hb; have BK401 := Aside0.mk (hbox); have GW401 := Aside0.mk ((by rw [hg]; exact (below_size (bs3 HB GE395 GE396 GE397)) : w.heap.size ≤ gb401)); have GE401 := Aside0.mk ((by rw [hg]; exact (below_size (bs3 HB GE395 GE396 GE397)) : w.heap.size ≤ gb401)); replace HB := Aside0.mk (below_step (bs3 HB GE395 GE396 GE397) hb); have NB395_401 := Aside0.mk ((bn BK395 hg : gb395 ≠ gb401)); have NB401_395 := Aside0.mk ((bm BK395 hg : gb401 ≠ gb395)); replace BK395 := nb BK395 hb; have NB396_401 := Aside0.mk ((bn BK396 hg : gb396 ≠ gb401)); have NB401_396 := Aside0.mk ((bm BK396 hg : gb401 ≠ gb396)); replace BK396 := nb BK396 hb; have NB397_401 := Aside0.mk ((bn BK397 hg : gb397 ≠ gb401)); have NB401_397 := Aside0.mk ((bm BK397 hg : gb401 ≠ gb397)); replace BK397 := nb BK397 hb; clear hb hbox hg; have hnb56 := NB401_395.out; have hnc56 := NB395_401.out; have hnb57 := NB401_396.out; have hnc57 := NB396_401.out; have hnb58 := NB401_397.out; have hnc58 := NB397_401.out; obtain ⟨hcz59_0, hcz59_1, hcz59_2, hcz59_3⟩ := cz4 BK401; obtain ⟨hfz59_0, hfz59_1, hfz59_2, hfz59_3⟩ := fz4 BK401; have hnb60 := NB396_395.out; have hnc60 := NB395_396.out; have hnb61 := NB396_397.out; have hnc61 := NB397_396.out; obtain ⟨hcz62_0, hcz62_1, hcz62_2, hcz62_3⟩ := cz4 BK396; obtain ⟨hfz62_0, hfz62_1, hfz62_2, hfz62_3⟩ := fz4 BK396))
             go_roundg k2
             case measure => have := HJ2.out; have := HK2.out; omega
             case rel => exact ⟨(wrap64 (x21_2 + 1)), (by first | rfl | (simp; done) | (simp [*]; done)), H', ⟨by have := HJ2.out; have := HK2.out; omega⟩, ⟨bf BK395 NB395_401⟩, ⟨bf BK396 NB396_401⟩, ⟨bf BK397 NB397_401⟩, ⟨bs4 HB GE395 GE396 GE397 GE401⟩⟩
           ·
            rw [if_neg c43] at H
            have c43b0 : decide (((rd_T48 l0_0 x21_2).f2) < (wrap64 (a1_2 + a1_1))) = false := decide_eq_false c43
            clear c43
            have H' := Aside0.mk H
            clear H
            have p400 : 0 ≤ (x21_2 : Int) := of_decide_eq_true (by first | (with_reducible assumption) | assumption)
            have q400 : x21_2 < (l0_0.length : Int) := of_decide_eq_true (by first | (with_reducible assumption) | assumption)
            obtain ⟨ad400, e400, hx400_0, hx400_1, hx400_2, hx400_3⟩ := at_T48 HR0_0.out x21_2 p400 q400
            cases e400
            replace hx400_0 := (HB.out.cell (World.block_lt_of_cell? w _ hx400_0)).trans hx400_0
            replace hx400_1 := (HB.out.cell (World.block_lt_of_cell? w _ hx400_1)).trans hx400_1
            replace hx400_2 := (HB.out.cell (World.block_lt_of_cell? w _ hx400_2)).trans hx400_2
            replace hx400_3 := (HB.out.cell (World.block_lt_of_cell? w _ hx400_3)).trans hx400_3
            replace p400 := eq_true p400
            replace q400 := eq_true q400
            go_wp2_with (first | ((with_reducible refine gate_dst (N := 7) rfl ?_); refine box_event ?hg (N := 7) ?hd (cs := #[.int .i64 0, .int .i64 0, .int .i64 0, .bool false]) (t := 48) ?hr ?_; (case hd => rfl); (case hg => rfl); (case hr => first | (go_simp; done) | (go_simp; rfl)); intro gb401 hg w63 hbox hb; have BK401 := Aside0.mk (hbox); have GW401 := Aside0.mk ((by rw [hg]; exact (below_size (bs3 HB GE395 GE396 GE397)) : w.heap.size ≤ gb401)); have GE401 := Aside0.mk ((by rw [hg]; exact (below_size (bs3 HB GE395 GE396 GE397)) : w.heap.size ≤ gb401)); replace HB := Aside0.mk (below_step (bs3 HB GE395 GE396 GE397) hb); have NB395_401 := Aside0.mk ((bn BK395 hg : gb395 ≠ gb401)); have NB401_395 := Aside0.mk ((bm BK395 hg : gb401 ≠ gb395)); replace BK395 := nb BK395 hb; have NB396_401 := Aside0.mk ((bn BK396 hg : gb396 ≠ gb401)); have NB401_396 := Aside0.mk ((bm BK396 hg : gb401 ≠ gb396)); replace BK396 := nb BK396 hb; have NB397_401 := Aside0.mk ((bn BK397 hg : gb397 ≠ gb401)); have NB401_397 := Aside0.mk ((bm BK397 hg : gb401 ≠ gb397)); replace BK397 := nb BK397 hb; clear hb hbox hg; have hnb64 := NB401_395.out; have hnc64 := NB395_401.out; have hnb65 := NB401_396.out; have hnc65 := NB396_401.out; have hnb66 := NB401_397.out; have hnc66 := NB397_401.out; obtain ⟨hcz67_0, hcz67_1, hcz67_2, hcz67_3⟩ := cz4 BK401; obtain ⟨hfz67_0, hfz67_1, hfz67_2, hfz67_3⟩ := fz4 BK401; have hnb68 := NB396_395.out; have hnc68 := NB395_396.out; have hnb69 := NB396_397.out; have hnc69 := NB397_396.out; obtain ⟨hcz70_0, hcz70_1, hcz70_2, hcz70_3⟩ := cz4 BK396; obtain ⟨hfz70_0, hfz70_1, hfz70_2, hfz70_3⟩ := fz4 BK396))
            go_roundg k2
            case measure => have := HJ2.out; have := HK2.out; omega
            case rel => exact ⟨(wrap64 (x21_2 + 1)), (by first | rfl | (simp; done) | (simp [*]; done)), H', ⟨by have := HJ2.out; have := HK2.out; omega⟩, ⟨bf BK395 NB395_401⟩, ⟨bf BK396 NB396_401⟩, ⟨bf BK397 NB397_401⟩, ⟨bs4 HB GE395 GE396 GE397 GE401⟩⟩
         ·
          rw [if_neg c31] at H
          have c31b0 : decide (((rd_T48 l0_0 x21_2).f0) < (wrap64 (a1_0 + a1_1))) = false := decide_eq_false c31
          clear c31
          by_cases c71 : ((rd_T48 l0_0 x21_2).f2) < (wrap64 (a1_2 + a1_1))
          ·
           rw [if_pos c71] at H
           have c71b0 : decide (((rd_T48 l0_0 x21_2).f2) < (wrap64 (a1_2 + a1_1))) = true := decide_eq_true c71
           clear c71
           by_cases c72 : a1_2 < (wrap64 (((rd_T48 l0_0 x21_2).f2) + ((rd_T48 l0_0 x21_2).f1)))
           ·
            rw [if_pos c72] at H
            have c72b0 : decide (a1_2 < (wrap64 (((rd_T48 l0_0 x21_2).f2) + ((rd_T48 l0_0 x21_2).f1)))) = true := decide_eq_true c72
            clear c72
            simp only [Option.some.injEq, Prod.mk.injEq] at H
            obtain ⟨rfl, rfl⟩ := H
            have p400 : 0 ≤ (x21_2 : Int) := of_decide_eq_true (by first | (with_reducible assumption) | assumption)
            have q400 : x21_2 < (l0_0.length : Int) := of_decide_eq_true (by first | (with_reducible assumption) | assumption)
            obtain ⟨ad400, e400, hx400_0, hx400_1, hx400_2, hx400_3⟩ := at_T48 HR0_0.out x21_2 p400 q400
            cases e400
            replace hx400_0 := (HB.out.cell (World.block_lt_of_cell? w _ hx400_0)).trans hx400_0
            replace hx400_1 := (HB.out.cell (World.block_lt_of_cell? w _ hx400_1)).trans hx400_1
            replace hx400_2 := (HB.out.cell (World.block_lt_of_cell? w _ hx400_2)).trans hx400_2
            replace hx400_3 := (HB.out.cell (World.block_lt_of_cell? w _ hx400_3)).trans hx400_3
            replace p400 := eq_true p400
            replace q400 := eq_true q400
            go_wp2_with (first | ((with_reducible refine gate_dst (N := 7) rfl ?_); refine box_event ?hg (N := 7) ?hd (cs := #[.int .i64 0, .int .i64 0, .int .i64 0, .bool false]) (t := 48) ?hr ?_; (case hd => rfl); (case hg => rfl); (case hr => first | (go_simp; done) | (go_simp; rfl)); intro gb401 hg w73 hbox hb; have BK401 := Aside0.mk (hbox); have GW401 := Aside0.mk ((by rw [hg]; exact (below_size (bs3 HB GE395 GE396 GE397)) : w.heap.size ≤ gb401)); have GE401 := Aside0.mk ((by rw [hg]; exact (below_size (bs3 HB GE395 GE396 GE397)) : w.heap.size ≤ gb401)); replace HB := Aside0.mk (below_step (bs3 HB GE395 GE396 GE397) hb); have NB395_401 := Aside0.mk ((bn BK395 hg : gb395 ≠ gb401)); have NB401_395 := Aside0.mk ((bm BK395 hg : gb401 ≠ gb395)); replace BK395 := nb BK395 hb; have NB396_401 := Aside0.mk ((bn BK396 hg : gb396 ≠ gb401)); have NB401_396 := Aside0.mk ((bm BK396 hg : gb401 ≠ gb396)); replace BK396 := nb BK396 hb; have NB397_401 := Aside0.mk ((bn BK397 hg : gb397 ≠ gb401)); have NB401_397 := Aside0.mk ((bm BK397 hg : gb401 ≠ gb397)); replace BK397 := nb BK397 hb; clear hb hbox hg; have hnb74 := NB401_395.out; have hnc74 := NB395_401.out; have hnb75 := NB401_396.out; have hnc75 := NB396_401.out; have hnb76 := NB401_397.out; have hnc76 := NB397_401.out; obtain ⟨hcz77_0, hcz77_1, hcz77_2, hcz77_3⟩ := cz4 BK401; obtain ⟨hfz77_0, hfz77_1, hfz77_2, hfz77_3⟩ := fz4 BK401; have hnb78 := NB396_395.out; have hnc78 := NB395_396.out; have hnb79 := NB396_397.out; have hnc79 := NB397_396.out; obtain ⟨hcz80_0, hcz80_1, hcz80_2, hcz80_3⟩ := cz4 BK396; obtain ⟨hfz80_0, hfz80_1, hfz80_2, hfz80_3⟩ := fz4 BK396; have hnb81 := NB397_395.out; have hnc81 := NB395_397.out; have hcz82_0 := cz1 BK397; have hfz82_0 := fz1 BK397))
            refine bodyPost_ret (results_ct rfl _ _ gb397 29 #[.slice none 0 0] (0, 0) _ rfl (by (with_reducible repeat (first | refine blk_drewN ?_ _ | refine blk_drew ?_ | refine blk_alloc ?_ _)); refine blk_put (cs := #[.slice none 0 0]) ?_ 0 _ rfl; (with_reducible repeat (first | refine blk_drewN ?_ _ | refine blk_drew ?_ | refine blk_alloc ?_ _)); refine blk_far ?_ NB397_401.out _; (with_reducible repeat (first | refine blk_drewN ?_ _ | refine blk_drew ?_ | refine blk_alloc ?_ _)); refine blk_far ?_ NB397_401.out _; (with_reducible repeat (first | refine blk_drewN ?_ _ | refine blk_drew ?_ | refine blk_alloc ?_ _)); refine blk_far ?_ NB397_401.out _; (with_reducible repeat (first | refine blk_drewN ?_ _ | refine blk_drew ?_ | refine blk_alloc ?_ _)); refine blk_far ?_ NB397_401.out _; (with_reducible repeat (first | refine blk_drewN ?_ _ | refine blk_drew ?_ | refine blk_alloc ?_ _)); exact BK397.out) Try.underlying29 rfl (by kernel_rfl)) rfl ?_
            exact ⟨_, by first | rfl | (simp [errW_none, errW_some] <;> rfl) | (simp [*, errW_none, errW_some] <;> rfl), by first | exact Kd.R_nil _ _ _ _ _ | exact Kd.N_nil _ _ _ _ _ | exact Kd.V_nil _ _ _ _ _ | exact Kd.Q_nil _ _ _ _ _ | exact Kd.S_nil _ _ _ _ _, bs4 HB GE395 GE396 GE397 GE401⟩
           ·
            rw [if_neg c72] at H
            have c72b0 : decide (a1_2 < (wrap64 (((rd_T48 l0_0 x21_2).f2) + ((rd_T48 l0_0 x21_2).f1)))) = false := decide_eq_false c72
            clear c72
            have H' := Aside0.mk H
            clear H
            have p400 : 0 ≤ (x21_2 : Int) := of_decide_eq_true (by first | (with_reducible assumption) | assumption)
            have q400 : x21_2 < (l0_0.length : Int) := of_decide_eq_true (by first | (with_reducible assumption) | assumption)
            obtain ⟨ad400, e400, hx400_0, hx400_1, hx400_2, hx400_3⟩ := at_T48 HR0_0.out x21_2 p400 q400
            cases e400
            replace hx400_0 := (HB.out.cell (World.block_lt_of_cell? w _ hx400_0)).trans hx400_0
            replace hx400_1 := (HB.out.cell (World.block_lt_of_cell? w _ hx400_1)).trans hx400_1
            replace hx400_2 := (HB.out.cell (World.block_lt_of_cell? w _ hx400_2)).trans hx400_2
            replace hx400_3 := (HB.out.cell (World.block_lt_of_cell? w _ hx400_3)).trans hx400_3
            replace p400 := eq_true p400
            replace q400 := eq_true q400
            go_wp2_with (first | ((with_reducible refine gate_dst (N := 7) rfl ?_); refine box_event ?hg (N := 7) ?hd (cs := #[.int .i64 0, .int .i64 0, .int .i64 0, .bool false]) (t := 48) ?hr ?_; (case hd => rfl); (case hg => rfl); (case hr => first | (go_simp; done) | (go_simp; rfl)); intro gb401 hg w83 hbox hb; have BK401 := Aside0.mk (hbox); have GW401 := Aside0.mk ((by rw [hg]; exact (below_size (bs3 HB GE395 GE396 GE397)) : w.heap.size ≤ gb401)); have GE401 := Aside0.mk ((by rw [hg]; exact (below_size (bs3 HB GE395 GE396 GE397)) : w.heap.size ≤ gb401)); replace HB := Aside0.mk (below_step (bs3 HB GE395 GE396 GE397) hb); have NB395_401 := Aside0.mk ((bn BK395 hg : gb395 ≠ gb401)); have NB401_395 := Aside0.mk ((bm BK395 hg : gb401 ≠ gb395)); replace BK395 := nb BK395 hb; have NB396_401 := Aside0.mk ((bn BK396 hg : gb396 ≠ gb401)); have NB401_396 := Aside0.mk ((bm BK396 hg : gb401 ≠ gb396)); replace BK396 := nb BK396 hb; have NB397_401 := Aside0.mk ((bn BK397 hg : gb397 ≠ gb401)); have NB401_397 := Aside0.mk ((bm BK397 hg : gb401 ≠ gb397)); replace BK397 := nb BK397 hb; clear hb hbox hg; have hnb84 := NB401_395.out; have hnc84 := NB395_401.out; have hnb85 := NB401_396.out; have hnc85 := NB396_401.out; have hnb86 := NB401_397.out; have hnc86 := NB397_401.out; obtain ⟨hcz87_0, hcz87_1, hcz87_2, hcz87_3⟩ := cz4 BK401; obtain ⟨hfz87_0, hfz87_1, hfz87_2, hfz87_3⟩ := fz4 BK401; have hnb88 := NB396_395.out; have hnc88 := NB395_396.out; have hnb89 := NB396_397.out; have hnc89 := NB397_396.out; obtain ⟨hcz90_0, hcz90_1, hcz90_2, hcz90_3⟩ := cz4 BK396; obtain ⟨hfz90_0, hfz90_1, hfz90_2, hfz90_3⟩ := fz4 BK396))
            go_roundg k2
            case measure => have := HJ2.out; have := HK2.out; omega
            case rel => exact ⟨(wrap64 (x21_2 + 1)), (by first | rfl | (simp; done) | (simp [*]; done)), H', ⟨by have := HJ2.out; have := HK2.out; omega⟩, ⟨bf BK395 NB395_401⟩, ⟨bf BK396 NB396_401⟩, ⟨bf BK397 NB397_401⟩, ⟨bs4 HB GE395 GE396 GE397 GE401⟩⟩
          ·
           rw [if_neg c71] at H
           have c71b0 : decide (((rd_T48 l0_0 x21_2).f2) < (wrap64 (a1_2 + a1_1))) = false := decide_eq_false c71
           clear c71
           have H' := Aside0.mk H
           clear H
           have p400 : 0 ≤ (x21_2 : Int) := of_decide_eq_true (by first | (with_reducible assumption) | assumption)
           have q400 : x21_2 < (l0_0.length : Int) := of_decide_eq_true (by first | (with_reducible assumption) | assumption)
           obtain ⟨ad400, e400, hx400_0, hx400_1, hx400_2, hx400_3⟩ := at_T48 HR0_0.out x21_2 p400 q400
           cases e400
           replace hx400_0 := (HB.out.cell (World.block_lt_of_cell? w _ hx400_0)).trans hx400_0
           replace hx400_1 := (HB.out.cell (World.block_lt_of_cell? w _ hx400_1)).trans hx400_1
           replace hx400_2 := (HB.out.cell (World.block_lt_of_cell? w _ hx400_2)).trans hx400_2
           replace hx400_3 := (HB.out.cell (World.block_lt_of_cell? w _ hx400_3)).trans hx400_3
           replace p400 := eq_true p400
           replace q400 := eq_true q400
           go_wp2_with (first | ((with_reducible refine gate_dst (N := 7) rfl ?_); refine box_event ?hg (N := 7) ?hd (cs := #[.int .i64 0, .int .i64 0, .int .i64 0, .bool false]) (t := 48) ?hr ?_; (case hd => rfl); (case hg => rfl); (case hr => first | (go_simp; done) | (go_simp; rfl)); intro gb401 hg w91 hbox hb; have BK401 := Aside0.mk (hbox); have GW401 := Aside0.mk ((by rw [hg]; exact (below_size (bs3 HB GE395 GE396 GE397)) : w.heap.size ≤ gb401)); have GE401 := Aside0.mk ((by rw [hg]; exact (below_size (bs3 HB GE395 GE396 GE397)) : w.heap.size ≤ gb401)); replace HB := Aside0.mk (below_step (bs3 HB GE395 GE396 GE397) hb); have NB395_401 := Aside0.mk ((bn BK395 hg : gb395 ≠ gb401)); have NB401_395 := Aside0.mk ((bm BK395 hg : gb401 ≠ gb395)); replace BK395 := nb BK395 hb; have NB396_401 := Aside0.mk ((bn BK396 hg : gb396 ≠ gb401)); have NB401_396 := Aside0.mk ((bm BK396 hg : gb401 ≠ gb396)); replace BK396 := nb BK396 hb; have NB397_401 := Aside0.mk ((bn BK397 hg : gb397 ≠ gb401)); have NB401_397 := Aside0.mk ((bm BK397 hg : gb401 ≠ gb397)); replace BK397 := nb BK397 hb; clear hb hbox hg; have hnb92 := NB401_395.out; have hnc92 := NB395_401.out; have hnb93 := NB401_396.out; have hnc93 := NB396_401.out; have hnb94 := NB401_397.out; have hnc94 := NB397_401.out; obtain ⟨hcz95_0, hcz95_1, hcz95_2, hcz95_3⟩ := cz4 BK401; obtain ⟨hfz95_0, hfz95_1, hfz95_2, hfz95_3⟩ := fz4 BK401; have hnb96 := NB396_395.out; have hnc96 := NB395_396.out; have hnb97 := NB396_397.out; have hnc97 := NB397_396.out; obtain ⟨hcz98_0, hcz98_1, hcz98_2, hcz98_3⟩ := cz4 BK396; obtain ⟨hfz98_0, hfz98_1, hfz98_2, hfz98_3⟩ := fz4 BK396))
           go_roundg k2
           case measure => have := HJ2.out; have := HK2.out; omega
           case rel => exact ⟨(wrap64 (x21_2 + 1)), (by first | rfl | (simp; done) | (simp [*]; done)), H', ⟨by have := HJ2.out; have := HK2.out; omega⟩, ⟨bf BK395 NB395_401⟩, ⟨bf BK396 NB396_401⟩, ⟨bf BK397 NB397_401⟩, ⟨bs4 HB GE395 GE396 GE397 GE401⟩⟩
        ·
         rw [if_neg c30] at H
         exact absurd H (by simp)
       ·
        rw [if_neg c29] at H
        exact absurd H (by simp)
      ·
       rw [if_neg c28] at H
       have c28b0 : decide (x21_2 < (l0_0.length : Int)) = false := decide_eq_false c28
       clear c28
       replace H := Option.bind_eq_some_iff.mp H
       obtain ⟨t402, A990, H⟩ := H
       replace H : ((spec_l9Joined.f k2 t402).bind fun t405 => ((spec_GoodMap.f k2 t405).bind fun t409 => (if t409 = true then (some (t405, true)) else (some (([] : List (S48)), false))))) = some (r1, r2) := H
       have A99 := Aside0.mk A990
       clear A990
       replace H := Option.bind_eq_some_iff.mp H
       obtain ⟨t405, A1000, H⟩ := H
       replace H : ((spec_GoodMap.f k2 t405).bind fun t409 => (if t409 = true then (some (t405, true)) else (some (([] : List (S48)), false)))) = some (r1, r2) := H
       have A100 := Aside0.mk A1000
       clear A1000
       replace H := Option.bind_eq_some_iff.mp H
       obtain ⟨t409, A1010, H⟩ := H
       replace H : (if t409 = true then (some (t405, true)) else (some (([] : List (S48)), false))) = some (r1, r2) := H
       have A101 := Aside0.mk A1010
       clear A1010
       by_cases c102 : t409 = true
       ·
        subst c102
        rw [if_pos rfl] at H
        simp only [Option.some.injEq, Prod.mk.injEq] at H
        obtain ⟨rfl, rfl⟩ := H
        have hnb103 := NB395_396.out
        have hnc103 := NB396_395.out
        have hnb104 := NB395_397.out
        have hnc104 := NB397_395.out
        have hcz105_0 := cz1 BK395
        have hfz105_0 := fz1 BK395
        have hnb106 := NB396_397.out
        have hnc106 := NB397_396.out
        obtain ⟨hcz107_0, hcz107_1, hcz107_2, hcz107_3⟩ := cz4 BK396
        obtain ⟨hfz107_0, hfz107_1, hfz107_2, hfz107_3⟩ := fz4 BK396
        go_wp2_with (first | ((with_reducible refine gate_callee (f := 63) rfl ?_); refine gL (some 68) rfl rfl Try.func63 (by kernel_rfl) rfl #[.slice A0_0 l0_0.length c0_0, .agg #[.int .i64 a1_0, .int .i64 a1_1, .int .i64 a1_2, .bool a1_3]] rfl ?_; (with_reducible refine (spec_l9Put.calls k2 _ _ l0_0 a1_0 a1_1 a1_2 a1_3 t402 _ ?side1 ?side2 A99.out).mono ?_); (case side1 => exact cb HR0_0 HB); (case side2 => exact HC0_0.out); rintro e w108 ⟨v403, rfl, ho0, hb⟩; refine ⟨_, rfl, ?_⟩; have HO404 := Aside0.mk (Kd.R_lower (Kd.R_newB ho0 (g := gb396) (o := .cells #[.int .i64 a1_0, .int .i64 a1_1, .int .i64 a1_2, .bool a1_3] 48 (0, 0)) (bk BK396)) (below_size (bs3 HB GE395 GE396 GE397))); replace BK395 := nb BK395 hb; replace BK396 := nb BK396 hb; replace BK397 := nb BK397 hb; replace HB := Aside0.mk (below_step (bs3 HB GE395 GE396 GE397) hb); (try clear hb); (try clear hb2); (try clear hk); (try clear hi); (try clear ho0); obtain ⟨Ao109, co109, eo109⟩ := Kd.R_slice HO404.out; subst eo109) | ((with_reducible refine gate_callee (f := 62) rfl ?_); refine gL (some 69) rfl rfl Try.func62 (by kernel_rfl) rfl #[.slice Ao109 t402.length co109] rfl ?_; (with_reducible refine (spec_l9Joined.calls k2 _ _ t402 t405 _ ?side1 ?side2 A100.out).mono ?_); (case side1 => exact rc0 HO404); (case side2 => exact (Kd.R_reads' HO404.out).2.1); rintro e w110 ⟨v406, rfl, ho0, hb⟩; refine ⟨_, rfl, ?_⟩; have HO407 := Aside0.mk (Kd.R_lower (Kd.R_newB (Kd.R_new' ho0 (Kd.R_lt (rr HO404.out))) (g := gb396) (o := .cells #[.int .i64 a1_0, .int .i64 a1_1, .int .i64 a1_2, .bool a1_3] 48 (0, 0)) (bk BK396)) (below_size (bs3 HB GE395 GE396 GE397))); replace HO404 := Aside0.mk (Kd.R_elder' (rr HO404.out) (Kd.R_base ho0) hb); replace BK395 := nb BK395 hb; replace BK396 := nb BK396 hb; replace BK397 := nb BK397 hb; replace HB := Aside0.mk (below_step (bs3 HB GE395 GE396 GE397) hb); (try clear hb); (try clear hb2); (try clear hk); (try clear hi); (try clear ho0)) | ((with_reducible refine gate_dst (N := 8) rfl ?_); refine box_event ?hg (N := 8) ?hd (cs := #[.slice none 0 0]) (t := 29) ?hr ?_; (case hd => rfl); (case hg => rfl); (case hr => first | (go_simp; done) | (go_simp; rfl)); intro gb408 hg w111 hbox hb; replace HO404 := nr HO404 hb; replace HO407 := nr HO407 hb; have BK408 := Aside0.mk (hbox); have GW408 := Aside0.mk ((by rw [hg]; exact (below_size (bs3 HB GE395 GE396 GE397)) : w.heap.size ≤ gb408)); have GE408 := Aside0.mk ((by rw [hg]; exact (below_size (bs3 HB GE395 GE396 GE397)) : w.heap.size ≤ gb408)); replace HB := Aside0.mk (below_step (bs3 HB GE395 GE396 GE397) hb); have NB395_408 := Aside0.mk ((bn BK395 hg : gb395 ≠ gb408)); have NB408_395 := Aside0.mk ((bm BK395 hg : gb408 ≠ gb395)); replace BK395 := nb BK395 hb; have NB396_408 := Aside0.mk ((bn BK396 hg : gb396 ≠ gb408)); have NB408_396 := Aside0.mk ((bm BK396 hg : gb408 ≠ gb396)); replace BK396 := nb BK396 hb; have NB397_408 := Aside0.mk ((bn BK397 hg : gb397 ≠ gb408)); have NB408_397 := Aside0.mk ((bm BK397 hg : gb408 ≠ gb397)); replace BK397 := nb BK397 hb; clear hb hbox hg; obtain ⟨Ao112, co112, eo112⟩ := Kd.R_slice HO407.out; subst eo112; have hnb113 := NB408_395.out; have hnc113 := NB395_408.out; have hnb114 := NB408_396.out; have hnc114 := NB396_408.out; have hnb115 := NB408_397.out; have hnc115 := NB397_408.out; have hcz116_0 := cz1 BK408; have hfz116_0 := fz1 BK408) | ((with_reducible refine gate_callee (f := 15) rfl ?_); refine gL (some 71) rfl rfl Try.func15 (by kernel_rfl) rfl #[.agg #[.slice Ao112 t405.length co112]] rfl ?_; (with_reducible refine (spec_GoodMap.calls k2 _ _ t405 true _ ?side1 ?side2 A101.out).mono ?_); (case side1 => exact rc HO407 BK408); (case side2 => exact (Kd.R_reads' HO407.out).2.1); rintro e w117 ⟨rfl, hb⟩; refine ⟨_, rfl, ?_⟩; replace HO404 := nf HO404 BK408 hb; replace HO407 := nf HO407 BK408 hb; replace BK395 := Aside0.mk (blk_below (bf BK395 NB395_408) hb); replace BK396 := Aside0.mk (blk_below (bf BK396 NB396_408) hb); replace BK397 := Aside0.mk (blk_below (bf BK397 NB397_408) hb); replace BK408 := Aside0.mk (blk_below (g := gb408) (o := .cells #[.slice Ao112 t405.length co112] 29 (0, 0)) (by (with_reducible repeat (first | refine blk_drewN ?_ _ | refine blk_drew ?_ | refine blk_alloc ?_ _)); refine blk_put (cs := #[.slice none 0 0]) ?_ 0 _ rfl; (with_reducible repeat (first | refine blk_drewN ?_ _ | refine blk_drew ?_ | refine blk_alloc ?_ _)); exact BK408.out) hb); replace HB := Aside0.mk (below_step (bs4 HB GE395 GE396 GE397 GE408) hb); (try clear hb); (try clear hb2); (try clear hk); (try clear hi); have hcz118_0 := cz1 BK408; have hfz118_0 := fz1 BK408; have hcz119_0 := cz1 BK397; have hfz119_0 := fz1 BK397))
        refine bodyPost_ret (results_ct rfl _ _ gb397 29 #[.slice Ao112 t405.length co112] (0, 0) _ rfl (by (with_reducible repeat (first | refine blk_drewN ?_ _ | refine blk_drew ?_ | refine blk_alloc ?_ _)); refine blk_put (cs := #[.slice none 0 0]) ?_ 0 _ rfl; (with_reducible repeat (first | refine blk_drewN ?_ _ | refine blk_drew ?_ | refine blk_alloc ?_ _)); exact BK397.out) Try.underlying29 rfl (by kernel_rfl)) rfl ?_
        exact ⟨_, by first | rfl | (simp [errW_none, errW_some] <;> rfl) | (simp [*, errW_none, errW_some] <;> rfl), by (with_reducible repeat (first | apply Kd.R_alloc | apply Kd.R_drewN | apply Kd.R_drew)); exact Kd.R_mono (Kd.R_far (p := ⟨gb397, 0, none⟩) (Kd.R_types HO407.out BK397.out (by decide)) (fun _ hk => hk.2) (.slice Ao112 t405.length co112)) (fun _ hk => trivial), bs4 HB GE395 GE396 GE397 GE408⟩
       ·
        replace c102 := Bool.eq_false_iff.mpr c102
        subst c102
        rw [if_neg (show ¬ (false = true) by decide)] at H
        simp only [Option.some.injEq, Prod.mk.injEq] at H
        obtain ⟨rfl, rfl⟩ := H
        have hnb120 := NB395_396.out
        have hnc120 := NB396_395.out
        have hnb121 := NB395_397.out
        have hnc121 := NB397_395.out
        have hcz122_0 := cz1 BK395
        have hfz122_0 := fz1 BK395
        have hnb123 := NB396_397.out
        have hnc123 := NB397_396.out
        obtain ⟨hcz124_0, hcz124_1, hcz124_2, hcz124_3⟩ := cz4 BK396
        obtain ⟨hfz124_0, hfz124_1, hfz124_2, hfz124_3⟩ := fz4 BK396
        go_wp2_with (first | ((with_reducible refine gate_callee (f := 63) rfl ?_); refine gL (some 68) rfl rfl Try.func63 (by kernel_rfl) rfl #[.slice A0_0 l0_0.length c0_0, .agg #[.int .i64 a1_0, .int .i64 a1_1, .int .i64 a1_2, .bool a1_3]] rfl ?_; (with_reducible refine (spec_l9Put.calls k2 _ _ l0_0 a1_0 a1_1 a1_2 a1_3 t402 _ ?side1 ?side2 A99.out).mono ?_); (case side1 => exact cb HR0_0 HB); (case side2 => exact HC0_0.out); rintro e w125 ⟨v403, rfl, ho0, hb⟩; refine ⟨_, rfl, ?_⟩; have HO404 := Aside0.mk (Kd.R_lower (Kd.R_newB ho0 (g := gb396) (o := .cells #[.int .i64 a1_0, .int .i64 a1_1, .int .i64 a1_2, .bool a1_3] 48 (0, 0)) (bk BK396)) (below_size (bs3 HB GE395 GE396 GE397))); replace BK395 := nb BK395 hb; replace BK396 := nb BK396 hb; replace BK397 := nb BK397 hb; replace HB := Aside0.mk (below_step (bs3 HB GE395 GE396 GE397) hb); (try clear hb); (try clear hb2); (try clear hk); (try clear hi); (try clear ho0); obtain ⟨Ao126, co126, eo126⟩ := Kd.R_slice HO404.out; subst eo126) | ((with_reducible refine gate_callee (f := 62) rfl ?_); refine gL (some 69) rfl rfl Try.func62 (by kernel_rfl) rfl #[.slice Ao126 t402.length co126] rfl ?_; (with_reducible refine (spec_l9Joined.calls k2 _ _ t402 t405 _ ?side1 ?side2 A100.out).mono ?_); (case side1 => exact rc0 HO404); (case side2 => exact (Kd.R_reads' HO404.out).2.1); rintro e w127 ⟨v406, rfl, ho0, hb⟩; refine ⟨_, rfl, ?_⟩; have HO407 := Aside0.mk (Kd.R_lower (Kd.R_newB (Kd.R_new' ho0 (Kd.R_lt (rr HO404.out))) (g := gb396) (o := .cells #[.int .i64 a1_0, .int .i64 a1_1, .int .i64 a1_2, .bool a1_3] 48 (0, 0)) (bk BK396)) (below_size (bs3 HB GE395 GE396 GE397))); replace HO404 := Aside0.mk (Kd.R_elder' (rr HO404.out) (Kd.R_base ho0) hb); replace BK395 := nb BK395 hb; replace BK396 := nb BK396 hb; replace BK397 := nb BK397 hb; replace HB := Aside0.mk (below_step (bs3 HB GE395 GE396 GE397) hb); (try clear hb); (try clear hb2); (try clear hk); (try clear hi); (try clear ho0)) | ((with_reducible refine gate_dst (N := 8) rfl ?_); refine box_event ?hg (N := 8) ?hd (cs := #[.slice none 0 0]) (t := 29) ?hr ?_; (case hd => rfl); (case hg => rfl); (case hr => first | (go_simp; done) | (go_simp; rfl)); intro gb408 hg w128 hbox hb; replace HO404 := nr HO404 hb; replace HO407 := nr HO407 hb; have BK408 := Aside0.mk (hbox); have GW408 := Aside0.mk ((by rw [hg]; exact (below_size (bs3 HB GE395 GE396 GE397)) : w.heap.size ≤ gb408)); have GE408 := Aside0.mk ((by rw [hg]; exact (below_size (bs3 HB GE395 GE396 GE397)) : w.heap.size ≤ gb408)); replace HB := Aside0.mk (below_step (bs3 HB GE395 GE396 GE397) hb); have NB395_408 := Aside0.mk ((bn BK395 hg : gb395 ≠ gb408)); have NB408_395 := Aside0.mk ((bm BK395 hg : gb408 ≠ gb395)); replace BK395 := nb BK395 hb; have NB396_408 := Aside0.mk ((bn BK396 hg : gb396 ≠ gb408)); have NB408_396 := Aside0.mk ((bm BK396 hg : gb408 ≠ gb396)); replace BK396 := nb BK396 hb; have NB397_408 := Aside0.mk ((bn BK397 hg : gb397 ≠ gb408)); have NB408_397 := Aside0.mk ((bm BK397 hg : gb408 ≠ gb397)); replace BK397 := nb BK397 hb; clear hb hbox hg; obtain ⟨Ao129, co129, eo129⟩ := Kd.R_slice HO407.out; subst eo129; have hnb130 := NB408_395.out; have hnc130 := NB395_408.out; have hnb131 := NB408_396.out; have hnc131 := NB396_408.out; have hnb132 := NB408_397.out; have hnc132 := NB397_408.out; have hcz133_0 := cz1 BK408; have hfz133_0 := fz1 BK408) | ((with_reducible refine gate_callee (f := 15) rfl ?_); refine gL (some 71) rfl rfl Try.func15 (by kernel_rfl) rfl #[.agg #[.slice Ao129 t405.length co129]] rfl ?_; (with_reducible refine (spec_GoodMap.calls k2 _ _ t405 false _ ?side1 ?side2 A101.out).mono ?_); (case side1 => exact rc HO407 BK408); (case side2 => exact (Kd.R_reads' HO407.out).2.1); rintro e w134 ⟨rfl, hb⟩; refine ⟨_, rfl, ?_⟩; replace HO404 := nf HO404 BK408 hb; replace HO407 := nf HO407 BK408 hb; replace BK395 := Aside0.mk (blk_below (bf BK395 NB395_408) hb); replace BK396 := Aside0.mk (blk_below (bf BK396 NB396_408) hb); replace BK397 := Aside0.mk (blk_below (bf BK397 NB397_408) hb); replace BK408 := Aside0.mk (blk_below (g := gb408) (o := .cells #[.slice Ao129 t405.length co129] 29 (0, 0)) (by (with_reducible repeat (first | refine blk_drewN ?_ _ | refine blk_drew ?_ | refine blk_alloc ?_ _)); refine blk_put (cs := #[.slice none 0 0]) ?_ 0 _ rfl; (with_reducible repeat (first | refine blk_drewN ?_ _ | refine blk_drew ?_ | refine blk_alloc ?_ _)); exact BK408.out) hb); replace HB := Aside0.mk (below_step (bs4 HB GE395 GE396 GE397 GE408) hb); (try clear hb); (try clear hb2); (try clear hk); (try clear hi); have hcz135_0 := cz1 BK397; have hfz135_0 := fz1 BK397))
        refine bodyPost_ret (results_ct rfl _ _ gb397 29 #[.slice none 0 0] (0, 0) _ rfl (by (with_reducible repeat (first | refine blk_drewN ?_ _ | refine blk_drew ?_ | refine blk_alloc ?_ _)); refine blk_put (cs := #[.slice none 0 0]) ?_ 0 _ rfl; (with_reducible repeat (first | refine blk_drewN ?_ _ | refine blk_drew ?_ | refine blk_alloc ?_ _)); exact BK397.out) Try.underlying29 rfl (by kernel_rfl)) rfl ?_
        exact ⟨_, by first | rfl | (simp [errW_none, errW_some] <;> rfl) | (simp [*, errW_none, errW_some] <;> rfl), by first | exact Kd.R_nil _ _ _ _ _ | exact Kd.N_nil _ _ _ _ _ | exact Kd.V_nil _ _ _ _ _ | exact Kd.Q_nil _ _ _ _ _ | exact Kd.S_nil _ _ _ _ _, bs4 HB GE395 GE396 GE397 GE408⟩

/-! ### impl_MapPiece: function 31 -/
mutual
def impl_MapPiece.j0 : Nat → Bool → List (S48) → Int → Int → Int → Bool → Option ((List (S48)) × Bool)
 | 0, _, _, _, _, _, _ => none
 | k + 1, x15, x427000, x428000, x428001, x428002, x428003 => if x15 = true then (some (([] : List (S48)), false)) else ((impl_FileMap_cells.f k x427000).bind fun t431 => (impl_MapPiece.l0 k t431 x428001 0 x428000 x428001 x428002 x428003))
def impl_MapPiece.l0 : Nat → List (S78) → Int → Int → Int → Int → Int → Bool → Option ((List (S48)) × Bool)
 | 0, _, _, _, _, _, _, _ => none
 | k + 1, x6, x20, x21, x428000, x428001, x428002, x428003 => if x21 < x20 then (if 0 ≤ (wrap64 (x428000 + x21)) then (if (wrap64 (x428000 + x21)) < (x6.length : Int) then (if (rd_T78 x6 (wrap64 (x428000 + x21))).f0 = true then (some (([] : List (S48)), false)) else (impl_MapPiece.l0 k (x6.set ((wrap64 (x428000 + x21)) : Int).toNat (⟨true, wrap64 (x428002 + x21), x428003⟩ : S78)) x20 (wrap64 (x21 + 1)) x428000 x428001 x428002 x428003)) else (none)) else (none)) else ((impl_mapOf.f k x6).bind fun bt436 => (some (bt436.1, bt436.2)))
end
def impl_MapPiece.f (k : Nat) (l0_0 : List (S48)) (a1_0 : Int) (a1_1 : Int) (a1_2 : Int) (a1_3 : Bool) : Option ((List (S48)) × Bool) := (impl_GoodMap.f k l0_0).bind fun t429 => (if t429 = true then ((impl_isPiece.f a1_0 a1_1 a1_2 a1_3).bind fun t430 => (impl_MapPiece.j0 k (!t430) l0_0 a1_0 a1_1 a1_2 a1_3)) else (impl_MapPiece.j0 k true l0_0 a1_0 a1_1 a1_2 a1_3))
theorem impl_MapPiece.mono_l : ∀ k, (∀ y0 y1 y2 y3 y4 y5, LeO (impl_MapPiece.j0 k y0 y1 y2 y3 y4 y5) (impl_MapPiece.j0 (k + 1) y0 y1 y2 y3 y4 y5)) ∧ (∀ y0 y1 y2 y3 y4 y5 y6, LeO (impl_MapPiece.l0 k y0 y1 y2 y3 y4 y5 y6) (impl_MapPiece.l0 (k + 1) y0 y1 y2 y3 y4 y5 y6))
 | 0 => ⟨fun _ _ _ _ _ _ r h => by simp [impl_MapPiece.j0] at h, fun _ _ _ _ _ _ _ r h => by simp [impl_MapPiece.l0] at h⟩
 | k + 1 => by
  obtain ⟨ih0, ih1⟩ := impl_MapPiece.mono_l k
  refine ⟨?_, ?_⟩
  ·
   intro y0 y1 y2 y3 y4 y5
   unfold impl_MapPiece.j0
   repeat' first
   | (with_reducible exact ih0 _ _ _ _ _ _)
   | (with_reducible exact ih1 _ _ _ _ _ _ _)
   | (with_reducible exact impl_FileMap_cells.mono _ _)
   | (with_reducible exact impl_GoodMap.mono _ _)
   | (with_reducible exact impl_mapOf.mono _ _)
   | (with_reducible exact LeO.refl _)
   | (with_reducible exact LeO.none _)
   | (with_reducible refine LeO.ite ?_ ?_)
   | (with_reducible refine LeO.bind ?_ (fun _ => ?_))
   | exact ih0 _ _ _ _ _ _
   | exact ih1 _ _ _ _ _ _ _
   | exact impl_FileMap_cells.mono _ _
   | exact impl_GoodMap.mono _ _
   | exact impl_mapOf.mono _ _
   | exact LeO.none _
   | refine LeO.ite ?_ ?_
   | refine LeO.bind ?_ (fun _ => ?_)
  ·
   intro y0 y1 y2 y3 y4 y5 y6
   unfold impl_MapPiece.l0
   repeat' first
   | (with_reducible exact ih0 _ _ _ _ _ _)
   | (with_reducible exact ih1 _ _ _ _ _ _ _)
   | (with_reducible exact impl_FileMap_cells.mono _ _)
   | (with_reducible exact impl_GoodMap.mono _ _)
   | (with_reducible exact impl_mapOf.mono _ _)
   | (with_reducible exact LeO.refl _)
   | (with_reducible exact LeO.none _)
   | (with_reducible refine LeO.ite ?_ ?_)
   | (with_reducible refine LeO.bind ?_ (fun _ => ?_))
   | exact ih0 _ _ _ _ _ _
   | exact ih1 _ _ _ _ _ _ _
   | exact impl_FileMap_cells.mono _ _
   | exact impl_GoodMap.mono _ _
   | exact impl_mapOf.mono _ _
   | exact LeO.none _
   | refine LeO.ite ?_ ?_
   | refine LeO.bind ?_ (fun _ => ?_)
theorem impl_MapPiece.mono : ∀ a0 a1 a2 a3 a4 k, LeO (impl_MapPiece.f k a0 a1 a2 a3 a4) (impl_MapPiece.f (k + 1) a0 a1 a2 a3 a4) := by
 intro a0 a1 a2 a3 a4 k
 obtain ⟨ih0, ih1⟩ := impl_MapPiece.mono_l k
 unfold impl_MapPiece.f
 repeat' first
   | (with_reducible exact ih0 _ _ _ _ _ _)
   | (with_reducible exact ih1 _ _ _ _ _ _ _)
   | (with_reducible exact impl_FileMap_cells.mono _ _)
   | (with_reducible exact impl_GoodMap.mono _ _)
   | (with_reducible exact impl_mapOf.mono _ _)
   | (with_reducible exact LeO.refl _)
   | (with_reducible exact LeO.none _)
   | (with_reducible refine LeO.ite ?_ ?_)
   | (with_reducible refine LeO.bind ?_ (fun _ => ?_))
   | exact ih0 _ _ _ _ _ _
   | exact ih1 _ _ _ _ _ _ _
   | exact impl_FileMap_cells.mono _ _
   | exact impl_GoodMap.mono _ _
   | exact impl_mapOf.mono _ _
   | exact LeO.none _
   | refine LeO.ite ?_ ?_
   | refine LeO.bind ?_ (fun _ => ?_)
set_option maxHeartbeats 8000000 in
set_option maxRecDepth 100000 in
theorem impl_MapPiece.calls (k : Nat) (A0_0 : Option Addr) (c0_0 : Nat) (l0_0 : List (S48)) (a1_0 : Int) (a1_1 : Int) (a1_2 : Int) (a1_3 : Bool) (r1 : List (S48)) (r2 : Bool) (w : World) (hr0_0 : Kd.C k48 w A0_0 l0_0.length l0_0) (hc0_0 : l0_0.length ≤ c0_0) (h : impl_MapPiece.f k l0_0 a1_0 a1_1 a1_2 a1_3 = some (r1, r2)) :
  Calls Try.prog 31 #[.agg #[.slice A0_0 l0_0.length c0_0], .agg #[.int .i64 a1_0, .int .i64 a1_1, .int .i64 a1_2, .bool a1_3]] w fun e w' => ∃ v0_ : Value, e = .returned (.tuple #[.agg #[v0_], .bool r2]) ∧ Kd.R k48 48 w' w.heap.size (fun _ => True) v0_ r1 ∧ Below w.heap.size w w' := by
 have hu29 := Try.underlying29
 have hu48 := Try.underlying48
 have hu78 := Try.underlying78
 have HR0_0 := Aside0.mk hr0_0
 have HC0_0 := Aside0.mk hc0_0
 clear hr0_0 hc0_0
 have HB := Aside0.mk (Below.refl w.heap.size w)
 have H : ((impl_GoodMap.f k l0_0).bind fun t429 => (if t429 = true then ((impl_isPiece.f a1_0 a1_1 a1_2 a1_3).bind fun t430 => (impl_MapPiece.j0 k (!t430) l0_0 a1_0 a1_1 a1_2 a1_3)) else (impl_MapPiece.j0 k true l0_0 a1_0 a1_1 a1_2 a1_3))) = some (r1, r2) := h
 clear h
 have HC3 := Aside0.mk H
 clear H
 go_enter Try.func31, Try.ntmps31
 go_upto_region 1 with (first | ((with_reducible refine gate_dst (N := 2) rfl ?_); refine box_event ?hg (N := 2) ?hd (cs := #[.slice A0_0 l0_0.length c0_0]) (t := 29) ?hr ?_; (case hd => rfl); (case hg => rfl); (case hr => first | (go_simp; done) | (go_simp; rfl)); intro gb426 hg w4 hbox hb; have BK426 := Aside0.mk (hbox); have GW426 := Aside0.mk ((by rw [hg]; exact (below_size (bs HB)) : w.heap.size ≤ gb426)); have GE426 := Aside0.mk ((by rw [hg]; exact (below_size (bs HB)) : w.heap.size ≤ gb426)); replace HB := Aside0.mk (below_step (bs HB) hb); clear hb hbox hg) | ((with_reducible refine gate_dst (N := 3) rfl ?_); refine box_event ?hg (N := 3) ?hd (cs := #[.int .i64 a1_0, .int .i64 a1_1, .int .i64 a1_2, .bool a1_3]) (t := 48) ?hr ?_; (case hd => rfl); (case hg => rfl); (case hr => first | (go_simp; done) | (go_simp; rfl)); intro gb427 hg w5 hbox hb; have BK427 := Aside0.mk (hbox); have GW427 := Aside0.mk ((by rw [hg]; exact (below_size (bs1 HB GE426)) : w.heap.size ≤ gb427)); have GE427 := Aside0.mk ((by rw [hg]; exact (below_size (bs1 HB GE426)) : w.heap.size ≤ gb427)); replace HB := Aside0.mk (below_step (bs1 HB GE426) hb); have NB426_427 := Aside0.mk ((bn BK426 hg : gb426 ≠ gb427)); have NB427_426 := Aside0.mk ((bm BK426 hg : gb427 ≠ gb426)); replace BK426 := nb BK426 hb; clear hb hbox hg) | ((with_reducible refine gate_dst (N := 4) rfl ?_); refine box_event ?hg (N := 4) ?hd (cs := #[.slice none 0 0]) (t := 29) ?hr ?_; (case hd => rfl); (case hg => rfl); (case hr => first | (go_simp; done) | (go_simp; rfl)); intro gb428 hg w6 hbox hb; have BK428 := Aside0.mk (hbox); have GW428 := Aside0.mk ((by rw [hg]; exact (below_size (bs2 HB GE426 GE427)) : w.heap.size ≤ gb428)); have GE428 := Aside0.mk ((by rw [hg]; exact (below_size (bs2 HB GE426 GE427)) : w.heap.size ≤ gb428)); replace HB := Aside0.mk (below_step (bs2 HB GE426 GE427) hb); have NB426_428 := Aside0.mk ((bn BK426 hg : gb426 ≠ gb428)); have NB428_426 := Aside0.mk ((bm BK426 hg : gb428 ≠ gb426)); replace BK426 := nb BK426 hb; have NB427_428 := Aside0.mk ((bn BK427 hg : gb427 ≠ gb428)); have NB428_427 := Aside0.mk ((bm BK427 hg : gb428 ≠ gb427)); replace BK427 := nb BK427 hb; clear hb hbox hg))
 (try simp only [Act.put, List.setIfInBounds_toArray, List.set_cons_zero, List.set_cons_succ])
 go_cut [15] (fun v15 wc => ∃ (kq : Nat) (x15_2 : Bool), v15 = .bool x15_2 ∧ Aside0 (impl_MapPiece.j0 kq x15_2 l0_0 a1_0 a1_1 a1_2 a1_3 = some (r1, r2)) ∧ Aside0 (kq ≤ k) ∧ Aside0 (wc.heap[gb426]? = some (.cells #[(.slice A0_0 l0_0.length c0_0)] 29 (0, 0))) ∧ Aside0 (wc.heap[gb427]? = some (.cells #[.int .i64 a1_0, .int .i64 a1_1, .int .i64 a1_2, .bool a1_3] 48 (0, 0))) ∧ Aside0 (wc.heap[gb428]? = some (.cells #[(.slice none 0 0)] 29 (0, 0))) ∧ Aside0 (Below w.heap.size w wc))
 case first =>
  have H := HC3.out
  clear HC3
  replace H := Option.bind_eq_some_iff.mp H
  obtain ⟨t429, A70, H⟩ := H
  replace H : (if t429 = true then ((impl_isPiece.f a1_0 a1_1 a1_2 a1_3).bind fun t430 => (impl_MapPiece.j0 k (!t430) l0_0 a1_0 a1_1 a1_2 a1_3)) else (impl_MapPiece.j0 k true l0_0 a1_0 a1_1 a1_2 a1_3)) = some (r1, r2) := H
  have A7 := Aside0.mk A70
  clear A70
  by_cases c8 : t429 = true
  ·
   subst c8
   rw [if_pos rfl] at H
   replace H := Option.bind_eq_some_iff.mp H
   obtain ⟨t430, A90, H⟩ := H
   replace H : (impl_MapPiece.j0 k (!t430) l0_0 a1_0 a1_1 a1_2 a1_3) = some (r1, r2) := H
   have A9 := Aside0.mk A90
   clear A90
   have H' := Aside0.mk H
   clear H
   have hnb10 := NB426_427.out
   have hnc10 := NB427_426.out
   have hnb11 := NB426_428.out
   have hnc11 := NB428_426.out
   have hcz12_0 := cz1 BK426
   have hfz12_0 := fz1 BK426
   go_wp2_with (first | ((with_reducible refine gate_callee (f := 17) rfl ?_); refine gL (some 9) rfl rfl Try.func17 (by kernel_rfl) rfl #[.agg #[.slice A0_0 l0_0.length c0_0]] rfl ?_; (with_reducible refine (impl_GoodMap.calls k _ _ l0_0 true _ ?side1 ?side2 A7.out).mono ?_); (case side1 => exact cb HR0_0 HB); (case side2 => exact HC0_0.out); rintro e w13 ⟨rfl, hb⟩; refine ⟨_, rfl, ?_⟩; replace BK426 := nb BK426 hb; replace BK427 := nb BK427 hb; replace BK428 := nb BK428 hb; replace HB := Aside0.mk (below_step (bs3 HB GE426 GE427 GE428) hb); (try clear hb); (try clear hb2); (try clear hk); (try clear hi); have hnb14 := NB427_428.out; have hnc14 := NB428_427.out; obtain ⟨hcz15_0, hcz15_1, hcz15_2, hcz15_3⟩ := cz4 BK427; obtain ⟨hfz15_0, hfz15_1, hfz15_2, hfz15_3⟩ := fz4 BK427) | (go_at_call 51; (with_reducible refine (impl_isPiece.calls a1_0 a1_1 a1_2 a1_3 t430 _ A9.out).mono ?_); rintro e w16 ⟨rfl, hb⟩; replace BK426 := nb BK426 hb; replace BK427 := nb BK427 hb; replace BK428 := nb BK428 hb; replace HB := Aside0.mk (below_step (bs3 HB GE426 GE427 GE428) hb); (try clear hb); (try clear hb2); (try clear hk); (try clear hi)))
   go_meet
   case rel => exact ⟨_, (!t430), (by first | rfl | (simp; done) | (simp [*]; done)), H', ⟨by first | omega | exact Nat.le_refl _⟩, ⟨bk BK426⟩, ⟨bk BK427⟩, ⟨bk BK428⟩, ⟨bs3 HB GE426 GE427 GE428⟩⟩
  ·
   replace c8 := Bool.eq_false_iff.mpr c8
   subst c8
   rw [if_neg (show ¬ (false = true) by decide)] at H
   have H' := Aside0.mk H
   clear H
   have hnb17 := NB426_427.out
   have hnc17 := NB427_426.out
   have hnb18 := NB426_428.out
   have hnc18 := NB428_426.out
   have hcz19_0 := cz1 BK426
   have hfz19_0 := fz1 BK426
   go_wp2_with (first | ((with_reducible refine gate_callee (f := 17) rfl ?_); refine gL (some 9) rfl rfl Try.func17 (by kernel_rfl) rfl #[.agg #[.slice A0_0 l0_0.length c0_0]] rfl ?_; (with_reducible refine (impl_GoodMap.calls k _ _ l0_0 false _ ?side1 ?side2 A7.out).mono ?_); (case side1 => exact cb HR0_0 HB); (case side2 => exact HC0_0.out); rintro e w20 ⟨rfl, hb⟩; refine ⟨_, rfl, ?_⟩; replace BK426 := nb BK426 hb; replace BK427 := nb BK427 hb; replace BK428 := nb BK428 hb; replace HB := Aside0.mk (below_step (bs3 HB GE426 GE427 GE428) hb); (try clear hb); (try clear hb2); (try clear hk); (try clear hi)))
   go_meet
   case rel => exact ⟨_, (true), (by first | rfl | (simp; done) | (simp [*]; done)), H', ⟨by first | omega | exact Nat.le_refl _⟩, ⟨bk BK426⟩, ⟨bk BK427⟩, ⟨bk BK428⟩, ⟨bs3 HB GE426 GE427 GE428⟩⟩
 case rest =>
  clear HC3
  try clear c1
  try clear p2
  try clear c3
  try clear c8
  try clear c10
  try clear c11
  try clear c14
  try clear c17
  try clear c18
  try clear hcz12_0
  try clear hcz15_0 hcz15_1 hcz15_2 hcz15_3
  try clear hcz19_0
  try clear hfz12_0
  try clear hfz15_0 hfz15_1 hfz15_2 hfz15_3
  try clear hfz19_0
  obtain ⟨kq, x15_2, rfl, HA, HJ2, BK426, BK427, BK428, HB⟩ := hcut
  cases kq with
  | zero => exact absurd HA.out (by simp [impl_MapPiece.j0])
  | succ kj2 =>
   have H := HA.out
   clear HA
   simp only [impl_MapPiece.j0] at H
   by_cases c21 : x15_2 = true
   ·
    subst c21
    rw [if_pos rfl] at H
    simp only [Option.some.injEq, Prod.mk.injEq] at H
    obtain ⟨rfl, rfl⟩ := H
    have hnb22 := NB428_426.out
    have hnc22 := NB426_428.out
    have hnb23 := NB428_427.out
    have hnc23 := NB427_428.out
    have hcz24_0 := cz1 BK428
    have hfz24_0 := fz1 BK428
    go_wp2
    refine bodyPost_ret (results_ct rfl _ _ gb428 29 #[.slice none 0 0] (0, 0) _ rfl (by (with_reducible repeat (first | refine blk_drewN ?_ _ | refine blk_drew ?_ | refine blk_alloc ?_ _)); refine blk_put (cs := #[.slice none 0 0]) ?_ 0 _ rfl; (with_reducible repeat (first | refine blk_drewN ?_ _ | refine blk_drew ?_ | refine blk_alloc ?_ _)); exact BK428.out) Try.underlying29 rfl (by kernel_rfl)) rfl ?_
    exact ⟨_, by first | rfl | (simp [errW_none, errW_some] <;> rfl) | (simp [*, errW_none, errW_some] <;> rfl), by first | exact Kd.R_nil _ _ _ _ _ | exact Kd.N_nil _ _ _ _ _ | exact Kd.V_nil _ _ _ _ _ | exact Kd.Q_nil _ _ _ _ _ | exact Kd.S_nil _ _ _ _ _, bs3 HB GE426 GE427 GE428⟩
   ·
    replace c21 := Bool.eq_false_iff.mpr c21
    subst c21
    rw [if_neg (show ¬ (false = true) by decide)] at H
    replace H := Option.bind_eq_some_iff.mp H
    obtain ⟨t431, A250, H⟩ := H
    replace H : (impl_MapPiece.l0 kj2 t431 a1_1 0 a1_0 a1_1 a1_2 a1_3) = some (r1, r2) := H
    have A25 := Aside0.mk A250
    clear A250
    have H' := Aside0.mk H
    clear H
    have hnb26 := NB426_427.out
    have hnc26 := NB427_426.out
    have hnb27 := NB426_428.out
    have hnc27 := NB428_426.out
    have hcz28_0 := cz1 BK426
    have hfz28_0 := fz1 BK426
    go_wp2_with (first | ((with_reducible refine gate_callee (f := 57) rfl ?_); refine gL (some 18) rfl rfl Try.func57 (by kernel_rfl) rfl #[.agg #[.slice A0_0 l0_0.length c0_0]] rfl ?_; (with_reducible refine (impl_FileMap_cells.calls kj2 _ _ l0_0 t431 _ ?side1 ?side2 A25.out).mono ?_); (case side1 => exact cb HR0_0 HB); (case side2 => exact HC0_0.out); rintro e w29 ⟨v432, rfl, ho0, hb⟩; refine ⟨_, rfl, ?_⟩; have HO433 := Aside0.mk (Kd.R_lower ho0 (below_size (bs3 HB GE426 GE427 GE428))); replace BK426 := nb BK426 hb; replace BK427 := nb BK427 hb; replace BK428 := nb BK428 hb; replace HB := Aside0.mk (below_step (bs3 HB GE426 GE427 GE428) hb); (try clear hb); (try clear hb2); (try clear hk); (try clear hi); (try clear ho0); have hnb30 := NB427_428.out; have hnc30 := NB428_427.out; obtain ⟨hcz31_0, hcz31_1, hcz31_2, hcz31_3⟩ := cz4 BK427; obtain ⟨hfz31_0, hfz31_1, hfz31_2, hfz31_3⟩ := fz4 BK427))
    go_loopg [21] kj2 (fun kq v21 w' => ∃ (x6_2 : List (S78)) (x21_2 : Int), v21 = .int .i64 x21_2 ∧ Aside0 (impl_MapPiece.l0 kq x6_2 a1_1 x21_2 a1_0 a1_1 a1_2 a1_3 = some (r1, r2)) ∧ Aside0 (kq ≤ kj2) ∧ Aside0 (Kd.R k78 78 w' w.heap.size (fun _ => True) v432 x6_2) ∧ Aside0 (w'.heap[gb426]? = some (.cells #[(.slice A0_0 l0_0.length c0_0)] 29 (0, 0))) ∧ Aside0 (w'.heap[gb427]? = some (.cells #[.int .i64 a1_0, .int .i64 a1_1, .int .i64 a1_2, .bool a1_3] 48 (0, 0))) ∧ Aside0 (w'.heap[gb428]? = some (.cells #[(.slice none 0 0)] 29 (0, 0))) ∧ Aside0 (Below w.heap.size w w'))
    case atStart => exact ⟨(t431), (0), (by first | rfl | (simp; done) | (simp [*]; done)), H', ⟨Nat.le_refl _⟩, ⟨rr HO433.out⟩, ⟨bk BK426⟩, ⟨bk BK427⟩, ⟨bk BK428⟩, ⟨bs3 HB GE426 GE427 GE428⟩⟩
    case round =>
     clear H'
     try clear c1
     try clear c2
     try clear p2
     try clear c3
     try clear c5
     try clear c8
     try clear c10
     try clear c11
     try clear c14
     try clear c17
     try clear c18
     try clear c21
     try clear c22
     try clear c23
     try clear c26
     try clear c27
     try clear c30
     try clear c31
     try clear hcz12_0
     try clear hcz15_0 hcz15_1 hcz15_2 hcz15_3
     try clear hcz19_0
     try clear hcz24_0
     try clear hcz28_0
     try clear hcz31_0 hcz31_1 hcz31_2 hcz31_3
     try clear hfz12_0
     try clear hfz15_0 hfz15_1 hfz15_2 hfz15_3
     try clear hfz19_0
     try clear hfz24_0
     try clear hfz28_0
     try clear hfz31_0 hfz31_1 hfz31_2 hfz31_3
     try clear p2
     obtain ⟨x6_2, x21_2, rfl, HA, HK2, HO_6, BK426, BK427, BK428, HB⟩ := hrel
     cases gk with
     | zero => exact absurd HA.out (by simp [impl_MapPiece.l0])
     | succ k2 =>
      have H := HA.out
      clear HA
      simp only [impl_MapPiece.l0] at H
      by_cases c32 : x21_2 < a1_1
      ·
       rw [if_pos c32] at H
       have c32b0 : decide (x21_2 < a1_1) = true := decide_eq_true c32
       clear c32
       obtain ⟨ji33, hji33⟩ : ∃ j_ : Int, (wrap64 (a1_0 + x21_2)) = j_ := ⟨_, rfl⟩
       replace H : (if 0 ≤ (ji33) then (if (ji33) < (x6_2.length : Int) then (if (rd_T78 x6_2 (ji33)).f0 = true then (some (([] : List (S48)), false)) else (impl_MapPiece.l0 k2 (x6_2.set ((ji33) : Int).toNat (⟨true, wrap64 (a1_2 + x21_2), a1_3⟩ : S78)) a1_1 (wrap64 (x21_2 + 1)) a1_0 a1_1 a1_2 a1_3)) else (none)) else (none)) = some (r1, r2) := by first | (rw [hji33] at H; exact H) | (simp only [hji33] at H ⊢; exact H)
       have hji33w : (IntKind.i64.wrap (a1_0 + x21_2)) = ji33 := (i64_w _).trans hji33
       by_cases c34 : 0 ≤ (ji33)
       ·
        rw [if_pos c34] at H
        have c34b0 : decide (0 ≤ (ji33)) = true := decide_eq_true c34
        clear c34
        by_cases c35 : (ji33) < (x6_2.length : Int)
        ·
         rw [if_pos c35] at H
         have c35b0 : decide ((ji33) < (x6_2.length : Int)) = true := decide_eq_true c35
         clear c35
         obtain ⟨bq36, hbq36⟩ : ∃ b_ : Bool, b_ = ((rd_T78 x6_2 (ji33)).f0) := ⟨_, rfl⟩
         replace H : (if bq36 = true then (some (([] : List (S48)), false)) else (impl_MapPiece.l0 k2 (x6_2.set ((ji33) : Int).toNat (⟨true, wrap64 (a1_2 + x21_2), a1_3⟩ : S78)) a1_1 (wrap64 (x21_2 + 1)) a1_0 a1_1 a1_2 a1_3)) = some (r1, r2) := by rw [← hbq36] at H; exact H
         have Nbq36 := Aside0.mk hbq36
         clear hbq36
         by_cases c37 : bq36 = true
         ·
          subst c37
          rw [if_pos rfl] at H
          simp only [Option.some.injEq, Prod.mk.injEq] at H
          obtain ⟨rfl, rfl⟩ := H
          have hnb38 := NB427_426.out
          have hnc38 := NB426_427.out
          have hnb39 := NB427_428.out
          have hnc39 := NB428_427.out
          obtain ⟨hcz40_0, hcz40_1, hcz40_2, hcz40_3⟩ := cz4 BK427
          obtain ⟨hfz40_0, hfz40_1, hfz40_2, hfz40_3⟩ := fz4 BK427
          obtain ⟨Ao41, co41, eo41⟩ := Kd.R_slice HO_6.out
          subst eo41
          have p434 : 0 ≤ ((ji33) : Int) := of_decide_eq_true (by first | (with_reducible assumption) | assumption)
          have q434 : (ji33) < (x6_2.length : Int) := of_decide_eq_true (by first | (with_reducible assumption) | assumption)
          obtain ⟨ad434, e434, hx434_0, hx434_1, hx434_2⟩ := at_T78 (Kd.R_reads' HO_6.out).2.2 (ji33) p434 q434
          (try rw [← Nbq36.out] at hx434_0)
          (try rw [← Nbq36.out] at hx434_2)
          cases e434
          replace p434 := eq_true p434
          replace q434 := eq_true q434
          have hnb42 := NB428_426.out
          have hnc42 := NB426_428.out
          have hcz43_0 := cz1 BK428
          have hfz43_0 := fz1 BK428
          go_wp2
          refine bodyPost_ret (results_ct rfl _ _ gb428 29 #[.slice none 0 0] (0, 0) _ rfl (by (with_reducible repeat (first | refine blk_drewN ?_ _ | refine blk_drew ?_ | refine blk_alloc ?_ _)); refine blk_put (cs := #[.slice none 0 0]) ?_ 0 _ rfl; (with_reducible repeat (first | refine blk_drewN ?_ _ | refine blk_drew ?_ | refine blk_alloc ?_ _)); exact BK428.out) Try.underlying29 rfl (by kernel_rfl)) rfl ?_
          exact ⟨_, by first | rfl | (simp [errW_none, errW_some] <;> rfl) | (simp only [← hji33]; first | rfl | (simp [errW_none, errW_some] <;> rfl)) | (simp [*, errW_none, errW_some] <;> rfl), by first | exact Kd.R_nil _ _ _ _ _ | exact Kd.N_nil _ _ _ _ _ | exact Kd.V_nil _ _ _ _ _ | exact Kd.Q_nil _ _ _ _ _ | exact Kd.S_nil _ _ _ _ _, bs3 HB GE426 GE427 GE428⟩
         ·
          replace c37 := Bool.eq_false_iff.mpr c37
          subst c37
          rw [if_neg (show ¬ (false = true) by decide)] at H
          obtain ⟨y435, hy435⟩ : ∃ y_ : List (S78), y_ = (x6_2.set ((ji33) : Int).toNat (⟨true, wrap64 (a1_2 + x21_2), a1_3⟩ : S78)) := ⟨_, rfl⟩
          replace H : (impl_MapPiece.l0 k2 y435 a1_1 (wrap64 (x21_2 + 1)) a1_0 a1_1 a1_2 a1_3) = some (r1, r2) := by first | (rw [hy435]; with_reducible exact H) | (have H2_ := (Option.bind_some _ _).symm.trans H; rw [hy435]; with_reducible exact H2_) | (have H2_ := (Option.bind_some _ _).symm.trans H; with_reducible exact H2_) | with_reducible exact H | (rw [hy435]; exact H) | exact H
          have Ny435 := Aside0.mk hy435
          clear hy435
          have H' := Aside0.mk H
          clear H
          have hnb45 := NB427_426.out
          have hnc45 := NB426_427.out
          have hnb46 := NB427_428.out
          have hnc46 := NB428_427.out
          obtain ⟨hcz47_0, hcz47_1, hcz47_2, hcz47_3⟩ := cz4 BK427
          obtain ⟨hfz47_0, hfz47_1, hfz47_2, hfz47_3⟩ := fz4 BK427
          obtain ⟨Ao48, co48, eo48⟩ := Kd.R_slice HO_6.out
          subst eo48
          have p434 : 0 ≤ ((ji33) : Int) := of_decide_eq_true (by first | (with_reducible assumption) | assumption)
          have q434 : (ji33) < (x6_2.length : Int) := of_decide_eq_true (by first | (with_reducible assumption) | assumption)
          obtain ⟨ad434, e434, hx434_0, hx434_1, hx434_2⟩ := at_T78 (Kd.R_reads' HO_6.out).2.2 (ji33) p434 q434
          (try rw [← Nbq36.out] at hx434_0)
          (try rw [← Nbq36.out] at hx434_2)
          cases e434
          replace p434 := eq_true p434
          replace q434 := eq_true q434
          have p44 : 0 ≤ ((ji33) : Int) := of_decide_eq_true (by first | (with_reducible assumption) | assumption)
          have q44 : ((ji33) : Int) < ((x6_2.length : Int) : Int) := of_decide_eq_true (by first | (with_reducible assumption) | assumption)
          obtain ⟨go44, co44, eo44, gb44, gl44, cl44, HG44⟩ := Kd.R_form HO_6.out (by omega)
          (first | cases eo44 | (injection eo44 with ea_ en_ ec_; (first | subst ea_ | (injection ea_ with ea_; subst ea_)); subst ec_; clear en_))
          have GB44 := Aside0.mk gb44
          have GG44 := Aside0.mk HG44
          clear gb44 gl44 HG44
          (first | simp only [add_plain] at hx434_0 | skip)
          (first | simp only [add_plain] at hx434_1 | skip)
          (first | simp only [add_plain] at hx434_2 | skip)
          obtain ⟨ce44, hcl44, hM44, hcc44, hfr44⟩ := Kd.R_elem HO_6.out z78 ((ji33) : Int) p44 q44
          obtain rfl := k78_openM hM44
          have hx44_0 : wr.cell? ⟨go44, ((ji33) : Int).toNat * 3, none⟩ = some (.bool ((rd_T78 x6_2 (ji33)).f0)) := hcc44 0 _ rfl
          have hx44_1 : wr.cell? ⟨go44, ((ji33) : Int).toNat * 3 + 1, none⟩ = some (.int .i64 ((rd_T78 x6_2 (ji33)).f1)) := hcc44 1 _ rfl
          have hx44_2 : wr.cell? ⟨go44, ((ji33) : Int).toNat * 3 + 2, none⟩ = some (.bool ((rd_T78 x6_2 (ji33)).f2)) := hcc44 2 _ rfl
          have hf44_0 : wr.frozen? ⟨go44, ((ji33) : Int).toNat * 3, none⟩ = false := hfr44 0
          have hf44_1 : wr.frozen? ⟨go44, ((ji33) : Int).toNat * 3 + 1, none⟩ = false := hfr44 1
          have hf44_2 : wr.frozen? ⟨go44, ((ji33) : Int).toNat * 3 + 2, none⟩ = false := hfr44 2
          clear hcl44 hcc44 hfr44 hM44
          replace p44 := eq_true p44
          replace q44 := eq_true q44
          have HX49 := Aside0.mk (show Kd.R k78 78 wr w.heap.size (fun _ => True) (.slice (some ⟨go44, 0, none⟩) x6_2.length co48) x6_2 from (rr HO_6.out))
          obtain ⟨ce49, hcl49, hM49, hcc49, hfr49⟩ := Kd.R_elem HX49.out z78 ((ji33) : Int) (of_decide_eq_true (by first | (with_reducible assumption) | assumption)) (by have h_ : ((ji33) : Int) < ((x6_2.length : Int) : Int) := of_decide_eq_true (by first | (with_reducible assumption) | assumption); first | exact h_ | (have e_ := (Kd.R_reads' HO_6.out).1; omega) | simpa using h_)
          obtain rfl := k78_openM hM49
          have HP49 := Kd.R_seg HX49.out ((ji33) : Int) (of_decide_eq_true (by first | (with_reducible assumption) | assumption)) (by have h_ : ((ji33) : Int) < ((x6_2.length : Int) : Int) := of_decide_eq_true (by first | (with_reducible assumption) | assumption); first | exact h_ | (have e_ := (Kd.R_reads' HO_6.out).1; omega) | simpa using h_) (seg := [.bool true, .int .i64 (wrap64 (a1_2 + x21_2)), .bool a1_3]) (j := 0) hcl49 hcc49 (show 3 ≤ 3 from by decide) (x' := (⟨true, wrap64 (a1_2 + x21_2), a1_3⟩ : S78)) (k78_mkM _ _ _ (⟨true, wrap64 (a1_2 + x21_2), a1_3⟩ : S78) ) (fun _ hk => hk)
          have hx49_0 := hcc49 0 _ rfl
          (try simp only [show (k78).sz = 3 from rfl, Nat.mul_one, Nat.add_zero] at hx49_0)
          have hf49_0 := hfr49 0
          (try simp only [show (k78).sz = 3 from rfl, Nat.mul_one, Nat.add_zero] at hf49_0)
          have hx49_1 := hcc49 1 _ rfl
          (try simp only [show (k78).sz = 3 from rfl, Nat.mul_one, Nat.add_zero] at hx49_1)
          have hf49_1 := hfr49 1
          (try simp only [show (k78).sz = 3 from rfl, Nat.mul_one, Nat.add_zero] at hf49_1)
          have hx49_2 := hcc49 2 _ rfl
          (try simp only [show (k78).sz = 3 from rfl, Nat.mul_one, Nat.add_zero] at hx49_2)
          have hf49_2 := hfr49 2
          (try simp only [show (k78).sz = 3 from rfl, Nat.mul_one, Nat.add_zero] at hf49_2)
          clear hcl49 hcc49 hfr49 hM49
          go_wp2_with (first | ((with_reducible refine gate_store (t := 78) (p := 45) rfl ?_); refine store_event (t := 78) (p := 45) (v := ?vo_w50) (w1 := (((wr.setCell ⟨go44, ((ji33) : Int).toNat * 3, none⟩ (.bool true)).setCell ⟨go44, ((ji33) : Int).toNat * 3 + 1, none⟩ (.int .i64 (wrap64 (a1_2 + x21_2)))).setCell ⟨go44, ((ji33) : Int).toNat * 3 + 2, none⟩ (.bool a1_3))) ?hg ?ho ?hn ?hr ?_; (case ho => rfl); (case hg => rfl); (case hn => rfl); (case hr => first | (go_simp; done) | (go_simp; rfl)); intro w50 hw; have hg : wr.grownBy w50 (some go44) := (by rw [hw]; exact HP49.2); have hp_ : Kd.R k78 78 w50 w.heap.size (fun _ => True) (.slice (some ⟨go44, 0, none⟩) x6_2.length co48) y435 := (by rw [hw, Ny435.out]; exact HP49.1); clear HP49; replace BK426 := Aside0.mk (blk_grown (g := gb426) (o := .cells #[.slice A0_0 l0_0.length c0_0] 29 (0, 0)) (bk BK426) hg (Kd.R_ne HO_6.out BK426.out (by decide))); replace BK427 := Aside0.mk (blk_grown (g := gb427) (o := .cells #[.int .i64 a1_0, .int .i64 a1_1, .int .i64 a1_2, .bool a1_3] 48 (0, 0)) (bk BK427) hg (Kd.R_ne HO_6.out BK427.out (by decide))); replace BK428 := Aside0.mk (blk_grown (g := gb428) (o := .cells #[.slice none 0 0] 29 (0, 0)) (bk BK428) hg (Kd.R_ne HO_6.out BK428.out (by decide))); replace HO_6 := Aside0.mk (hp_); replace HB := Aside0.mk ((by rw [hw]; exact below_set (below_set (below_set (HB.out) GB44.out) GB44.out) GB44.out : Below w.heap.size w w50)); clear hg hw hp_))
          go_roundg k2
          case measure => have := HJ2.out; have := HK2.out; omega
          case rel => exact ⟨(y435), (wrap64 (x21_2 + 1)), (by first | rfl | (simp; done) | (simp [*]; done)), H', ⟨by have := HJ2.out; have := HK2.out; omega⟩, ⟨rr HO_6.out⟩, ⟨bk BK426⟩, ⟨bk BK427⟩, ⟨bk BK428⟩, ⟨bs3 HB GE426 GE427 GE428⟩⟩
        ·
         rw [if_neg c35] at H
         exact absurd H (by simp)
       ·
        rw [if_neg c34] at H
        exact absurd H (by simp)
      ·
       rw [if_neg c32] at H
       have c32b0 : decide (x21_2 < a1_1) = false := decide_eq_false c32
       clear c32
       replace H := Option.bind_eq_some_iff.mp H
       obtain ⟨⟨t436, t439⟩, A510, H⟩ := H
       replace H : (some (t436, t439)) = some (r1, r2) := H
       have A51 := Aside0.mk A510
       clear A510
       simp only [Option.some.injEq, Prod.mk.injEq] at H
       obtain ⟨rfl, rfl⟩ := H
       obtain ⟨Ao52, co52, eo52⟩ := Kd.R_slice HO_6.out
       subst eo52
       go_wp2_with (first | ((with_reducible refine gate_callee (f := 64) rfl ?_); refine gL (some 48) rfl rfl Try.func64 (by kernel_rfl) rfl #[.slice Ao52 x6_2.length co52] rfl ?_; (with_reducible refine (impl_mapOf.calls k2 _ _ x6_2 t436 t439 _ ?side1 ?side2 A51.out).mono ?_); (case side1 => exact rc0 HO_6); (case side2 => exact (Kd.R_reads' HO_6.out).2.1); rintro e w53 ⟨v437, rfl, ho0, hb⟩; refine ⟨_, rfl, ?_⟩; replace HO_6 := nr HO_6 hb; have HO438 := Aside0.mk (Kd.R_lower (Kd.R_newB ho0 (g := gb427) (o := .cells #[.int .i64 a1_0, .int .i64 a1_1, .int .i64 a1_2, .bool a1_3] 48 (0, 0)) (bk BK427)) (below_size (bs3 HB GE426 GE427 GE428))); replace BK426 := nb BK426 hb; replace BK427 := nb BK427 hb; replace BK428 := nb BK428 hb; replace HB := Aside0.mk (below_step (bs3 HB GE426 GE427 GE428) hb); (try clear hb); (try clear hb2); (try clear hk); (try clear hi); (try clear ho0); obtain ⟨Ao54, co54, eo54⟩ := Kd.R_slice HO438.out; subst eo54; have hnb55 := NB428_426.out; have hnc55 := NB426_428.out; have hnb56 := NB428_427.out; have hnc56 := NB427_428.out; have hcz57_0 := cz1 BK428; have hfz57_0 := fz1 BK428))
       refine bodyPost_ret (results_ct rfl _ _ gb428 29 #[.slice Ao54 t436.length co54] (0, 0) _ rfl (by (with_reducible repeat (first | refine blk_drewN ?_ _ | refine blk_drew ?_ | refine blk_alloc ?_ _)); refine blk_put (cs := #[.slice none 0 0]) ?_ 0 _ rfl; (with_reducible repeat (first | refine blk_drewN ?_ _ | refine blk_drew ?_ | refine blk_alloc ?_ _)); exact BK428.out) Try.underlying29 rfl (by kernel_rfl)) rfl ?_
       exact ⟨_, by first | rfl | (simp [errW_none, errW_some] <;> rfl) | (simp [*, errW_none, errW_some] <;> rfl), by (with_reducible repeat (first | apply Kd.R_alloc | apply Kd.R_drewN | apply Kd.R_drew)); exact Kd.R_mono (Kd.R_far (p := ⟨gb428, 0, none⟩) (Kd.R_types HO438.out BK428.out (by decide)) (fun _ hk => hk.2) (.slice Ao54 t436.length co54)) (fun _ hk => trivial), bs3 HB GE426 GE427 GE428⟩

end Go.Proofs.Ytojdlcbmbpgplaa.G
