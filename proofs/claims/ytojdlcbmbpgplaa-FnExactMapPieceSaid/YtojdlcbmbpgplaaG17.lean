-- Printed by a program of this session (drive.py, by way of the kit's print). Not trusted: Lean checks it.
import Derived.Test.YtojdlcbmbpgplaaG0
import Derived.Test.YtojdlcbmbpgplaaG3
import Derived.Test.YtojdlcbmbpgplaaG4
import Derived.Test.YtojdlcbmbpgplaaG6
import Derived.Test.YtojdlcbmbpgplaaG8
import Derived.Test.YtojdlcbmbpgplaaG16
namespace Go.Proofs.Ytojdlcbmbpgplaa.G
open Go.RowKit Go.Proofs.YtojdlcbmbpgplaaW.PrintWords Go.Proofs.YtojdlcbmbpgplaaW.PrintLast Go.Proofs.YtojdlcbmbpgplaaW.PrintMore
attribute [local go_sem] max2_int min2_int max_two min_two max_three min_three max_four min_four   -- for this text's walks alone
set_option linter.unusedVariables false
set_option linter.unusedSimpArgs false

/-! ### laws_FnExactMapPiece: function 7 -/
mutual
def laws_FnExactMapPiece.j0 : Nat → Bool → Bool → Bool → List (S45) → Int → Int → Int → Bool → List (S48) → List (S48) → List (S48) → Option (Bool)
 | 0, _, _, _, _, _, _, _, _, _, _, _ => none
 | k + 1, x7, x10, x46, x447000, x448000, x448001, x448002, x448003, x461000, x465000, x474000 => if x46 = true then (some false) else ((laws_toFileMap.f k x447000).bind fun t475 => ((laws_eqFileMap.f k x465000 t475).bind fun t478 => (if t478 = true then ((laws_markFileMap.f k x465000 1).bind fun bt479 => (if bt479.1 < 0 then (laws_FnExactMapPiece.j1 k x7 true x447000 x448000 x448001 x448002 x448003 x461000 x474000) else ((laws_eqFileMap.f k x474000 x461000).bind fun t481 => (if t481 = true then (laws_FnExactMapPiece.j1 k x7 (x10 != x7) x447000 x448000 x448001 x448002 x448003 x461000 x474000) else (laws_FnExactMapPiece.j1 k x7 true x447000 x448000 x448001 x448002 x448003 x461000 x474000))))) else (some false))))
def laws_FnExactMapPiece.j1 : Nat → Bool → Bool → List (S45) → Int → Int → Int → Bool → List (S48) → List (S48) → Option (Bool)
 | 0, _, _, _, _, _, _, _, _, _ => none
 | k + 1, x7, x67, x447000, x448000, x448001, x448002, x448003, x461000, x474000 => if x67 = true then (some false) else ((laws_markFileMap.f k x474000 1).bind fun bt482 => ((laws_heldFileMap.f k bt482.2 1).bind fun t484 => (if t484 < 0 then (some false) else (if t484 = bt482.1 then ((laws_toFileMap.f k x447000).bind fun t485 => ((laws_toPiece.f x448000 x448001 x448002 x448003).bind fun bt488 => ((impl_MapPiece.f k t485 bt488.1 bt488.2.1 bt488.2.2.1 bt488.2.2.2).bind fun bt492 => ((laws_eqFileMap.f k bt492.1 x461000).bind fun t497 => (if t497 = true then (laws_FnExactMapPiece.j2 k bt482.1 (bt492.2 != x7) bt482.2) else (laws_FnExactMapPiece.j2 k bt482.1 true bt482.2)))))) else (some false)))))
def laws_FnExactMapPiece.j2 : Nat → Int → Bool → List (S48) → Option (Bool)
 | 0, _, _, _ => none
 | k + 1, x12, x95, x474000 => if x95 = true then (some false) else ((laws_heldFileMap.f k x474000 1).bind fun t498 => (if t498 < 0 then (some false) else (if t498 = x12 then (some true) else (some false))))
end
def laws_FnExactMapPiece.f (k : Nat) (l0_0 : List (S45)) (a1_0 : Int) (a1_1 : Int) (a1_2 : Int) (a1_3 : Bool) : Option (Bool) := (laws_szFileMap.f l0_0 1048576).bind fun t448 => (if t448 < 0 then (some true) else ((laws_toFileMap.f k l0_0).bind fun t449 => ((laws_toPiece.f a1_0 a1_1 a1_2 a1_3).bind fun bt452 => ((spec_MapPiece.f k t449 bt452.1 bt452.2.1 bt452.2.2.1 bt452.2.2.2).bind fun bt456 => ((laws_toFileMap.f k l0_0).bind fun t461 => ((laws_toPiece.f a1_0 a1_1 a1_2 a1_3).bind fun bt465 => ((impl_MapPiece.f k t461 bt465.1 bt465.2.1 bt465.2.2.1 bt465.2.2.2).bind fun bt469 => ((laws_eqFileMap.f k bt469.1 bt456.1).bind fun t474 => (if t474 = true then (laws_FnExactMapPiece.j0 k bt456.2 bt469.2 (bt469.2 != bt456.2) l0_0 a1_0 a1_1 a1_2 a1_3 bt456.1 t461 bt469.1) else (laws_FnExactMapPiece.j0 k bt456.2 bt469.2 true l0_0 a1_0 a1_1 a1_2 a1_3 bt456.1 t461 bt469.1))))))))))
theorem laws_FnExactMapPiece.mono_l : ∀ k, (∀ y0 y1 y2 y3 y4 y5 y6 y7 y8 y9 y10, LeO (laws_FnExactMapPiece.j0 k y0 y1 y2 y3 y4 y5 y6 y7 y8 y9 y10) (laws_FnExactMapPiece.j0 (k + 1) y0 y1 y2 y3 y4 y5 y6 y7 y8 y9 y10)) ∧ (∀ y0 y1 y2 y3 y4 y5 y6 y7 y8, LeO (laws_FnExactMapPiece.j1 k y0 y1 y2 y3 y4 y5 y6 y7 y8) (laws_FnExactMapPiece.j1 (k + 1) y0 y1 y2 y3 y4 y5 y6 y7 y8)) ∧ (∀ y0 y1 y2, LeO (laws_FnExactMapPiece.j2 k y0 y1 y2) (laws_FnExactMapPiece.j2 (k + 1) y0 y1 y2))
 | 0 => ⟨fun _ _ _ _ _ _ _ _ _ _ _ r h => by simp [laws_FnExactMapPiece.j0] at h, fun _ _ _ _ _ _ _ _ _ r h => by simp [laws_FnExactMapPiece.j1] at h, fun _ _ _ r h => by simp [laws_FnExactMapPiece.j2] at h⟩
 | k + 1 => by
  obtain ⟨ih0, ih1, ih2⟩ := laws_FnExactMapPiece.mono_l k
  refine ⟨?_, ?_, ?_⟩
  ·
   intro y0 y1 y2 y3 y4 y5 y6 y7 y8 y9 y10
   unfold laws_FnExactMapPiece.j0
   repeat' first
   | (with_reducible exact ih0 _ _ _ _ _ _ _ _ _ _ _)
   | (with_reducible exact ih1 _ _ _ _ _ _ _ _ _)
   | (with_reducible exact ih2 _ _ _)
   | (with_reducible exact impl_MapPiece.mono _ _ _ _ _ _)
   | (with_reducible exact laws_eqFileMap.mono _ _ _)
   | (with_reducible exact laws_heldFileMap.mono _ _ _)
   | (with_reducible exact laws_markFileMap.mono _ _ _)
   | (with_reducible exact laws_toFileMap.mono _ _)
   | (with_reducible exact spec_MapPiece.mono _ _ _ _ _ _)
   | (with_reducible exact LeO.refl _)
   | (with_reducible exact LeO.none _)
   | (with_reducible refine LeO.ite ?_ ?_)
   | (with_reducible refine LeO.bind ?_ (fun _ => ?_))
   | exact ih0 _ _ _ _ _ _ _ _ _ _ _
   | exact ih1 _ _ _ _ _ _ _ _ _
   | exact ih2 _ _ _
   | exact impl_MapPiece.mono _ _ _ _ _ _
   | exact laws_eqFileMap.mono _ _ _
   | exact laws_heldFileMap.mono _ _ _
   | exact laws_markFileMap.mono _ _ _
   | exact laws_toFileMap.mono _ _
   | exact spec_MapPiece.mono _ _ _ _ _ _
   | exact LeO.none _
   | refine LeO.ite ?_ ?_
   | refine LeO.bind ?_ (fun _ => ?_)
  ·
   intro y0 y1 y2 y3 y4 y5 y6 y7 y8
   unfold laws_FnExactMapPiece.j1
   repeat' first
   | (with_reducible exact ih0 _ _ _ _ _ _ _ _ _ _ _)
   | (with_reducible exact ih1 _ _ _ _ _ _ _ _ _)
   | (with_reducible exact ih2 _ _ _)
   | (with_reducible exact impl_MapPiece.mono _ _ _ _ _ _)
   | (with_reducible exact laws_eqFileMap.mono _ _ _)
   | (with_reducible exact laws_heldFileMap.mono _ _ _)
   | (with_reducible exact laws_markFileMap.mono _ _ _)
   | (with_reducible exact laws_toFileMap.mono _ _)
   | (with_reducible exact spec_MapPiece.mono _ _ _ _ _ _)
   | (with_reducible exact LeO.refl _)
   | (with_reducible exact LeO.none _)
   | (with_reducible refine LeO.ite ?_ ?_)
   | (with_reducible refine LeO.bind ?_ (fun _ => ?_))
   | exact ih0 _ _ _ _ _ _ _ _ _ _ _
   | exact ih1 _ _ _ _ _ _ _ _ _
   | exact ih2 _ _ _
   | exact impl_MapPiece.mono _ _ _ _ _ _
   | exact laws_eqFileMap.mono _ _ _
   | exact laws_heldFileMap.mono _ _ _
   | exact laws_markFileMap.mono _ _ _
   | exact laws_toFileMap.mono _ _
   | exact spec_MapPiece.mono _ _ _ _ _ _
   | exact LeO.none _
   | refine LeO.ite ?_ ?_
   | refine LeO.bind ?_ (fun _ => ?_)
  ·
   intro y0 y1 y2
   unfold laws_FnExactMapPiece.j2
   repeat' first
   | (with_reducible exact ih0 _ _ _ _ _ _ _ _ _ _ _)
   | (with_reducible exact ih1 _ _ _ _ _ _ _ _ _)
   | (with_reducible exact ih2 _ _ _)
   | (with_reducible exact impl_MapPiece.mono _ _ _ _ _ _)
   | (with_reducible exact laws_eqFileMap.mono _ _ _)
   | (with_reducible exact laws_heldFileMap.mono _ _ _)
   | (with_reducible exact laws_markFileMap.mono _ _ _)
   | (with_reducible exact laws_toFileMap.mono _ _)
   | (with_reducible exact spec_MapPiece.mono _ _ _ _ _ _)
   | (with_reducible exact LeO.refl _)
   | (with_reducible exact LeO.none _)
   | (with_reducible refine LeO.ite ?_ ?_)
   | (with_reducible refine LeO.bind ?_ (fun _ => ?_))
   | exact ih0 _ _ _ _ _ _ _ _ _ _ _
   | exact ih1 _ _ _ _ _ _ _ _ _
   | exact ih2 _ _ _
   | exact impl_MapPiece.mono _ _ _ _ _ _
   | exact laws_eqFileMap.mono _ _ _
   | exact laws_heldFileMap.mono _ _ _
   | exact laws_markFileMap.mono _ _ _
   | exact laws_toFileMap.mono _ _
   | exact spec_MapPiece.mono _ _ _ _ _ _
   | exact LeO.none _
   | refine LeO.ite ?_ ?_
   | refine LeO.bind ?_ (fun _ => ?_)
theorem laws_FnExactMapPiece.mono : ∀ a0 a1 a2 a3 a4 k, LeO (laws_FnExactMapPiece.f k a0 a1 a2 a3 a4) (laws_FnExactMapPiece.f (k + 1) a0 a1 a2 a3 a4) := by
 intro a0 a1 a2 a3 a4 k
 obtain ⟨ih0, ih1, ih2⟩ := laws_FnExactMapPiece.mono_l k
 unfold laws_FnExactMapPiece.f
 repeat' first
   | (with_reducible exact ih0 _ _ _ _ _ _ _ _ _ _ _)
   | (with_reducible exact ih1 _ _ _ _ _ _ _ _ _)
   | (with_reducible exact ih2 _ _ _)
   | (with_reducible exact impl_MapPiece.mono _ _ _ _ _ _)
   | (with_reducible exact laws_eqFileMap.mono _ _ _)
   | (with_reducible exact laws_heldFileMap.mono _ _ _)
   | (with_reducible exact laws_markFileMap.mono _ _ _)
   | (with_reducible exact laws_toFileMap.mono _ _)
   | (with_reducible exact spec_MapPiece.mono _ _ _ _ _ _)
   | (with_reducible exact LeO.refl _)
   | (with_reducible exact LeO.none _)
   | (with_reducible refine LeO.ite ?_ ?_)
   | (with_reducible refine LeO.bind ?_ (fun _ => ?_))
   | exact ih0 _ _ _ _ _ _ _ _ _ _ _
   | exact ih1 _ _ _ _ _ _ _ _ _
   | exact ih2 _ _ _
   | exact impl_MapPiece.mono _ _ _ _ _ _
   | exact laws_eqFileMap.mono _ _ _
   | exact laws_heldFileMap.mono _ _ _
   | exact laws_markFileMap.mono _ _ _
   | exact laws_toFileMap.mono _ _
   | exact spec_MapPiece.mono _ _ _ _ _ _
   | exact LeO.none _
   | refine LeO.ite ?_ ?_
   | refine LeO.bind ?_ (fun _ => ?_)
def laws_FnExactMapPiece.T5 : Bool × List (List Nat × List Nat) := (true, [([], []), ([0], [0]), ([], []), ([2, 1], [2]), ([1, 3, 3], [1, 3]), ([4], [4]), ([5], [5]), ([5], [5]), ([], []), ([8, 6, 4, 0, 1, 2, 3, 4, 5, 6, 8], [6, 8]), ([7, 9, 0, 1, 2, 3, 4, 5, 6, 7, 8, 9], [7])])
def laws_FnExactMapPiece.B5 : List Nat := [0, 1, 0, 7, 15, 31, 63, 63, 0, 383, 1023]
theorem laws_FnExactMapPiece.tab5 : rtab .any (opsOf Try.f7 5) = laws_FnExactMapPiece.T5 := by kernel_rfl
theorem laws_FnExactMapPiece.bits5 : waitsOk laws_FnExactMapPiece.T5.2 laws_FnExactMapPiece.B5 = true := by kernel_rfl
def laws_FnExactMapPiece.T7 : Bool × List (List Nat × List Nat) := (true, [([], []), ([], []), ([1], [1]), ([0, 2, 2], [0, 2]), ([3], [3]), ([4], [4]), ([4], [4]), ([], []), ([7, 5, 3, 0, 1, 2, 3, 4, 5, 7], [5, 7]), ([6, 8, 0, 1, 2, 3, 4, 5, 6, 7, 8], [6])])
def laws_FnExactMapPiece.B7 : List Nat := [0, 0, 2, 7, 15, 31, 31, 0, 191, 511]
theorem laws_FnExactMapPiece.tab7 : rtab .any (opsOf Try.f7 7) = laws_FnExactMapPiece.T7 := by kernel_rfl
theorem laws_FnExactMapPiece.bits7 : waitsOk laws_FnExactMapPiece.T7.2 laws_FnExactMapPiece.B7 = true := by kernel_rfl
def laws_FnExactMapPiece.T24 : Bool × List (List Nat × List Nat) := (true, [([], []), ([0], [0]), ([], []), ([2, 1], [2]), ([1, 3, 3], [1, 3]), ([4], [4]), ([5], [5]), ([5], [5]), ([], []), ([8, 6, 4, 0, 1, 2, 3, 4, 5, 6, 8], [6, 8]), ([7, 9, 0, 1, 2, 3, 4, 5, 6, 7, 8, 9], [7])])
def laws_FnExactMapPiece.B24 : List Nat := [0, 1, 0, 7, 15, 31, 63, 63, 0, 383, 1023]
theorem laws_FnExactMapPiece.tab24 : rtab .any (opsOf Try.f7 24) = laws_FnExactMapPiece.T24 := by kernel_rfl
theorem laws_FnExactMapPiece.bits24 : waitsOk laws_FnExactMapPiece.T24.2 laws_FnExactMapPiece.B24 = true := by kernel_rfl
set_option maxHeartbeats 8000000 in
set_option maxRecDepth 100000 in
theorem laws_FnExactMapPiece.calls (k : Nat) (A0_0 : Option Addr) (c0_0 : Nat) (l0_0 : List (S45)) (a1_0 : Int) (a1_1 : Int) (a1_2 : Int) (a1_3 : Bool) (r : Bool) (w : World) (hr0_0 : Kd.C k45 w A0_0 l0_0.length l0_0) (hc0_0 : l0_0.length ≤ c0_0) (h : laws_FnExactMapPiece.f k l0_0 a1_0 a1_1 a1_2 a1_3 = some r) :
  Calls Try.prog 7 #[.agg #[.slice A0_0 l0_0.length c0_0], .agg #[.int .i64 a1_0, .int .i64 a1_1, .int .i64 a1_2, .bool a1_3]] w fun e w' => e = .returned (.bool r) ∧ Below w.heap.size w w' := by
 have hu24 := Try.underlying24
 have hu45 := Try.underlying45
 have hu29 := Try.underlying29
 have HR0_0 := Aside0.mk hr0_0
 have HC0_0 := Aside0.mk hc0_0
 clear hr0_0 hc0_0
 have HB := Aside0.mk (Below.refl w.heap.size w)
 have H : ((laws_szFileMap.f l0_0 1048576).bind fun t448 => (if t448 < 0 then (some true) else ((laws_toFileMap.f k l0_0).bind fun t449 => ((laws_toPiece.f a1_0 a1_1 a1_2 a1_3).bind fun bt452 => ((spec_MapPiece.f k t449 bt452.1 bt452.2.1 bt452.2.2.1 bt452.2.2.2).bind fun bt456 => ((laws_toFileMap.f k l0_0).bind fun t461 => ((laws_toPiece.f a1_0 a1_1 a1_2 a1_3).bind fun bt465 => ((impl_MapPiece.f k t461 bt465.1 bt465.2.1 bt465.2.2.1 bt465.2.2.2).bind fun bt469 => ((laws_eqFileMap.f k bt469.1 bt456.1).bind fun t474 => (if t474 = true then (laws_FnExactMapPiece.j0 k bt456.2 bt469.2 (bt469.2 != bt456.2) l0_0 a1_0 a1_1 a1_2 a1_3 bt456.1 t461 bt469.1) else (laws_FnExactMapPiece.j0 k bt456.2 bt469.2 true l0_0 a1_0 a1_1 a1_2 a1_3 bt456.1 t461 bt469.1))))))))))) = some r := h
 clear h
 replace H := Option.bind_eq_some_iff.mp H
 obtain ⟨t448, A30, H⟩ := H
 replace H : (if t448 < 0 then (some true) else ((laws_toFileMap.f k l0_0).bind fun t449 => ((laws_toPiece.f a1_0 a1_1 a1_2 a1_3).bind fun bt452 => ((spec_MapPiece.f k t449 bt452.1 bt452.2.1 bt452.2.2.1 bt452.2.2.2).bind fun bt456 => ((laws_toFileMap.f k l0_0).bind fun t461 => ((laws_toPiece.f a1_0 a1_1 a1_2 a1_3).bind fun bt465 => ((impl_MapPiece.f k t461 bt465.1 bt465.2.1 bt465.2.2.1 bt465.2.2.2).bind fun bt469 => ((laws_eqFileMap.f k bt469.1 bt456.1).bind fun t474 => (if t474 = true then (laws_FnExactMapPiece.j0 k bt456.2 bt469.2 (bt469.2 != bt456.2) l0_0 a1_0 a1_1 a1_2 a1_3 bt456.1 t461 bt469.1) else (laws_FnExactMapPiece.j0 k bt456.2 bt469.2 true l0_0 a1_0 a1_1 a1_2 a1_3 bt456.1 t461 bt469.1)))))))))) = some r := H
 have A3 := Aside0.mk A30
 clear A30
 by_cases c4 : t448 < 0
 ·
  rw [if_pos c4] at H
  have c4b0 : decide (t448 < 0) = true := decide_eq_true c4
  clear c4
  obtain rfl := Option.some.inj H
  go_enter Try.func7, Try.ntmps7
  go_wp2_with (first | ((with_reducible refine gate_dst (N := 2) rfl ?_); refine box_event ?hg (N := 2) ?hd (cs := #[.slice A0_0 l0_0.length c0_0]) (t := 24) ?hr ?_; (case hd => rfl); (case hg => rfl); (case hr => first | (go_simp; done) | (go_simp; rfl)); intro gb446 hg w5 hbox hb; have BK446 := Aside0.mk (hbox); have GW446 := Aside0.mk ((by rw [hg]; exact (below_size (bs HB)) : w.heap.size ≤ gb446)); have GE446 := Aside0.mk ((by rw [hg]; exact (below_size (bs HB)) : w.heap.size ≤ gb446)); replace HB := Aside0.mk (below_step (bs HB) hb); clear hb hbox hg) | ((with_reducible refine gate_dst (N := 3) rfl ?_); refine box_event ?hg (N := 3) ?hd (cs := #[.int .i64 a1_0, .int .i64 a1_1, .int .i64 a1_2, .bool a1_3]) (t := 45) ?hr ?_; (case hd => rfl); (case hg => rfl); (case hr => first | (go_simp; done) | (go_simp; rfl)); intro gb447 hg w6 hbox hb; have BK447 := Aside0.mk (hbox); have GW447 := Aside0.mk ((by rw [hg]; exact (below_size (bs1 HB GE446)) : w.heap.size ≤ gb447)); have GE447 := Aside0.mk ((by rw [hg]; exact (below_size (bs1 HB GE446)) : w.heap.size ≤ gb447)); replace HB := Aside0.mk (below_step (bs1 HB GE446) hb); have NB446_447 := Aside0.mk ((bn BK446 hg : gb446 ≠ gb447)); have NB447_446 := Aside0.mk ((bm BK446 hg : gb447 ≠ gb446)); replace BK446 := nb BK446 hb; clear hb hbox hg; have hnb7 := NB446_447.out; have hnc7 := NB447_446.out; have hcz8_0 := cz1 BK446; have hfz8_0 := fz1 BK446) | ((with_reducible refine gate_callee (f := 14) rfl ?_); refine gL (some 18) rfl rfl Try.func14 (by kernel_rfl) rfl #[.agg #[.slice A0_0 l0_0.length c0_0], .int .i64 1048576] rfl ?_; (with_reducible refine (laws_szFileMap.calls _ _ l0_0 1048576 t448 _ ?side1 ?side2 A3.out).mono ?_); (case side1 => exact cb HR0_0 HB); (case side2 => exact HC0_0.out); rintro e w9 ⟨rfl, hb⟩; refine ⟨_, rfl, ?_⟩; replace BK446 := nb BK446 hb; replace BK447 := nb BK447 hb; replace HB := Aside0.mk (below_step (bs2 HB GE446 GE447) hb); (try clear hb); (try clear hb2); (try clear hk); (try clear hi)))
  go_ret
  exact ⟨by first | rfl | (simp [errW_none, errW_some] <;> rfl) | (simp [*, errW_none, errW_some] <;> rfl), bs2 HB GE446 GE447⟩
 ·
  rw [if_neg c4] at H
  have c4b0 : decide (t448 < 0) = false := decide_eq_false c4
  clear c4
  replace H := Option.bind_eq_some_iff.mp H
  obtain ⟨t449, A100, H⟩ := H
  replace H : ((laws_toPiece.f a1_0 a1_1 a1_2 a1_3).bind fun bt452 => ((spec_MapPiece.f k t449 bt452.1 bt452.2.1 bt452.2.2.1 bt452.2.2.2).bind fun bt456 => ((laws_toFileMap.f k l0_0).bind fun t461 => ((laws_toPiece.f a1_0 a1_1 a1_2 a1_3).bind fun bt465 => ((impl_MapPiece.f k t461 bt465.1 bt465.2.1 bt465.2.2.1 bt465.2.2.2).bind fun bt469 => ((laws_eqFileMap.f k bt469.1 bt456.1).bind fun t474 => (if t474 = true then (laws_FnExactMapPiece.j0 k bt456.2 bt469.2 (bt469.2 != bt456.2) l0_0 a1_0 a1_1 a1_2 a1_3 bt456.1 t461 bt469.1) else (laws_FnExactMapPiece.j0 k bt456.2 bt469.2 true l0_0 a1_0 a1_1 a1_2 a1_3 bt456.1 t461 bt469.1)))))))) = some r := H
  have A10 := Aside0.mk A100
  clear A100
  replace H := Option.bind_eq_some_iff.mp H
  obtain ⟨⟨t452, t453, t454, t455⟩, A110, H⟩ := H
  replace H : ((spec_MapPiece.f k t449 t452 t453 t454 t455).bind fun bt456 => ((laws_toFileMap.f k l0_0).bind fun t461 => ((laws_toPiece.f a1_0 a1_1 a1_2 a1_3).bind fun bt465 => ((impl_MapPiece.f k t461 bt465.1 bt465.2.1 bt465.2.2.1 bt465.2.2.2).bind fun bt469 => ((laws_eqFileMap.f k bt469.1 bt456.1).bind fun t474 => (if t474 = true then (laws_FnExactMapPiece.j0 k bt456.2 bt469.2 (bt469.2 != bt456.2) l0_0 a1_0 a1_1 a1_2 a1_3 bt456.1 t461 bt469.1) else (laws_FnExactMapPiece.j0 k bt456.2 bt469.2 true l0_0 a1_0 a1_1 a1_2 a1_3 bt456.1 t461 bt469.1))))))) = some r := H
  have A11 := Aside0.mk A110
  clear A110
  replace H := Option.bind_eq_some_iff.mp H
  obtain ⟨⟨t456, t459⟩, A120, H⟩ := H
  replace H : ((laws_toFileMap.f k l0_0).bind fun t461 => ((laws_toPiece.f a1_0 a1_1 a1_2 a1_3).bind fun bt465 => ((impl_MapPiece.f k t461 bt465.1 bt465.2.1 bt465.2.2.1 bt465.2.2.2).bind fun bt469 => ((laws_eqFileMap.f k bt469.1 t456).bind fun t474 => (if t474 = true then (laws_FnExactMapPiece.j0 k t459 bt469.2 (bt469.2 != t459) l0_0 a1_0 a1_1 a1_2 a1_3 t456 t461 bt469.1) else (laws_FnExactMapPiece.j0 k t459 bt469.2 true l0_0 a1_0 a1_1 a1_2 a1_3 t456 t461 bt469.1)))))) = some r := H
  have A12 := Aside0.mk A120
  clear A120
  replace H := Option.bind_eq_some_iff.mp H
  obtain ⟨t461, A130, H⟩ := H
  replace H : ((laws_toPiece.f a1_0 a1_1 a1_2 a1_3).bind fun bt465 => ((impl_MapPiece.f k t461 bt465.1 bt465.2.1 bt465.2.2.1 bt465.2.2.2).bind fun bt469 => ((laws_eqFileMap.f k bt469.1 t456).bind fun t474 => (if t474 = true then (laws_FnExactMapPiece.j0 k t459 bt469.2 (bt469.2 != t459) l0_0 a1_0 a1_1 a1_2 a1_3 t456 t461 bt469.1) else (laws_FnExactMapPiece.j0 k t459 bt469.2 true l0_0 a1_0 a1_1 a1_2 a1_3 t456 t461 bt469.1))))) = some r := H
  have A13 := Aside0.mk A130
  clear A130
  replace H := Option.bind_eq_some_iff.mp H
  obtain ⟨⟨t465, t466, t467, t468⟩, A140, H⟩ := H
  replace H : ((impl_MapPiece.f k t461 t465 t466 t467 t468).bind fun bt469 => ((laws_eqFileMap.f k bt469.1 t456).bind fun t474 => (if t474 = true then (laws_FnExactMapPiece.j0 k t459 bt469.2 (bt469.2 != t459) l0_0 a1_0 a1_1 a1_2 a1_3 t456 t461 bt469.1) else (laws_FnExactMapPiece.j0 k t459 bt469.2 true l0_0 a1_0 a1_1 a1_2 a1_3 t456 t461 bt469.1)))) = some r := H
  have A14 := Aside0.mk A140
  clear A140
  replace H := Option.bind_eq_some_iff.mp H
  obtain ⟨⟨t469, t472⟩, A150, H⟩ := H
  replace H : ((laws_eqFileMap.f k t469 t456).bind fun t474 => (if t474 = true then (laws_FnExactMapPiece.j0 k t459 t472 (t472 != t459) l0_0 a1_0 a1_1 a1_2 a1_3 t456 t461 t469) else (laws_FnExactMapPiece.j0 k t459 t472 true l0_0 a1_0 a1_1 a1_2 a1_3 t456 t461 t469))) = some r := H
  have A15 := Aside0.mk A150
  clear A150
  have HC16 := Aside0.mk H
  clear H
  go_enter Try.func7, Try.ntmps7
  try go_wp2_with (first | ((with_reducible refine gate_dst (N := 2) rfl ?_); refine box_event ?hg (N := 2) ?hd (cs := #[.slice A0_0 l0_0.length c0_0]) (t := 24) ?hr ?_; (case hd => rfl); (case hg => rfl); (case hr => first | (go_simp; done) | (go_simp; rfl)); intro gb446 hg w17 hbox hb; have BK446 := Aside0.mk (hbox); have GW446 := Aside0.mk ((by rw [hg]; exact (below_size (bs HB)) : w.heap.size ≤ gb446)); have GE446 := Aside0.mk ((by rw [hg]; exact (below_size (bs HB)) : w.heap.size ≤ gb446)); replace HB := Aside0.mk (below_step (bs HB) hb); clear hb hbox hg) | ((with_reducible refine gate_dst (N := 3) rfl ?_); refine box_event ?hg (N := 3) ?hd (cs := #[.int .i64 a1_0, .int .i64 a1_1, .int .i64 a1_2, .bool a1_3]) (t := 45) ?hr ?_; (case hd => rfl); (case hg => rfl); (case hr => first | (go_simp; done) | (go_simp; rfl)); intro gb447 hg w18 hbox hb; have BK447 := Aside0.mk (hbox); have GW447 := Aside0.mk ((by rw [hg]; exact (below_size (bs1 HB GE446)) : w.heap.size ≤ gb447)); have GE447 := Aside0.mk ((by rw [hg]; exact (below_size (bs1 HB GE446)) : w.heap.size ≤ gb447)); replace HB := Aside0.mk (below_step (bs1 HB GE446) hb); have NB446_447 := Aside0.mk ((bn BK446 hg : gb446 ≠ gb447)); have NB447_446 := Aside0.mk ((bm BK446 hg : gb447 ≠ gb446)); replace BK446 := nb BK446 hb; clear hb hbox hg; have hnb19 := NB446_447.out; have hnc19 := NB447_446.out; have hcz20_0 := cz1 BK446; have hfz20_0 := fz1 BK446) | ((with_reducible refine gate_callee (f := 14) rfl ?_); refine gL (some 18) rfl rfl Try.func14 (by kernel_rfl) rfl #[.agg #[.slice A0_0 l0_0.length c0_0], .int .i64 1048576] rfl ?_; (with_reducible refine (laws_szFileMap.calls _ _ l0_0 1048576 t448 _ ?side1 ?side2 A3.out).mono ?_); (case side1 => exact cb HR0_0 HB); (case side2 => exact HC0_0.out); rintro e w21 ⟨rfl, hb⟩; refine ⟨_, rfl, ?_⟩; replace BK446 := nb BK446 hb; replace BK447 := nb BK447 hb; replace HB := Aside0.mk (below_step (bs2 HB GE446 GE447) hb); (try clear hb); (try clear hb2); (try clear hk); (try clear hi)))
  have n0_ := Aside0.mk (blk_drew BK446.out)
  have n1_ := Aside0.mk (blk_drew BK447.out)
  have n2_ := Aside0.mk (below_drew1 HB.out)
  clear BK446
  clear BK447
  clear HB
  have BK446 := n0_
  have BK447 := n1_
  have HB := n2_
  clear n0_ n1_ n2_
  refine start_ (n := 11) (S := fun w' => w'.cell? ⟨gb446, 0, none⟩ = some (.slice A0_0 l0_0.length c0_0) ∧ w'.cell? ⟨gb447, 0, none⟩ = some (.int .i64 a1_0) ∧ w'.cell? ⟨gb447, 1, none⟩ = some (.int .i64 a1_1) ∧ w'.cell? ⟨gb447, 2, none⟩ = some (.int .i64 a1_2) ∧ w'.cell? ⟨gb447, 3, none⟩ = some (.bool a1_3)) (ds := []) #[false, false, false, false, false, false, false, false, false, false, false] (by kernel_rfl) rfl rfl ⟨(blk_cell BK446.out 0).trans rfl, (blk_cell BK447.out 0).trans rfl, (blk_cell BK447.out 1).trans rfl, (blk_cell BK447.out 2).trans rfl, (blk_cell BK447.out 3).trans rfl⟩ (fun hHeld => ?_); refine with_tabW laws_FnExactMapPiece.tab5 laws_FnExactMapPiece.bits5 (fun HT_ HW_ => ?_)
  generalize w21.drew = w22 at BK446 BK447 HB hHeld ⊢
  refine take_ (i := 0) (N := some 22) (v := ?_) (a' := ?_) #[true, false, false, false, false, false, false, false, false, false, false] rfl rfl (take_ofW HT_.out HW_.out (by kernel_rfl)) (fun _ _ _ h => h) (Or.inl ⟨by rfl, ?_⟩) hHeld ?_ ?_
  rotate_left
  ·
   rintro w' ⟨s0, s1, s2, s3, s4⟩
   go_simp
   with_reducible rfl
  rotate_left
  ·
   simp only [Act.put, List.setIfInBounds_toArray, List.set_cons_zero, List.set_cons_succ, i64_w, i32_w]
   rfl
  refine take_ (i := 2) (N := some 24) (v := ?_) (a' := ?_) #[true, false, true, false, false, false, false, false, false, false, false] rfl rfl (take_ofW HT_.out HW_.out (by kernel_rfl)) (fun _ _ _ h => h) (Or.inl ⟨by rfl, ?_⟩) hHeld ?_ ?_
  rotate_left
  ·
   rintro w' ⟨s0, s1, s2, s3, s4⟩
   go_simp
   with_reducible rfl
  rotate_left
  ·
   simp only [Act.put, List.setIfInBounds_toArray, List.set_cons_zero, List.set_cons_succ, i64_w, i32_w]
   rfl
  refine join_ (σ := Value × Value × Nat) 2 #[true, true, true, true, true, true, true, true, true, false, false] (fun s_ => [(23, .agg #[s_.1]), (25, .agg #[.int .i64 t452, .int .i64 t453, .int .i64 t454, .bool t455]), (26, .tuple #[.agg #[s_.2.1], .bool t459]), (6, .pointer (some ⟨s_.2.2, 0, none⟩)), (21, .tuple #[.agg #[s_.2.1], .bool t459]), (27, .agg #[s_.2.1]), (28, .bool t459)]) (fun s_ w' => (w'.cell? ⟨gb446, 0, none⟩ = some (.slice A0_0 l0_0.length c0_0) ∧ w'.cell? ⟨gb447, 0, none⟩ = some (.int .i64 a1_0) ∧ w'.cell? ⟨gb447, 1, none⟩ = some (.int .i64 a1_1) ∧ w'.cell? ⟨gb447, 2, none⟩ = some (.int .i64 a1_2) ∧ w'.cell? ⟨gb447, 3, none⟩ = some (.bool a1_3)) ∧ (Kd.R k48 48 w' w.heap.size (fun k_ => some k_ ≠ (s_.2.1 : Value).ownBlock) s_.1 t449) ∧ (Kd.R k48 48 w' w.heap.size (fun k_ => some k_ ≠ (s_.1 : Value).ownBlock) s_.2.1 t456) ∧ (w'.heap[gb446]? = some (.cells #[.slice A0_0 l0_0.length c0_0] 24 (0, 0))) ∧ (w'.heap[gb447]? = some (.cells #[.int .i64 a1_0, .int .i64 a1_1, .int .i64 a1_2, .bool a1_3] 45 (0, 0))) ∧ (w'.heap[s_.2.2]? = some (.cells #[.slice none 0 0] 29 (0, 0))) ∧ (w.heap.size ≤ s_.2.2) ∧ (w.heap.size ≤ s_.2.2) ∧ (gb446 ≠ s_.2.2) ∧ (s_.2.2 ≠ gb446) ∧ (gb447 ≠ s_.2.2) ∧ (s_.2.2 ≠ gb447) ∧ (Below w.heap.size w w')) ?_ ?_
  rotate_left
  ·
   intro hCont
   refine two_ (i := 1) (j := 8) (Ni := some 23) (Nj := some 6) #[true, true, true, false, false, false, false, false, false, false, false] #[true, false, true, false, false, false, false, false, true, false, false] rfl rfl rfl rfl (two_of HT_.out (by kernel_rfl)) (by decide) (by decide) (fun K hK => ?_) (fun K hK => ?_)
   ·
    skip
    refine goes_ Try.func16 (by kernel_rfl) rfl #[.agg #[.slice A0_0 l0_0.length c0_0]] (by rfl) rfl rfl (by (try simp only [List.map_toArray, List.map_cons, List.map_nil]); first | done | rfl | (simp only [List.length_drop, List.length_take]; rfl)) ?_
    with_reducible refine (laws_toFileMap.calls k _ _ l0_0 t449 _ ?side1 ?side2 A10.out).mono ?_
    (case side1 => exact cb HR0_0 HB)
    (case side2 => exact HC0_0.out)
    rintro e w23 ⟨v450, rfl, ho0, hb⟩
    refine ⟨_, rfl, ?_⟩
    have n0_ := Aside0.mk (Kd.R_lower ho0 (below_size (bs2 HB GE446 GE447)))
    have n1_ := Aside0.mk (bb BK446 hb)
    have n2_ := Aside0.mk (bb BK447 hb)
    have n3_ := Aside0.mk (below_step (bs2 HB GE446 GE447) hb)
    clear BK446
    clear BK447
    clear HB
    have HO451 := n0_
    have BK446 := n1_
    have BK447 := n2_
    have HB := n3_
    clear n0_ n1_ n2_ n3_
    (try clear hb)
    (try clear hb2)
    (try clear hk)
    (try clear hi)
    (try clear ho0)
    refine hK.out _ _ ⟨(blk_cell BK446.out 0).trans rfl, (blk_cell BK447.out 0).trans rfl, (blk_cell BK447.out 1).trans rfl, (blk_cell BK447.out 2).trans rfl, (blk_cell BK447.out 3).trans rfl⟩ (fun hHeld => ?_)
    clear hK K
    refine norm_ (a' := ?_) ?_ ?_
    rotate_left
    ·
     show Act.put _ (some 23) _ = _
     simp only [Act.put, List.setIfInBounds_toArray, List.set_cons_zero, List.set_cons_succ, i64_w, i32_w]
     rfl
    refine two_ (i := 3) (j := 8) (Ni := some 25) (Nj := some 6) #[true, true, true, true, false, false, false, false, false, false, false] #[true, true, true, false, false, false, false, false, true, false, false] rfl rfl rfl rfl (two_of HT_.out (by kernel_rfl)) (by decide) (by decide) (fun K hK => ?_) (fun K hK => ?_)
    ·
     skip
     refine goes_ Try.func30 (by kernel_rfl) rfl #[.agg #[.int .i64 a1_0, .int .i64 a1_1, .int .i64 a1_2, .bool a1_3]] (by rfl) rfl rfl (by (try simp only [List.map_toArray, List.map_cons, List.map_nil]); first | done | rfl | (simp only [List.length_drop, List.length_take]; rfl)) ?_
     with_reducible refine (laws_toPiece.calls a1_0 a1_1 a1_2 a1_3 t452 t453 t454 t455 _ A11.out).mono ?_
     rintro e w24 ⟨rfl, hb⟩
     refine ⟨_, rfl, ?_⟩
     have n0_ := Aside0.mk (Kd.R_below (rr HO451.out) hb)
     have n1_ := Aside0.mk (bb BK446 hb)
     have n2_ := Aside0.mk (bb BK447 hb)
     have n3_ := Aside0.mk (below_step (bs2 HB GE446 GE447) hb)
     clear HO451
     clear BK446
     clear BK447
     clear HB
     have HO451 := n0_
     have BK446 := n1_
     have BK447 := n2_
     have HB := n3_
     clear n0_ n1_ n2_ n3_
     (try clear hb)
     (try clear hb2)
     (try clear hk)
     (try clear hi)
     obtain ⟨Ao25, co25, eo25⟩ := Kd.R_slice HO451.out
     (first | subst eo25 | (injection eo25 with f1_ f2_ f3_; have f4_ := f1_.symm; have f5_ := f3_.symm; clear f1_ f2_ f3_; subst f4_; subst f5_))
     refine hK.out _ _ ⟨(blk_cell BK446.out 0).trans rfl, (blk_cell BK447.out 0).trans rfl, (blk_cell BK447.out 1).trans rfl, (blk_cell BK447.out 2).trans rfl, (blk_cell BK447.out 3).trans rfl⟩ (fun hHeld => ?_)
     clear hK K
     refine norm_ (a' := ?_) ?_ ?_
     rotate_left
     ·
      show Act.put _ (some 25) _ = _
      simp only [Act.put, List.setIfInBounds_toArray, List.set_cons_zero, List.set_cons_succ, i64_w, i32_w]
      rfl
     refine two_ (i := 4) (j := 8) (Ni := some 26) (Nj := some 6) #[true, true, true, true, true, false, false, false, false, false, false] #[true, true, true, true, false, false, false, false, true, false, false] rfl rfl rfl rfl (two_of HT_.out (by kernel_rfl)) (by decide) (by decide) (fun K hK => ?_) (fun K hK => ?_)
     ·
      skip
      refine goes_ Try.func29 (by kernel_rfl) rfl #[.agg #[.slice Ao25 t449.length co25], .agg #[.int .i64 t452, .int .i64 t453, .int .i64 t454, .bool t455]] (by rfl) rfl rfl (by (try simp only [List.map_toArray, List.map_cons, List.map_nil]); first | done | rfl | (simp only [List.length_drop, List.length_take]; rfl)) ?_
      with_reducible refine (spec_MapPiece.calls k _ _ t449 t452 t453 t454 t455 t456 t459 _ ?side1 ?side2 A12.out).mono ?_
      (case side1 => exact rc0 HO451)
      (case side2 => exact (Kd.R_reads' HO451.out).2.1)
      rintro e w26 ⟨v457, rfl, ho0, hb⟩
      refine ⟨_, rfl, ?_⟩
      have n0_ := Aside0.mk (Kd.R_elder' (rr HO451.out) (Kd.R_base ho0) hb)
      have n1_ := Aside0.mk (Kd.R_lower (Kd.R_new' ho0 (Kd.R_lt (rr HO451.out))) (below_size (bs2 HB GE446 GE447)))
      have n2_ := Aside0.mk (bb BK446 hb)
      have n3_ := Aside0.mk (bb BK447 hb)
      have n4_ := Aside0.mk (below_step (bs2 HB GE446 GE447) hb)
      clear HO451
      clear BK446
      clear BK447
      clear HB
      have HO451 := n0_
      have HO458 := n1_
      have BK446 := n2_
      have BK447 := n3_
      have HB := n4_
      clear n0_ n1_ n2_ n3_ n4_
      (try clear hb)
      (try clear hb2)
      (try clear hk)
      (try clear hi)
      (try clear ho0)
      refine hK.out _ _ ⟨(blk_cell BK446.out 0).trans rfl, (blk_cell BK447.out 0).trans rfl, (blk_cell BK447.out 1).trans rfl, (blk_cell BK447.out 2).trans rfl, (blk_cell BK447.out 3).trans rfl⟩ (fun hHeld => ?_)
      clear hK K
      refine norm_ (a' := ?_) ?_ ?_
      rotate_left
      ·
       show Act.put _ (some 26) _ = _
       simp only [Act.put, List.setIfInBounds_toArray, List.set_cons_zero, List.set_cons_succ, i64_w, i32_w]
       rfl
      refine pure_ (i := 5) (N := some 21) (v := ?_) (a' := ?_) #[true, true, true, true, true, true, false, false, false, false, false] rfl rfl (any_of HT_.out (by kernel_rfl)) (fun _ _ _ h => h) (Or.inl ⟨by rfl, ?_⟩) ?_ ?_
      rotate_left
      ·
       intro w'
       go_simp
       with_reducible rfl
      rotate_left
      ·
       simp only [Act.put, List.setIfInBounds_toArray, List.set_cons_zero, List.set_cons_succ, i64_w, i32_w]
       rfl
      refine pure_ (i := 6) (N := some 27) (v := ?_) (a' := ?_) #[true, true, true, true, true, true, true, false, false, false, false] rfl rfl (any_of HT_.out (by kernel_rfl)) (fun _ _ _ h => h) (Or.inl ⟨by rfl, ?_⟩) ?_ ?_
      rotate_left
      ·
       intro w'
       go_simp
       with_reducible rfl
      rotate_left
      ·
       simp only [Act.put, List.setIfInBounds_toArray, List.set_cons_zero, List.set_cons_succ, i64_w, i32_w]
       rfl
      refine pure_ (i := 7) (N := some 28) (v := ?_) (a' := ?_) #[true, true, true, true, true, true, true, true, false, false, false] rfl rfl (any_of HT_.out (by kernel_rfl)) (fun _ _ _ h => h) (Or.inl ⟨by rfl, ?_⟩) ?_ ?_
      rotate_left
      ·
       intro w'
       go_simp
       with_reducible rfl
      rotate_left
      ·
       simp only [Act.put, List.setIfInBounds_toArray, List.set_cons_zero, List.set_cons_succ, i64_w, i32_w]
       rfl
      refine one_ (i := 8) (N := some 6) #[true, true, true, true, true, true, true, true, true, false, false] rfl rfl (one_of HT_.out (by kernel_rfl)) (by decide) (fun K hK => ?_)
      refine box_step ?hg (N := 6) ?hd (cs := #[.slice none 0 0]) (t := 29) ?hr ?_; (case hd => rfl); (case hg => rfl); (case hr => first | (go_simp; done) | (go_simp; rfl))
      intro gb460 hg w27 hbox hb
      have n0_ := Aside0.mk (Kd.R_below (rr HO451.out) hb)
      have n1_ := Aside0.mk (Kd.R_below (rr HO458.out) hb)
      have n2_ := Aside0.mk (bb BK446 hb)
      have n3_ := Aside0.mk (bb BK447 hb)
      have n4_ := Aside0.mk (below_step (bs2 HB GE446 GE447) hb)
      have n5_ := Aside0.mk (hbox)
      have n6_ := Aside0.mk ((by rw [hg]; exact (below_size (bs2 HB GE446 GE447)) : w.heap.size ≤ gb460))
      have n7_ := Aside0.mk ((by rw [hg]; exact (below_size (bs2 HB GE446 GE447)) : w.heap.size ≤ gb460))
      have n8_ := Aside0.mk ((bn BK446 hg : gb446 ≠ gb460))
      have n9_ := Aside0.mk ((bm BK446 hg : gb460 ≠ gb446))
      have n10_ := Aside0.mk ((bn BK447 hg : gb447 ≠ gb460))
      have n11_ := Aside0.mk ((bm BK447 hg : gb460 ≠ gb447))
      clear HO451
      clear HO458
      clear BK446
      clear BK447
      clear HB
      have HO451 := n0_
      have HO458 := n1_
      have BK446 := n2_
      have BK447 := n3_
      have HB := n4_
      have BK460 := n5_
      have GW460 := n6_
      have GE460 := n7_
      have NB446_460 := n8_
      have NB460_446 := n9_
      have NB447_460 := n10_
      have NB460_447 := n11_
      clear n0_ n1_ n2_ n3_ n4_ n5_ n6_ n7_ n8_ n9_ n10_ n11_
      clear hb hbox hg
      refine hK.out _ _ ⟨(blk_cell BK446.out 0).trans rfl, (blk_cell BK447.out 0).trans rfl, (blk_cell BK447.out 1).trans rfl, (blk_cell BK447.out 2).trans rfl, (blk_cell BK447.out 3).trans rfl⟩ (fun hHeld => ?_)
      clear hK K
      refine norm_ (a' := ?_) ?_ ?_
      rotate_left
      ·
       show Act.put _ (some 6) _ = _
       simp only [Act.put, List.setIfInBounds_toArray, List.set_cons_zero, List.set_cons_succ, i64_w, i32_w]
       rfl
      exact norm_ (by simp only [putAll, Act.put, List.setIfInBounds_toArray, List.set_cons_zero, List.set_cons_succ]) (hCont (.slice Ao25 t449.length co25, v457, gb460) _ ⟨hHeld, (by (with_reducible repeat (first | apply Kd.R_alloc | apply Kd.R_drewN | apply Kd.R_drew)); exact Kd.R_mono HO451.out (fun _ hk => hk.2)), (by (with_reducible repeat (first | apply Kd.R_alloc | apply Kd.R_drewN | apply Kd.R_drew)); exact Kd.R_mono HO458.out (fun _ hk => hk.2)), (bk BK446), (bk BK447), (bk BK460), GW460.out, GE460.out, NB446_460.out, NB460_446.out, NB447_460.out, NB460_447.out, (bs3 HB GE446 GE447 GE460)⟩)
     ·
      skip
      refine box_step ?hg (N := 6) ?hd (cs := #[.slice none 0 0]) (t := 29) ?hr ?_; (case hd => rfl); (case hg => rfl); (case hr => first | (go_simp; done) | (go_simp; rfl))
      intro gb460 hg w25 hbox hb
      have n0_ := Aside0.mk (Kd.R_below (rr HO451.out) hb)
      have n1_ := Aside0.mk (bb BK446 hb)
      have n2_ := Aside0.mk (bb BK447 hb)
      have n3_ := Aside0.mk (below_step (bs2 HB GE446 GE447) hb)
      have n4_ := Aside0.mk (hbox)
      have n5_ := Aside0.mk ((by rw [hg]; exact (below_size (bs2 HB GE446 GE447)) : w.heap.size ≤ gb460))
      have n6_ := Aside0.mk ((by rw [hg]; exact (below_size (bs2 HB GE446 GE447)) : w.heap.size ≤ gb460))
      have n7_ := Aside0.mk ((bn BK446 hg : gb446 ≠ gb460))
      have n8_ := Aside0.mk ((bm BK446 hg : gb460 ≠ gb446))
      have n9_ := Aside0.mk ((bn BK447 hg : gb447 ≠ gb460))
      have n10_ := Aside0.mk ((bm BK447 hg : gb460 ≠ gb447))
      clear HO451
      clear BK446
      clear BK447
      clear HB
      have HO451 := n0_
      have BK446 := n1_
      have BK447 := n2_
      have HB := n3_
      have BK460 := n4_
      have GW460 := n5_
      have GE460 := n6_
      have NB446_460 := n7_
      have NB460_446 := n8_
      have NB447_460 := n9_
      have NB460_447 := n10_
      clear n0_ n1_ n2_ n3_ n4_ n5_ n6_ n7_ n8_ n9_ n10_
      clear hb hbox hg
      obtain ⟨Ao26, co26, eo26⟩ := Kd.R_slice HO451.out
      (first | subst eo26 | (injection eo26 with f1_ f2_ f3_; have f4_ := f1_.symm; have f5_ := f3_.symm; clear f1_ f2_ f3_; subst f4_; subst f5_))
      refine hK.out _ _ ⟨(blk_cell BK446.out 0).trans rfl, (blk_cell BK447.out 0).trans rfl, (blk_cell BK447.out 1).trans rfl, (blk_cell BK447.out 2).trans rfl, (blk_cell BK447.out 3).trans rfl⟩ (fun hHeld => ?_)
      clear hK K
      refine norm_ (a' := ?_) ?_ ?_
      rotate_left
      ·
       show Act.put _ (some 6) _ = _
       simp only [Act.put, List.setIfInBounds_toArray, List.set_cons_zero, List.set_cons_succ, i64_w, i32_w]
       rfl
      refine one_ (i := 4) (N := some 26) #[true, true, true, true, true, false, false, false, true, false, false] rfl rfl (one_of HT_.out (by kernel_rfl)) (by decide) (fun K hK => ?_)
      refine goes_ Try.func29 (by kernel_rfl) rfl #[.agg #[.slice Ao26 t449.length co26], .agg #[.int .i64 t452, .int .i64 t453, .int .i64 t454, .bool t455]] (by rfl) rfl rfl (by (try simp only [List.map_toArray, List.map_cons, List.map_nil]); first | done | rfl | (simp only [List.length_drop, List.length_take]; rfl)) ?_
      with_reducible refine (spec_MapPiece.calls k _ _ t449 t452 t453 t454 t455 t456 t459 _ ?side1 ?side2 A12.out).mono ?_
      (case side1 => exact rc0 HO451)
      (case side2 => exact (Kd.R_reads' HO451.out).2.1)
      rintro e w27 ⟨v457, rfl, ho0, hb⟩
      refine ⟨_, rfl, ?_⟩
      have n0_ := Aside0.mk (Kd.R_elder' (rr HO451.out) (Kd.R_base ho0) hb)
      have n1_ := Aside0.mk (Kd.R_lower (Kd.R_new' ho0 (Kd.R_lt (rr HO451.out))) (below_size (bs3 HB GE446 GE447 GE460)))
      have n2_ := Aside0.mk (bb BK446 hb)
      have n3_ := Aside0.mk (bb BK447 hb)
      have n4_ := Aside0.mk (bb BK460 hb)
      have n5_ := Aside0.mk (below_step (bs3 HB GE446 GE447 GE460) hb)
      clear HO451
      clear BK446
      clear BK447
      clear BK460
      clear HB
      have HO451 := n0_
      have HO458 := n1_
      have BK446 := n2_
      have BK447 := n3_
      have BK460 := n4_
      have HB := n5_
      clear n0_ n1_ n2_ n3_ n4_ n5_
      (try clear hb)
      (try clear hb2)
      (try clear hk)
      (try clear hi)
      (try clear ho0)
      refine hK.out _ _ ⟨(blk_cell BK446.out 0).trans rfl, (blk_cell BK447.out 0).trans rfl, (blk_cell BK447.out 1).trans rfl, (blk_cell BK447.out 2).trans rfl, (blk_cell BK447.out 3).trans rfl⟩ (fun hHeld => ?_)
      clear hK K
      refine norm_ (a' := ?_) ?_ ?_
      rotate_left
      ·
       show Act.put _ (some 26) _ = _
       simp only [Act.put, List.setIfInBounds_toArray, List.set_cons_zero, List.set_cons_succ, i64_w, i32_w]
       rfl
      refine pure_ (i := 5) (N := some 21) (v := ?_) (a' := ?_) #[true, true, true, true, true, true, false, false, true, false, false] rfl rfl (any_of HT_.out (by kernel_rfl)) (fun _ _ _ h => h) (Or.inl ⟨by rfl, ?_⟩) ?_ ?_
      rotate_left
      ·
       intro w'
       go_simp
       with_reducible rfl
      rotate_left
      ·
       simp only [Act.put, List.setIfInBounds_toArray, List.set_cons_zero, List.set_cons_succ, i64_w, i32_w]
       rfl
      refine pure_ (i := 6) (N := some 27) (v := ?_) (a' := ?_) #[true, true, true, true, true, true, true, false, true, false, false] rfl rfl (any_of HT_.out (by kernel_rfl)) (fun _ _ _ h => h) (Or.inl ⟨by rfl, ?_⟩) ?_ ?_
      rotate_left
      ·
       intro w'
       go_simp
       with_reducible rfl
      rotate_left
      ·
       simp only [Act.put, List.setIfInBounds_toArray, List.set_cons_zero, List.set_cons_succ, i64_w, i32_w]
       rfl
      refine pure_ (i := 7) (N := some 28) (v := ?_) (a' := ?_) #[true, true, true, true, true, true, true, true, true, false, false] rfl rfl (any_of HT_.out (by kernel_rfl)) (fun _ _ _ h => h) (Or.inl ⟨by rfl, ?_⟩) ?_ ?_
      rotate_left
      ·
       intro w'
       go_simp
       with_reducible rfl
      rotate_left
      ·
       simp only [Act.put, List.setIfInBounds_toArray, List.set_cons_zero, List.set_cons_succ, i64_w, i32_w]
       rfl
      exact norm_ (by simp only [putAll, Act.put, List.setIfInBounds_toArray, List.set_cons_zero, List.set_cons_succ]) (hCont (.slice Ao26 t449.length co26, v457, gb460) _ ⟨hHeld, (by (with_reducible repeat (first | apply Kd.R_alloc | apply Kd.R_drewN | apply Kd.R_drew)); exact Kd.R_mono HO451.out (fun _ hk => hk.2)), (by (with_reducible repeat (first | apply Kd.R_alloc | apply Kd.R_drewN | apply Kd.R_drew)); exact Kd.R_mono HO458.out (fun _ hk => hk.2)), (bk BK446), (bk BK447), (bk BK460), GW460.out, GE460.out, NB446_460.out, NB460_446.out, NB447_460.out, NB460_447.out, (bs3 HB GE446 GE447 GE460)⟩)
    ·
     skip
     refine box_step ?hg (N := 6) ?hd (cs := #[.slice none 0 0]) (t := 29) ?hr ?_; (case hd => rfl); (case hg => rfl); (case hr => first | (go_simp; done) | (go_simp; rfl))
     intro gb460 hg w24 hbox hb
     have n0_ := Aside0.mk (Kd.R_below (rr HO451.out) hb)
     have n1_ := Aside0.mk (bb BK446 hb)
     have n2_ := Aside0.mk (bb BK447 hb)
     have n3_ := Aside0.mk (below_step (bs2 HB GE446 GE447) hb)
     have n4_ := Aside0.mk (hbox)
     have n5_ := Aside0.mk ((by rw [hg]; exact (below_size (bs2 HB GE446 GE447)) : w.heap.size ≤ gb460))
     have n6_ := Aside0.mk ((by rw [hg]; exact (below_size (bs2 HB GE446 GE447)) : w.heap.size ≤ gb460))
     have n7_ := Aside0.mk ((bn BK446 hg : gb446 ≠ gb460))
     have n8_ := Aside0.mk ((bm BK446 hg : gb460 ≠ gb446))
     have n9_ := Aside0.mk ((bn BK447 hg : gb447 ≠ gb460))
     have n10_ := Aside0.mk ((bm BK447 hg : gb460 ≠ gb447))
     clear HO451
     clear BK446
     clear BK447
     clear HB
     have HO451 := n0_
     have BK446 := n1_
     have BK447 := n2_
     have HB := n3_
     have BK460 := n4_
     have GW460 := n5_
     have GE460 := n6_
     have NB446_460 := n7_
     have NB460_446 := n8_
     have NB447_460 := n9_
     have NB460_447 := n10_
     clear n0_ n1_ n2_ n3_ n4_ n5_ n6_ n7_ n8_ n9_ n10_
     clear hb hbox hg
     refine hK.out _ _ ⟨(blk_cell BK446.out 0).trans rfl, (blk_cell BK447.out 0).trans rfl, (blk_cell BK447.out 1).trans rfl, (blk_cell BK447.out 2).trans rfl, (blk_cell BK447.out 3).trans rfl⟩ (fun hHeld => ?_)
     clear hK K
     refine norm_ (a' := ?_) ?_ ?_
     rotate_left
     ·
      show Act.put _ (some 6) _ = _
      simp only [Act.put, List.setIfInBounds_toArray, List.set_cons_zero, List.set_cons_succ, i64_w, i32_w]
      rfl
     refine one_ (i := 3) (N := some 25) #[true, true, true, true, false, false, false, false, true, false, false] rfl rfl (one_of HT_.out (by kernel_rfl)) (by decide) (fun K hK => ?_)
     refine goes_ Try.func30 (by kernel_rfl) rfl #[.agg #[.int .i64 a1_0, .int .i64 a1_1, .int .i64 a1_2, .bool a1_3]] (by rfl) rfl rfl (by (try simp only [List.map_toArray, List.map_cons, List.map_nil]); first | done | rfl | (simp only [List.length_drop, List.length_take]; rfl)) ?_
     with_reducible refine (laws_toPiece.calls a1_0 a1_1 a1_2 a1_3 t452 t453 t454 t455 _ A11.out).mono ?_
     rintro e w25 ⟨rfl, hb⟩
     refine ⟨_, rfl, ?_⟩
     have n0_ := Aside0.mk (Kd.R_below (rr HO451.out) hb)
     have n1_ := Aside0.mk (bb BK446 hb)
     have n2_ := Aside0.mk (bb BK447 hb)
     have n3_ := Aside0.mk (bb BK460 hb)
     have n4_ := Aside0.mk (below_step (bs3 HB GE446 GE447 GE460) hb)
     clear HO451
     clear BK446
     clear BK447
     clear BK460
     clear HB
     have HO451 := n0_
     have BK446 := n1_
     have BK447 := n2_
     have BK460 := n3_
     have HB := n4_
     clear n0_ n1_ n2_ n3_ n4_
     (try clear hb)
     (try clear hb2)
     (try clear hk)
     (try clear hi)
     obtain ⟨Ao26, co26, eo26⟩ := Kd.R_slice HO451.out
     (first | subst eo26 | (injection eo26 with f1_ f2_ f3_; have f4_ := f1_.symm; have f5_ := f3_.symm; clear f1_ f2_ f3_; subst f4_; subst f5_))
     refine hK.out _ _ ⟨(blk_cell BK446.out 0).trans rfl, (blk_cell BK447.out 0).trans rfl, (blk_cell BK447.out 1).trans rfl, (blk_cell BK447.out 2).trans rfl, (blk_cell BK447.out 3).trans rfl⟩ (fun hHeld => ?_)
     clear hK K
     refine norm_ (a' := ?_) ?_ ?_
     rotate_left
     ·
      show Act.put _ (some 25) _ = _
      simp only [Act.put, List.setIfInBounds_toArray, List.set_cons_zero, List.set_cons_succ, i64_w, i32_w]
      rfl
     refine one_ (i := 4) (N := some 26) #[true, true, true, true, true, false, false, false, true, false, false] rfl rfl (one_of HT_.out (by kernel_rfl)) (by decide) (fun K hK => ?_)
     refine goes_ Try.func29 (by kernel_rfl) rfl #[.agg #[.slice Ao26 t449.length co26], .agg #[.int .i64 t452, .int .i64 t453, .int .i64 t454, .bool t455]] (by rfl) rfl rfl (by (try simp only [List.map_toArray, List.map_cons, List.map_nil]); first | done | rfl | (simp only [List.length_drop, List.length_take]; rfl)) ?_
     with_reducible refine (spec_MapPiece.calls k _ _ t449 t452 t453 t454 t455 t456 t459 _ ?side1 ?side2 A12.out).mono ?_
     (case side1 => exact rc0 HO451)
     (case side2 => exact (Kd.R_reads' HO451.out).2.1)
     rintro e w27 ⟨v457, rfl, ho0, hb⟩
     refine ⟨_, rfl, ?_⟩
     have n0_ := Aside0.mk (Kd.R_elder' (rr HO451.out) (Kd.R_base ho0) hb)
     have n1_ := Aside0.mk (Kd.R_lower (Kd.R_new' ho0 (Kd.R_lt (rr HO451.out))) (below_size (bs3 HB GE446 GE447 GE460)))
     have n2_ := Aside0.mk (bb BK446 hb)
     have n3_ := Aside0.mk (bb BK447 hb)
     have n4_ := Aside0.mk (bb BK460 hb)
     have n5_ := Aside0.mk (below_step (bs3 HB GE446 GE447 GE460) hb)
     clear HO451
     clear BK446
     clear BK447
     clear BK460
     clear HB
     have HO451 := n0_
     have HO458 := n1_
     have BK446 := n2_
     have BK447 := n3_
     have BK460 := n4_
     have HB := n5_
     clear n0_ n1_ n2_ n3_ n4_ n5_
     (try clear hb)
     (try clear hb2)
     (try clear hk)
     (try clear hi)
     (try clear ho0)
     refine hK.out _ _ ⟨(blk_cell BK446.out 0).trans rfl, (blk_cell BK447.out 0).trans rfl, (blk_cell BK447.out 1).trans rfl, (blk_cell BK447.out 2).trans rfl, (blk_cell BK447.out 3).trans rfl⟩ (fun hHeld => ?_)
     clear hK K
     refine norm_ (a' := ?_) ?_ ?_
     rotate_left
     ·
      show Act.put _ (some 26) _ = _
      simp only [Act.put, List.setIfInBounds_toArray, List.set_cons_zero, List.set_cons_succ, i64_w, i32_w]
      rfl
     refine pure_ (i := 5) (N := some 21) (v := ?_) (a' := ?_) #[true, true, true, true, true, true, false, false, true, false, false] rfl rfl (any_of HT_.out (by kernel_rfl)) (fun _ _ _ h => h) (Or.inl ⟨by rfl, ?_⟩) ?_ ?_
     rotate_left
     ·
      intro w'
      go_simp
      with_reducible rfl
     rotate_left
     ·
      simp only [Act.put, List.setIfInBounds_toArray, List.set_cons_zero, List.set_cons_succ, i64_w, i32_w]
      rfl
     refine pure_ (i := 6) (N := some 27) (v := ?_) (a' := ?_) #[true, true, true, true, true, true, true, false, true, false, false] rfl rfl (any_of HT_.out (by kernel_rfl)) (fun _ _ _ h => h) (Or.inl ⟨by rfl, ?_⟩) ?_ ?_
     rotate_left
     ·
      intro w'
      go_simp
      with_reducible rfl
     rotate_left
     ·
      simp only [Act.put, List.setIfInBounds_toArray, List.set_cons_zero, List.set_cons_succ, i64_w, i32_w]
      rfl
     refine pure_ (i := 7) (N := some 28) (v := ?_) (a' := ?_) #[true, true, true, true, true, true, true, true, true, false, false] rfl rfl (any_of HT_.out (by kernel_rfl)) (fun _ _ _ h => h) (Or.inl ⟨by rfl, ?_⟩) ?_ ?_
     rotate_left
     ·
      intro w'
      go_simp
      with_reducible rfl
     rotate_left
     ·
      simp only [Act.put, List.setIfInBounds_toArray, List.set_cons_zero, List.set_cons_succ, i64_w, i32_w]
      rfl
     exact norm_ (by simp only [putAll, Act.put, List.setIfInBounds_toArray, List.set_cons_zero, List.set_cons_succ]) (hCont (.slice Ao26 t449.length co26, v457, gb460) _ ⟨hHeld, (by (with_reducible repeat (first | apply Kd.R_alloc | apply Kd.R_drewN | apply Kd.R_drew)); exact Kd.R_mono HO451.out (fun _ hk => hk.2)), (by (with_reducible repeat (first | apply Kd.R_alloc | apply Kd.R_drewN | apply Kd.R_drew)); exact Kd.R_mono HO458.out (fun _ hk => hk.2)), (bk BK446), (bk BK447), (bk BK460), GW460.out, GE460.out, NB446_460.out, NB460_446.out, NB447_460.out, NB460_447.out, (bs3 HB GE446 GE447 GE460)⟩)
   ·
    skip
    refine box_step ?hg (N := 6) ?hd (cs := #[.slice none 0 0]) (t := 29) ?hr ?_; (case hd => rfl); (case hg => rfl); (case hr => first | (go_simp; done) | (go_simp; rfl))
    intro gb460 hg w23 hbox hb
    have n0_ := Aside0.mk (bb BK446 hb)
    have n1_ := Aside0.mk (bb BK447 hb)
    have n2_ := Aside0.mk (below_step (bs2 HB GE446 GE447) hb)
    have n3_ := Aside0.mk (hbox)
    have n4_ := Aside0.mk ((by rw [hg]; exact (below_size (bs2 HB GE446 GE447)) : w.heap.size ≤ gb460))
    have n5_ := Aside0.mk ((by rw [hg]; exact (below_size (bs2 HB GE446 GE447)) : w.heap.size ≤ gb460))
    have n6_ := Aside0.mk ((bn BK446 hg : gb446 ≠ gb460))
    have n7_ := Aside0.mk ((bm BK446 hg : gb460 ≠ gb446))
    have n8_ := Aside0.mk ((bn BK447 hg : gb447 ≠ gb460))
    have n9_ := Aside0.mk ((bm BK447 hg : gb460 ≠ gb447))
    clear BK446
    clear BK447
    clear HB
    have BK446 := n0_
    have BK447 := n1_
    have HB := n2_
    have BK460 := n3_
    have GW460 := n4_
    have GE460 := n5_
    have NB446_460 := n6_
    have NB460_446 := n7_
    have NB447_460 := n8_
    have NB460_447 := n9_
    clear n0_ n1_ n2_ n3_ n4_ n5_ n6_ n7_ n8_ n9_
    clear hb hbox hg
    refine hK.out _ _ ⟨(blk_cell BK446.out 0).trans rfl, (blk_cell BK447.out 0).trans rfl, (blk_cell BK447.out 1).trans rfl, (blk_cell BK447.out 2).trans rfl, (blk_cell BK447.out 3).trans rfl⟩ (fun hHeld => ?_)
    clear hK K
    refine norm_ (a' := ?_) ?_ ?_
    rotate_left
    ·
     show Act.put _ (some 6) _ = _
     simp only [Act.put, List.setIfInBounds_toArray, List.set_cons_zero, List.set_cons_succ, i64_w, i32_w]
     rfl
    refine one_ (i := 1) (N := some 23) #[true, true, true, false, false, false, false, false, true, false, false] rfl rfl (one_of HT_.out (by kernel_rfl)) (by decide) (fun K hK => ?_)
    refine goes_ Try.func16 (by kernel_rfl) rfl #[.agg #[.slice A0_0 l0_0.length c0_0]] (by rfl) rfl rfl (by (try simp only [List.map_toArray, List.map_cons, List.map_nil]); first | done | rfl | (simp only [List.length_drop, List.length_take]; rfl)) ?_
    with_reducible refine (laws_toFileMap.calls k _ _ l0_0 t449 _ ?side1 ?side2 A10.out).mono ?_
    (case side1 => exact cb HR0_0 HB)
    (case side2 => exact HC0_0.out)
    rintro e w24 ⟨v450, rfl, ho0, hb⟩
    refine ⟨_, rfl, ?_⟩
    have n0_ := Aside0.mk (Kd.R_lower ho0 (below_size (bs3 HB GE446 GE447 GE460)))
    have n1_ := Aside0.mk (bb BK446 hb)
    have n2_ := Aside0.mk (bb BK447 hb)
    have n3_ := Aside0.mk (bb BK460 hb)
    have n4_ := Aside0.mk (below_step (bs3 HB GE446 GE447 GE460) hb)
    clear BK446
    clear BK447
    clear BK460
    clear HB
    have HO451 := n0_
    have BK446 := n1_
    have BK447 := n2_
    have BK460 := n3_
    have HB := n4_
    clear n0_ n1_ n2_ n3_ n4_
    (try clear hb)
    (try clear hb2)
    (try clear hk)
    (try clear hi)
    (try clear ho0)
    refine hK.out _ _ ⟨(blk_cell BK446.out 0).trans rfl, (blk_cell BK447.out 0).trans rfl, (blk_cell BK447.out 1).trans rfl, (blk_cell BK447.out 2).trans rfl, (blk_cell BK447.out 3).trans rfl⟩ (fun hHeld => ?_)
    clear hK K
    refine norm_ (a' := ?_) ?_ ?_
    rotate_left
    ·
     show Act.put _ (some 23) _ = _
     simp only [Act.put, List.setIfInBounds_toArray, List.set_cons_zero, List.set_cons_succ, i64_w, i32_w]
     rfl
    refine one_ (i := 3) (N := some 25) #[true, true, true, true, false, false, false, false, true, false, false] rfl rfl (one_of HT_.out (by kernel_rfl)) (by decide) (fun K hK => ?_)
    refine goes_ Try.func30 (by kernel_rfl) rfl #[.agg #[.int .i64 a1_0, .int .i64 a1_1, .int .i64 a1_2, .bool a1_3]] (by rfl) rfl rfl (by (try simp only [List.map_toArray, List.map_cons, List.map_nil]); first | done | rfl | (simp only [List.length_drop, List.length_take]; rfl)) ?_
    with_reducible refine (laws_toPiece.calls a1_0 a1_1 a1_2 a1_3 t452 t453 t454 t455 _ A11.out).mono ?_
    rintro e w25 ⟨rfl, hb⟩
    refine ⟨_, rfl, ?_⟩
    have n0_ := Aside0.mk (Kd.R_below (rr HO451.out) hb)
    have n1_ := Aside0.mk (bb BK446 hb)
    have n2_ := Aside0.mk (bb BK447 hb)
    have n3_ := Aside0.mk (bb BK460 hb)
    have n4_ := Aside0.mk (below_step (bs3 HB GE446 GE447 GE460) hb)
    clear HO451
    clear BK446
    clear BK447
    clear BK460
    clear HB
    have HO451 := n0_
    have BK446 := n1_
    have BK447 := n2_
    have BK460 := n3_
    have HB := n4_
    clear n0_ n1_ n2_ n3_ n4_
    (try clear hb)
    (try clear hb2)
    (try clear hk)
    (try clear hi)
    obtain ⟨Ao26, co26, eo26⟩ := Kd.R_slice HO451.out
    (first | subst eo26 | (injection eo26 with f1_ f2_ f3_; have f4_ := f1_.symm; have f5_ := f3_.symm; clear f1_ f2_ f3_; subst f4_; subst f5_))
    refine hK.out _ _ ⟨(blk_cell BK446.out 0).trans rfl, (blk_cell BK447.out 0).trans rfl, (blk_cell BK447.out 1).trans rfl, (blk_cell BK447.out 2).trans rfl, (blk_cell BK447.out 3).trans rfl⟩ (fun hHeld => ?_)
    clear hK K
    refine norm_ (a' := ?_) ?_ ?_
    rotate_left
    ·
     show Act.put _ (some 25) _ = _
     simp only [Act.put, List.setIfInBounds_toArray, List.set_cons_zero, List.set_cons_succ, i64_w, i32_w]
     rfl
    refine one_ (i := 4) (N := some 26) #[true, true, true, true, true, false, false, false, true, false, false] rfl rfl (one_of HT_.out (by kernel_rfl)) (by decide) (fun K hK => ?_)
    refine goes_ Try.func29 (by kernel_rfl) rfl #[.agg #[.slice Ao26 t449.length co26], .agg #[.int .i64 t452, .int .i64 t453, .int .i64 t454, .bool t455]] (by rfl) rfl rfl (by (try simp only [List.map_toArray, List.map_cons, List.map_nil]); first | done | rfl | (simp only [List.length_drop, List.length_take]; rfl)) ?_
    with_reducible refine (spec_MapPiece.calls k _ _ t449 t452 t453 t454 t455 t456 t459 _ ?side1 ?side2 A12.out).mono ?_
    (case side1 => exact rc0 HO451)
    (case side2 => exact (Kd.R_reads' HO451.out).2.1)
    rintro e w27 ⟨v457, rfl, ho0, hb⟩
    refine ⟨_, rfl, ?_⟩
    have n0_ := Aside0.mk (Kd.R_elder' (rr HO451.out) (Kd.R_base ho0) hb)
    have n1_ := Aside0.mk (Kd.R_lower (Kd.R_new' ho0 (Kd.R_lt (rr HO451.out))) (below_size (bs3 HB GE446 GE447 GE460)))
    have n2_ := Aside0.mk (bb BK446 hb)
    have n3_ := Aside0.mk (bb BK447 hb)
    have n4_ := Aside0.mk (bb BK460 hb)
    have n5_ := Aside0.mk (below_step (bs3 HB GE446 GE447 GE460) hb)
    clear HO451
    clear BK446
    clear BK447
    clear BK460
    clear HB
    have HO451 := n0_
    have HO458 := n1_
    have BK446 := n2_
    have BK447 := n3_
    have BK460 := n4_
    have HB := n5_
    clear n0_ n1_ n2_ n3_ n4_ n5_
    (try clear hb)
    (try clear hb2)
    (try clear hk)
    (try clear hi)
    (try clear ho0)
    refine hK.out _ _ ⟨(blk_cell BK446.out 0).trans rfl, (blk_cell BK447.out 0).trans rfl, (blk_cell BK447.out 1).trans rfl, (blk_cell BK447.out 2).trans rfl, (blk_cell BK447.out 3).trans rfl⟩ (fun hHeld => ?_)
    clear hK K
    refine norm_ (a' := ?_) ?_ ?_
    rotate_left
    ·
     show Act.put _ (some 26) _ = _
     simp only [Act.put, List.setIfInBounds_toArray, List.set_cons_zero, List.set_cons_succ, i64_w, i32_w]
     rfl
    refine pure_ (i := 5) (N := some 21) (v := ?_) (a' := ?_) #[true, true, true, true, true, true, false, false, true, false, false] rfl rfl (any_of HT_.out (by kernel_rfl)) (fun _ _ _ h => h) (Or.inl ⟨by rfl, ?_⟩) ?_ ?_
    rotate_left
    ·
     intro w'
     go_simp
     with_reducible rfl
    rotate_left
    ·
     simp only [Act.put, List.setIfInBounds_toArray, List.set_cons_zero, List.set_cons_succ, i64_w, i32_w]
     rfl
    refine pure_ (i := 6) (N := some 27) (v := ?_) (a' := ?_) #[true, true, true, true, true, true, true, false, true, false, false] rfl rfl (any_of HT_.out (by kernel_rfl)) (fun _ _ _ h => h) (Or.inl ⟨by rfl, ?_⟩) ?_ ?_
    rotate_left
    ·
     intro w'
     go_simp
     with_reducible rfl
    rotate_left
    ·
     simp only [Act.put, List.setIfInBounds_toArray, List.set_cons_zero, List.set_cons_succ, i64_w, i32_w]
     rfl
    refine pure_ (i := 7) (N := some 28) (v := ?_) (a' := ?_) #[true, true, true, true, true, true, true, true, true, false, false] rfl rfl (any_of HT_.out (by kernel_rfl)) (fun _ _ _ h => h) (Or.inl ⟨by rfl, ?_⟩) ?_ ?_
    rotate_left
    ·
     intro w'
     go_simp
     with_reducible rfl
    rotate_left
    ·
     simp only [Act.put, List.setIfInBounds_toArray, List.set_cons_zero, List.set_cons_succ, i64_w, i32_w]
     rfl
    exact norm_ (by simp only [putAll, Act.put, List.setIfInBounds_toArray, List.set_cons_zero, List.set_cons_succ]) (hCont (.slice Ao26 t449.length co26, v457, gb460) _ ⟨hHeld, (by (with_reducible repeat (first | apply Kd.R_alloc | apply Kd.R_drewN | apply Kd.R_drew)); exact Kd.R_mono HO451.out (fun _ hk => hk.2)), (by (with_reducible repeat (first | apply Kd.R_alloc | apply Kd.R_drewN | apply Kd.R_drew)); exact Kd.R_mono HO458.out (fun _ hk => hk.2)), (bk BK446), (bk BK447), (bk BK460), GW460.out, GE460.out, NB446_460.out, NB460_446.out, NB447_460.out, NB460_447.out, (bs3 HB GE446 GE447 GE460)⟩)
  rintro ⟨v450, v457, gb460⟩ w28 ⟨hS_, h0_, h1_, h2_, h3_, h4_, h5_, h6_, h7_, h8_, h9_, h10_, h11_⟩
  have n0_ : Aside0 (Kd.R k48 48 w28 w.heap.size (fun k_ => some k_ ≠ (v457 : Value).ownBlock) v450 t449) := ⟨h0_⟩
  have n1_ : Aside0 (Kd.R k48 48 w28 w.heap.size (fun k_ => some k_ ≠ (v450 : Value).ownBlock) v457 t456) := ⟨h1_⟩
  have n2_ : Aside0 (w28.heap[gb446]? = some (.cells #[.slice A0_0 l0_0.length c0_0] 24 (0, 0))) := ⟨h2_⟩
  have n3_ : Aside0 (w28.heap[gb447]? = some (.cells #[.int .i64 a1_0, .int .i64 a1_1, .int .i64 a1_2, .bool a1_3] 45 (0, 0))) := ⟨h3_⟩
  have n4_ : Aside0 (w28.heap[gb460]? = some (.cells #[.slice none 0 0] 29 (0, 0))) := ⟨h4_⟩
  have n5_ : Aside0 (w.heap.size ≤ gb460) := ⟨h5_⟩
  have n6_ : Aside0 (w.heap.size ≤ gb460) := ⟨h6_⟩
  have n7_ : Aside0 (gb446 ≠ gb460) := ⟨h7_⟩
  have n8_ : Aside0 (gb460 ≠ gb446) := ⟨h8_⟩
  have n9_ : Aside0 (gb447 ≠ gb460) := ⟨h9_⟩
  have n10_ : Aside0 (gb460 ≠ gb447) := ⟨h10_⟩
  have n11_ : Aside0 (Below w.heap.size w w28) := ⟨h11_⟩
  clear BK446
  clear BK447
  clear HB
  clear h0_ h1_ h2_ h3_ h4_ h5_ h6_ h7_ h8_ h9_ h10_ h11_
  have HO451 := n0_
  have HO458 := n1_
  have BK446 := n2_
  have BK447 := n3_
  have BK460 := n4_
  have GW460 := n5_
  have GE460 := n6_
  have NB446_460 := n7_
  have NB460_446 := n8_
  have NB447_460 := n9_
  have NB460_447 := n10_
  have HB := n11_
  clear n0_ n1_ n2_ n3_ n4_ n5_ n6_ n7_ n8_ n9_ n10_ n11_
  have hHeld : w28.cell? ⟨gb446, 0, none⟩ = some (.slice A0_0 l0_0.length c0_0) ∧ w28.cell? ⟨gb447, 0, none⟩ = some (.int .i64 a1_0) ∧ w28.cell? ⟨gb447, 1, none⟩ = some (.int .i64 a1_1) ∧ w28.cell? ⟨gb447, 2, none⟩ = some (.int .i64 a1_2) ∧ w28.cell? ⟨gb447, 3, none⟩ = some (.bool a1_3) := hS_
  obtain ⟨Ao29, co29, eo29⟩ := Kd.R_slice HO458.out
  (first | subst eo29 | (injection eo29 with f1_ f2_ f3_; have f4_ := f1_.symm; have f5_ := f3_.symm; clear f1_ f2_ f3_; subst f4_; subst f5_))
  refine norm_ (a' := ?_) ?_ ?_
  rotate_left
  ·
   simp only [putAll, Act.put, List.setIfInBounds_toArray, List.set_cons_zero, List.set_cons_succ]
   rfl
  refine one_ (i := 9) (N := none) #[true, true, true, true, true, true, true, true, true, true, false] rfl rfl (one_of HT_.out (by kernel_rfl)) (by decide) (fun K hK => ?_)
  have hs30 : w28.cell? ⟨gb460, 0, none⟩ = some (.slice none 0 0) := (blk_cell BK460.out 0).trans rfl
  have hfs30 := blk_frozen BK460.out 0
  have hns30_0 := NB446_460.out
  have hns30_1 := NB447_460.out
  have hms30_0 := NB460_446.out
  have hms30_1 := NB460_447.out
  refine skip_ (w1 := ?_) (by rfl) rfl ?_ ?_
  rotate_left
  ·
   go_simp
   rfl
  refine hK.out _ _ ⟨((cell_far (p := ⟨gb460, _, none⟩) NB446_460.out _).trans (hHeld.1)), ((cell_far (p := ⟨gb460, _, none⟩) NB447_460.out _).trans (hHeld.2.1)), ((cell_far (p := ⟨gb460, _, none⟩) NB447_460.out _).trans (hHeld.2.2.1)), ((cell_far (p := ⟨gb460, _, none⟩) NB447_460.out _).trans (hHeld.2.2.2.1)), ((cell_far (p := ⟨gb460, _, none⟩) NB447_460.out _).trans (hHeld.2.2.2.2))⟩ (fun hHeld => ?_)
  clear hK K
  refine pure_ (i := 10) (N := some 7) (v := ?_) (a' := ?_) #[true, true, true, true, true, true, true, true, true, true, true] rfl rfl (any_of HT_.out (by kernel_rfl)) (fun _ _ _ h => h) (Or.inl ⟨by rfl, ?_⟩) ?_ ?_
  rotate_left
  ·
   intro w'
   go_simp
   with_reducible rfl
  rotate_left
  ·
   simp only [Act.put, List.setIfInBounds_toArray, List.set_cons_zero, List.set_cons_succ, i64_w, i32_w]
   rfl
  refine done_ (done_of HT_.out (by kernel_rfl)) ?_
  have hnb31 := NB446_460.out
  have hnc31 := NB460_446.out
  have hcz32_0 := cz1 BK446
  have hfz32_0 := fz1 BK446
  try go_wp2_with (first | ((with_reducible refine gate_callee (f := 16) rfl ?_); refine gL (some 30) rfl rfl Try.func16 (by kernel_rfl) rfl #[.agg #[.slice A0_0 l0_0.length c0_0]] rfl ?_; (with_reducible refine (laws_toFileMap.calls k _ _ l0_0 t461 _ ?side1 ?side2 A13.out).mono ?_); (case side1 => exact Kd.C_below HR0_0.out (bs3 HB GE446 GE447 GE460)); (case side2 => exact HC0_0.out); rintro e w33 ⟨v462, rfl, ho0, hb⟩; refine ⟨_, rfl, ?_⟩; have HO463 := Aside0.mk (Kd.R_lower (Kd.R_new' (Kd.R_new' ho0 (Kd.R_lt (rf HO451 BK460))) (Kd.R_lt (rf HO458 BK460))) (below_size (bs3 HB GE446 GE447 GE460))); replace HO451 := Aside0.mk (Kd.R_elder' (rf HO451 BK460) (Kd.R_base ho0) hb); replace HO458 := Aside0.mk (Kd.R_elder' (rf HO458 BK460) (Kd.R_base ho0) hb); replace BK446 := Aside0.mk (blk_below (bf BK446 NB446_460) hb); replace BK447 := Aside0.mk (blk_below (bf BK447 NB447_460) hb); replace BK460 := Aside0.mk (blk_below (g := gb460) (o := .cells #[.slice Ao29 t456.length co29] 29 (0, 0)) (by (with_reducible repeat (first | refine blk_drewN ?_ _ | refine blk_drew ?_ | refine blk_alloc ?_ _)); refine blk_put (cs := #[.slice none 0 0]) ?_ 0 _ rfl; (with_reducible repeat (first | refine blk_drewN ?_ _ | refine blk_drew ?_ | refine blk_alloc ?_ _)); exact BK460.out) hb); replace HB := Aside0.mk (below_step (bs3 HB GE446 GE447 GE460) hb); (try clear hb); (try clear hb2); (try clear hk); (try clear hi); (try clear ho0)) | ((with_reducible refine gate_dst (N := 8) rfl ?_); refine box_event ?hg (N := 8) ?hd (cs := #[.slice none 0 0]) (t := 29) ?hr ?_; (case hd => rfl); (case hg => rfl); (case hr => first | (go_simp; done) | (go_simp; rfl)); intro gb464 hg w34 hbox hb; replace HO451 := nr HO451 hb; replace HO458 := nr HO458 hb; replace HO463 := nr HO463 hb; have BK464 := Aside0.mk (hbox); have GW464 := Aside0.mk ((by rw [hg]; exact (below_size (bs3 HB GE446 GE447 GE460)) : w.heap.size ≤ gb464)); have GE464 := Aside0.mk ((by rw [hg]; exact (below_size (bs3 HB GE446 GE447 GE460)) : w.heap.size ≤ gb464)); replace HB := Aside0.mk (below_step (bs3 HB GE446 GE447 GE460) hb); have NB446_464 := Aside0.mk ((bn BK446 hg : gb446 ≠ gb464)); have NB464_446 := Aside0.mk ((bm BK446 hg : gb464 ≠ gb446)); replace BK446 := nb BK446 hb; have NB447_464 := Aside0.mk ((bn BK447 hg : gb447 ≠ gb464)); have NB464_447 := Aside0.mk ((bm BK447 hg : gb464 ≠ gb447)); replace BK447 := nb BK447 hb; have NB460_464 := Aside0.mk ((bn BK460 hg : gb460 ≠ gb464)); have NB464_460 := Aside0.mk ((bm BK460 hg : gb464 ≠ gb460)); replace BK460 := nb BK460 hb; clear hb hbox hg; obtain ⟨Ao35, co35, eo35⟩ := Kd.R_slice HO463.out; subst eo35; have hnb36 := NB464_446.out; have hnc36 := NB446_464.out; have hnb37 := NB464_447.out; have hnc37 := NB447_464.out; have hnb38 := NB464_460.out; have hnc38 := NB460_464.out; have hcz39_0 := cz1 BK464; have hfz39_0 := fz1 BK464))
  have n0_ : Aside0 (Kd.R k48 48 (w34.setCell ⟨gb464, 0, none⟩ (.slice Ao35 t461.length co35)) w.heap.size (fun k_ => some k_ ≠ (.slice Ao29 t456.length co29 : Value).ownBlock ∧ some k_ ≠ (.slice Ao35 t461.length co35 : Value).ownBlock) v450 t449) := ⟨by (with_reducible repeat (first | apply Kd.R_alloc | apply Kd.R_drewN | apply Kd.R_drew)); exact Kd.R_mono (Kd.R_far (p := ⟨gb464, 0, none⟩) (Kd.R_types HO451.out BK464.out (by decide)) (fun _ hk => hk.2) (.slice Ao35 t461.length co35)) (fun _ hk => ⟨hk.1.1, hk.1.2⟩)⟩
  have n1_ : Aside0 (Kd.R k48 48 (w34.setCell ⟨gb464, 0, none⟩ (.slice Ao35 t461.length co35)) w.heap.size (fun k_ => some k_ ≠ (v450 : Value).ownBlock ∧ some k_ ≠ (.slice Ao35 t461.length co35 : Value).ownBlock) (.slice Ao29 t456.length co29) t456) := ⟨by (with_reducible repeat (first | apply Kd.R_alloc | apply Kd.R_drewN | apply Kd.R_drew)); exact Kd.R_mono (Kd.R_far (p := ⟨gb464, 0, none⟩) (Kd.R_types HO458.out BK464.out (by decide)) (fun _ hk => hk.2) (.slice Ao35 t461.length co35)) (fun _ hk => ⟨hk.1.1, hk.1.2⟩)⟩
  have n2_ : Aside0 (Kd.R k48 48 (w34.setCell ⟨gb464, 0, none⟩ (.slice Ao35 t461.length co35)) w.heap.size (fun k_ => some k_ ≠ (v450 : Value).ownBlock ∧ some k_ ≠ (.slice Ao29 t456.length co29 : Value).ownBlock) (.slice Ao35 t461.length co35) t461) := ⟨by (with_reducible repeat (first | apply Kd.R_alloc | apply Kd.R_drewN | apply Kd.R_drew)); exact Kd.R_mono (Kd.R_far (p := ⟨gb464, 0, none⟩) (Kd.R_types HO463.out BK464.out (by decide)) (fun _ hk => hk.2) (.slice Ao35 t461.length co35)) (fun _ hk => ⟨hk.1.1.2, hk.1.2⟩)⟩
  have n3_ : Aside0 ((w34.setCell ⟨gb464, 0, none⟩ (.slice Ao35 t461.length co35)).heap[gb446]? = some (.cells #[.slice A0_0 l0_0.length c0_0] 24 (0, 0))) := ⟨bf BK446 NB446_464⟩
  have n4_ : Aside0 ((w34.setCell ⟨gb464, 0, none⟩ (.slice Ao35 t461.length co35)).heap[gb447]? = some (.cells #[.int .i64 a1_0, .int .i64 a1_1, .int .i64 a1_2, .bool a1_3] 45 (0, 0))) := ⟨bf BK447 NB447_464⟩
  have n5_ : Aside0 ((w34.setCell ⟨gb464, 0, none⟩ (.slice Ao35 t461.length co35)).heap[gb460]? = some (.cells #[.slice Ao29 t456.length co29] 29 (0, 0))) := ⟨bf BK460 NB460_464⟩
  have n6_ : Aside0 ((w34.setCell ⟨gb464, 0, none⟩ (.slice Ao35 t461.length co35)).heap[gb464]? = some (.cells #[.slice Ao35 t461.length co35] 29 (0, 0))) := ⟨by (with_reducible repeat (first | refine blk_drewN ?_ _ | refine blk_drew ?_ | refine blk_alloc ?_ _)); refine blk_put (cs := #[.slice none 0 0]) ?_ 0 _ rfl; (with_reducible repeat (first | refine blk_drewN ?_ _ | refine blk_drew ?_ | refine blk_alloc ?_ _)); exact BK464.out⟩
  have n7_ : Aside0 (Below w.heap.size w (w34.setCell ⟨gb464, 0, none⟩ (.slice Ao35 t461.length co35))) := ⟨bs4 HB GE446 GE447 GE460 GE464⟩
  (try clear HO451)
  (try clear HO458)
  (try clear HO463)
  (try clear BK446)
  (try clear BK447)
  (try clear BK460)
  (try clear BK464)
  (try clear HB)
  generalize (w34.setCell ⟨gb464, 0, none⟩ (.slice Ao35 t461.length co35)) = w40 at n0_ n1_ n2_ n3_ n4_ n5_ n6_ n7_ ⊢
  have HO451 := n0_
  have HO458 := n1_
  have HO463 := n2_
  have BK446 := n3_
  have BK447 := n4_
  have BK460 := n5_
  have BK464 := n6_
  have HB := n7_
  clear n0_ n1_ n2_ n3_ n4_ n5_ n6_ n7_
  have n0_ := Aside0.mk (Kd.R_drew HO451.out)
  have n1_ := Aside0.mk (Kd.R_drew HO458.out)
  have n2_ := Aside0.mk (Kd.R_drew HO463.out)
  have n3_ := Aside0.mk (blk_drew BK446.out)
  have n4_ := Aside0.mk (blk_drew BK447.out)
  have n5_ := Aside0.mk (blk_drew BK460.out)
  have n6_ := Aside0.mk (blk_drew BK464.out)
  have n7_ := Aside0.mk (below_drew1 HB.out)
  clear HO451
  clear HO458
  clear HO463
  clear BK446
  clear BK447
  clear BK460
  clear BK464
  clear HB
  have HO451 := n0_
  have HO458 := n1_
  have HO463 := n2_
  have BK446 := n3_
  have BK447 := n4_
  have BK460 := n5_
  have BK464 := n6_
  have HB := n7_
  clear n0_ n1_ n2_ n3_ n4_ n5_ n6_ n7_
  refine start_ (n := 10) (S := fun w' => w'.cell? ⟨gb464, 0, none⟩ = some (.slice Ao35 t461.length co35) ∧ w'.cell? ⟨gb447, 0, none⟩ = some (.int .i64 a1_0) ∧ w'.cell? ⟨gb447, 1, none⟩ = some (.int .i64 a1_1) ∧ w'.cell? ⟨gb447, 2, none⟩ = some (.int .i64 a1_2) ∧ w'.cell? ⟨gb447, 3, none⟩ = some (.bool a1_3)) (ds := []) #[false, false, false, false, false, false, false, false, false, false] (by kernel_rfl) rfl rfl ⟨(blk_cell BK464.out 0).trans rfl, (blk_cell BK447.out 0).trans rfl, (blk_cell BK447.out 1).trans rfl, (blk_cell BK447.out 2).trans rfl, (blk_cell BK447.out 3).trans rfl⟩ (fun hHeld => ?_); refine with_tabW laws_FnExactMapPiece.tab7 laws_FnExactMapPiece.bits7 (fun HT_ HW_ => ?_)
  generalize w40.drew = w41 at HO451 HO458 HO463 BK446 BK447 BK460 BK464 HB hHeld ⊢
  refine take_ (i := 0) (N := some 32) (v := ?_) (a' := ?_) #[true, false, false, false, false, false, false, false, false, false] rfl rfl (take_ofW HT_.out HW_.out (by kernel_rfl)) (fun _ _ _ h => h) (Or.inl ⟨by rfl, ?_⟩) hHeld ?_ ?_
  rotate_left
  ·
   rintro w' ⟨s0, s1, s2, s3, s4⟩
   go_simp
   with_reducible rfl
  rotate_left
  ·
   simp only [Act.put, List.setIfInBounds_toArray, List.set_cons_zero, List.set_cons_succ, i64_w, i32_w]
   rfl
  refine take_ (i := 1) (N := some 33) (v := ?_) (a' := ?_) #[true, true, false, false, false, false, false, false, false, false] rfl rfl (take_ofW HT_.out HW_.out (by kernel_rfl)) (fun _ _ _ h => h) (Or.inl ⟨by rfl, ?_⟩) hHeld ?_ ?_
  rotate_left
  ·
   rintro w' ⟨s0, s1, s2, s3, s4⟩
   go_simp
   with_reducible rfl
  rotate_left
  ·
   simp only [Act.put, List.setIfInBounds_toArray, List.set_cons_zero, List.set_cons_succ, i64_w, i32_w]
   rfl
  refine join_ (σ := Value × Nat) 2 #[true, true, true, true, true, true, true, true, false, false] (fun s_ => [(34, .agg #[.int .i64 t465, .int .i64 t466, .int .i64 t467, .bool t468]), (35, .tuple #[.agg #[s_.1], .bool t472]), (9, .pointer (some ⟨s_.2, 0, none⟩)), (31, .tuple #[.agg #[s_.1], .bool t472]), (36, .agg #[s_.1]), (37, .bool t472)]) (fun s_ w' => (w'.cell? ⟨gb464, 0, none⟩ = some (.slice Ao35 t461.length co35) ∧ w'.cell? ⟨gb447, 0, none⟩ = some (.int .i64 a1_0) ∧ w'.cell? ⟨gb447, 1, none⟩ = some (.int .i64 a1_1) ∧ w'.cell? ⟨gb447, 2, none⟩ = some (.int .i64 a1_2) ∧ w'.cell? ⟨gb447, 3, none⟩ = some (.bool a1_3)) ∧ (Kd.R k48 48 w' w.heap.size (fun k_ => some k_ ≠ (.slice Ao29 t456.length co29 : Value).ownBlock ∧ some k_ ≠ (.slice Ao35 t461.length co35 : Value).ownBlock ∧ some k_ ≠ (s_.1 : Value).ownBlock) v450 t449) ∧ (Kd.R k48 48 w' w.heap.size (fun k_ => some k_ ≠ (v450 : Value).ownBlock ∧ some k_ ≠ (.slice Ao35 t461.length co35 : Value).ownBlock ∧ some k_ ≠ (s_.1 : Value).ownBlock) (.slice Ao29 t456.length co29) t456) ∧ (Kd.R k48 48 w' w.heap.size (fun k_ => some k_ ≠ (v450 : Value).ownBlock ∧ some k_ ≠ (.slice Ao29 t456.length co29 : Value).ownBlock ∧ some k_ ≠ (s_.1 : Value).ownBlock) (.slice Ao35 t461.length co35) t461) ∧ (Kd.R k48 48 w' w.heap.size (fun k_ => some k_ ≠ (v450 : Value).ownBlock ∧ some k_ ≠ (.slice Ao29 t456.length co29 : Value).ownBlock ∧ some k_ ≠ (.slice Ao35 t461.length co35 : Value).ownBlock) s_.1 t469) ∧ (w'.heap[gb446]? = some (.cells #[.slice A0_0 l0_0.length c0_0] 24 (0, 0))) ∧ (w'.heap[gb447]? = some (.cells #[.int .i64 a1_0, .int .i64 a1_1, .int .i64 a1_2, .bool a1_3] 45 (0, 0))) ∧ (w'.heap[gb460]? = some (.cells #[.slice Ao29 t456.length co29] 29 (0, 0))) ∧ (w'.heap[gb464]? = some (.cells #[.slice Ao35 t461.length co35] 29 (0, 0))) ∧ (w'.heap[s_.2]? = some (.cells #[.slice none 0 0] 29 (0, 0))) ∧ (w.heap.size ≤ s_.2) ∧ (w.heap.size ≤ s_.2) ∧ (gb446 ≠ s_.2) ∧ (s_.2 ≠ gb446) ∧ (gb447 ≠ s_.2) ∧ (s_.2 ≠ gb447) ∧ (gb460 ≠ s_.2) ∧ (s_.2 ≠ gb460) ∧ (gb464 ≠ s_.2) ∧ (s_.2 ≠ gb464) ∧ (Below w.heap.size w w')) ?_ ?_
  rotate_left
  ·
   intro hCont
   refine two_ (i := 2) (j := 7) (Ni := some 34) (Nj := some 9) #[true, true, true, false, false, false, false, false, false, false] #[true, true, false, false, false, false, false, true, false, false] rfl rfl rfl rfl (two_of HT_.out (by kernel_rfl)) (by decide) (by decide) (fun K hK => ?_) (fun K hK => ?_)
   ·
    skip
    refine goes_ Try.func30 (by kernel_rfl) rfl #[.agg #[.int .i64 a1_0, .int .i64 a1_1, .int .i64 a1_2, .bool a1_3]] (by rfl) rfl rfl (by (try simp only [List.map_toArray, List.map_cons, List.map_nil]); first | done | rfl | (simp only [List.length_drop, List.length_take]; rfl)) ?_
    with_reducible refine (laws_toPiece.calls a1_0 a1_1 a1_2 a1_3 t465 t466 t467 t468 _ A14.out).mono ?_
    rintro e w42 ⟨rfl, hb⟩
    refine ⟨_, rfl, ?_⟩
    have n0_ := Aside0.mk (Kd.R_below (rr HO451.out) hb)
    have n1_ := Aside0.mk (Kd.R_below (rr HO458.out) hb)
    have n2_ := Aside0.mk (Kd.R_below (rr HO463.out) hb)
    have n3_ := Aside0.mk (bb BK446 hb)
    have n4_ := Aside0.mk (bb BK447 hb)
    have n5_ := Aside0.mk (bb BK460 hb)
    have n6_ := Aside0.mk (bb BK464 hb)
    have n7_ := Aside0.mk (below_step (bs4 HB GE446 GE447 GE460 GE464) hb)
    clear HO451
    clear HO458
    clear HO463
    clear BK446
    clear BK447
    clear BK460
    clear BK464
    clear HB
    have HO451 := n0_
    have HO458 := n1_
    have HO463 := n2_
    have BK446 := n3_
    have BK447 := n4_
    have BK460 := n5_
    have BK464 := n6_
    have HB := n7_
    clear n0_ n1_ n2_ n3_ n4_ n5_ n6_ n7_
    (try clear hb)
    (try clear hb2)
    (try clear hk)
    (try clear hi)
    refine hK.out _ _ ⟨(blk_cell BK464.out 0).trans rfl, (blk_cell BK447.out 0).trans rfl, (blk_cell BK447.out 1).trans rfl, (blk_cell BK447.out 2).trans rfl, (blk_cell BK447.out 3).trans rfl⟩ (fun hHeld => ?_)
    clear hK K
    refine norm_ (a' := ?_) ?_ ?_
    rotate_left
    ·
     show Act.put _ (some 34) _ = _
     simp only [Act.put, List.setIfInBounds_toArray, List.set_cons_zero, List.set_cons_succ, i64_w, i32_w]
     rfl
    refine two_ (i := 3) (j := 7) (Ni := some 35) (Nj := some 9) #[true, true, true, true, false, false, false, false, false, false] #[true, true, true, false, false, false, false, true, false, false] rfl rfl rfl rfl (two_of HT_.out (by kernel_rfl)) (by decide) (by decide) (fun K hK => ?_) (fun K hK => ?_)
    ·
     skip
     refine goes_ Try.func31 (by kernel_rfl) rfl #[.agg #[.slice Ao35 t461.length co35], .agg #[.int .i64 t465, .int .i64 t466, .int .i64 t467, .bool t468]] (by rfl) rfl rfl (by (try simp only [List.map_toArray, List.map_cons, List.map_nil]); first | done | rfl | (simp only [List.length_drop, List.length_take]; rfl)) ?_
     with_reducible refine (impl_MapPiece.calls k _ _ t461 t465 t466 t467 t468 t469 t472 _ ?side1 ?side2 A15.out).mono ?_
     (case side1 => exact rc0 HO463)
     (case side2 => exact (Kd.R_reads' HO463.out).2.1)
     rintro e w43 ⟨v470, rfl, ho0, hb⟩
     refine ⟨_, rfl, ?_⟩
     have n0_ := Aside0.mk (Kd.R_elder' (rr HO451.out) (Kd.R_base ho0) hb)
     have n1_ := Aside0.mk (Kd.R_elder' (rr HO458.out) (Kd.R_base ho0) hb)
     have n2_ := Aside0.mk (Kd.R_elder' (rr HO463.out) (Kd.R_base ho0) hb)
     have n3_ := Aside0.mk (Kd.R_lower (Kd.R_new' (Kd.R_new' (Kd.R_new' ho0 (Kd.R_lt (rr HO451.out))) (Kd.R_lt (rr HO458.out))) (Kd.R_lt (rr HO463.out))) (below_size (bs4 HB GE446 GE447 GE460 GE464)))
     have n4_ := Aside0.mk (bb BK446 hb)
     have n5_ := Aside0.mk (bb BK447 hb)
     have n6_ := Aside0.mk (bb BK460 hb)
     have n7_ := Aside0.mk (bb BK464 hb)
     have n8_ := Aside0.mk (below_step (bs4 HB GE446 GE447 GE460 GE464) hb)
     clear HO451
     clear HO458
     clear HO463
     clear BK446
     clear BK447
     clear BK460
     clear BK464
     clear HB
     have HO451 := n0_
     have HO458 := n1_
     have HO463 := n2_
     have HO471 := n3_
     have BK446 := n4_
     have BK447 := n5_
     have BK460 := n6_
     have BK464 := n7_
     have HB := n8_
     clear n0_ n1_ n2_ n3_ n4_ n5_ n6_ n7_ n8_
     (try clear hb)
     (try clear hb2)
     (try clear hk)
     (try clear hi)
     (try clear ho0)
     refine hK.out _ _ ⟨(blk_cell BK464.out 0).trans rfl, (blk_cell BK447.out 0).trans rfl, (blk_cell BK447.out 1).trans rfl, (blk_cell BK447.out 2).trans rfl, (blk_cell BK447.out 3).trans rfl⟩ (fun hHeld => ?_)
     clear hK K
     refine norm_ (a' := ?_) ?_ ?_
     rotate_left
     ·
      show Act.put _ (some 35) _ = _
      simp only [Act.put, List.setIfInBounds_toArray, List.set_cons_zero, List.set_cons_succ, i64_w, i32_w]
      rfl
     refine pure_ (i := 4) (N := some 31) (v := ?_) (a' := ?_) #[true, true, true, true, true, false, false, false, false, false] rfl rfl (any_of HT_.out (by kernel_rfl)) (fun _ _ _ h => h) (Or.inl ⟨by rfl, ?_⟩) ?_ ?_
     rotate_left
     ·
      intro w'
      go_simp
      with_reducible rfl
     rotate_left
     ·
      simp only [Act.put, List.setIfInBounds_toArray, List.set_cons_zero, List.set_cons_succ, i64_w, i32_w]
      rfl
     refine pure_ (i := 5) (N := some 36) (v := ?_) (a' := ?_) #[true, true, true, true, true, true, false, false, false, false] rfl rfl (any_of HT_.out (by kernel_rfl)) (fun _ _ _ h => h) (Or.inl ⟨by rfl, ?_⟩) ?_ ?_
     rotate_left
     ·
      intro w'
      go_simp
      with_reducible rfl
     rotate_left
     ·
      simp only [Act.put, List.setIfInBounds_toArray, List.set_cons_zero, List.set_cons_succ, i64_w, i32_w]
      rfl
     refine pure_ (i := 6) (N := some 37) (v := ?_) (a' := ?_) #[true, true, true, true, true, true, true, false, false, false] rfl rfl (any_of HT_.out (by kernel_rfl)) (fun _ _ _ h => h) (Or.inl ⟨by rfl, ?_⟩) ?_ ?_
     rotate_left
     ·
      intro w'
      go_simp
      with_reducible rfl
     rotate_left
     ·
      simp only [Act.put, List.setIfInBounds_toArray, List.set_cons_zero, List.set_cons_succ, i64_w, i32_w]
      rfl
     refine one_ (i := 7) (N := some 9) #[true, true, true, true, true, true, true, true, false, false] rfl rfl (one_of HT_.out (by kernel_rfl)) (by decide) (fun K hK => ?_)
     refine box_step ?hg (N := 9) ?hd (cs := #[.slice none 0 0]) (t := 29) ?hr ?_; (case hd => rfl); (case hg => rfl); (case hr => first | (go_simp; done) | (go_simp; rfl))
     intro gb473 hg w44 hbox hb
     have n0_ := Aside0.mk (Kd.R_below (rr HO451.out) hb)
     have n1_ := Aside0.mk (Kd.R_below (rr HO458.out) hb)
     have n2_ := Aside0.mk (Kd.R_below (rr HO463.out) hb)
     have n3_ := Aside0.mk (Kd.R_below (rr HO471.out) hb)
     have n4_ := Aside0.mk (bb BK446 hb)
     have n5_ := Aside0.mk (bb BK447 hb)
     have n6_ := Aside0.mk (bb BK460 hb)
     have n7_ := Aside0.mk (bb BK464 hb)
     have n8_ := Aside0.mk (below_step (bs4 HB GE446 GE447 GE460 GE464) hb)
     have n9_ := Aside0.mk (hbox)
     have n10_ := Aside0.mk ((by rw [hg]; exact (below_size (bs4 HB GE446 GE447 GE460 GE464)) : w.heap.size ≤ gb473))
     have n11_ := Aside0.mk ((by rw [hg]; exact (below_size (bs4 HB GE446 GE447 GE460 GE464)) : w.heap.size ≤ gb473))
     have n12_ := Aside0.mk ((bn BK446 hg : gb446 ≠ gb473))
     have n13_ := Aside0.mk ((bm BK446 hg : gb473 ≠ gb446))
     have n14_ := Aside0.mk ((bn BK447 hg : gb447 ≠ gb473))
     have n15_ := Aside0.mk ((bm BK447 hg : gb473 ≠ gb447))
     have n16_ := Aside0.mk ((bn BK460 hg : gb460 ≠ gb473))
     have n17_ := Aside0.mk ((bm BK460 hg : gb473 ≠ gb460))
     have n18_ := Aside0.mk ((bn BK464 hg : gb464 ≠ gb473))
     have n19_ := Aside0.mk ((bm BK464 hg : gb473 ≠ gb464))
     clear HO451
     clear HO458
     clear HO463
     clear HO471
     clear BK446
     clear BK447
     clear BK460
     clear BK464
     clear HB
     have HO451 := n0_
     have HO458 := n1_
     have HO463 := n2_
     have HO471 := n3_
     have BK446 := n4_
     have BK447 := n5_
     have BK460 := n6_
     have BK464 := n7_
     have HB := n8_
     have BK473 := n9_
     have GW473 := n10_
     have GE473 := n11_
     have NB446_473 := n12_
     have NB473_446 := n13_
     have NB447_473 := n14_
     have NB473_447 := n15_
     have NB460_473 := n16_
     have NB473_460 := n17_
     have NB464_473 := n18_
     have NB473_464 := n19_
     clear n0_ n1_ n2_ n3_ n4_ n5_ n6_ n7_ n8_ n9_ n10_ n11_ n12_ n13_ n14_ n15_ n16_ n17_ n18_ n19_
     clear hb hbox hg
     refine hK.out _ _ ⟨(blk_cell BK464.out 0).trans rfl, (blk_cell BK447.out 0).trans rfl, (blk_cell BK447.out 1).trans rfl, (blk_cell BK447.out 2).trans rfl, (blk_cell BK447.out 3).trans rfl⟩ (fun hHeld => ?_)
     clear hK K
     refine norm_ (a' := ?_) ?_ ?_
     rotate_left
     ·
      show Act.put _ (some 9) _ = _
      simp only [Act.put, List.setIfInBounds_toArray, List.set_cons_zero, List.set_cons_succ, i64_w, i32_w]
      rfl
     exact norm_ (by simp only [putAll, Act.put, List.setIfInBounds_toArray, List.set_cons_zero, List.set_cons_succ]) (hCont (v470, gb473) _ ⟨hHeld, (by (with_reducible repeat (first | apply Kd.R_alloc | apply Kd.R_drewN | apply Kd.R_drew)); exact Kd.R_mono HO451.out (fun _ hk => ⟨hk.1.1, ⟨hk.1.2, hk.2⟩⟩)), (by (with_reducible repeat (first | apply Kd.R_alloc | apply Kd.R_drewN | apply Kd.R_drew)); exact Kd.R_mono HO458.out (fun _ hk => ⟨hk.1.1, ⟨hk.1.2, hk.2⟩⟩)), (by (with_reducible repeat (first | apply Kd.R_alloc | apply Kd.R_drewN | apply Kd.R_drew)); exact Kd.R_mono HO463.out (fun _ hk => ⟨hk.1.1, ⟨hk.1.2, hk.2⟩⟩)), (by (with_reducible repeat (first | apply Kd.R_alloc | apply Kd.R_drewN | apply Kd.R_drew)); exact Kd.R_mono HO471.out (fun _ hk => ⟨hk.1.1.2, ⟨hk.1.2, hk.2⟩⟩)), (bk BK446), (bk BK447), (bk BK460), (bk BK464), (bk BK473), GW473.out, GE473.out, NB446_473.out, NB473_446.out, NB447_473.out, NB473_447.out, NB460_473.out, NB473_460.out, NB464_473.out, NB473_464.out, (bs5 HB GE446 GE447 GE460 GE464 GE473)⟩)
    ·
     skip
     refine box_step ?hg (N := 9) ?hd (cs := #[.slice none 0 0]) (t := 29) ?hr ?_; (case hd => rfl); (case hg => rfl); (case hr => first | (go_simp; done) | (go_simp; rfl))
     intro gb473 hg w43 hbox hb
     have n0_ := Aside0.mk (Kd.R_below (rr HO451.out) hb)
     have n1_ := Aside0.mk (Kd.R_below (rr HO458.out) hb)
     have n2_ := Aside0.mk (Kd.R_below (rr HO463.out) hb)
     have n3_ := Aside0.mk (bb BK446 hb)
     have n4_ := Aside0.mk (bb BK447 hb)
     have n5_ := Aside0.mk (bb BK460 hb)
     have n6_ := Aside0.mk (bb BK464 hb)
     have n7_ := Aside0.mk (below_step (bs4 HB GE446 GE447 GE460 GE464) hb)
     have n8_ := Aside0.mk (hbox)
     have n9_ := Aside0.mk ((by rw [hg]; exact (below_size (bs4 HB GE446 GE447 GE460 GE464)) : w.heap.size ≤ gb473))
     have n10_ := Aside0.mk ((by rw [hg]; exact (below_size (bs4 HB GE446 GE447 GE460 GE464)) : w.heap.size ≤ gb473))
     have n11_ := Aside0.mk ((bn BK446 hg : gb446 ≠ gb473))
     have n12_ := Aside0.mk ((bm BK446 hg : gb473 ≠ gb446))
     have n13_ := Aside0.mk ((bn BK447 hg : gb447 ≠ gb473))
     have n14_ := Aside0.mk ((bm BK447 hg : gb473 ≠ gb447))
     have n15_ := Aside0.mk ((bn BK460 hg : gb460 ≠ gb473))
     have n16_ := Aside0.mk ((bm BK460 hg : gb473 ≠ gb460))
     have n17_ := Aside0.mk ((bn BK464 hg : gb464 ≠ gb473))
     have n18_ := Aside0.mk ((bm BK464 hg : gb473 ≠ gb464))
     clear HO451
     clear HO458
     clear HO463
     clear BK446
     clear BK447
     clear BK460
     clear BK464
     clear HB
     have HO451 := n0_
     have HO458 := n1_
     have HO463 := n2_
     have BK446 := n3_
     have BK447 := n4_
     have BK460 := n5_
     have BK464 := n6_
     have HB := n7_
     have BK473 := n8_
     have GW473 := n9_
     have GE473 := n10_
     have NB446_473 := n11_
     have NB473_446 := n12_
     have NB447_473 := n13_
     have NB473_447 := n14_
     have NB460_473 := n15_
     have NB473_460 := n16_
     have NB464_473 := n17_
     have NB473_464 := n18_
     clear n0_ n1_ n2_ n3_ n4_ n5_ n6_ n7_ n8_ n9_ n10_ n11_ n12_ n13_ n14_ n15_ n16_ n17_ n18_
     clear hb hbox hg
     refine hK.out _ _ ⟨(blk_cell BK464.out 0).trans rfl, (blk_cell BK447.out 0).trans rfl, (blk_cell BK447.out 1).trans rfl, (blk_cell BK447.out 2).trans rfl, (blk_cell BK447.out 3).trans rfl⟩ (fun hHeld => ?_)
     clear hK K
     refine norm_ (a' := ?_) ?_ ?_
     rotate_left
     ·
      show Act.put _ (some 9) _ = _
      simp only [Act.put, List.setIfInBounds_toArray, List.set_cons_zero, List.set_cons_succ, i64_w, i32_w]
      rfl
     refine one_ (i := 3) (N := some 35) #[true, true, true, true, false, false, false, true, false, false] rfl rfl (one_of HT_.out (by kernel_rfl)) (by decide) (fun K hK => ?_)
     refine goes_ Try.func31 (by kernel_rfl) rfl #[.agg #[.slice Ao35 t461.length co35], .agg #[.int .i64 t465, .int .i64 t466, .int .i64 t467, .bool t468]] (by rfl) rfl rfl (by (try simp only [List.map_toArray, List.map_cons, List.map_nil]); first | done | rfl | (simp only [List.length_drop, List.length_take]; rfl)) ?_
     with_reducible refine (impl_MapPiece.calls k _ _ t461 t465 t466 t467 t468 t469 t472 _ ?side1 ?side2 A15.out).mono ?_
     (case side1 => exact rc0 HO463)
     (case side2 => exact (Kd.R_reads' HO463.out).2.1)
     rintro e w44 ⟨v470, rfl, ho0, hb⟩
     refine ⟨_, rfl, ?_⟩
     have n0_ := Aside0.mk (Kd.R_elder' (rr HO451.out) (Kd.R_base ho0) hb)
     have n1_ := Aside0.mk (Kd.R_elder' (rr HO458.out) (Kd.R_base ho0) hb)
     have n2_ := Aside0.mk (Kd.R_elder' (rr HO463.out) (Kd.R_base ho0) hb)
     have n3_ := Aside0.mk (Kd.R_lower (Kd.R_new' (Kd.R_new' (Kd.R_new' ho0 (Kd.R_lt (rr HO451.out))) (Kd.R_lt (rr HO458.out))) (Kd.R_lt (rr HO463.out))) (below_size (bs5 HB GE446 GE447 GE460 GE464 GE473)))
     have n4_ := Aside0.mk (bb BK446 hb)
     have n5_ := Aside0.mk (bb BK447 hb)
     have n6_ := Aside0.mk (bb BK460 hb)
     have n7_ := Aside0.mk (bb BK464 hb)
     have n8_ := Aside0.mk (bb BK473 hb)
     have n9_ := Aside0.mk (below_step (bs5 HB GE446 GE447 GE460 GE464 GE473) hb)
     clear HO451
     clear HO458
     clear HO463
     clear BK446
     clear BK447
     clear BK460
     clear BK464
     clear BK473
     clear HB
     have HO451 := n0_
     have HO458 := n1_
     have HO463 := n2_
     have HO471 := n3_
     have BK446 := n4_
     have BK447 := n5_
     have BK460 := n6_
     have BK464 := n7_
     have BK473 := n8_
     have HB := n9_
     clear n0_ n1_ n2_ n3_ n4_ n5_ n6_ n7_ n8_ n9_
     (try clear hb)
     (try clear hb2)
     (try clear hk)
     (try clear hi)
     (try clear ho0)
     refine hK.out _ _ ⟨(blk_cell BK464.out 0).trans rfl, (blk_cell BK447.out 0).trans rfl, (blk_cell BK447.out 1).trans rfl, (blk_cell BK447.out 2).trans rfl, (blk_cell BK447.out 3).trans rfl⟩ (fun hHeld => ?_)
     clear hK K
     refine norm_ (a' := ?_) ?_ ?_
     rotate_left
     ·
      show Act.put _ (some 35) _ = _
      simp only [Act.put, List.setIfInBounds_toArray, List.set_cons_zero, List.set_cons_succ, i64_w, i32_w]
      rfl
     refine pure_ (i := 4) (N := some 31) (v := ?_) (a' := ?_) #[true, true, true, true, true, false, false, true, false, false] rfl rfl (any_of HT_.out (by kernel_rfl)) (fun _ _ _ h => h) (Or.inl ⟨by rfl, ?_⟩) ?_ ?_
     rotate_left
     ·
      intro w'
      go_simp
      with_reducible rfl
     rotate_left
     ·
      simp only [Act.put, List.setIfInBounds_toArray, List.set_cons_zero, List.set_cons_succ, i64_w, i32_w]
      rfl
     refine pure_ (i := 5) (N := some 36) (v := ?_) (a' := ?_) #[true, true, true, true, true, true, false, true, false, false] rfl rfl (any_of HT_.out (by kernel_rfl)) (fun _ _ _ h => h) (Or.inl ⟨by rfl, ?_⟩) ?_ ?_
     rotate_left
     ·
      intro w'
      go_simp
      with_reducible rfl
     rotate_left
     ·
      simp only [Act.put, List.setIfInBounds_toArray, List.set_cons_zero, List.set_cons_succ, i64_w, i32_w]
      rfl
     refine pure_ (i := 6) (N := some 37) (v := ?_) (a' := ?_) #[true, true, true, true, true, true, true, true, false, false] rfl rfl (any_of HT_.out (by kernel_rfl)) (fun _ _ _ h => h) (Or.inl ⟨by rfl, ?_⟩) ?_ ?_
     rotate_left
     ·
      intro w'
      go_simp
      with_reducible rfl
     rotate_left
     ·
      simp only [Act.put, List.setIfInBounds_toArray, List.set_cons_zero, List.set_cons_succ, i64_w, i32_w]
      rfl
     exact norm_ (by simp only [putAll, Act.put, List.setIfInBounds_toArray, List.set_cons_zero, List.set_cons_succ]) (hCont (v470, gb473) _ ⟨hHeld, (by (with_reducible repeat (first | apply Kd.R_alloc | apply Kd.R_drewN | apply Kd.R_drew)); exact Kd.R_mono HO451.out (fun _ hk => ⟨hk.1.1, ⟨hk.1.2, hk.2⟩⟩)), (by (with_reducible repeat (first | apply Kd.R_alloc | apply Kd.R_drewN | apply Kd.R_drew)); exact Kd.R_mono HO458.out (fun _ hk => ⟨hk.1.1, ⟨hk.1.2, hk.2⟩⟩)), (by (with_reducible repeat (first | apply Kd.R_alloc | apply Kd.R_drewN | apply Kd.R_drew)); exact Kd.R_mono HO463.out (fun _ hk => ⟨hk.1.1, ⟨hk.1.2, hk.2⟩⟩)), (by (with_reducible repeat (first | apply Kd.R_alloc | apply Kd.R_drewN | apply Kd.R_drew)); exact Kd.R_mono HO471.out (fun _ hk => ⟨hk.1.1.2, ⟨hk.1.2, hk.2⟩⟩)), (bk BK446), (bk BK447), (bk BK460), (bk BK464), (bk BK473), GW473.out, GE473.out, NB446_473.out, NB473_446.out, NB447_473.out, NB473_447.out, NB460_473.out, NB473_460.out, NB464_473.out, NB473_464.out, (bs5 HB GE446 GE447 GE460 GE464 GE473)⟩)
   ·
    skip
    refine box_step ?hg (N := 9) ?hd (cs := #[.slice none 0 0]) (t := 29) ?hr ?_; (case hd => rfl); (case hg => rfl); (case hr => first | (go_simp; done) | (go_simp; rfl))
    intro gb473 hg w42 hbox hb
    have n0_ := Aside0.mk (Kd.R_below (rr HO451.out) hb)
    have n1_ := Aside0.mk (Kd.R_below (rr HO458.out) hb)
    have n2_ := Aside0.mk (Kd.R_below (rr HO463.out) hb)
    have n3_ := Aside0.mk (bb BK446 hb)
    have n4_ := Aside0.mk (bb BK447 hb)
    have n5_ := Aside0.mk (bb BK460 hb)
    have n6_ := Aside0.mk (bb BK464 hb)
    have n7_ := Aside0.mk (below_step (bs4 HB GE446 GE447 GE460 GE464) hb)
    have n8_ := Aside0.mk (hbox)
    have n9_ := Aside0.mk ((by rw [hg]; exact (below_size (bs4 HB GE446 GE447 GE460 GE464)) : w.heap.size ≤ gb473))
    have n10_ := Aside0.mk ((by rw [hg]; exact (below_size (bs4 HB GE446 GE447 GE460 GE464)) : w.heap.size ≤ gb473))
    have n11_ := Aside0.mk ((bn BK446 hg : gb446 ≠ gb473))
    have n12_ := Aside0.mk ((bm BK446 hg : gb473 ≠ gb446))
    have n13_ := Aside0.mk ((bn BK447 hg : gb447 ≠ gb473))
    have n14_ := Aside0.mk ((bm BK447 hg : gb473 ≠ gb447))
    have n15_ := Aside0.mk ((bn BK460 hg : gb460 ≠ gb473))
    have n16_ := Aside0.mk ((bm BK460 hg : gb473 ≠ gb460))
    have n17_ := Aside0.mk ((bn BK464 hg : gb464 ≠ gb473))
    have n18_ := Aside0.mk ((bm BK464 hg : gb473 ≠ gb464))
    clear HO451
    clear HO458
    clear HO463
    clear BK446
    clear BK447
    clear BK460
    clear BK464
    clear HB
    have HO451 := n0_
    have HO458 := n1_
    have HO463 := n2_
    have BK446 := n3_
    have BK447 := n4_
    have BK460 := n5_
    have BK464 := n6_
    have HB := n7_
    have BK473 := n8_
    have GW473 := n9_
    have GE473 := n10_
    have NB446_473 := n11_
    have NB473_446 := n12_
    have NB447_473 := n13_
    have NB473_447 := n14_
    have NB460_473 := n15_
    have NB473_460 := n16_
    have NB464_473 := n17_
    have NB473_464 := n18_
    clear n0_ n1_ n2_ n3_ n4_ n5_ n6_ n7_ n8_ n9_ n10_ n11_ n12_ n13_ n14_ n15_ n16_ n17_ n18_
    clear hb hbox hg
    refine hK.out _ _ ⟨(blk_cell BK464.out 0).trans rfl, (blk_cell BK447.out 0).trans rfl, (blk_cell BK447.out 1).trans rfl, (blk_cell BK447.out 2).trans rfl, (blk_cell BK447.out 3).trans rfl⟩ (fun hHeld => ?_)
    clear hK K
    refine norm_ (a' := ?_) ?_ ?_
    rotate_left
    ·
     show Act.put _ (some 9) _ = _
     simp only [Act.put, List.setIfInBounds_toArray, List.set_cons_zero, List.set_cons_succ, i64_w, i32_w]
     rfl
    refine one_ (i := 2) (N := some 34) #[true, true, true, false, false, false, false, true, false, false] rfl rfl (one_of HT_.out (by kernel_rfl)) (by decide) (fun K hK => ?_)
    refine goes_ Try.func30 (by kernel_rfl) rfl #[.agg #[.int .i64 a1_0, .int .i64 a1_1, .int .i64 a1_2, .bool a1_3]] (by rfl) rfl rfl (by (try simp only [List.map_toArray, List.map_cons, List.map_nil]); first | done | rfl | (simp only [List.length_drop, List.length_take]; rfl)) ?_
    with_reducible refine (laws_toPiece.calls a1_0 a1_1 a1_2 a1_3 t465 t466 t467 t468 _ A14.out).mono ?_
    rintro e w43 ⟨rfl, hb⟩
    refine ⟨_, rfl, ?_⟩
    have n0_ := Aside0.mk (Kd.R_below (rr HO451.out) hb)
    have n1_ := Aside0.mk (Kd.R_below (rr HO458.out) hb)
    have n2_ := Aside0.mk (Kd.R_below (rr HO463.out) hb)
    have n3_ := Aside0.mk (bb BK446 hb)
    have n4_ := Aside0.mk (bb BK447 hb)
    have n5_ := Aside0.mk (bb BK460 hb)
    have n6_ := Aside0.mk (bb BK464 hb)
    have n7_ := Aside0.mk (bb BK473 hb)
    have n8_ := Aside0.mk (below_step (bs5 HB GE446 GE447 GE460 GE464 GE473) hb)
    clear HO451
    clear HO458
    clear HO463
    clear BK446
    clear BK447
    clear BK460
    clear BK464
    clear BK473
    clear HB
    have HO451 := n0_
    have HO458 := n1_
    have HO463 := n2_
    have BK446 := n3_
    have BK447 := n4_
    have BK460 := n5_
    have BK464 := n6_
    have BK473 := n7_
    have HB := n8_
    clear n0_ n1_ n2_ n3_ n4_ n5_ n6_ n7_ n8_
    (try clear hb)
    (try clear hb2)
    (try clear hk)
    (try clear hi)
    refine hK.out _ _ ⟨(blk_cell BK464.out 0).trans rfl, (blk_cell BK447.out 0).trans rfl, (blk_cell BK447.out 1).trans rfl, (blk_cell BK447.out 2).trans rfl, (blk_cell BK447.out 3).trans rfl⟩ (fun hHeld => ?_)
    clear hK K
    refine norm_ (a' := ?_) ?_ ?_
    rotate_left
    ·
     show Act.put _ (some 34) _ = _
     simp only [Act.put, List.setIfInBounds_toArray, List.set_cons_zero, List.set_cons_succ, i64_w, i32_w]
     rfl
    refine one_ (i := 3) (N := some 35) #[true, true, true, true, false, false, false, true, false, false] rfl rfl (one_of HT_.out (by kernel_rfl)) (by decide) (fun K hK => ?_)
    refine goes_ Try.func31 (by kernel_rfl) rfl #[.agg #[.slice Ao35 t461.length co35], .agg #[.int .i64 t465, .int .i64 t466, .int .i64 t467, .bool t468]] (by rfl) rfl rfl (by (try simp only [List.map_toArray, List.map_cons, List.map_nil]); first | done | rfl | (simp only [List.length_drop, List.length_take]; rfl)) ?_
    with_reducible refine (impl_MapPiece.calls k _ _ t461 t465 t466 t467 t468 t469 t472 _ ?side1 ?side2 A15.out).mono ?_
    (case side1 => exact rc0 HO463)
    (case side2 => exact (Kd.R_reads' HO463.out).2.1)
    rintro e w44 ⟨v470, rfl, ho0, hb⟩
    refine ⟨_, rfl, ?_⟩
    have n0_ := Aside0.mk (Kd.R_elder' (rr HO451.out) (Kd.R_base ho0) hb)
    have n1_ := Aside0.mk (Kd.R_elder' (rr HO458.out) (Kd.R_base ho0) hb)
    have n2_ := Aside0.mk (Kd.R_elder' (rr HO463.out) (Kd.R_base ho0) hb)
    have n3_ := Aside0.mk (Kd.R_lower (Kd.R_new' (Kd.R_new' (Kd.R_new' ho0 (Kd.R_lt (rr HO451.out))) (Kd.R_lt (rr HO458.out))) (Kd.R_lt (rr HO463.out))) (below_size (bs5 HB GE446 GE447 GE460 GE464 GE473)))
    have n4_ := Aside0.mk (bb BK446 hb)
    have n5_ := Aside0.mk (bb BK447 hb)
    have n6_ := Aside0.mk (bb BK460 hb)
    have n7_ := Aside0.mk (bb BK464 hb)
    have n8_ := Aside0.mk (bb BK473 hb)
    have n9_ := Aside0.mk (below_step (bs5 HB GE446 GE447 GE460 GE464 GE473) hb)
    clear HO451
    clear HO458
    clear HO463
    clear BK446
    clear BK447
    clear BK460
    clear BK464
    clear BK473
    clear HB
    have HO451 := n0_
    have HO458 := n1_
    have HO463 := n2_
    have HO471 := n3_
    have BK446 := n4_
    have BK447 := n5_
    have BK460 := n6_
    have BK464 := n7_
    have BK473 := n8_
    have HB := n9_
    clear n0_ n1_ n2_ n3_ n4_ n5_ n6_ n7_ n8_ n9_
    (try clear hb)
    (try clear hb2)
    (try clear hk)
    (try clear hi)
    (try clear ho0)
    refine hK.out _ _ ⟨(blk_cell BK464.out 0).trans rfl, (blk_cell BK447.out 0).trans rfl, (blk_cell BK447.out 1).trans rfl, (blk_cell BK447.out 2).trans rfl, (blk_cell BK447.out 3).trans rfl⟩ (fun hHeld => ?_)
    clear hK K
    refine norm_ (a' := ?_) ?_ ?_
    rotate_left
    ·
     show Act.put _ (some 35) _ = _
     simp only [Act.put, List.setIfInBounds_toArray, List.set_cons_zero, List.set_cons_succ, i64_w, i32_w]
     rfl
    refine pure_ (i := 4) (N := some 31) (v := ?_) (a' := ?_) #[true, true, true, true, true, false, false, true, false, false] rfl rfl (any_of HT_.out (by kernel_rfl)) (fun _ _ _ h => h) (Or.inl ⟨by rfl, ?_⟩) ?_ ?_
    rotate_left
    ·
     intro w'
     go_simp
     with_reducible rfl
    rotate_left
    ·
     simp only [Act.put, List.setIfInBounds_toArray, List.set_cons_zero, List.set_cons_succ, i64_w, i32_w]
     rfl
    refine pure_ (i := 5) (N := some 36) (v := ?_) (a' := ?_) #[true, true, true, true, true, true, false, true, false, false] rfl rfl (any_of HT_.out (by kernel_rfl)) (fun _ _ _ h => h) (Or.inl ⟨by rfl, ?_⟩) ?_ ?_
    rotate_left
    ·
     intro w'
     go_simp
     with_reducible rfl
    rotate_left
    ·
     simp only [Act.put, List.setIfInBounds_toArray, List.set_cons_zero, List.set_cons_succ, i64_w, i32_w]
     rfl
    refine pure_ (i := 6) (N := some 37) (v := ?_) (a' := ?_) #[true, true, true, true, true, true, true, true, false, false] rfl rfl (any_of HT_.out (by kernel_rfl)) (fun _ _ _ h => h) (Or.inl ⟨by rfl, ?_⟩) ?_ ?_
    rotate_left
    ·
     intro w'
     go_simp
     with_reducible rfl
    rotate_left
    ·
     simp only [Act.put, List.setIfInBounds_toArray, List.set_cons_zero, List.set_cons_succ, i64_w, i32_w]
     rfl
    exact norm_ (by simp only [putAll, Act.put, List.setIfInBounds_toArray, List.set_cons_zero, List.set_cons_succ]) (hCont (v470, gb473) _ ⟨hHeld, (by (with_reducible repeat (first | apply Kd.R_alloc | apply Kd.R_drewN | apply Kd.R_drew)); exact Kd.R_mono HO451.out (fun _ hk => ⟨hk.1.1, ⟨hk.1.2, hk.2⟩⟩)), (by (with_reducible repeat (first | apply Kd.R_alloc | apply Kd.R_drewN | apply Kd.R_drew)); exact Kd.R_mono HO458.out (fun _ hk => ⟨hk.1.1, ⟨hk.1.2, hk.2⟩⟩)), (by (with_reducible repeat (first | apply Kd.R_alloc | apply Kd.R_drewN | apply Kd.R_drew)); exact Kd.R_mono HO463.out (fun _ hk => ⟨hk.1.1, ⟨hk.1.2, hk.2⟩⟩)), (by (with_reducible repeat (first | apply Kd.R_alloc | apply Kd.R_drewN | apply Kd.R_drew)); exact Kd.R_mono HO471.out (fun _ hk => ⟨hk.1.1.2, ⟨hk.1.2, hk.2⟩⟩)), (bk BK446), (bk BK447), (bk BK460), (bk BK464), (bk BK473), GW473.out, GE473.out, NB446_473.out, NB473_446.out, NB447_473.out, NB473_447.out, NB460_473.out, NB473_460.out, NB464_473.out, NB473_464.out, (bs5 HB GE446 GE447 GE460 GE464 GE473)⟩)
  rintro ⟨v470, gb473⟩ w45 ⟨hS_, h0_, h1_, h2_, h3_, h4_, h5_, h6_, h7_, h8_, h9_, h10_, h11_, h12_, h13_, h14_, h15_, h16_, h17_, h18_, h19_⟩
  have n0_ : Aside0 (Kd.R k48 48 w45 w.heap.size (fun k_ => some k_ ≠ (.slice Ao29 t456.length co29 : Value).ownBlock ∧ some k_ ≠ (.slice Ao35 t461.length co35 : Value).ownBlock ∧ some k_ ≠ (v470 : Value).ownBlock) v450 t449) := ⟨h0_⟩
  have n1_ : Aside0 (Kd.R k48 48 w45 w.heap.size (fun k_ => some k_ ≠ (v450 : Value).ownBlock ∧ some k_ ≠ (.slice Ao35 t461.length co35 : Value).ownBlock ∧ some k_ ≠ (v470 : Value).ownBlock) (.slice Ao29 t456.length co29) t456) := ⟨h1_⟩
  have n2_ : Aside0 (Kd.R k48 48 w45 w.heap.size (fun k_ => some k_ ≠ (v450 : Value).ownBlock ∧ some k_ ≠ (.slice Ao29 t456.length co29 : Value).ownBlock ∧ some k_ ≠ (v470 : Value).ownBlock) (.slice Ao35 t461.length co35) t461) := ⟨h2_⟩
  have n3_ : Aside0 (Kd.R k48 48 w45 w.heap.size (fun k_ => some k_ ≠ (v450 : Value).ownBlock ∧ some k_ ≠ (.slice Ao29 t456.length co29 : Value).ownBlock ∧ some k_ ≠ (.slice Ao35 t461.length co35 : Value).ownBlock) v470 t469) := ⟨h3_⟩
  have n4_ : Aside0 (w45.heap[gb446]? = some (.cells #[.slice A0_0 l0_0.length c0_0] 24 (0, 0))) := ⟨h4_⟩
  have n5_ : Aside0 (w45.heap[gb447]? = some (.cells #[.int .i64 a1_0, .int .i64 a1_1, .int .i64 a1_2, .bool a1_3] 45 (0, 0))) := ⟨h5_⟩
  have n6_ : Aside0 (w45.heap[gb460]? = some (.cells #[.slice Ao29 t456.length co29] 29 (0, 0))) := ⟨h6_⟩
  have n7_ : Aside0 (w45.heap[gb464]? = some (.cells #[.slice Ao35 t461.length co35] 29 (0, 0))) := ⟨h7_⟩
  have n8_ : Aside0 (w45.heap[gb473]? = some (.cells #[.slice none 0 0] 29 (0, 0))) := ⟨h8_⟩
  have n9_ : Aside0 (w.heap.size ≤ gb473) := ⟨h9_⟩
  have n10_ : Aside0 (w.heap.size ≤ gb473) := ⟨h10_⟩
  have n11_ : Aside0 (gb446 ≠ gb473) := ⟨h11_⟩
  have n12_ : Aside0 (gb473 ≠ gb446) := ⟨h12_⟩
  have n13_ : Aside0 (gb447 ≠ gb473) := ⟨h13_⟩
  have n14_ : Aside0 (gb473 ≠ gb447) := ⟨h14_⟩
  have n15_ : Aside0 (gb460 ≠ gb473) := ⟨h15_⟩
  have n16_ : Aside0 (gb473 ≠ gb460) := ⟨h16_⟩
  have n17_ : Aside0 (gb464 ≠ gb473) := ⟨h17_⟩
  have n18_ : Aside0 (gb473 ≠ gb464) := ⟨h18_⟩
  have n19_ : Aside0 (Below w.heap.size w w45) := ⟨h19_⟩
  clear HO451
  clear HO458
  clear HO463
  clear BK446
  clear BK447
  clear BK460
  clear BK464
  clear HB
  clear h0_ h1_ h2_ h3_ h4_ h5_ h6_ h7_ h8_ h9_ h10_ h11_ h12_ h13_ h14_ h15_ h16_ h17_ h18_ h19_
  have HO451 := n0_
  have HO458 := n1_
  have HO463 := n2_
  have HO471 := n3_
  have BK446 := n4_
  have BK447 := n5_
  have BK460 := n6_
  have BK464 := n7_
  have BK473 := n8_
  have GW473 := n9_
  have GE473 := n10_
  have NB446_473 := n11_
  have NB473_446 := n12_
  have NB447_473 := n13_
  have NB473_447 := n14_
  have NB460_473 := n15_
  have NB473_460 := n16_
  have NB464_473 := n17_
  have NB473_464 := n18_
  have HB := n19_
  clear n0_ n1_ n2_ n3_ n4_ n5_ n6_ n7_ n8_ n9_ n10_ n11_ n12_ n13_ n14_ n15_ n16_ n17_ n18_ n19_
  have hHeld : w45.cell? ⟨gb464, 0, none⟩ = some (.slice Ao35 t461.length co35) ∧ w45.cell? ⟨gb447, 0, none⟩ = some (.int .i64 a1_0) ∧ w45.cell? ⟨gb447, 1, none⟩ = some (.int .i64 a1_1) ∧ w45.cell? ⟨gb447, 2, none⟩ = some (.int .i64 a1_2) ∧ w45.cell? ⟨gb447, 3, none⟩ = some (.bool a1_3) := hS_
  obtain ⟨Ao46, co46, eo46⟩ := Kd.R_slice HO471.out
  (first | subst eo46 | (injection eo46 with f1_ f2_ f3_; have f4_ := f1_.symm; have f5_ := f3_.symm; clear f1_ f2_ f3_; subst f4_; subst f5_))
  refine norm_ (a' := ?_) ?_ ?_
  rotate_left
  ·
   simp only [putAll, Act.put, List.setIfInBounds_toArray, List.set_cons_zero, List.set_cons_succ]
   rfl
  refine one_ (i := 8) (N := none) #[true, true, true, true, true, true, true, true, true, false] rfl rfl (one_of HT_.out (by kernel_rfl)) (by decide) (fun K hK => ?_)
  have hs47 : w45.cell? ⟨gb473, 0, none⟩ = some (.slice none 0 0) := (blk_cell BK473.out 0).trans rfl
  have hfs47 := blk_frozen BK473.out 0
  have hns47_0 := NB446_473.out
  have hns47_1 := NB447_473.out
  have hns47_2 := NB460_473.out
  have hns47_3 := NB464_473.out
  have hms47_0 := NB473_446.out
  have hms47_1 := NB473_447.out
  have hms47_2 := NB473_460.out
  have hms47_3 := NB473_464.out
  refine skip_ (w1 := ?_) (by rfl) rfl ?_ ?_
  rotate_left
  ·
   go_simp
   rfl
  refine hK.out _ _ ⟨((cell_far (p := ⟨gb473, _, none⟩) NB464_473.out _).trans (hHeld.1)), ((cell_far (p := ⟨gb473, _, none⟩) NB447_473.out _).trans (hHeld.2.1)), ((cell_far (p := ⟨gb473, _, none⟩) NB447_473.out _).trans (hHeld.2.2.1)), ((cell_far (p := ⟨gb473, _, none⟩) NB447_473.out _).trans (hHeld.2.2.2.1)), ((cell_far (p := ⟨gb473, _, none⟩) NB447_473.out _).trans (hHeld.2.2.2.2))⟩ (fun hHeld => ?_)
  clear hK K
  refine pure_ (i := 9) (N := some 10) (v := ?_) (a' := ?_) #[true, true, true, true, true, true, true, true, true, true] rfl rfl (any_of HT_.out (by kernel_rfl)) (fun _ _ _ h => h) (Or.inl ⟨by rfl, ?_⟩) ?_ ?_
  rotate_left
  ·
   intro w'
   go_simp
   with_reducible rfl
  rotate_left
  ·
   simp only [Act.put, List.setIfInBounds_toArray, List.set_cons_zero, List.set_cons_succ, i64_w, i32_w]
   rfl
  refine done_ (done_of HT_.out (by kernel_rfl)) ?_
  go_upto_region 8 with (fail)
  go_cut [46] (fun v46 wc => ∃ (kq : Nat) (x46_15 : Bool), v46 = .bool x46_15 ∧ Aside0 (laws_FnExactMapPiece.j0 kq t459 t472 x46_15 l0_0 a1_0 a1_1 a1_2 a1_3 t456 t461 t469 = some r) ∧ Aside0 (kq ≤ k) ∧ Aside0 (Kd.R k48 48 wc w.heap.size (fun k_ => some k_ ≠ ((.slice Ao35 t461.length co35) : Value).ownBlock ∧ some k_ ≠ ((.slice Ao46 t469.length co46) : Value).ownBlock) (.slice Ao29 t456.length co29) t456) ∧ Aside0 (Kd.R k48 48 wc w.heap.size (fun k_ => some k_ ≠ ((.slice Ao29 t456.length co29) : Value).ownBlock ∧ some k_ ≠ ((.slice Ao46 t469.length co46) : Value).ownBlock) (.slice Ao35 t461.length co35) t461) ∧ Aside0 (Kd.R k48 48 wc w.heap.size (fun k_ => some k_ ≠ ((.slice Ao29 t456.length co29) : Value).ownBlock ∧ some k_ ≠ ((.slice Ao35 t461.length co35) : Value).ownBlock) (.slice Ao46 t469.length co46) t469) ∧ Aside0 (wc.heap[gb446]? = some (.cells #[(.slice A0_0 l0_0.length c0_0)] 24 (0, 0))) ∧ Aside0 (wc.heap[gb447]? = some (.cells #[.int .i64 a1_0, .int .i64 a1_1, .int .i64 a1_2, .bool a1_3] 45 (0, 0))) ∧ Aside0 (wc.heap[gb460]? = some (.cells #[(.slice Ao29 t456.length co29)] 29 (0, 0))) ∧ Aside0 (wc.heap[gb464]? = some (.cells #[(.slice Ao35 t461.length co35)] 29 (0, 0))) ∧ Aside0 (wc.heap[gb473]? = some (.cells #[(.slice Ao46 t469.length co46)] 29 (0, 0))) ∧ Aside0 (Below w.heap.size w wc))
  case first =>
   have H := HC16.out
   clear HC16
   replace H := Option.bind_eq_some_iff.mp H
   obtain ⟨t474, A480, H⟩ := H
   replace H : (if t474 = true then (laws_FnExactMapPiece.j0 k t459 t472 (t472 != t459) l0_0 a1_0 a1_1 a1_2 a1_3 t456 t461 t469) else (laws_FnExactMapPiece.j0 k t459 t472 true l0_0 a1_0 a1_1 a1_2 a1_3 t456 t461 t469)) = some r := H
   have A48 := Aside0.mk A480
   clear A480
   by_cases c49 : t474 = true
   ·
    subst c49
    rw [if_pos rfl] at H
    have H' := Aside0.mk H
    clear H
    have hnb50 := NB473_446.out
    have hnc50 := NB446_473.out
    have hnb51 := NB473_447.out
    have hnc51 := NB447_473.out
    have hnb52 := NB473_460.out
    have hnc52 := NB460_473.out
    have hnb53 := NB473_464.out
    have hnc53 := NB464_473.out
    have hcz54_0 := cz1 BK473
    have hfz54_0 := fz1 BK473
    have hnb55 := NB460_446.out
    have hnc55 := NB446_460.out
    have hnb56 := NB460_447.out
    have hnc56 := NB447_460.out
    have hnb57 := NB460_464.out
    have hnc57 := NB464_460.out
    have hcz58_0 := cz1 BK460
    have hfz58_0 := fz1 BK460
    go_wp2_with (first | ((with_reducible refine gate_callee (f := 18) rfl ?_); refine gL (some 40) rfl rfl Try.func18 (by kernel_rfl) rfl #[.agg #[.slice Ao46 t469.length co46], .agg #[.slice Ao29 t456.length co29]] rfl ?_; (with_reducible refine (laws_eqFileMap.calls k _ _ t469 _ _ t456 true _ ?side1 ?side2 ?side3 ?side4 A48.out).mono ?_); (case side1 => exact rc HO471 BK473); (case side2 => exact (Kd.R_reads' HO471.out).2.1); (case side3 => exact rc HO458 BK473); (case side4 => exact (Kd.R_reads' HO458.out).2.1); rintro e w59 ⟨rfl, hb⟩; refine ⟨_, rfl, ?_⟩; replace HO451 := nf HO451 BK473 hb; replace HO458 := nf HO458 BK473 hb; replace HO463 := nf HO463 BK473 hb; replace HO471 := nf HO471 BK473 hb; replace BK446 := Aside0.mk (blk_below (bf BK446 NB446_473) hb); replace BK447 := Aside0.mk (blk_below (bf BK447 NB447_473) hb); replace BK460 := Aside0.mk (blk_below (bf BK460 NB460_473) hb); replace BK464 := Aside0.mk (blk_below (bf BK464 NB464_473) hb); replace BK473 := Aside0.mk (blk_below (g := gb473) (o := .cells #[.slice Ao46 t469.length co46] 29 (0, 0)) (by (with_reducible repeat (first | refine blk_drewN ?_ _ | refine blk_drew ?_ | refine blk_alloc ?_ _)); refine blk_put (cs := #[.slice none 0 0]) ?_ 0 _ rfl; (with_reducible repeat (first | refine blk_drewN ?_ _ | refine blk_drew ?_ | refine blk_alloc ?_ _)); exact BK473.out) hb); replace HB := Aside0.mk (below_step (bs5 HB GE446 GE447 GE460 GE464 GE473) hb); (try clear hb); (try clear hb2); (try clear hk); (try clear hi)))
    go_meet
    case rel => exact ⟨_, ((t472 != t459)), (by first | rfl | (simp; done) | (simp [*]; done)), H', ⟨by first | omega | exact Nat.le_refl _⟩, rm HO458 (fun _ hk => ⟨hk.2.1, hk.2.2⟩), rm HO463 (fun _ hk => ⟨hk.2.1, hk.2.2⟩), rm HO471 (fun _ hk => ⟨hk.2.1, hk.2.2⟩), ⟨bk BK446⟩, ⟨bk BK447⟩, ⟨bk BK460⟩, ⟨bk BK464⟩, ⟨bk BK473⟩, ⟨bs5 HB GE446 GE447 GE460 GE464 GE473⟩⟩
   ·
    replace c49 := Bool.eq_false_iff.mpr c49
    subst c49
    rw [if_neg (show ¬ (false = true) by decide)] at H
    have H' := Aside0.mk H
    clear H
    have hnb60 := NB473_446.out
    have hnc60 := NB446_473.out
    have hnb61 := NB473_447.out
    have hnc61 := NB447_473.out
    have hnb62 := NB473_460.out
    have hnc62 := NB460_473.out
    have hnb63 := NB473_464.out
    have hnc63 := NB464_473.out
    have hcz64_0 := cz1 BK473
    have hfz64_0 := fz1 BK473
    have hnb65 := NB460_446.out
    have hnc65 := NB446_460.out
    have hnb66 := NB460_447.out
    have hnc66 := NB447_460.out
    have hnb67 := NB460_464.out
    have hnc67 := NB464_460.out
    have hcz68_0 := cz1 BK460
    have hfz68_0 := fz1 BK460
    go_wp2_with (first | ((with_reducible refine gate_callee (f := 18) rfl ?_); refine gL (some 40) rfl rfl Try.func18 (by kernel_rfl) rfl #[.agg #[.slice Ao46 t469.length co46], .agg #[.slice Ao29 t456.length co29]] rfl ?_; (with_reducible refine (laws_eqFileMap.calls k _ _ t469 _ _ t456 false _ ?side1 ?side2 ?side3 ?side4 A48.out).mono ?_); (case side1 => exact rc HO471 BK473); (case side2 => exact (Kd.R_reads' HO471.out).2.1); (case side3 => exact rc HO458 BK473); (case side4 => exact (Kd.R_reads' HO458.out).2.1); rintro e w69 ⟨rfl, hb⟩; refine ⟨_, rfl, ?_⟩; replace HO451 := nf HO451 BK473 hb; replace HO458 := nf HO458 BK473 hb; replace HO463 := nf HO463 BK473 hb; replace HO471 := nf HO471 BK473 hb; replace BK446 := Aside0.mk (blk_below (bf BK446 NB446_473) hb); replace BK447 := Aside0.mk (blk_below (bf BK447 NB447_473) hb); replace BK460 := Aside0.mk (blk_below (bf BK460 NB460_473) hb); replace BK464 := Aside0.mk (blk_below (bf BK464 NB464_473) hb); replace BK473 := Aside0.mk (blk_below (g := gb473) (o := .cells #[.slice Ao46 t469.length co46] 29 (0, 0)) (by (with_reducible repeat (first | refine blk_drewN ?_ _ | refine blk_drew ?_ | refine blk_alloc ?_ _)); refine blk_put (cs := #[.slice none 0 0]) ?_ 0 _ rfl; (with_reducible repeat (first | refine blk_drewN ?_ _ | refine blk_drew ?_ | refine blk_alloc ?_ _)); exact BK473.out) hb); replace HB := Aside0.mk (below_step (bs5 HB GE446 GE447 GE460 GE464 GE473) hb); (try clear hb); (try clear hb2); (try clear hk); (try clear hi)))
    go_meet
    case rel => exact ⟨_, (true), (by first | rfl | (simp; done) | (simp [*]; done)), H', ⟨by first | omega | exact Nat.le_refl _⟩, rm HO458 (fun _ hk => ⟨hk.2.1, hk.2.2⟩), rm HO463 (fun _ hk => ⟨hk.2.1, hk.2.2⟩), rm HO471 (fun _ hk => ⟨hk.2.1, hk.2.2⟩), ⟨bk BK446⟩, ⟨bk BK447⟩, ⟨bk BK460⟩, ⟨bk BK464⟩, ⟨bk BK473⟩, ⟨bs5 HB GE446 GE447 GE460 GE464 GE473⟩⟩
  case rest =>
   clear HC16
   try clear c1
   try clear p2
   try clear c3
   try clear c4
   try clear c5
   try clear c6
   try clear c18
   try clear c30
   try clear c31
   try clear c49
   try clear c50
   try clear c51
   try clear c52
   try clear c53
   try clear c55
   try clear c56
   try clear c57
   try clear c60
   try clear c61
   try clear c62
   try clear c63
   try clear c65
   try clear c66
   try clear c67
   try clear hcz54_0
   try clear hcz58_0
   try clear hcz64_0
   try clear hcz68_0
   try clear hfz54_0
   try clear hfz58_0
   try clear hfz64_0
   try clear hfz68_0
   obtain ⟨kq, x46_15, rfl, HA, HJ15, HO_461000, HO_465000, HO_474000, BK446, BK447, BK460, BK464, BK473, HB⟩ := hcut
   cases kq with
   | zero => exact absurd HA.out (by simp [laws_FnExactMapPiece.j0])
   | succ kj15 =>
    have H := HA.out
    clear HA
    simp only [laws_FnExactMapPiece.j0] at H
    by_cases c70 : x46_15 = true
    ·
     subst c70
     rw [if_pos rfl] at H
     obtain rfl := Option.some.inj H
     go_wp2
     go_ret
     exact ⟨by first | rfl | (simp [errW_none, errW_some] <;> rfl) | (simp [*, errW_none, errW_some] <;> rfl), bs5 HB GE446 GE447 GE460 GE464 GE473⟩
    ·
     replace c70 := Bool.eq_false_iff.mpr c70
     subst c70
     rw [if_neg (show ¬ (false = true) by decide)] at H
     replace H := Option.bind_eq_some_iff.mp H
     obtain ⟨t475, A710, H⟩ := H
     replace H : ((laws_eqFileMap.f kj15 t461 t475).bind fun t478 => (if t478 = true then ((laws_markFileMap.f kj15 t461 1).bind fun bt479 => (if bt479.1 < 0 then (laws_FnExactMapPiece.j1 kj15 t459 true l0_0 a1_0 a1_1 a1_2 a1_3 t456 t469) else ((laws_eqFileMap.f kj15 t469 t456).bind fun t481 => (if t481 = true then (laws_FnExactMapPiece.j1 kj15 t459 (t472 != t459) l0_0 a1_0 a1_1 a1_2 a1_3 t456 t469) else (laws_FnExactMapPiece.j1 kj15 t459 true l0_0 a1_0 a1_1 a1_2 a1_3 t456 t469))))) else (some false))) = some r := H
     have A71 := Aside0.mk A710
     clear A710
     replace H := Option.bind_eq_some_iff.mp H
     obtain ⟨t478, A720, H⟩ := H
     replace H : (if t478 = true then ((laws_markFileMap.f kj15 t461 1).bind fun bt479 => (if bt479.1 < 0 then (laws_FnExactMapPiece.j1 kj15 t459 true l0_0 a1_0 a1_1 a1_2 a1_3 t456 t469) else ((laws_eqFileMap.f kj15 t469 t456).bind fun t481 => (if t481 = true then (laws_FnExactMapPiece.j1 kj15 t459 (t472 != t459) l0_0 a1_0 a1_1 a1_2 a1_3 t456 t469) else (laws_FnExactMapPiece.j1 kj15 t459 true l0_0 a1_0 a1_1 a1_2 a1_3 t456 t469))))) else (some false)) = some r := H
     have A72 := Aside0.mk A720
     clear A720
     by_cases c73 : t478 = true
     ·
      subst c73
      rw [if_pos rfl] at H
      replace H := Option.bind_eq_some_iff.mp H
      obtain ⟨⟨t479, t480⟩, A740, H⟩ := H
      replace H : (if t479 < 0 then (laws_FnExactMapPiece.j1 kj15 t459 true l0_0 a1_0 a1_1 a1_2 a1_3 t456 t469) else ((laws_eqFileMap.f kj15 t469 t456).bind fun t481 => (if t481 = true then (laws_FnExactMapPiece.j1 kj15 t459 (t472 != t459) l0_0 a1_0 a1_1 a1_2 a1_3 t456 t469) else (laws_FnExactMapPiece.j1 kj15 t459 true l0_0 a1_0 a1_1 a1_2 a1_3 t456 t469)))) = some r := H
      have A74 := Aside0.mk A740
      clear A740
      have HC75 := Aside0.mk H
      clear H
      try go_wp2
      have n0_ := Aside0.mk (Kd.R_drew HO_461000.out)
      have n1_ := Aside0.mk (Kd.R_drew HO_465000.out)
      have n2_ := Aside0.mk (Kd.R_drew HO_474000.out)
      have n3_ := Aside0.mk (blk_drew BK446.out)
      have n4_ := Aside0.mk (blk_drew BK447.out)
      have n5_ := Aside0.mk (blk_drew BK460.out)
      have n6_ := Aside0.mk (blk_drew BK464.out)
      have n7_ := Aside0.mk (blk_drew BK473.out)
      have n8_ := Aside0.mk (below_drew1 HB.out)
      clear HO_461000
      clear HO_465000
      clear HO_474000
      clear BK446
      clear BK447
      clear BK460
      clear BK464
      clear BK473
      clear HB
      have HO_461000 := n0_
      have HO_465000 := n1_
      have HO_474000 := n2_
      have BK446 := n3_
      have BK447 := n4_
      have BK460 := n5_
      have BK464 := n6_
      have BK473 := n7_
      have HB := n8_
      clear n0_ n1_ n2_ n3_ n4_ n5_ n6_ n7_ n8_
      refine start_ (n := 5) (S := fun w' => w'.cell? ⟨gb464, 0, none⟩ = some (.slice Ao35 t461.length co35) ∧ w'.cell? ⟨gb446, 0, none⟩ = some (.slice A0_0 l0_0.length c0_0)) (ds := []) #[false, false, false, false, false] (by kernel_rfl) rfl rfl ⟨(blk_cell BK464.out 0).trans rfl, (blk_cell BK446.out 0).trans rfl⟩ (fun hHeld => ?_)
      generalize wc.drew = w76 at HO_461000 HO_465000 HO_474000 BK446 BK447 BK460 BK464 BK473 HB hHeld ⊢
      refine take_ (i := 0) (N := some 47) (v := ?_) (a' := ?_) #[true, false, false, false, false] rfl rfl (by kernel_rfl) (fun _ _ _ h => h) (Or.inl ⟨by rfl, ?_⟩) hHeld ?_ ?_
      rotate_left
      ·
       rintro w' ⟨s0, s1⟩
       go_simp
       with_reducible rfl
      rotate_left
      ·
       simp only [Act.put, List.setIfInBounds_toArray, List.set_cons_zero, List.set_cons_succ, i64_w, i32_w]
       rfl
      refine take_ (i := 1) (N := some 48) (v := ?_) (a' := ?_) #[true, true, false, false, false] rfl rfl (by kernel_rfl) (fun _ _ _ h => h) (Or.inl ⟨by rfl, ?_⟩) hHeld ?_ ?_
      rotate_left
      ·
       rintro w' ⟨s0, s1⟩
       go_simp
       with_reducible rfl
      rotate_left
      ·
       simp only [Act.put, List.setIfInBounds_toArray, List.set_cons_zero, List.set_cons_succ, i64_w, i32_w]
       rfl
      refine one_ (i := 2) (N := some 49) #[true, true, true, false, false] rfl rfl (by kernel_rfl) (by decide) (fun K hK => ?_)
      refine goes_ Try.func16 (by kernel_rfl) rfl #[.agg #[.slice A0_0 l0_0.length c0_0]] (by rfl) rfl rfl (by (try simp only [List.map_toArray, List.map_cons, List.map_nil]); first | done | rfl | (simp only [List.length_drop, List.length_take]; rfl)) ?_
      with_reducible refine (laws_toFileMap.calls kj15 _ _ l0_0 t475 _ ?side1 ?side2 A71.out).mono ?_
      (case side1 => exact cb HR0_0 HB)
      (case side2 => exact HC0_0.out)
      rintro e w77 ⟨v476, rfl, ho0, hb⟩
      refine ⟨_, rfl, ?_⟩
      have n0_ := Aside0.mk (Kd.R_elder' (rr HO_461000.out) (Kd.R_base ho0) hb)
      have n1_ := Aside0.mk (Kd.R_elder' (rr HO_465000.out) (Kd.R_base ho0) hb)
      have n2_ := Aside0.mk (Kd.R_elder' (rr HO_474000.out) (Kd.R_base ho0) hb)
      have n3_ := Aside0.mk (Kd.R_lower (Kd.R_new' (Kd.R_new' (Kd.R_new' ho0 (Kd.R_lt (rr HO_461000.out))) (Kd.R_lt (rr HO_465000.out))) (Kd.R_lt (rr HO_474000.out))) (below_size (bs5 HB GE446 GE447 GE460 GE464 GE473)))
      have n4_ := Aside0.mk (bb BK446 hb)
      have n5_ := Aside0.mk (bb BK447 hb)
      have n6_ := Aside0.mk (bb BK460 hb)
      have n7_ := Aside0.mk (bb BK464 hb)
      have n8_ := Aside0.mk (bb BK473 hb)
      have n9_ := Aside0.mk (below_step (bs5 HB GE446 GE447 GE460 GE464 GE473) hb)
      clear HO_461000
      clear HO_465000
      clear HO_474000
      clear BK446
      clear BK447
      clear BK460
      clear BK464
      clear BK473
      clear HB
      have HO_461000 := n0_
      have HO_465000 := n1_
      have HO_474000 := n2_
      have HO477 := n3_
      have BK446 := n4_
      have BK447 := n5_
      have BK460 := n6_
      have BK464 := n7_
      have BK473 := n8_
      have HB := n9_
      clear n0_ n1_ n2_ n3_ n4_ n5_ n6_ n7_ n8_ n9_
      (try clear hb)
      (try clear hb2)
      (try clear hk)
      (try clear hi)
      (try clear ho0)
      obtain ⟨Ao78, co78, eo78⟩ := Kd.R_slice HO477.out
      (first | subst eo78 | (injection eo78 with f1_ f2_ f3_; have f4_ := f1_.symm; have f5_ := f3_.symm; clear f1_ f2_ f3_; subst f4_; subst f5_))
      refine hK.out _ _ ⟨(blk_cell BK464.out 0).trans rfl, (blk_cell BK446.out 0).trans rfl⟩ (fun hHeld => ?_)
      clear hK K
      refine norm_ (a' := ?_) ?_ ?_
      rotate_left
      ·
       show Act.put _ (some 49) _ = _
       simp only [Act.put, List.setIfInBounds_toArray, List.set_cons_zero, List.set_cons_succ, i64_w, i32_w]
       rfl
      refine one_ (i := 3) (N := some 50) #[true, true, true, true, false] rfl rfl (by kernel_rfl) (by decide) (fun K hK => ?_)
      refine goes_ Try.func18 (by kernel_rfl) rfl #[.agg #[.slice Ao35 t461.length co35], .agg #[.slice Ao78 t475.length co78]] (by rfl) rfl rfl (by (try simp only [List.map_toArray, List.map_cons, List.map_nil]); first | done | rfl | (simp only [List.length_drop, List.length_take]; rfl)) ?_
      with_reducible refine (laws_eqFileMap.calls kj15 _ _ t461 _ _ t475 true _ ?side1 ?side2 ?side3 ?side4 A72.out).mono ?_
      (case side1 => exact rc0 HO_465000)
      (case side2 => exact (Kd.R_reads' HO_465000.out).2.1)
      (case side3 => exact rc0 HO477)
      (case side4 => exact (Kd.R_reads' HO477.out).2.1)
      rintro e w79 ⟨rfl, hb⟩
      refine ⟨_, rfl, ?_⟩
      have n0_ := Aside0.mk (Kd.R_below (rr HO_461000.out) hb)
      have n1_ := Aside0.mk (Kd.R_below (rr HO_465000.out) hb)
      have n2_ := Aside0.mk (Kd.R_below (rr HO_474000.out) hb)
      have n3_ := Aside0.mk (Kd.R_below (rr HO477.out) hb)
      have n4_ := Aside0.mk (bb BK446 hb)
      have n5_ := Aside0.mk (bb BK447 hb)
      have n6_ := Aside0.mk (bb BK460 hb)
      have n7_ := Aside0.mk (bb BK464 hb)
      have n8_ := Aside0.mk (bb BK473 hb)
      have n9_ := Aside0.mk (below_step (bs5 HB GE446 GE447 GE460 GE464 GE473) hb)
      clear HO_461000
      clear HO_465000
      clear HO_474000
      clear HO477
      clear BK446
      clear BK447
      clear BK460
      clear BK464
      clear BK473
      clear HB
      have HO_461000 := n0_
      have HO_465000 := n1_
      have HO_474000 := n2_
      have HO477 := n3_
      have BK446 := n4_
      have BK447 := n5_
      have BK460 := n6_
      have BK464 := n7_
      have BK473 := n8_
      have HB := n9_
      clear n0_ n1_ n2_ n3_ n4_ n5_ n6_ n7_ n8_ n9_
      (try clear hb)
      (try clear hb2)
      (try clear hk)
      (try clear hi)
      refine hK.out _ _ ⟨(blk_cell BK464.out 0).trans rfl, (blk_cell BK446.out 0).trans rfl⟩ (fun hHeld => ?_)
      clear hK K
      refine norm_ (a' := ?_) ?_ ?_
      rotate_left
      ·
       show Act.put _ (some 50) _ = _
       simp only [Act.put, List.setIfInBounds_toArray, List.set_cons_zero, List.set_cons_succ, i64_w, i32_w]
       rfl
      refine pure_ (i := 4) (N := some 51) (v := ?_) (a' := ?_) #[true, true, true, true, true] rfl rfl (by kernel_rfl) (fun _ _ _ h => h) (Or.inl ⟨by rfl, ?_⟩) ?_ ?_
      rotate_left
      ·
       intro w'
       go_simp
       with_reducible rfl
      rotate_left
      ·
       simp only [Act.put, List.setIfInBounds_toArray, List.set_cons_zero, List.set_cons_succ, i64_w, i32_w]
       rfl
      refine done_ (by kernel_rfl) ?_
      have hnb80 := NB464_446.out
      have hnc80 := NB446_464.out
      have hnb81 := NB464_447.out
      have hnc81 := NB447_464.out
      have hnb82 := NB464_460.out
      have hnc82 := NB460_464.out
      have hnb83 := NB464_473.out
      have hnc83 := NB473_464.out
      have hcz84_0 := cz1 BK464
      have hfz84_0 := fz1 BK464
      go_upto_region 14 with (first | ((with_reducible refine gate_callee (f := 26) rfl ?_); refine gL (some 54) rfl rfl Try.func26 (by kernel_rfl) rfl #[.agg #[.slice Ao35 t461.length co35], .int .i64 1] rfl ?_; (with_reducible refine (laws_markFileMap.calls kj15 (fun k_ => some k_ = (.slice Ao35 t461.length co35 : Value).ownBlock) (.slice Ao35 t461.length co35) t461 1 t479 t480 w _ ?side1 ?side2 A74.out).mono ?_); (case side1 => repeat (first | (with_reducible first | exact HB.out | apply below_alloc | apply pw_below_drewN | apply below_drew1 | refine below_set ?_ GE446.out | refine below_set ?_ GE447.out | refine below_set ?_ GE460.out | refine below_set ?_ GE464.out | refine below_set ?_ GE473.out) | exact HB.out)); (case side2 => exact Kd.R_tight rfl HO_465000.out); rintro e w85 ⟨rfl, hy0, hb, hkp⟩; refine ⟨_, rfl, ?_⟩; replace HO_461000 := Aside0.mk (Kd.R_mono (ok' := fun k_ => some k_ ≠ (.slice Ao35 t461.length co35 : Value).ownBlock ∧ some k_ ≠ (.slice Ao46 t469.length co46 : Value).ownBlock ∧ some k_ ≠ (.slice Ao78 t475.length co78 : Value).ownBlock) (Kd.R_keptB (HO_461000.out) hkp (fun k_ hk_ hs_ => (hk_.1.1) hs_)) (fun k_ hk_ => ⟨hk_.1.1.1, hk_.1.1.2, hk_.1.2⟩)); replace HO_474000 := Aside0.mk (Kd.R_mono (ok' := fun k_ => some k_ ≠ (.slice Ao29 t456.length co29 : Value).ownBlock ∧ some k_ ≠ (.slice Ao35 t461.length co35 : Value).ownBlock ∧ some k_ ≠ (.slice Ao78 t475.length co78 : Value).ownBlock) (Kd.R_keptB (HO_474000.out) hkp (fun k_ hk_ hs_ => (hk_.1.2) hs_)) (fun k_ hk_ => ⟨hk_.1.1.1, hk_.1.1.2, hk_.1.2⟩)); replace BK446 := Aside0.mk (blk_kept (bk BK446) hkp (fun hs_ => (fun e_ => (Kd.R_ne HO_465000.out BK446.out (by decide)) e_) hs_)); replace BK447 := Aside0.mk (blk_kept (bk BK447) hkp (fun hs_ => (fun e_ => (Kd.R_ne HO_465000.out BK447.out (by decide)) e_) hs_)); replace BK460 := Aside0.mk (blk_kept (bk BK460) hkp (fun hs_ => (fun e_ => (Kd.R_ne HO_465000.out BK460.out (by decide)) e_) hs_)); replace BK464 := Aside0.mk (blk_kept (bk BK464) hkp (fun hs_ => (fun e_ => (Kd.R_ne HO_465000.out BK464.out (by decide)) e_) hs_)); replace BK473 := Aside0.mk (blk_kept (bk BK473) hkp (fun hs_ => (fun e_ => (Kd.R_ne HO_465000.out BK473.out (by decide)) e_) hs_)); replace HO_465000 := Aside0.mk (Kd.R_reok rfl hy0 (fun k_ e_ => HO_465000.out.1 k_ e_)); replace HO477 := Aside0.mk (Kd.R_mono (ok' := fun k_ => some k_ ≠ (.slice Ao29 t456.length co29 : Value).ownBlock ∧ some k_ ≠ (.slice Ao35 t461.length co35 : Value).ownBlock ∧ some k_ ≠ (.slice Ao46 t469.length co46 : Value).ownBlock) (Kd.R_keptB (HO477.out) hkp (fun k_ hk_ hs_ => (hk_.1.2) hs_)) (fun k_ hk_ => ⟨hk_.1.1.1.2, hk_.1.1.2, hk_.1.2⟩)); replace HB := Aside0.mk (hb); (try clear hb); (try clear hkp); (try clear hy0)))
      (try simp only [Act.put, List.setIfInBounds_toArray, List.set_cons_zero, List.set_cons_succ])
      go_cut [67] (fun v67 wc => ∃ (kq : Nat) (x67_74 : Bool), v67 = .bool x67_74 ∧ Aside0 (laws_FnExactMapPiece.j1 kq t459 x67_74 l0_0 a1_0 a1_1 a1_2 a1_3 t456 t469 = some r) ∧ Aside0 (kq ≤ kj15) ∧ Aside0 (Kd.R k48 48 wc w.heap.size (fun k_ => some k_ ≠ ((.slice Ao35 t461.length co35) : Value).ownBlock ∧ some k_ ≠ ((.slice Ao46 t469.length co46) : Value).ownBlock) (.slice Ao29 t456.length co29) t456) ∧ Aside0 (Kd.R k48 48 wc w.heap.size (fun k_ => some k_ ≠ ((.slice Ao29 t456.length co29) : Value).ownBlock ∧ some k_ ≠ ((.slice Ao46 t469.length co46) : Value).ownBlock) (.slice Ao35 t461.length co35) t480) ∧ Aside0 (Kd.R k48 48 wc w.heap.size (fun k_ => some k_ ≠ ((.slice Ao29 t456.length co29) : Value).ownBlock ∧ some k_ ≠ ((.slice Ao35 t461.length co35) : Value).ownBlock) (.slice Ao46 t469.length co46) t469) ∧ Aside0 (wc.heap[gb446]? = some (.cells #[(.slice A0_0 l0_0.length c0_0)] 24 (0, 0))) ∧ Aside0 (wc.heap[gb447]? = some (.cells #[.int .i64 a1_0, .int .i64 a1_1, .int .i64 a1_2, .bool a1_3] 45 (0, 0))) ∧ Aside0 (wc.heap[gb460]? = some (.cells #[(.slice Ao29 t456.length co29)] 29 (0, 0))) ∧ Aside0 (wc.heap[gb464]? = some (.cells #[(.slice Ao35 t461.length co35)] 29 (0, 0))) ∧ Aside0 (wc.heap[gb473]? = some (.cells #[(.slice Ao46 t469.length co46)] 29 (0, 0))) ∧ Aside0 (Below w.heap.size w wc))
      case first =>
       have H := HC75.out
       clear HC75
       by_cases c86 : t479 < 0
       ·
        rw [if_pos c86] at H
        have c86b0 : decide (t479 < 0) = true := decide_eq_true c86
        clear c86
        (first | rw [c86b0] | (simp only [i64_w, i32_w]; rw [c86b0]) | (simp only [c86b2, Bool.not_false, Bool.not_true]) | skip)
        have H' := Aside0.mk H
        clear H
        go_wp2
        go_meet
        case rel => exact ⟨_, (true), (by first | rfl | (simp; done) | (simp [*]; done)), H', ⟨by have := HJ15.out; first | omega | exact Nat.le_refl _⟩, rm HO_461000 (fun _ hk => ⟨hk.1, hk.2.1⟩), rm HO_465000 (fun _ hk => ⟨hk.1.1, hk.1.2⟩), rm HO_474000 (fun _ hk => ⟨hk.1, hk.2.1⟩), ⟨bk BK446⟩, ⟨bk BK447⟩, ⟨bk BK460⟩, ⟨bk BK464⟩, ⟨bk BK473⟩, ⟨bs5 HB GE446 GE447 GE460 GE464 GE473⟩⟩
       ·
        rw [if_neg c86] at H
        have c86b0 : decide (t479 < 0) = false := decide_eq_false c86
        clear c86
        (first | rw [c86b0] | (simp only [i64_w, i32_w]; rw [c86b0]) | (simp only [c86b2, Bool.not_false, Bool.not_true]) | skip)
        replace H := Option.bind_eq_some_iff.mp H
        obtain ⟨t481, A870, H⟩ := H
        replace H : (if t481 = true then (laws_FnExactMapPiece.j1 kj15 t459 (t472 != t459) l0_0 a1_0 a1_1 a1_2 a1_3 t456 t469) else (laws_FnExactMapPiece.j1 kj15 t459 true l0_0 a1_0 a1_1 a1_2 a1_3 t456 t469)) = some r := H
        have A87 := Aside0.mk A870
        clear A870
        by_cases c88 : t481 = true
        ·
         subst c88
         rw [if_pos rfl] at H
         have H' := Aside0.mk H
         clear H
         have hnb89 := NB473_446.out
         have hnc89 := NB446_473.out
         have hnb90 := NB473_447.out
         have hnc90 := NB447_473.out
         have hnb91 := NB473_460.out
         have hnc91 := NB460_473.out
         have hnb92 := NB473_464.out
         have hnc92 := NB464_473.out
         have hcz93_0 := cz1 BK473
         have hfz93_0 := fz1 BK473
         have hnb94 := NB460_446.out
         have hnc94 := NB446_460.out
         have hnb95 := NB460_447.out
         have hnc95 := NB447_460.out
         have hnb96 := NB460_464.out
         have hnc96 := NB464_460.out
         have hcz97_0 := cz1 BK460
         have hfz97_0 := fz1 BK460
         go_wp2_with (first | (go_at_call 18; (with_reducible refine (laws_eqFileMap.calls kj15 _ _ t469 _ _ t456 true _ ?side1 ?side2 ?side3 ?side4 A87.out).mono ?_); (case side1 => exact rc0 HO_474000); (case side2 => exact (Kd.R_reads' HO_474000.out).2.1); (case side3 => exact rc0 HO_461000); (case side4 => exact (Kd.R_reads' HO_461000.out).2.1); rintro e w98 ⟨rfl, hb⟩; replace HO_461000 := nr HO_461000 hb; replace HO_465000 := nr HO_465000 hb; replace HO_474000 := nr HO_474000 hb; replace HO477 := nr HO477 hb; replace BK446 := nb BK446 hb; replace BK447 := nb BK447 hb; replace BK460 := nb BK460 hb; replace BK464 := nb BK464 hb; replace BK473 := nb BK473 hb; replace HB := Aside0.mk (below_step (bs5 HB GE446 GE447 GE460 GE464 GE473) hb); (try clear hb); (try clear hb2); (try clear hk); (try clear hi)))
         go_meet
         case rel => exact ⟨_, ((t472 != t459)), (by first | rfl | (simp; done) | (simp [*]; done)), H', ⟨by have := HJ15.out; first | omega | exact Nat.le_refl _⟩, rm HO_461000 (fun _ hk => ⟨hk.1, hk.2.1⟩), rm HO_465000 (fun _ hk => ⟨hk.1.1, hk.1.2⟩), rm HO_474000 (fun _ hk => ⟨hk.1, hk.2.1⟩), ⟨bk BK446⟩, ⟨bk BK447⟩, ⟨bk BK460⟩, ⟨bk BK464⟩, ⟨bk BK473⟩, ⟨bs5 HB GE446 GE447 GE460 GE464 GE473⟩⟩
        ·
         replace c88 := Bool.eq_false_iff.mpr c88
         subst c88
         rw [if_neg (show ¬ (false = true) by decide)] at H
         have H' := Aside0.mk H
         clear H
         have hnb99 := NB473_446.out
         have hnc99 := NB446_473.out
         have hnb100 := NB473_447.out
         have hnc100 := NB447_473.out
         have hnb101 := NB473_460.out
         have hnc101 := NB460_473.out
         have hnb102 := NB473_464.out
         have hnc102 := NB464_473.out
         have hcz103_0 := cz1 BK473
         have hfz103_0 := fz1 BK473
         have hnb104 := NB460_446.out
         have hnc104 := NB446_460.out
         have hnb105 := NB460_447.out
         have hnc105 := NB447_460.out
         have hnb106 := NB460_464.out
         have hnc106 := NB464_460.out
         have hcz107_0 := cz1 BK460
         have hfz107_0 := fz1 BK460
         go_wp2_with (first | (go_at_call 18; (with_reducible refine (laws_eqFileMap.calls kj15 _ _ t469 _ _ t456 false _ ?side1 ?side2 ?side3 ?side4 A87.out).mono ?_); (case side1 => exact rc0 HO_474000); (case side2 => exact (Kd.R_reads' HO_474000.out).2.1); (case side3 => exact rc0 HO_461000); (case side4 => exact (Kd.R_reads' HO_461000.out).2.1); rintro e w108 ⟨rfl, hb⟩; replace HO_461000 := nr HO_461000 hb; replace HO_465000 := nr HO_465000 hb; replace HO_474000 := nr HO_474000 hb; replace HO477 := nr HO477 hb; replace BK446 := nb BK446 hb; replace BK447 := nb BK447 hb; replace BK460 := nb BK460 hb; replace BK464 := nb BK464 hb; replace BK473 := nb BK473 hb; replace HB := Aside0.mk (below_step (bs5 HB GE446 GE447 GE460 GE464 GE473) hb); (try clear hb); (try clear hb2); (try clear hk); (try clear hi)))
         go_meet
         case rel => exact ⟨_, (true), (by first | rfl | (simp; done) | (simp [*]; done)), H', ⟨by have := HJ15.out; first | omega | exact Nat.le_refl _⟩, rm HO_461000 (fun _ hk => ⟨hk.1, hk.2.1⟩), rm HO_465000 (fun _ hk => ⟨hk.1.1, hk.1.2⟩), rm HO_474000 (fun _ hk => ⟨hk.1, hk.2.1⟩), ⟨bk BK446⟩, ⟨bk BK447⟩, ⟨bk BK460⟩, ⟨bk BK464⟩, ⟨bk BK473⟩, ⟨bs5 HB GE446 GE447 GE460 GE464 GE473⟩⟩
      case rest =>
       clear HC75
       try clear c1
       try clear c2
       try clear p2
       try clear c3
       try clear c4
       try clear c5
       try clear c6
       try clear c7
       try clear c8
       try clear c9
       try clear c10
       try clear c16
       try clear c18
       try clear c26
       try clear c30
       try clear c31
       try clear c49
       try clear c50
       try clear c51
       try clear c52
       try clear c53
       try clear c55
       try clear c56
       try clear c57
       try clear c60
       try clear c61
       try clear c62
       try clear c63
       try clear c65
       try clear c66
       try clear c67
       try clear c70
       try clear c73
       try clear c80
       try clear c81
       try clear c82
       try clear c83
       try clear c86
       try clear c86b0
       try clear c88
       try clear c89
       try clear c90
       try clear c91
       try clear c92
       try clear c94
       try clear c95
       try clear c96
       try clear c99
       try clear c100
       try clear c101
       try clear c102
       try clear c104
       try clear c105
       try clear c106
       try clear hcz103_0
       try clear hcz107_0
       try clear hcz54_0
       try clear hcz58_0
       try clear hcz64_0
       try clear hcz68_0
       try clear hcz84_0
       try clear hcz93_0
       try clear hcz97_0
       try clear hfz103_0
       try clear hfz107_0
       try clear hfz54_0
       try clear hfz58_0
       try clear hfz64_0
       try clear hfz68_0
       try clear hfz84_0
       try clear hfz93_0
       try clear hfz97_0
       try clear p2
       obtain ⟨kq, x67_74, rfl, HA, HJ74, HO_461000, HO_465000, HO_474000, BK446, BK447, BK460, BK464, BK473, HB⟩ := hcut
       have hl465000_74 := (Kd.R_reads' HO_465000.out).1
       rw [hl465000_74] at HO_465000
       (try simp only [hl465000_74])
       (try simp only [hl465000_74] at BK446)
       (try simp only [hl465000_74] at BK447)
       (try simp only [hl465000_74] at BK460)
       (try simp only [hl465000_74] at BK464)
       (try simp only [hl465000_74] at BK473)
       (try simp only [hl465000_74] at HO_461000)
       (try simp only [hl465000_74] at HO_474000)
       cases kq with
       | zero => exact absurd HA.out (by simp [laws_FnExactMapPiece.j1])
       | succ kj74 =>
        have H := HA.out
        clear HA
        simp only [laws_FnExactMapPiece.j1] at H
        by_cases c109 : x67_74 = true
        ·
         subst c109
         rw [if_pos rfl] at H
         obtain rfl := Option.some.inj H
         go_wp2
         go_ret
         exact ⟨by first | rfl | (simp [errW_none, errW_some] <;> rfl) | (simp [*, errW_none, errW_some] <;> rfl), bs5 HB GE446 GE447 GE460 GE464 GE473⟩
        ·
         replace c109 := Bool.eq_false_iff.mpr c109
         subst c109
         rw [if_neg (show ¬ (false = true) by decide)] at H
         replace H := Option.bind_eq_some_iff.mp H
         obtain ⟨⟨t482, t483⟩, A1100, H⟩ := H
         replace H : ((laws_heldFileMap.f kj74 t483 1).bind fun t484 => (if t484 < 0 then (some false) else (if t484 = t482 then ((laws_toFileMap.f kj74 l0_0).bind fun t485 => ((laws_toPiece.f a1_0 a1_1 a1_2 a1_3).bind fun bt488 => ((impl_MapPiece.f kj74 t485 bt488.1 bt488.2.1 bt488.2.2.1 bt488.2.2.2).bind fun bt492 => ((laws_eqFileMap.f kj74 bt492.1 t456).bind fun t497 => (if t497 = true then (laws_FnExactMapPiece.j2 kj74 t482 (bt492.2 != t459) t483) else (laws_FnExactMapPiece.j2 kj74 t482 true t483)))))) else (some false)))) = some r := H
         have A110 := Aside0.mk A1100
         clear A1100
         replace H := Option.bind_eq_some_iff.mp H
         obtain ⟨t484, A1110, H⟩ := H
         replace H : (if t484 < 0 then (some false) else (if t484 = t482 then ((laws_toFileMap.f kj74 l0_0).bind fun t485 => ((laws_toPiece.f a1_0 a1_1 a1_2 a1_3).bind fun bt488 => ((impl_MapPiece.f kj74 t485 bt488.1 bt488.2.1 bt488.2.2.1 bt488.2.2.2).bind fun bt492 => ((laws_eqFileMap.f kj74 bt492.1 t456).bind fun t497 => (if t497 = true then (laws_FnExactMapPiece.j2 kj74 t482 (bt492.2 != t459) t483) else (laws_FnExactMapPiece.j2 kj74 t482 true t483)))))) else (some false))) = some r := H
         have A111 := Aside0.mk A1110
         clear A1110
         by_cases c112 : t484 < 0
         ·
          rw [if_pos c112] at H
          have c112b0 : decide (t484 < 0) = true := decide_eq_true c112
          clear c112
          obtain rfl := Option.some.inj H
          have hnb113 := NB473_446.out
          have hnc113 := NB446_473.out
          have hnb114 := NB473_447.out
          have hnc114 := NB447_473.out
          have hnb115 := NB473_460.out
          have hnc115 := NB460_473.out
          have hnb116 := NB473_464.out
          have hnc116 := NB464_473.out
          have hcz117_0 := cz1 BK473
          have hfz117_0 := fz1 BK473
          go_wp2_with (first | ((with_reducible refine gate_callee (f := 26) rfl ?_); refine gL (some 70) rfl rfl Try.func26 (by kernel_rfl) rfl #[.agg #[.slice Ao46 t469.length co46], .int .i64 1] rfl ?_; (with_reducible refine (laws_markFileMap.calls kj74 (fun k_ => some k_ = (.slice Ao46 t469.length co46 : Value).ownBlock) (.slice Ao46 t469.length co46) t469 1 t482 t483 w _ ?side1 ?side2 A110.out).mono ?_); (case side1 => repeat (first | (with_reducible first | exact HB.out | apply below_alloc | apply pw_below_drewN | apply below_drew1 | refine below_set ?_ GE446.out | refine below_set ?_ GE447.out | refine below_set ?_ GE460.out | refine below_set ?_ GE464.out | refine below_set ?_ GE473.out) | exact HB.out)); (case side2 => exact Kd.R_tight rfl HO_474000.out); rintro e w118 ⟨rfl, hy0, hb, hkp⟩; refine ⟨_, rfl, ?_⟩; replace HO_461000 := Aside0.mk (Kd.R_mono (ok' := fun k_ => some k_ ≠ (.slice Ao35 t480.length co35 : Value).ownBlock ∧ some k_ ≠ (.slice Ao46 t469.length co46 : Value).ownBlock) (Kd.R_keptB (HO_461000.out) hkp (fun k_ hk_ hs_ => (hk_.2) hs_)) (fun k_ hk_ => ⟨hk_.1.1, hk_.1.2⟩)); replace HO_465000 := Aside0.mk (Kd.R_mono (ok' := fun k_ => some k_ ≠ (.slice Ao29 t456.length co29 : Value).ownBlock ∧ some k_ ≠ (.slice Ao46 t469.length co46 : Value).ownBlock) (Kd.R_keptB (HO_465000.out) hkp (fun k_ hk_ hs_ => (hk_.2) hs_)) (fun k_ hk_ => ⟨hk_.1.1, hk_.1.2⟩)); replace BK446 := Aside0.mk (blk_kept (bk BK446) hkp (fun hs_ => (fun e_ => (Kd.R_ne HO_474000.out BK446.out (by decide)) e_) hs_)); replace BK447 := Aside0.mk (blk_kept (bk BK447) hkp (fun hs_ => (fun e_ => (Kd.R_ne HO_474000.out BK447.out (by decide)) e_) hs_)); replace BK460 := Aside0.mk (blk_kept (bk BK460) hkp (fun hs_ => (fun e_ => (Kd.R_ne HO_474000.out BK460.out (by decide)) e_) hs_)); replace BK464 := Aside0.mk (blk_kept (bk BK464) hkp (fun hs_ => (fun e_ => (Kd.R_ne HO_474000.out BK464.out (by decide)) e_) hs_)); replace BK473 := Aside0.mk (blk_kept (bk BK473) hkp (fun hs_ => (fun e_ => (Kd.R_ne HO_474000.out BK473.out (by decide)) e_) hs_)); replace HO_474000 := Aside0.mk (Kd.R_reok rfl hy0 (fun k_ e_ => HO_474000.out.1 k_ e_)); replace HB := Aside0.mk (hb); (try clear hb); (try clear hkp); (try clear hy0); have hcz119_0 := cz1 BK473; have hfz119_0 := fz1 BK473) | ((with_reducible refine gate_callee (f := 32) rfl ?_); refine goesL_ (some 73) rfl rfl Try.func32 (by kernel_rfl) rfl #[.agg #[.slice Ao46 t483.length co46], .int .i64 1] rfl (by (try simp only [List.map_toArray, List.map_cons, List.map_nil]); first | done | (rw [show t483.length = t469.length from (Kd.R_reads' HO_474000.out).1.symm] <;> rfl) | rfl | (simp only [List.length_drop, List.length_take]; rfl)) ?_; (with_reducible refine (laws_heldFileMap.calls kj74 _ _ t483 1 t484 _ ?side1 ?side2 A111.out).mono ?_); (case side1 => exact rc0 HO_474000); (case side2 => rw [show t483.length = t469.length from (Kd.R_reads' HO_474000.out).1.symm]; exact (Kd.R_reads' HO_474000.out).2.1); rintro e w120 ⟨rfl, hb⟩; refine ⟨_, rfl, ?_⟩; replace HO_461000 := nr HO_461000 hb; replace HO_465000 := nr HO_465000 hb; replace HO_474000 := nr HO_474000 hb; replace BK446 := nb BK446 hb; replace BK447 := nb BK447 hb; replace BK460 := nb BK460 hb; replace BK464 := nb BK464 hb; replace BK473 := nb BK473 hb; replace HB := Aside0.mk (below_step (bs5 HB GE446 GE447 GE460 GE464 GE473) hb); (try clear hb); (try clear hb2); (try clear hk); (try clear hi)))
          go_ret
          exact ⟨by first | rfl | (simp [errW_none, errW_some] <;> rfl) | (simp [*, errW_none, errW_some] <;> rfl), bs5 HB GE446 GE447 GE460 GE464 GE473⟩
         ·
          rw [if_neg c112] at H
          have c112b0 : decide (t484 < 0) = false := decide_eq_false c112
          clear c112
          by_cases c121 : t484 = t482
          ·
           rw [if_pos c121] at H
           have c121b0 : (t484 == t482) = true := beq_iff_eq.mpr c121
           have c121b1 : (t484 != t482) = false := bne_eq_false_iff_eq.mpr c121
           clear c121
           replace H := Option.bind_eq_some_iff.mp H
           obtain ⟨t485, A1220, H⟩ := H
           replace H : ((laws_toPiece.f a1_0 a1_1 a1_2 a1_3).bind fun bt488 => ((impl_MapPiece.f kj74 t485 bt488.1 bt488.2.1 bt488.2.2.1 bt488.2.2.2).bind fun bt492 => ((laws_eqFileMap.f kj74 bt492.1 t456).bind fun t497 => (if t497 = true then (laws_FnExactMapPiece.j2 kj74 t482 (bt492.2 != t459) t483) else (laws_FnExactMapPiece.j2 kj74 t482 true t483))))) = some r := H
           have A122 := Aside0.mk A1220
           clear A1220
           replace H := Option.bind_eq_some_iff.mp H
           obtain ⟨⟨t488, t489, t490, t491⟩, A1230, H⟩ := H
           replace H : ((impl_MapPiece.f kj74 t485 t488 t489 t490 t491).bind fun bt492 => ((laws_eqFileMap.f kj74 bt492.1 t456).bind fun t497 => (if t497 = true then (laws_FnExactMapPiece.j2 kj74 t482 (bt492.2 != t459) t483) else (laws_FnExactMapPiece.j2 kj74 t482 true t483)))) = some r := H
           have A123 := Aside0.mk A1230
           clear A1230
           replace H := Option.bind_eq_some_iff.mp H
           obtain ⟨⟨t492, t495⟩, A1240, H⟩ := H
           replace H : ((laws_eqFileMap.f kj74 t492 t456).bind fun t497 => (if t497 = true then (laws_FnExactMapPiece.j2 kj74 t482 (t495 != t459) t483) else (laws_FnExactMapPiece.j2 kj74 t482 true t483))) = some r := H
           have A124 := Aside0.mk A1240
           clear A1240
           have HC125 := Aside0.mk H
           clear H
           have hnb126 := NB473_446.out
           have hnc126 := NB446_473.out
           have hnb127 := NB473_447.out
           have hnc127 := NB447_473.out
           have hnb128 := NB473_460.out
           have hnc128 := NB460_473.out
           have hnb129 := NB473_464.out
           have hnc129 := NB464_473.out
           have hcz130_0 := cz1 BK473
           have hfz130_0 := fz1 BK473
           try go_wp2_with (first | ((with_reducible refine gate_callee (f := 26) rfl ?_); refine gL (some 70) rfl rfl Try.func26 (by kernel_rfl) rfl #[.agg #[.slice Ao46 t469.length co46], .int .i64 1] rfl ?_; (with_reducible refine (laws_markFileMap.calls kj74 (fun k_ => some k_ = (.slice Ao46 t469.length co46 : Value).ownBlock) (.slice Ao46 t469.length co46) t469 1 t482 t483 w _ ?side1 ?side2 A110.out).mono ?_); (case side1 => repeat (first | (with_reducible first | exact HB.out | apply below_alloc | apply pw_below_drewN | apply below_drew1 | refine below_set ?_ GE446.out | refine below_set ?_ GE447.out | refine below_set ?_ GE460.out | refine below_set ?_ GE464.out | refine below_set ?_ GE473.out) | exact HB.out)); (case side2 => exact Kd.R_tight rfl HO_474000.out); rintro e w131 ⟨rfl, hy0, hb, hkp⟩; refine ⟨_, rfl, ?_⟩; replace HO_461000 := Aside0.mk (Kd.R_mono (ok' := fun k_ => some k_ ≠ (.slice Ao35 t480.length co35 : Value).ownBlock ∧ some k_ ≠ (.slice Ao46 t469.length co46 : Value).ownBlock) (Kd.R_keptB (HO_461000.out) hkp (fun k_ hk_ hs_ => (hk_.2) hs_)) (fun k_ hk_ => ⟨hk_.1.1, hk_.1.2⟩)); replace HO_465000 := Aside0.mk (Kd.R_mono (ok' := fun k_ => some k_ ≠ (.slice Ao29 t456.length co29 : Value).ownBlock ∧ some k_ ≠ (.slice Ao46 t469.length co46 : Value).ownBlock) (Kd.R_keptB (HO_465000.out) hkp (fun k_ hk_ hs_ => (hk_.2) hs_)) (fun k_ hk_ => ⟨hk_.1.1, hk_.1.2⟩)); replace BK446 := Aside0.mk (blk_kept (bk BK446) hkp (fun hs_ => (fun e_ => (Kd.R_ne HO_474000.out BK446.out (by decide)) e_) hs_)); replace BK447 := Aside0.mk (blk_kept (bk BK447) hkp (fun hs_ => (fun e_ => (Kd.R_ne HO_474000.out BK447.out (by decide)) e_) hs_)); replace BK460 := Aside0.mk (blk_kept (bk BK460) hkp (fun hs_ => (fun e_ => (Kd.R_ne HO_474000.out BK460.out (by decide)) e_) hs_)); replace BK464 := Aside0.mk (blk_kept (bk BK464) hkp (fun hs_ => (fun e_ => (Kd.R_ne HO_474000.out BK464.out (by decide)) e_) hs_)); replace BK473 := Aside0.mk (blk_kept (bk BK473) hkp (fun hs_ => (fun e_ => (Kd.R_ne HO_474000.out BK473.out (by decide)) e_) hs_)); replace HO_474000 := Aside0.mk (Kd.R_reok rfl hy0 (fun k_ e_ => HO_474000.out.1 k_ e_)); replace HB := Aside0.mk (hb); (try clear hb); (try clear hkp); (try clear hy0); have hcz132_0 := cz1 BK473; have hfz132_0 := fz1 BK473) | ((with_reducible refine gate_callee (f := 32) rfl ?_); refine goesL_ (some 73) rfl rfl Try.func32 (by kernel_rfl) rfl #[.agg #[.slice Ao46 t483.length co46], .int .i64 1] rfl (by (try simp only [List.map_toArray, List.map_cons, List.map_nil]); first | done | (rw [show t483.length = t469.length from (Kd.R_reads' HO_474000.out).1.symm] <;> rfl) | rfl | (simp only [List.length_drop, List.length_take]; rfl)) ?_; (with_reducible refine (laws_heldFileMap.calls kj74 _ _ t483 1 t484 _ ?side1 ?side2 A111.out).mono ?_); (case side1 => exact rc0 HO_474000); (case side2 => rw [show t483.length = t469.length from (Kd.R_reads' HO_474000.out).1.symm]; exact (Kd.R_reads' HO_474000.out).2.1); rintro e w133 ⟨rfl, hb⟩; refine ⟨_, rfl, ?_⟩; replace HO_461000 := nr HO_461000 hb; replace HO_465000 := nr HO_465000 hb; replace HO_474000 := nr HO_474000 hb; replace BK446 := nb BK446 hb; replace BK447 := nb BK447 hb; replace BK460 := nb BK460 hb; replace BK464 := nb BK464 hb; replace BK473 := nb BK473 hb; replace HB := Aside0.mk (below_step (bs5 HB GE446 GE447 GE460 GE464 GE473) hb); (try clear hb); (try clear hb2); (try clear hk); (try clear hi)))
           have n0_ := Aside0.mk (Kd.R_drew HO_461000.out)
           have n1_ := Aside0.mk (Kd.R_drew HO_465000.out)
           have n2_ := Aside0.mk (Kd.R_drew HO_474000.out)
           have n3_ := Aside0.mk (blk_drew BK446.out)
           have n4_ := Aside0.mk (blk_drew BK447.out)
           have n5_ := Aside0.mk (blk_drew BK460.out)
           have n6_ := Aside0.mk (blk_drew BK464.out)
           have n7_ := Aside0.mk (blk_drew BK473.out)
           have n8_ := Aside0.mk (below_drew1 HB.out)
           clear HO_461000
           clear HO_465000
           clear HO_474000
           clear BK446
           clear BK447
           clear BK460
           clear BK464
           clear BK473
           clear HB
           have HO_461000 := n0_
           have HO_465000 := n1_
           have HO_474000 := n2_
           have BK446 := n3_
           have BK447 := n4_
           have BK460 := n5_
           have BK464 := n6_
           have BK473 := n7_
           have HB := n8_
           clear n0_ n1_ n2_ n3_ n4_ n5_ n6_ n7_ n8_
           refine start_ (n := 11) (S := fun w' => w'.cell? ⟨gb446, 0, none⟩ = some (.slice A0_0 l0_0.length c0_0) ∧ w'.cell? ⟨gb447, 0, none⟩ = some (.int .i64 a1_0) ∧ w'.cell? ⟨gb447, 1, none⟩ = some (.int .i64 a1_1) ∧ w'.cell? ⟨gb447, 2, none⟩ = some (.int .i64 a1_2) ∧ w'.cell? ⟨gb447, 3, none⟩ = some (.bool a1_3)) (ds := []) #[false, false, false, false, false, false, false, false, false, false, false] (by kernel_rfl) rfl rfl ⟨(blk_cell BK446.out 0).trans rfl, (blk_cell BK447.out 0).trans rfl, (blk_cell BK447.out 1).trans rfl, (blk_cell BK447.out 2).trans rfl, (blk_cell BK447.out 3).trans rfl⟩ (fun hHeld => ?_); refine with_tabW laws_FnExactMapPiece.tab24 laws_FnExactMapPiece.bits24 (fun HT_ HW_ => ?_)
           generalize w133.drew = w134 at HO_461000 HO_465000 HO_474000 BK446 BK447 BK460 BK464 BK473 HB hHeld ⊢
           refine take_ (i := 0) (N := some 80) (v := ?_) (a' := ?_) #[true, false, false, false, false, false, false, false, false, false, false] rfl rfl (take_ofW HT_.out HW_.out (by kernel_rfl)) (fun _ _ _ h => h) (Or.inl ⟨by rfl, ?_⟩) hHeld ?_ ?_
           rotate_left
           ·
            rintro w' ⟨s0, s1, s2, s3, s4⟩
            go_simp
            with_reducible rfl
           rotate_left
           ·
            simp only [Act.put, List.setIfInBounds_toArray, List.set_cons_zero, List.set_cons_succ, i64_w, i32_w]
            rfl
           refine take_ (i := 2) (N := some 82) (v := ?_) (a' := ?_) #[true, false, true, false, false, false, false, false, false, false, false] rfl rfl (take_ofW HT_.out HW_.out (by kernel_rfl)) (fun _ _ _ h => h) (Or.inl ⟨by rfl, ?_⟩) hHeld ?_ ?_
           rotate_left
           ·
            rintro w' ⟨s0, s1, s2, s3, s4⟩
            go_simp
            with_reducible rfl
           rotate_left
           ·
            simp only [Act.put, List.setIfInBounds_toArray, List.set_cons_zero, List.set_cons_succ, i64_w, i32_w]
            rfl
           refine join_ (σ := Value × Value × Nat) 2 #[true, true, true, true, true, true, true, true, true, false, false] (fun s_ => [(81, .agg #[s_.1]), (83, .agg #[.int .i64 t488, .int .i64 t489, .int .i64 t490, .bool t491]), (84, .tuple #[.agg #[s_.2.1], .bool t495]), (14, .pointer (some ⟨s_.2.2, 0, none⟩)), (79, .tuple #[.agg #[s_.2.1], .bool t495]), (85, .agg #[s_.2.1]), (86, .bool t495)]) (fun s_ w' => (w'.cell? ⟨gb446, 0, none⟩ = some (.slice A0_0 l0_0.length c0_0) ∧ w'.cell? ⟨gb447, 0, none⟩ = some (.int .i64 a1_0) ∧ w'.cell? ⟨gb447, 1, none⟩ = some (.int .i64 a1_1) ∧ w'.cell? ⟨gb447, 2, none⟩ = some (.int .i64 a1_2) ∧ w'.cell? ⟨gb447, 3, none⟩ = some (.bool a1_3)) ∧ (Kd.R k48 48 w' w.heap.size (fun k_ => some k_ ≠ (s_.2.1 : Value).ownBlock ∧ some k_ ≠ (.slice Ao29 t456.length co29 : Value).ownBlock ∧ some k_ ≠ (.slice Ao35 t480.length co35 : Value).ownBlock ∧ some k_ ≠ (.slice Ao46 t469.length co46 : Value).ownBlock) s_.1 t485) ∧ (Kd.R k48 48 w' w.heap.size (fun k_ => some k_ ≠ (s_.1 : Value).ownBlock ∧ some k_ ≠ (.slice Ao29 t456.length co29 : Value).ownBlock ∧ some k_ ≠ (.slice Ao35 t480.length co35 : Value).ownBlock ∧ some k_ ≠ (.slice Ao46 t469.length co46 : Value).ownBlock) s_.2.1 t492) ∧ (Kd.R k48 48 w' w.heap.size (fun k_ => some k_ ≠ (s_.1 : Value).ownBlock ∧ some k_ ≠ (s_.2.1 : Value).ownBlock ∧ some k_ ≠ (.slice Ao35 t480.length co35 : Value).ownBlock ∧ some k_ ≠ (.slice Ao46 t469.length co46 : Value).ownBlock) (.slice Ao29 t456.length co29) t456) ∧ (Kd.R k48 48 w' w.heap.size (fun k_ => some k_ ≠ (s_.1 : Value).ownBlock ∧ some k_ ≠ (s_.2.1 : Value).ownBlock ∧ some k_ ≠ (.slice Ao29 t456.length co29 : Value).ownBlock ∧ some k_ ≠ (.slice Ao46 t469.length co46 : Value).ownBlock) (.slice Ao35 t480.length co35) t480) ∧ (Kd.R k48 48 w' w.heap.size (fun k_ => some k_ ≠ (s_.1 : Value).ownBlock ∧ some k_ ≠ (s_.2.1 : Value).ownBlock ∧ some k_ ≠ (.slice Ao29 t456.length co29 : Value).ownBlock ∧ some k_ ≠ (.slice Ao35 t480.length co35 : Value).ownBlock) (.slice Ao46 t469.length co46) t483) ∧ (w'.heap[gb446]? = some (.cells #[.slice A0_0 l0_0.length c0_0] 24 (0, 0))) ∧ (w'.heap[gb447]? = some (.cells #[.int .i64 a1_0, .int .i64 a1_1, .int .i64 a1_2, .bool a1_3] 45 (0, 0))) ∧ (w'.heap[gb460]? = some (.cells #[.slice Ao29 t456.length co29] 29 (0, 0))) ∧ (w'.heap[gb464]? = some (.cells #[.slice Ao35 t480.length co35] 29 (0, 0))) ∧ (w'.heap[gb473]? = some (.cells #[.slice Ao46 t469.length co46] 29 (0, 0))) ∧ (w'.heap[s_.2.2]? = some (.cells #[.slice none 0 0] 29 (0, 0))) ∧ (w.heap.size ≤ s_.2.2) ∧ (w.heap.size ≤ s_.2.2) ∧ (gb446 ≠ s_.2.2) ∧ (s_.2.2 ≠ gb446) ∧ (gb447 ≠ s_.2.2) ∧ (s_.2.2 ≠ gb447) ∧ (gb460 ≠ s_.2.2) ∧ (s_.2.2 ≠ gb460) ∧ (gb464 ≠ s_.2.2) ∧ (s_.2.2 ≠ gb464) ∧ (gb473 ≠ s_.2.2) ∧ (s_.2.2 ≠ gb473) ∧ (Below w.heap.size w w')) ?_ ?_
           rotate_left
           ·
            intro hCont
            refine two_ (i := 1) (j := 8) (Ni := some 81) (Nj := some 14) #[true, true, true, false, false, false, false, false, false, false, false] #[true, false, true, false, false, false, false, false, true, false, false] rfl rfl rfl rfl (two_of HT_.out (by kernel_rfl)) (by decide) (by decide) (fun K hK => ?_) (fun K hK => ?_)
            ·
             skip
             refine goes_ Try.func16 (by kernel_rfl) rfl #[.agg #[.slice A0_0 l0_0.length c0_0]] (by rfl) rfl rfl (by (try simp only [List.map_toArray, List.map_cons, List.map_nil]); first | done | rfl | (simp only [List.length_drop, List.length_take]; rfl)) ?_
             with_reducible refine (laws_toFileMap.calls kj74 _ _ l0_0 t485 _ ?side1 ?side2 A122.out).mono ?_
             (case side1 => exact cb HR0_0 HB)
             (case side2 => exact HC0_0.out)
             rintro e w135 ⟨v486, rfl, ho0, hb⟩
             refine ⟨_, rfl, ?_⟩
             have n0_ := Aside0.mk (Kd.R_elder' (rr HO_461000.out) (Kd.R_base ho0) hb)
             have n1_ := Aside0.mk (Kd.R_elder' (rr HO_465000.out) (Kd.R_base ho0) hb)
             have n2_ := Aside0.mk (Kd.R_elder' (rr HO_474000.out) (Kd.R_base ho0) hb)
             have n3_ := Aside0.mk (Kd.R_lower (Kd.R_new' (Kd.R_new' (Kd.R_new' ho0 (Kd.R_lt (rr HO_461000.out))) (Kd.R_lt (rr HO_465000.out))) (Kd.R_lt (rr HO_474000.out))) (below_size (bs5 HB GE446 GE447 GE460 GE464 GE473)))
             have n4_ := Aside0.mk (bb BK446 hb)
             have n5_ := Aside0.mk (bb BK447 hb)
             have n6_ := Aside0.mk (bb BK460 hb)
             have n7_ := Aside0.mk (bb BK464 hb)
             have n8_ := Aside0.mk (bb BK473 hb)
             have n9_ := Aside0.mk (below_step (bs5 HB GE446 GE447 GE460 GE464 GE473) hb)
             clear HO_461000
             clear HO_465000
             clear HO_474000
             clear BK446
             clear BK447
             clear BK460
             clear BK464
             clear BK473
             clear HB
             have HO_461000 := n0_
             have HO_465000 := n1_
             have HO_474000 := n2_
             have HO487 := n3_
             have BK446 := n4_
             have BK447 := n5_
             have BK460 := n6_
             have BK464 := n7_
             have BK473 := n8_
             have HB := n9_
             clear n0_ n1_ n2_ n3_ n4_ n5_ n6_ n7_ n8_ n9_
             (try clear hb)
             (try clear hb2)
             (try clear hk)
             (try clear hi)
             (try clear ho0)
             refine hK.out _ _ ⟨(blk_cell BK446.out 0).trans rfl, (blk_cell BK447.out 0).trans rfl, (blk_cell BK447.out 1).trans rfl, (blk_cell BK447.out 2).trans rfl, (blk_cell BK447.out 3).trans rfl⟩ (fun hHeld => ?_)
             clear hK K
             refine norm_ (a' := ?_) ?_ ?_
             rotate_left
             ·
              show Act.put _ (some 81) _ = _
              simp only [Act.put, List.setIfInBounds_toArray, List.set_cons_zero, List.set_cons_succ, i64_w, i32_w]
              rfl
             refine two_ (i := 3) (j := 8) (Ni := some 83) (Nj := some 14) #[true, true, true, true, false, false, false, false, false, false, false] #[true, true, true, false, false, false, false, false, true, false, false] rfl rfl rfl rfl (two_of HT_.out (by kernel_rfl)) (by decide) (by decide) (fun K hK => ?_) (fun K hK => ?_)
             ·
              skip
              refine goes_ Try.func30 (by kernel_rfl) rfl #[.agg #[.int .i64 a1_0, .int .i64 a1_1, .int .i64 a1_2, .bool a1_3]] (by rfl) rfl rfl (by (try simp only [List.map_toArray, List.map_cons, List.map_nil]); first | done | rfl | (simp only [List.length_drop, List.length_take]; rfl)) ?_
              with_reducible refine (laws_toPiece.calls a1_0 a1_1 a1_2 a1_3 t488 t489 t490 t491 _ A123.out).mono ?_
              rintro e w136 ⟨rfl, hb⟩
              refine ⟨_, rfl, ?_⟩
              have n0_ := Aside0.mk (Kd.R_below (rr HO_461000.out) hb)
              have n1_ := Aside0.mk (Kd.R_below (rr HO_465000.out) hb)
              have n2_ := Aside0.mk (Kd.R_below (rr HO_474000.out) hb)
              have n3_ := Aside0.mk (Kd.R_below (rr HO487.out) hb)
              have n4_ := Aside0.mk (bb BK446 hb)
              have n5_ := Aside0.mk (bb BK447 hb)
              have n6_ := Aside0.mk (bb BK460 hb)
              have n7_ := Aside0.mk (bb BK464 hb)
              have n8_ := Aside0.mk (bb BK473 hb)
              have n9_ := Aside0.mk (below_step (bs5 HB GE446 GE447 GE460 GE464 GE473) hb)
              clear HO_461000
              clear HO_465000
              clear HO_474000
              clear HO487
              clear BK446
              clear BK447
              clear BK460
              clear BK464
              clear BK473
              clear HB
              have HO_461000 := n0_
              have HO_465000 := n1_
              have HO_474000 := n2_
              have HO487 := n3_
              have BK446 := n4_
              have BK447 := n5_
              have BK460 := n6_
              have BK464 := n7_
              have BK473 := n8_
              have HB := n9_
              clear n0_ n1_ n2_ n3_ n4_ n5_ n6_ n7_ n8_ n9_
              (try clear hb)
              (try clear hb2)
              (try clear hk)
              (try clear hi)
              obtain ⟨Ao137, co137, eo137⟩ := Kd.R_slice HO487.out
              (first | subst eo137 | (injection eo137 with f1_ f2_ f3_; have f4_ := f1_.symm; have f5_ := f3_.symm; clear f1_ f2_ f3_; subst f4_; subst f5_))
              refine hK.out _ _ ⟨(blk_cell BK446.out 0).trans rfl, (blk_cell BK447.out 0).trans rfl, (blk_cell BK447.out 1).trans rfl, (blk_cell BK447.out 2).trans rfl, (blk_cell BK447.out 3).trans rfl⟩ (fun hHeld => ?_)
              clear hK K
              refine norm_ (a' := ?_) ?_ ?_
              rotate_left
              ·
               show Act.put _ (some 83) _ = _
               simp only [Act.put, List.setIfInBounds_toArray, List.set_cons_zero, List.set_cons_succ, i64_w, i32_w]
               rfl
              refine two_ (i := 4) (j := 8) (Ni := some 84) (Nj := some 14) #[true, true, true, true, true, false, false, false, false, false, false] #[true, true, true, true, false, false, false, false, true, false, false] rfl rfl rfl rfl (two_of HT_.out (by kernel_rfl)) (by decide) (by decide) (fun K hK => ?_) (fun K hK => ?_)
              ·
               skip
               refine goes_ Try.func31 (by kernel_rfl) rfl #[.agg #[.slice Ao137 t485.length co137], .agg #[.int .i64 t488, .int .i64 t489, .int .i64 t490, .bool t491]] (by rfl) rfl rfl (by (try simp only [List.map_toArray, List.map_cons, List.map_nil]); first | done | rfl | (simp only [List.length_drop, List.length_take]; rfl)) ?_
               with_reducible refine (impl_MapPiece.calls kj74 _ _ t485 t488 t489 t490 t491 t492 t495 _ ?side1 ?side2 A124.out).mono ?_
               (case side1 => exact rc0 HO487)
               (case side2 => exact (Kd.R_reads' HO487.out).2.1)
               rintro e w138 ⟨v493, rfl, ho0, hb⟩
               refine ⟨_, rfl, ?_⟩
               have n0_ := Aside0.mk (Kd.R_elder' (rr HO_461000.out) (Kd.R_base ho0) hb)
               have n1_ := Aside0.mk (Kd.R_elder' (rr HO_465000.out) (Kd.R_base ho0) hb)
               have n2_ := Aside0.mk (Kd.R_elder' (rr HO_474000.out) (Kd.R_base ho0) hb)
               have n3_ := Aside0.mk (Kd.R_elder' (rr HO487.out) (Kd.R_base ho0) hb)
               have n4_ := Aside0.mk (Kd.R_lower (Kd.R_new' (Kd.R_new' (Kd.R_new' (Kd.R_new' ho0 (Kd.R_lt (rr HO_461000.out))) (Kd.R_lt (rr HO_465000.out))) (Kd.R_lt (rr HO_474000.out))) (Kd.R_lt (rr HO487.out))) (below_size (bs5 HB GE446 GE447 GE460 GE464 GE473)))
               have n5_ := Aside0.mk (bb BK446 hb)
               have n6_ := Aside0.mk (bb BK447 hb)
               have n7_ := Aside0.mk (bb BK460 hb)
               have n8_ := Aside0.mk (bb BK464 hb)
               have n9_ := Aside0.mk (bb BK473 hb)
               have n10_ := Aside0.mk (below_step (bs5 HB GE446 GE447 GE460 GE464 GE473) hb)
               clear HO_461000
               clear HO_465000
               clear HO_474000
               clear HO487
               clear BK446
               clear BK447
               clear BK460
               clear BK464
               clear BK473
               clear HB
               have HO_461000 := n0_
               have HO_465000 := n1_
               have HO_474000 := n2_
               have HO487 := n3_
               have HO494 := n4_
               have BK446 := n5_
               have BK447 := n6_
               have BK460 := n7_
               have BK464 := n8_
               have BK473 := n9_
               have HB := n10_
               clear n0_ n1_ n2_ n3_ n4_ n5_ n6_ n7_ n8_ n9_ n10_
               (try clear hb)
               (try clear hb2)
               (try clear hk)
               (try clear hi)
               (try clear ho0)
               refine hK.out _ _ ⟨(blk_cell BK446.out 0).trans rfl, (blk_cell BK447.out 0).trans rfl, (blk_cell BK447.out 1).trans rfl, (blk_cell BK447.out 2).trans rfl, (blk_cell BK447.out 3).trans rfl⟩ (fun hHeld => ?_)
               clear hK K
               refine norm_ (a' := ?_) ?_ ?_
               rotate_left
               ·
                show Act.put _ (some 84) _ = _
                simp only [Act.put, List.setIfInBounds_toArray, List.set_cons_zero, List.set_cons_succ, i64_w, i32_w]
                rfl
               refine pure_ (i := 5) (N := some 79) (v := ?_) (a' := ?_) #[true, true, true, true, true, true, false, false, false, false, false] rfl rfl (any_of HT_.out (by kernel_rfl)) (fun _ _ _ h => h) (Or.inl ⟨by rfl, ?_⟩) ?_ ?_
               rotate_left
               ·
                intro w'
                go_simp
                with_reducible rfl
               rotate_left
               ·
                simp only [Act.put, List.setIfInBounds_toArray, List.set_cons_zero, List.set_cons_succ, i64_w, i32_w]
                rfl
               refine pure_ (i := 6) (N := some 85) (v := ?_) (a' := ?_) #[true, true, true, true, true, true, true, false, false, false, false] rfl rfl (any_of HT_.out (by kernel_rfl)) (fun _ _ _ h => h) (Or.inl ⟨by rfl, ?_⟩) ?_ ?_
               rotate_left
               ·
                intro w'
                go_simp
                with_reducible rfl
               rotate_left
               ·
                simp only [Act.put, List.setIfInBounds_toArray, List.set_cons_zero, List.set_cons_succ, i64_w, i32_w]
                rfl
               refine pure_ (i := 7) (N := some 86) (v := ?_) (a' := ?_) #[true, true, true, true, true, true, true, true, false, false, false] rfl rfl (any_of HT_.out (by kernel_rfl)) (fun _ _ _ h => h) (Or.inl ⟨by rfl, ?_⟩) ?_ ?_
               rotate_left
               ·
                intro w'
                go_simp
                with_reducible rfl
               rotate_left
               ·
                simp only [Act.put, List.setIfInBounds_toArray, List.set_cons_zero, List.set_cons_succ, i64_w, i32_w]
                rfl
               refine one_ (i := 8) (N := some 14) #[true, true, true, true, true, true, true, true, true, false, false] rfl rfl (one_of HT_.out (by kernel_rfl)) (by decide) (fun K hK => ?_)
               refine box_step ?hg (N := 14) ?hd (cs := #[.slice none 0 0]) (t := 29) ?hr ?_; (case hd => rfl); (case hg => rfl); (case hr => first | (go_simp; done) | (go_simp; rfl))
               intro gb496 hg w139 hbox hb
               have n0_ := Aside0.mk (Kd.R_below (rr HO_461000.out) hb)
               have n1_ := Aside0.mk (Kd.R_below (rr HO_465000.out) hb)
               have n2_ := Aside0.mk (Kd.R_below (rr HO_474000.out) hb)
               have n3_ := Aside0.mk (Kd.R_below (rr HO487.out) hb)
               have n4_ := Aside0.mk (Kd.R_below (rr HO494.out) hb)
               have n5_ := Aside0.mk (bb BK446 hb)
               have n6_ := Aside0.mk (bb BK447 hb)
               have n7_ := Aside0.mk (bb BK460 hb)
               have n8_ := Aside0.mk (bb BK464 hb)
               have n9_ := Aside0.mk (bb BK473 hb)
               have n10_ := Aside0.mk (below_step (bs5 HB GE446 GE447 GE460 GE464 GE473) hb)
               have n11_ := Aside0.mk (hbox)
               have n12_ := Aside0.mk ((by rw [hg]; exact (below_size (bs5 HB GE446 GE447 GE460 GE464 GE473)) : w.heap.size ≤ gb496))
               have n13_ := Aside0.mk ((by rw [hg]; exact (below_size (bs5 HB GE446 GE447 GE460 GE464 GE473)) : w.heap.size ≤ gb496))
               have n14_ := Aside0.mk ((bn BK446 hg : gb446 ≠ gb496))
               have n15_ := Aside0.mk ((bm BK446 hg : gb496 ≠ gb446))
               have n16_ := Aside0.mk ((bn BK447 hg : gb447 ≠ gb496))
               have n17_ := Aside0.mk ((bm BK447 hg : gb496 ≠ gb447))
               have n18_ := Aside0.mk ((bn BK460 hg : gb460 ≠ gb496))
               have n19_ := Aside0.mk ((bm BK460 hg : gb496 ≠ gb460))
               have n20_ := Aside0.mk ((bn BK464 hg : gb464 ≠ gb496))
               have n21_ := Aside0.mk ((bm BK464 hg : gb496 ≠ gb464))
               have n22_ := Aside0.mk ((bn BK473 hg : gb473 ≠ gb496))
               have n23_ := Aside0.mk ((bm BK473 hg : gb496 ≠ gb473))
               clear HO_461000
               clear HO_465000
               clear HO_474000
               clear HO487
               clear HO494
               clear BK446
               clear BK447
               clear BK460
               clear BK464
               clear BK473
               clear HB
               have HO_461000 := n0_
               have HO_465000 := n1_
               have HO_474000 := n2_
               have HO487 := n3_
               have HO494 := n4_
               have BK446 := n5_
               have BK447 := n6_
               have BK460 := n7_
               have BK464 := n8_
               have BK473 := n9_
               have HB := n10_
               have BK496 := n11_
               have GW496 := n12_
               have GE496 := n13_
               have NB446_496 := n14_
               have NB496_446 := n15_
               have NB447_496 := n16_
               have NB496_447 := n17_
               have NB460_496 := n18_
               have NB496_460 := n19_
               have NB464_496 := n20_
               have NB496_464 := n21_
               have NB473_496 := n22_
               have NB496_473 := n23_
               clear n0_ n1_ n2_ n3_ n4_ n5_ n6_ n7_ n8_ n9_ n10_ n11_ n12_ n13_ n14_ n15_ n16_ n17_ n18_ n19_ n20_ n21_ n22_ n23_
               clear hb hbox hg
               refine hK.out _ _ ⟨(blk_cell BK446.out 0).trans rfl, (blk_cell BK447.out 0).trans rfl, (blk_cell BK447.out 1).trans rfl, (blk_cell BK447.out 2).trans rfl, (blk_cell BK447.out 3).trans rfl⟩ (fun hHeld => ?_)
               clear hK K
               refine norm_ (a' := ?_) ?_ ?_
               rotate_left
               ·
                show Act.put _ (some 14) _ = _
                simp only [Act.put, List.setIfInBounds_toArray, List.set_cons_zero, List.set_cons_succ, i64_w, i32_w]
                rfl
               exact norm_ (by simp only [putAll, Act.put, List.setIfInBounds_toArray, List.set_cons_zero, List.set_cons_succ]) (hCont (.slice Ao137 t485.length co137, v493, gb496) _ ⟨hHeld, (by (with_reducible repeat (first | apply Kd.R_alloc | apply Kd.R_drewN | apply Kd.R_drew)); exact Kd.R_mono HO487.out (fun _ hk => ⟨hk.2, ⟨hk.1.1.1.2, ⟨hk.1.1.2, hk.1.2⟩⟩⟩)), (by (with_reducible repeat (first | apply Kd.R_alloc | apply Kd.R_drewN | apply Kd.R_drew)); exact Kd.R_mono HO494.out (fun _ hk => ⟨hk.2, ⟨hk.1.1.1.2, ⟨hk.1.1.2, hk.1.2⟩⟩⟩)), (by (with_reducible repeat (first | apply Kd.R_alloc | apply Kd.R_drewN | apply Kd.R_drew)); exact Kd.R_mono HO_461000.out (fun _ hk => ⟨hk.1.2, ⟨hk.2, ⟨hk.1.1.1, hk.1.1.2⟩⟩⟩)), (by (with_reducible repeat (first | apply Kd.R_alloc | apply Kd.R_drewN | apply Kd.R_drew)); exact Kd.R_mono HO_465000.out (fun _ hk => ⟨hk.1.2, ⟨hk.2, ⟨hk.1.1.1, hk.1.1.2⟩⟩⟩)), (by (with_reducible repeat (first | apply Kd.R_alloc | apply Kd.R_drewN | apply Kd.R_drew)); exact Kd.R_mono HO_474000.out (fun _ hk => ⟨hk.1.2, ⟨hk.2, ⟨hk.1.1.1, hk.1.1.2⟩⟩⟩)), (bk BK446), (bk BK447), (bk BK460), (bk BK464), (bk BK473), (bk BK496), GW496.out, GE496.out, NB446_496.out, NB496_446.out, NB447_496.out, NB496_447.out, NB460_496.out, NB496_460.out, NB464_496.out, NB496_464.out, NB473_496.out, NB496_473.out, (bs6 HB GE446 GE447 GE460 GE464 GE473 GE496)⟩)
              ·
               skip
               refine box_step ?hg (N := 14) ?hd (cs := #[.slice none 0 0]) (t := 29) ?hr ?_; (case hd => rfl); (case hg => rfl); (case hr => first | (go_simp; done) | (go_simp; rfl))
               intro gb496 hg w137 hbox hb
               have n0_ := Aside0.mk (Kd.R_below (rr HO_461000.out) hb)
               have n1_ := Aside0.mk (Kd.R_below (rr HO_465000.out) hb)
               have n2_ := Aside0.mk (Kd.R_below (rr HO_474000.out) hb)
               have n3_ := Aside0.mk (Kd.R_below (rr HO487.out) hb)
               have n4_ := Aside0.mk (bb BK446 hb)
               have n5_ := Aside0.mk (bb BK447 hb)
               have n6_ := Aside0.mk (bb BK460 hb)
               have n7_ := Aside0.mk (bb BK464 hb)
               have n8_ := Aside0.mk (bb BK473 hb)
               have n9_ := Aside0.mk (below_step (bs5 HB GE446 GE447 GE460 GE464 GE473) hb)
               have n10_ := Aside0.mk (hbox)
               have n11_ := Aside0.mk ((by rw [hg]; exact (below_size (bs5 HB GE446 GE447 GE460 GE464 GE473)) : w.heap.size ≤ gb496))
               have n12_ := Aside0.mk ((by rw [hg]; exact (below_size (bs5 HB GE446 GE447 GE460 GE464 GE473)) : w.heap.size ≤ gb496))
               have n13_ := Aside0.mk ((bn BK446 hg : gb446 ≠ gb496))
               have n14_ := Aside0.mk ((bm BK446 hg : gb496 ≠ gb446))
               have n15_ := Aside0.mk ((bn BK447 hg : gb447 ≠ gb496))
               have n16_ := Aside0.mk ((bm BK447 hg : gb496 ≠ gb447))
               have n17_ := Aside0.mk ((bn BK460 hg : gb460 ≠ gb496))
               have n18_ := Aside0.mk ((bm BK460 hg : gb496 ≠ gb460))
               have n19_ := Aside0.mk ((bn BK464 hg : gb464 ≠ gb496))
               have n20_ := Aside0.mk ((bm BK464 hg : gb496 ≠ gb464))
               have n21_ := Aside0.mk ((bn BK473 hg : gb473 ≠ gb496))
               have n22_ := Aside0.mk ((bm BK473 hg : gb496 ≠ gb473))
               clear HO_461000
               clear HO_465000
               clear HO_474000
               clear HO487
               clear BK446
               clear BK447
               clear BK460
               clear BK464
               clear BK473
               clear HB
               have HO_461000 := n0_
               have HO_465000 := n1_
               have HO_474000 := n2_
               have HO487 := n3_
               have BK446 := n4_
               have BK447 := n5_
               have BK460 := n6_
               have BK464 := n7_
               have BK473 := n8_
               have HB := n9_
               have BK496 := n10_
               have GW496 := n11_
               have GE496 := n12_
               have NB446_496 := n13_
               have NB496_446 := n14_
               have NB447_496 := n15_
               have NB496_447 := n16_
               have NB460_496 := n17_
               have NB496_460 := n18_
               have NB464_496 := n19_
               have NB496_464 := n20_
               have NB473_496 := n21_
               have NB496_473 := n22_
               clear n0_ n1_ n2_ n3_ n4_ n5_ n6_ n7_ n8_ n9_ n10_ n11_ n12_ n13_ n14_ n15_ n16_ n17_ n18_ n19_ n20_ n21_ n22_
               clear hb hbox hg
               obtain ⟨Ao138, co138, eo138⟩ := Kd.R_slice HO487.out
               (first | subst eo138 | (injection eo138 with f1_ f2_ f3_; have f4_ := f1_.symm; have f5_ := f3_.symm; clear f1_ f2_ f3_; subst f4_; subst f5_))
               refine hK.out _ _ ⟨(blk_cell BK446.out 0).trans rfl, (blk_cell BK447.out 0).trans rfl, (blk_cell BK447.out 1).trans rfl, (blk_cell BK447.out 2).trans rfl, (blk_cell BK447.out 3).trans rfl⟩ (fun hHeld => ?_)
               clear hK K
               refine norm_ (a' := ?_) ?_ ?_
               rotate_left
               ·
                show Act.put _ (some 14) _ = _
                simp only [Act.put, List.setIfInBounds_toArray, List.set_cons_zero, List.set_cons_succ, i64_w, i32_w]
                rfl
               refine one_ (i := 4) (N := some 84) #[true, true, true, true, true, false, false, false, true, false, false] rfl rfl (one_of HT_.out (by kernel_rfl)) (by decide) (fun K hK => ?_)
               refine goes_ Try.func31 (by kernel_rfl) rfl #[.agg #[.slice Ao138 t485.length co138], .agg #[.int .i64 t488, .int .i64 t489, .int .i64 t490, .bool t491]] (by rfl) rfl rfl (by (try simp only [List.map_toArray, List.map_cons, List.map_nil]); first | done | rfl | (simp only [List.length_drop, List.length_take]; rfl)) ?_
               with_reducible refine (impl_MapPiece.calls kj74 _ _ t485 t488 t489 t490 t491 t492 t495 _ ?side1 ?side2 A124.out).mono ?_
               (case side1 => exact rc0 HO487)
               (case side2 => exact (Kd.R_reads' HO487.out).2.1)
               rintro e w139 ⟨v493, rfl, ho0, hb⟩
               refine ⟨_, rfl, ?_⟩
               have n0_ := Aside0.mk (Kd.R_elder' (rr HO_461000.out) (Kd.R_base ho0) hb)
               have n1_ := Aside0.mk (Kd.R_elder' (rr HO_465000.out) (Kd.R_base ho0) hb)
               have n2_ := Aside0.mk (Kd.R_elder' (rr HO_474000.out) (Kd.R_base ho0) hb)
               have n3_ := Aside0.mk (Kd.R_elder' (rr HO487.out) (Kd.R_base ho0) hb)
               have n4_ := Aside0.mk (Kd.R_lower (Kd.R_new' (Kd.R_new' (Kd.R_new' (Kd.R_new' ho0 (Kd.R_lt (rr HO_461000.out))) (Kd.R_lt (rr HO_465000.out))) (Kd.R_lt (rr HO_474000.out))) (Kd.R_lt (rr HO487.out))) (below_size (bs6 HB GE446 GE447 GE460 GE464 GE473 GE496)))
               have n5_ := Aside0.mk (bb BK446 hb)
               have n6_ := Aside0.mk (bb BK447 hb)
               have n7_ := Aside0.mk (bb BK460 hb)
               have n8_ := Aside0.mk (bb BK464 hb)
               have n9_ := Aside0.mk (bb BK473 hb)
               have n10_ := Aside0.mk (bb BK496 hb)
               have n11_ := Aside0.mk (below_step (bs6 HB GE446 GE447 GE460 GE464 GE473 GE496) hb)
               clear HO_461000
               clear HO_465000
               clear HO_474000
               clear HO487
               clear BK446
               clear BK447
               clear BK460
               clear BK464
               clear BK473
               clear BK496
               clear HB
               have HO_461000 := n0_
               have HO_465000 := n1_
               have HO_474000 := n2_
               have HO487 := n3_
               have HO494 := n4_
               have BK446 := n5_
               have BK447 := n6_
               have BK460 := n7_
               have BK464 := n8_
               have BK473 := n9_
               have BK496 := n10_
               have HB := n11_
               clear n0_ n1_ n2_ n3_ n4_ n5_ n6_ n7_ n8_ n9_ n10_ n11_
               (try clear hb)
               (try clear hb2)
               (try clear hk)
               (try clear hi)
               (try clear ho0)
               refine hK.out _ _ ⟨(blk_cell BK446.out 0).trans rfl, (blk_cell BK447.out 0).trans rfl, (blk_cell BK447.out 1).trans rfl, (blk_cell BK447.out 2).trans rfl, (blk_cell BK447.out 3).trans rfl⟩ (fun hHeld => ?_)
               clear hK K
               refine norm_ (a' := ?_) ?_ ?_
               rotate_left
               ·
                show Act.put _ (some 84) _ = _
                simp only [Act.put, List.setIfInBounds_toArray, List.set_cons_zero, List.set_cons_succ, i64_w, i32_w]
                rfl
               refine pure_ (i := 5) (N := some 79) (v := ?_) (a' := ?_) #[true, true, true, true, true, true, false, false, true, false, false] rfl rfl (any_of HT_.out (by kernel_rfl)) (fun _ _ _ h => h) (Or.inl ⟨by rfl, ?_⟩) ?_ ?_
               rotate_left
               ·
                intro w'
                go_simp
                with_reducible rfl
               rotate_left
               ·
                simp only [Act.put, List.setIfInBounds_toArray, List.set_cons_zero, List.set_cons_succ, i64_w, i32_w]
                rfl
               refine pure_ (i := 6) (N := some 85) (v := ?_) (a' := ?_) #[true, true, true, true, true, true, true, false, true, false, false] rfl rfl (any_of HT_.out (by kernel_rfl)) (fun _ _ _ h => h) (Or.inl ⟨by rfl, ?_⟩) ?_ ?_
               rotate_left
               ·
                intro w'
                go_simp
                with_reducible rfl
               rotate_left
               ·
                simp only [Act.put, List.setIfInBounds_toArray, List.set_cons_zero, List.set_cons_succ, i64_w, i32_w]
                rfl
               refine pure_ (i := 7) (N := some 86) (v := ?_) (a' := ?_) #[true, true, true, true, true, true, true, true, true, false, false] rfl rfl (any_of HT_.out (by kernel_rfl)) (fun _ _ _ h => h) (Or.inl ⟨by rfl, ?_⟩) ?_ ?_
               rotate_left
               ·
                intro w'
                go_simp
                with_reducible rfl
               rotate_left
               ·
                simp only [Act.put, List.setIfInBounds_toArray, List.set_cons_zero, List.set_cons_succ, i64_w, i32_w]
                rfl
               exact norm_ (by simp only [putAll, Act.put, List.setIfInBounds_toArray, List.set_cons_zero, List.set_cons_succ]) (hCont (.slice Ao138 t485.length co138, v493, gb496) _ ⟨hHeld, (by (with_reducible repeat (first | apply Kd.R_alloc | apply Kd.R_drewN | apply Kd.R_drew)); exact Kd.R_mono HO487.out (fun _ hk => ⟨hk.2, ⟨hk.1.1.1.2, ⟨hk.1.1.2, hk.1.2⟩⟩⟩)), (by (with_reducible repeat (first | apply Kd.R_alloc | apply Kd.R_drewN | apply Kd.R_drew)); exact Kd.R_mono HO494.out (fun _ hk => ⟨hk.2, ⟨hk.1.1.1.2, ⟨hk.1.1.2, hk.1.2⟩⟩⟩)), (by (with_reducible repeat (first | apply Kd.R_alloc | apply Kd.R_drewN | apply Kd.R_drew)); exact Kd.R_mono HO_461000.out (fun _ hk => ⟨hk.1.2, ⟨hk.2, ⟨hk.1.1.1, hk.1.1.2⟩⟩⟩)), (by (with_reducible repeat (first | apply Kd.R_alloc | apply Kd.R_drewN | apply Kd.R_drew)); exact Kd.R_mono HO_465000.out (fun _ hk => ⟨hk.1.2, ⟨hk.2, ⟨hk.1.1.1, hk.1.1.2⟩⟩⟩)), (by (with_reducible repeat (first | apply Kd.R_alloc | apply Kd.R_drewN | apply Kd.R_drew)); exact Kd.R_mono HO_474000.out (fun _ hk => ⟨hk.1.2, ⟨hk.2, ⟨hk.1.1.1, hk.1.1.2⟩⟩⟩)), (bk BK446), (bk BK447), (bk BK460), (bk BK464), (bk BK473), (bk BK496), GW496.out, GE496.out, NB446_496.out, NB496_446.out, NB447_496.out, NB496_447.out, NB460_496.out, NB496_460.out, NB464_496.out, NB496_464.out, NB473_496.out, NB496_473.out, (bs6 HB GE446 GE447 GE460 GE464 GE473 GE496)⟩)
             ·
              skip
              refine box_step ?hg (N := 14) ?hd (cs := #[.slice none 0 0]) (t := 29) ?hr ?_; (case hd => rfl); (case hg => rfl); (case hr => first | (go_simp; done) | (go_simp; rfl))
              intro gb496 hg w136 hbox hb
              have n0_ := Aside0.mk (Kd.R_below (rr HO_461000.out) hb)
              have n1_ := Aside0.mk (Kd.R_below (rr HO_465000.out) hb)
              have n2_ := Aside0.mk (Kd.R_below (rr HO_474000.out) hb)
              have n3_ := Aside0.mk (Kd.R_below (rr HO487.out) hb)
              have n4_ := Aside0.mk (bb BK446 hb)
              have n5_ := Aside0.mk (bb BK447 hb)
              have n6_ := Aside0.mk (bb BK460 hb)
              have n7_ := Aside0.mk (bb BK464 hb)
              have n8_ := Aside0.mk (bb BK473 hb)
              have n9_ := Aside0.mk (below_step (bs5 HB GE446 GE447 GE460 GE464 GE473) hb)
              have n10_ := Aside0.mk (hbox)
              have n11_ := Aside0.mk ((by rw [hg]; exact (below_size (bs5 HB GE446 GE447 GE460 GE464 GE473)) : w.heap.size ≤ gb496))
              have n12_ := Aside0.mk ((by rw [hg]; exact (below_size (bs5 HB GE446 GE447 GE460 GE464 GE473)) : w.heap.size ≤ gb496))
              have n13_ := Aside0.mk ((bn BK446 hg : gb446 ≠ gb496))
              have n14_ := Aside0.mk ((bm BK446 hg : gb496 ≠ gb446))
              have n15_ := Aside0.mk ((bn BK447 hg : gb447 ≠ gb496))
              have n16_ := Aside0.mk ((bm BK447 hg : gb496 ≠ gb447))
              have n17_ := Aside0.mk ((bn BK460 hg : gb460 ≠ gb496))
              have n18_ := Aside0.mk ((bm BK460 hg : gb496 ≠ gb460))
              have n19_ := Aside0.mk ((bn BK464 hg : gb464 ≠ gb496))
              have n20_ := Aside0.mk ((bm BK464 hg : gb496 ≠ gb464))
              have n21_ := Aside0.mk ((bn BK473 hg : gb473 ≠ gb496))
              have n22_ := Aside0.mk ((bm BK473 hg : gb496 ≠ gb473))
              clear HO_461000
              clear HO_465000
              clear HO_474000
              clear HO487
              clear BK446
              clear BK447
              clear BK460
              clear BK464
              clear BK473
              clear HB
              have HO_461000 := n0_
              have HO_465000 := n1_
              have HO_474000 := n2_
              have HO487 := n3_
              have BK446 := n4_
              have BK447 := n5_
              have BK460 := n6_
              have BK464 := n7_
              have BK473 := n8_
              have HB := n9_
              have BK496 := n10_
              have GW496 := n11_
              have GE496 := n12_
              have NB446_496 := n13_
              have NB496_446 := n14_
              have NB447_496 := n15_
              have NB496_447 := n16_
              have NB460_496 := n17_
              have NB496_460 := n18_
              have NB464_496 := n19_
              have NB496_464 := n20_
              have NB473_496 := n21_
              have NB496_473 := n22_
              clear n0_ n1_ n2_ n3_ n4_ n5_ n6_ n7_ n8_ n9_ n10_ n11_ n12_ n13_ n14_ n15_ n16_ n17_ n18_ n19_ n20_ n21_ n22_
              clear hb hbox hg
              refine hK.out _ _ ⟨(blk_cell BK446.out 0).trans rfl, (blk_cell BK447.out 0).trans rfl, (blk_cell BK447.out 1).trans rfl, (blk_cell BK447.out 2).trans rfl, (blk_cell BK447.out 3).trans rfl⟩ (fun hHeld => ?_)
              clear hK K
              refine norm_ (a' := ?_) ?_ ?_
              rotate_left
              ·
               show Act.put _ (some 14) _ = _
               simp only [Act.put, List.setIfInBounds_toArray, List.set_cons_zero, List.set_cons_succ, i64_w, i32_w]
               rfl
              refine one_ (i := 3) (N := some 83) #[true, true, true, true, false, false, false, false, true, false, false] rfl rfl (one_of HT_.out (by kernel_rfl)) (by decide) (fun K hK => ?_)
              refine goes_ Try.func30 (by kernel_rfl) rfl #[.agg #[.int .i64 a1_0, .int .i64 a1_1, .int .i64 a1_2, .bool a1_3]] (by rfl) rfl rfl (by (try simp only [List.map_toArray, List.map_cons, List.map_nil]); first | done | rfl | (simp only [List.length_drop, List.length_take]; rfl)) ?_
              with_reducible refine (laws_toPiece.calls a1_0 a1_1 a1_2 a1_3 t488 t489 t490 t491 _ A123.out).mono ?_
              rintro e w137 ⟨rfl, hb⟩
              refine ⟨_, rfl, ?_⟩
              have n0_ := Aside0.mk (Kd.R_below (rr HO_461000.out) hb)
              have n1_ := Aside0.mk (Kd.R_below (rr HO_465000.out) hb)
              have n2_ := Aside0.mk (Kd.R_below (rr HO_474000.out) hb)
              have n3_ := Aside0.mk (Kd.R_below (rr HO487.out) hb)
              have n4_ := Aside0.mk (bb BK446 hb)
              have n5_ := Aside0.mk (bb BK447 hb)
              have n6_ := Aside0.mk (bb BK460 hb)
              have n7_ := Aside0.mk (bb BK464 hb)
              have n8_ := Aside0.mk (bb BK473 hb)
              have n9_ := Aside0.mk (bb BK496 hb)
              have n10_ := Aside0.mk (below_step (bs6 HB GE446 GE447 GE460 GE464 GE473 GE496) hb)
              clear HO_461000
              clear HO_465000
              clear HO_474000
              clear HO487
              clear BK446
              clear BK447
              clear BK460
              clear BK464
              clear BK473
              clear BK496
              clear HB
              have HO_461000 := n0_
              have HO_465000 := n1_
              have HO_474000 := n2_
              have HO487 := n3_
              have BK446 := n4_
              have BK447 := n5_
              have BK460 := n6_
              have BK464 := n7_
              have BK473 := n8_
              have BK496 := n9_
              have HB := n10_
              clear n0_ n1_ n2_ n3_ n4_ n5_ n6_ n7_ n8_ n9_ n10_
              (try clear hb)
              (try clear hb2)
              (try clear hk)
              (try clear hi)
              obtain ⟨Ao138, co138, eo138⟩ := Kd.R_slice HO487.out
              (first | subst eo138 | (injection eo138 with f1_ f2_ f3_; have f4_ := f1_.symm; have f5_ := f3_.symm; clear f1_ f2_ f3_; subst f4_; subst f5_))
              refine hK.out _ _ ⟨(blk_cell BK446.out 0).trans rfl, (blk_cell BK447.out 0).trans rfl, (blk_cell BK447.out 1).trans rfl, (blk_cell BK447.out 2).trans rfl, (blk_cell BK447.out 3).trans rfl⟩ (fun hHeld => ?_)
              clear hK K
              refine norm_ (a' := ?_) ?_ ?_
              rotate_left
              ·
               show Act.put _ (some 83) _ = _
               simp only [Act.put, List.setIfInBounds_toArray, List.set_cons_zero, List.set_cons_succ, i64_w, i32_w]
               rfl
              refine one_ (i := 4) (N := some 84) #[true, true, true, true, true, false, false, false, true, false, false] rfl rfl (one_of HT_.out (by kernel_rfl)) (by decide) (fun K hK => ?_)
              refine goes_ Try.func31 (by kernel_rfl) rfl #[.agg #[.slice Ao138 t485.length co138], .agg #[.int .i64 t488, .int .i64 t489, .int .i64 t490, .bool t491]] (by rfl) rfl rfl (by (try simp only [List.map_toArray, List.map_cons, List.map_nil]); first | done | rfl | (simp only [List.length_drop, List.length_take]; rfl)) ?_
              with_reducible refine (impl_MapPiece.calls kj74 _ _ t485 t488 t489 t490 t491 t492 t495 _ ?side1 ?side2 A124.out).mono ?_
              (case side1 => exact rc0 HO487)
              (case side2 => exact (Kd.R_reads' HO487.out).2.1)
              rintro e w139 ⟨v493, rfl, ho0, hb⟩
              refine ⟨_, rfl, ?_⟩
              have n0_ := Aside0.mk (Kd.R_elder' (rr HO_461000.out) (Kd.R_base ho0) hb)
              have n1_ := Aside0.mk (Kd.R_elder' (rr HO_465000.out) (Kd.R_base ho0) hb)
              have n2_ := Aside0.mk (Kd.R_elder' (rr HO_474000.out) (Kd.R_base ho0) hb)
              have n3_ := Aside0.mk (Kd.R_elder' (rr HO487.out) (Kd.R_base ho0) hb)
              have n4_ := Aside0.mk (Kd.R_lower (Kd.R_new' (Kd.R_new' (Kd.R_new' (Kd.R_new' ho0 (Kd.R_lt (rr HO_461000.out))) (Kd.R_lt (rr HO_465000.out))) (Kd.R_lt (rr HO_474000.out))) (Kd.R_lt (rr HO487.out))) (below_size (bs6 HB GE446 GE447 GE460 GE464 GE473 GE496)))
              have n5_ := Aside0.mk (bb BK446 hb)
              have n6_ := Aside0.mk (bb BK447 hb)
              have n7_ := Aside0.mk (bb BK460 hb)
              have n8_ := Aside0.mk (bb BK464 hb)
              have n9_ := Aside0.mk (bb BK473 hb)
              have n10_ := Aside0.mk (bb BK496 hb)
              have n11_ := Aside0.mk (below_step (bs6 HB GE446 GE447 GE460 GE464 GE473 GE496) hb)
              clear HO_461000
              clear HO_465000
              clear HO_474000
              clear HO487
              clear BK446
              clear BK447
              clear BK460
              clear BK464
              clear BK473
              clear BK496
              clear HB
              have HO_461000 := n0_
              have HO_465000 := n1_
              have HO_474000 := n2_
              have HO487 := n3_
              have HO494 := n4_
              have BK446 := n5_
              have BK447 := n6_
              have BK460 := n7_
              have BK464 := n8_
              have BK473 := n9_
              have BK496 := n10_
              have HB := n11_
              clear n0_ n1_ n2_ n3_ n4_ n5_ n6_ n7_ n8_ n9_ n10_ n11_
              (try clear hb)
              (try clear hb2)
              (try clear hk)
              (try clear hi)
              (try clear ho0)
              refine hK.out _ _ ⟨(blk_cell BK446.out 0).trans rfl, (blk_cell BK447.out 0).trans rfl, (blk_cell BK447.out 1).trans rfl, (blk_cell BK447.out 2).trans rfl, (blk_cell BK447.out 3).trans rfl⟩ (fun hHeld => ?_)
              clear hK K
              refine norm_ (a' := ?_) ?_ ?_
              rotate_left
              ·
               show Act.put _ (some 84) _ = _
               simp only [Act.put, List.setIfInBounds_toArray, List.set_cons_zero, List.set_cons_succ, i64_w, i32_w]
               rfl
              refine pure_ (i := 5) (N := some 79) (v := ?_) (a' := ?_) #[true, true, true, true, true, true, false, false, true, false, false] rfl rfl (any_of HT_.out (by kernel_rfl)) (fun _ _ _ h => h) (Or.inl ⟨by rfl, ?_⟩) ?_ ?_
              rotate_left
              ·
               intro w'
               go_simp
               with_reducible rfl
              rotate_left
              ·
               simp only [Act.put, List.setIfInBounds_toArray, List.set_cons_zero, List.set_cons_succ, i64_w, i32_w]
               rfl
              refine pure_ (i := 6) (N := some 85) (v := ?_) (a' := ?_) #[true, true, true, true, true, true, true, false, true, false, false] rfl rfl (any_of HT_.out (by kernel_rfl)) (fun _ _ _ h => h) (Or.inl ⟨by rfl, ?_⟩) ?_ ?_
              rotate_left
              ·
               intro w'
               go_simp
               with_reducible rfl
              rotate_left
              ·
               simp only [Act.put, List.setIfInBounds_toArray, List.set_cons_zero, List.set_cons_succ, i64_w, i32_w]
               rfl
              refine pure_ (i := 7) (N := some 86) (v := ?_) (a' := ?_) #[true, true, true, true, true, true, true, true, true, false, false] rfl rfl (any_of HT_.out (by kernel_rfl)) (fun _ _ _ h => h) (Or.inl ⟨by rfl, ?_⟩) ?_ ?_
              rotate_left
              ·
               intro w'
               go_simp
               with_reducible rfl
              rotate_left
              ·
               simp only [Act.put, List.setIfInBounds_toArray, List.set_cons_zero, List.set_cons_succ, i64_w, i32_w]
               rfl
              exact norm_ (by simp only [putAll, Act.put, List.setIfInBounds_toArray, List.set_cons_zero, List.set_cons_succ]) (hCont (.slice Ao138 t485.length co138, v493, gb496) _ ⟨hHeld, (by (with_reducible repeat (first | apply Kd.R_alloc | apply Kd.R_drewN | apply Kd.R_drew)); exact Kd.R_mono HO487.out (fun _ hk => ⟨hk.2, ⟨hk.1.1.1.2, ⟨hk.1.1.2, hk.1.2⟩⟩⟩)), (by (with_reducible repeat (first | apply Kd.R_alloc | apply Kd.R_drewN | apply Kd.R_drew)); exact Kd.R_mono HO494.out (fun _ hk => ⟨hk.2, ⟨hk.1.1.1.2, ⟨hk.1.1.2, hk.1.2⟩⟩⟩)), (by (with_reducible repeat (first | apply Kd.R_alloc | apply Kd.R_drewN | apply Kd.R_drew)); exact Kd.R_mono HO_461000.out (fun _ hk => ⟨hk.1.2, ⟨hk.2, ⟨hk.1.1.1, hk.1.1.2⟩⟩⟩)), (by (with_reducible repeat (first | apply Kd.R_alloc | apply Kd.R_drewN | apply Kd.R_drew)); exact Kd.R_mono HO_465000.out (fun _ hk => ⟨hk.1.2, ⟨hk.2, ⟨hk.1.1.1, hk.1.1.2⟩⟩⟩)), (by (with_reducible repeat (first | apply Kd.R_alloc | apply Kd.R_drewN | apply Kd.R_drew)); exact Kd.R_mono HO_474000.out (fun _ hk => ⟨hk.1.2, ⟨hk.2, ⟨hk.1.1.1, hk.1.1.2⟩⟩⟩)), (bk BK446), (bk BK447), (bk BK460), (bk BK464), (bk BK473), (bk BK496), GW496.out, GE496.out, NB446_496.out, NB496_446.out, NB447_496.out, NB496_447.out, NB460_496.out, NB496_460.out, NB464_496.out, NB496_464.out, NB473_496.out, NB496_473.out, (bs6 HB GE446 GE447 GE460 GE464 GE473 GE496)⟩)
            ·
             skip
             refine box_step ?hg (N := 14) ?hd (cs := #[.slice none 0 0]) (t := 29) ?hr ?_; (case hd => rfl); (case hg => rfl); (case hr => first | (go_simp; done) | (go_simp; rfl))
             intro gb496 hg w135 hbox hb
             have n0_ := Aside0.mk (Kd.R_below (rr HO_461000.out) hb)
             have n1_ := Aside0.mk (Kd.R_below (rr HO_465000.out) hb)
             have n2_ := Aside0.mk (Kd.R_below (rr HO_474000.out) hb)
             have n3_ := Aside0.mk (bb BK446 hb)
             have n4_ := Aside0.mk (bb BK447 hb)
             have n5_ := Aside0.mk (bb BK460 hb)
             have n6_ := Aside0.mk (bb BK464 hb)
             have n7_ := Aside0.mk (bb BK473 hb)
             have n8_ := Aside0.mk (below_step (bs5 HB GE446 GE447 GE460 GE464 GE473) hb)
             have n9_ := Aside0.mk (hbox)
             have n10_ := Aside0.mk ((by rw [hg]; exact (below_size (bs5 HB GE446 GE447 GE460 GE464 GE473)) : w.heap.size ≤ gb496))
             have n11_ := Aside0.mk ((by rw [hg]; exact (below_size (bs5 HB GE446 GE447 GE460 GE464 GE473)) : w.heap.size ≤ gb496))
             have n12_ := Aside0.mk ((bn BK446 hg : gb446 ≠ gb496))
             have n13_ := Aside0.mk ((bm BK446 hg : gb496 ≠ gb446))
             have n14_ := Aside0.mk ((bn BK447 hg : gb447 ≠ gb496))
             have n15_ := Aside0.mk ((bm BK447 hg : gb496 ≠ gb447))
             have n16_ := Aside0.mk ((bn BK460 hg : gb460 ≠ gb496))
             have n17_ := Aside0.mk ((bm BK460 hg : gb496 ≠ gb460))
             have n18_ := Aside0.mk ((bn BK464 hg : gb464 ≠ gb496))
             have n19_ := Aside0.mk ((bm BK464 hg : gb496 ≠ gb464))
             have n20_ := Aside0.mk ((bn BK473 hg : gb473 ≠ gb496))
             have n21_ := Aside0.mk ((bm BK473 hg : gb496 ≠ gb473))
             clear HO_461000
             clear HO_465000
             clear HO_474000
             clear BK446
             clear BK447
             clear BK460
             clear BK464
             clear BK473
             clear HB
             have HO_461000 := n0_
             have HO_465000 := n1_
             have HO_474000 := n2_
             have BK446 := n3_
             have BK447 := n4_
             have BK460 := n5_
             have BK464 := n6_
             have BK473 := n7_
             have HB := n8_
             have BK496 := n9_
             have GW496 := n10_
             have GE496 := n11_
             have NB446_496 := n12_
             have NB496_446 := n13_
             have NB447_496 := n14_
             have NB496_447 := n15_
             have NB460_496 := n16_
             have NB496_460 := n17_
             have NB464_496 := n18_
             have NB496_464 := n19_
             have NB473_496 := n20_
             have NB496_473 := n21_
             clear n0_ n1_ n2_ n3_ n4_ n5_ n6_ n7_ n8_ n9_ n10_ n11_ n12_ n13_ n14_ n15_ n16_ n17_ n18_ n19_ n20_ n21_
             clear hb hbox hg
             refine hK.out _ _ ⟨(blk_cell BK446.out 0).trans rfl, (blk_cell BK447.out 0).trans rfl, (blk_cell BK447.out 1).trans rfl, (blk_cell BK447.out 2).trans rfl, (blk_cell BK447.out 3).trans rfl⟩ (fun hHeld => ?_)
             clear hK K
             refine norm_ (a' := ?_) ?_ ?_
             rotate_left
             ·
              show Act.put _ (some 14) _ = _
              simp only [Act.put, List.setIfInBounds_toArray, List.set_cons_zero, List.set_cons_succ, i64_w, i32_w]
              rfl
             refine one_ (i := 1) (N := some 81) #[true, true, true, false, false, false, false, false, true, false, false] rfl rfl (one_of HT_.out (by kernel_rfl)) (by decide) (fun K hK => ?_)
             refine goes_ Try.func16 (by kernel_rfl) rfl #[.agg #[.slice A0_0 l0_0.length c0_0]] (by rfl) rfl rfl (by (try simp only [List.map_toArray, List.map_cons, List.map_nil]); first | done | rfl | (simp only [List.length_drop, List.length_take]; rfl)) ?_
             with_reducible refine (laws_toFileMap.calls kj74 _ _ l0_0 t485 _ ?side1 ?side2 A122.out).mono ?_
             (case side1 => exact cb HR0_0 HB)
             (case side2 => exact HC0_0.out)
             rintro e w136 ⟨v486, rfl, ho0, hb⟩
             refine ⟨_, rfl, ?_⟩
             have n0_ := Aside0.mk (Kd.R_elder' (rr HO_461000.out) (Kd.R_base ho0) hb)
             have n1_ := Aside0.mk (Kd.R_elder' (rr HO_465000.out) (Kd.R_base ho0) hb)
             have n2_ := Aside0.mk (Kd.R_elder' (rr HO_474000.out) (Kd.R_base ho0) hb)
             have n3_ := Aside0.mk (Kd.R_lower (Kd.R_new' (Kd.R_new' (Kd.R_new' ho0 (Kd.R_lt (rr HO_461000.out))) (Kd.R_lt (rr HO_465000.out))) (Kd.R_lt (rr HO_474000.out))) (below_size (bs6 HB GE446 GE447 GE460 GE464 GE473 GE496)))
             have n4_ := Aside0.mk (bb BK446 hb)
             have n5_ := Aside0.mk (bb BK447 hb)
             have n6_ := Aside0.mk (bb BK460 hb)
             have n7_ := Aside0.mk (bb BK464 hb)
             have n8_ := Aside0.mk (bb BK473 hb)
             have n9_ := Aside0.mk (bb BK496 hb)
             have n10_ := Aside0.mk (below_step (bs6 HB GE446 GE447 GE460 GE464 GE473 GE496) hb)
             clear HO_461000
             clear HO_465000
             clear HO_474000
             clear BK446
             clear BK447
             clear BK460
             clear BK464
             clear BK473
             clear BK496
             clear HB
             have HO_461000 := n0_
             have HO_465000 := n1_
             have HO_474000 := n2_
             have HO487 := n3_
             have BK446 := n4_
             have BK447 := n5_
             have BK460 := n6_
             have BK464 := n7_
             have BK473 := n8_
             have BK496 := n9_
             have HB := n10_
             clear n0_ n1_ n2_ n3_ n4_ n5_ n6_ n7_ n8_ n9_ n10_
             (try clear hb)
             (try clear hb2)
             (try clear hk)
             (try clear hi)
             (try clear ho0)
             refine hK.out _ _ ⟨(blk_cell BK446.out 0).trans rfl, (blk_cell BK447.out 0).trans rfl, (blk_cell BK447.out 1).trans rfl, (blk_cell BK447.out 2).trans rfl, (blk_cell BK447.out 3).trans rfl⟩ (fun hHeld => ?_)
             clear hK K
             refine norm_ (a' := ?_) ?_ ?_
             rotate_left
             ·
              show Act.put _ (some 81) _ = _
              simp only [Act.put, List.setIfInBounds_toArray, List.set_cons_zero, List.set_cons_succ, i64_w, i32_w]
              rfl
             refine one_ (i := 3) (N := some 83) #[true, true, true, true, false, false, false, false, true, false, false] rfl rfl (one_of HT_.out (by kernel_rfl)) (by decide) (fun K hK => ?_)
             refine goes_ Try.func30 (by kernel_rfl) rfl #[.agg #[.int .i64 a1_0, .int .i64 a1_1, .int .i64 a1_2, .bool a1_3]] (by rfl) rfl rfl (by (try simp only [List.map_toArray, List.map_cons, List.map_nil]); first | done | rfl | (simp only [List.length_drop, List.length_take]; rfl)) ?_
             with_reducible refine (laws_toPiece.calls a1_0 a1_1 a1_2 a1_3 t488 t489 t490 t491 _ A123.out).mono ?_
             rintro e w137 ⟨rfl, hb⟩
             refine ⟨_, rfl, ?_⟩
             have n0_ := Aside0.mk (Kd.R_below (rr HO_461000.out) hb)
             have n1_ := Aside0.mk (Kd.R_below (rr HO_465000.out) hb)
             have n2_ := Aside0.mk (Kd.R_below (rr HO_474000.out) hb)
             have n3_ := Aside0.mk (Kd.R_below (rr HO487.out) hb)
             have n4_ := Aside0.mk (bb BK446 hb)
             have n5_ := Aside0.mk (bb BK447 hb)
             have n6_ := Aside0.mk (bb BK460 hb)
             have n7_ := Aside0.mk (bb BK464 hb)
             have n8_ := Aside0.mk (bb BK473 hb)
             have n9_ := Aside0.mk (bb BK496 hb)
             have n10_ := Aside0.mk (below_step (bs6 HB GE446 GE447 GE460 GE464 GE473 GE496) hb)
             clear HO_461000
             clear HO_465000
             clear HO_474000
             clear HO487
             clear BK446
             clear BK447
             clear BK460
             clear BK464
             clear BK473
             clear BK496
             clear HB
             have HO_461000 := n0_
             have HO_465000 := n1_
             have HO_474000 := n2_
             have HO487 := n3_
             have BK446 := n4_
             have BK447 := n5_
             have BK460 := n6_
             have BK464 := n7_
             have BK473 := n8_
             have BK496 := n9_
             have HB := n10_
             clear n0_ n1_ n2_ n3_ n4_ n5_ n6_ n7_ n8_ n9_ n10_
             (try clear hb)
             (try clear hb2)
             (try clear hk)
             (try clear hi)
             obtain ⟨Ao138, co138, eo138⟩ := Kd.R_slice HO487.out
             (first | subst eo138 | (injection eo138 with f1_ f2_ f3_; have f4_ := f1_.symm; have f5_ := f3_.symm; clear f1_ f2_ f3_; subst f4_; subst f5_))
             refine hK.out _ _ ⟨(blk_cell BK446.out 0).trans rfl, (blk_cell BK447.out 0).trans rfl, (blk_cell BK447.out 1).trans rfl, (blk_cell BK447.out 2).trans rfl, (blk_cell BK447.out 3).trans rfl⟩ (fun hHeld => ?_)
             clear hK K
             refine norm_ (a' := ?_) ?_ ?_
             rotate_left
             ·
              show Act.put _ (some 83) _ = _
              simp only [Act.put, List.setIfInBounds_toArray, List.set_cons_zero, List.set_cons_succ, i64_w, i32_w]
              rfl
             refine one_ (i := 4) (N := some 84) #[true, true, true, true, true, false, false, false, true, false, false] rfl rfl (one_of HT_.out (by kernel_rfl)) (by decide) (fun K hK => ?_)
             refine goes_ Try.func31 (by kernel_rfl) rfl #[.agg #[.slice Ao138 t485.length co138], .agg #[.int .i64 t488, .int .i64 t489, .int .i64 t490, .bool t491]] (by rfl) rfl rfl (by (try simp only [List.map_toArray, List.map_cons, List.map_nil]); first | done | rfl | (simp only [List.length_drop, List.length_take]; rfl)) ?_
             with_reducible refine (impl_MapPiece.calls kj74 _ _ t485 t488 t489 t490 t491 t492 t495 _ ?side1 ?side2 A124.out).mono ?_
             (case side1 => exact rc0 HO487)
             (case side2 => exact (Kd.R_reads' HO487.out).2.1)
             rintro e w139 ⟨v493, rfl, ho0, hb⟩
             refine ⟨_, rfl, ?_⟩
             have n0_ := Aside0.mk (Kd.R_elder' (rr HO_461000.out) (Kd.R_base ho0) hb)
             have n1_ := Aside0.mk (Kd.R_elder' (rr HO_465000.out) (Kd.R_base ho0) hb)
             have n2_ := Aside0.mk (Kd.R_elder' (rr HO_474000.out) (Kd.R_base ho0) hb)
             have n3_ := Aside0.mk (Kd.R_elder' (rr HO487.out) (Kd.R_base ho0) hb)
             have n4_ := Aside0.mk (Kd.R_lower (Kd.R_new' (Kd.R_new' (Kd.R_new' (Kd.R_new' ho0 (Kd.R_lt (rr HO_461000.out))) (Kd.R_lt (rr HO_465000.out))) (Kd.R_lt (rr HO_474000.out))) (Kd.R_lt (rr HO487.out))) (below_size (bs6 HB GE446 GE447 GE460 GE464 GE473 GE496)))
             have n5_ := Aside0.mk (bb BK446 hb)
             have n6_ := Aside0.mk (bb BK447 hb)
             have n7_ := Aside0.mk (bb BK460 hb)
             have n8_ := Aside0.mk (bb BK464 hb)
             have n9_ := Aside0.mk (bb BK473 hb)
             have n10_ := Aside0.mk (bb BK496 hb)
             have n11_ := Aside0.mk (below_step (bs6 HB GE446 GE447 GE460 GE464 GE473 GE496) hb)
             clear HO_461000
             clear HO_465000
             clear HO_474000
             clear HO487
             clear BK446
             clear BK447
             clear BK460
             clear BK464
             clear BK473
             clear BK496
             clear HB
             have HO_461000 := n0_
             have HO_465000 := n1_
             have HO_474000 := n2_
             have HO487 := n3_
             have HO494 := n4_
             have BK446 := n5_
             have BK447 := n6_
             have BK460 := n7_
             have BK464 := n8_
             have BK473 := n9_
             have BK496 := n10_
             have HB := n11_
             clear n0_ n1_ n2_ n3_ n4_ n5_ n6_ n7_ n8_ n9_ n10_ n11_
             (try clear hb)
             (try clear hb2)
             (try clear hk)
             (try clear hi)
             (try clear ho0)
             refine hK.out _ _ ⟨(blk_cell BK446.out 0).trans rfl, (blk_cell BK447.out 0).trans rfl, (blk_cell BK447.out 1).trans rfl, (blk_cell BK447.out 2).trans rfl, (blk_cell BK447.out 3).trans rfl⟩ (fun hHeld => ?_)
             clear hK K
             refine norm_ (a' := ?_) ?_ ?_
             rotate_left
             ·
              show Act.put _ (some 84) _ = _
              simp only [Act.put, List.setIfInBounds_toArray, List.set_cons_zero, List.set_cons_succ, i64_w, i32_w]
              rfl
             refine pure_ (i := 5) (N := some 79) (v := ?_) (a' := ?_) #[true, true, true, true, true, true, false, false, true, false, false] rfl rfl (any_of HT_.out (by kernel_rfl)) (fun _ _ _ h => h) (Or.inl ⟨by rfl, ?_⟩) ?_ ?_
             rotate_left
             ·
              intro w'
              go_simp
              with_reducible rfl
             rotate_left
             ·
              simp only [Act.put, List.setIfInBounds_toArray, List.set_cons_zero, List.set_cons_succ, i64_w, i32_w]
              rfl
             refine pure_ (i := 6) (N := some 85) (v := ?_) (a' := ?_) #[true, true, true, true, true, true, true, false, true, false, false] rfl rfl (any_of HT_.out (by kernel_rfl)) (fun _ _ _ h => h) (Or.inl ⟨by rfl, ?_⟩) ?_ ?_
             rotate_left
             ·
              intro w'
              go_simp
              with_reducible rfl
             rotate_left
             ·
              simp only [Act.put, List.setIfInBounds_toArray, List.set_cons_zero, List.set_cons_succ, i64_w, i32_w]
              rfl
             refine pure_ (i := 7) (N := some 86) (v := ?_) (a' := ?_) #[true, true, true, true, true, true, true, true, true, false, false] rfl rfl (any_of HT_.out (by kernel_rfl)) (fun _ _ _ h => h) (Or.inl ⟨by rfl, ?_⟩) ?_ ?_
             rotate_left
             ·
              intro w'
              go_simp
              with_reducible rfl
             rotate_left
             ·
              simp only [Act.put, List.setIfInBounds_toArray, List.set_cons_zero, List.set_cons_succ, i64_w, i32_w]
              rfl
             exact norm_ (by simp only [putAll, Act.put, List.setIfInBounds_toArray, List.set_cons_zero, List.set_cons_succ]) (hCont (.slice Ao138 t485.length co138, v493, gb496) _ ⟨hHeld, (by (with_reducible repeat (first | apply Kd.R_alloc | apply Kd.R_drewN | apply Kd.R_drew)); exact Kd.R_mono HO487.out (fun _ hk => ⟨hk.2, ⟨hk.1.1.1.2, ⟨hk.1.1.2, hk.1.2⟩⟩⟩)), (by (with_reducible repeat (first | apply Kd.R_alloc | apply Kd.R_drewN | apply Kd.R_drew)); exact Kd.R_mono HO494.out (fun _ hk => ⟨hk.2, ⟨hk.1.1.1.2, ⟨hk.1.1.2, hk.1.2⟩⟩⟩)), (by (with_reducible repeat (first | apply Kd.R_alloc | apply Kd.R_drewN | apply Kd.R_drew)); exact Kd.R_mono HO_461000.out (fun _ hk => ⟨hk.1.2, ⟨hk.2, ⟨hk.1.1.1, hk.1.1.2⟩⟩⟩)), (by (with_reducible repeat (first | apply Kd.R_alloc | apply Kd.R_drewN | apply Kd.R_drew)); exact Kd.R_mono HO_465000.out (fun _ hk => ⟨hk.1.2, ⟨hk.2, ⟨hk.1.1.1, hk.1.1.2⟩⟩⟩)), (by (with_reducible repeat (first | apply Kd.R_alloc | apply Kd.R_drewN | apply Kd.R_drew)); exact Kd.R_mono HO_474000.out (fun _ hk => ⟨hk.1.2, ⟨hk.2, ⟨hk.1.1.1, hk.1.1.2⟩⟩⟩)), (bk BK446), (bk BK447), (bk BK460), (bk BK464), (bk BK473), (bk BK496), GW496.out, GE496.out, NB446_496.out, NB496_446.out, NB447_496.out, NB496_447.out, NB460_496.out, NB496_460.out, NB464_496.out, NB496_464.out, NB473_496.out, NB496_473.out, (bs6 HB GE446 GE447 GE460 GE464 GE473 GE496)⟩)
           rintro ⟨v486, v493, gb496⟩ w140 ⟨hS_, h0_, h1_, h2_, h3_, h4_, h5_, h6_, h7_, h8_, h9_, h10_, h11_, h12_, h13_, h14_, h15_, h16_, h17_, h18_, h19_, h20_, h21_, h22_, h23_⟩
           have n0_ : Aside0 (Kd.R k48 48 w140 w.heap.size (fun k_ => some k_ ≠ (v493 : Value).ownBlock ∧ some k_ ≠ (.slice Ao29 t456.length co29 : Value).ownBlock ∧ some k_ ≠ (.slice Ao35 t480.length co35 : Value).ownBlock ∧ some k_ ≠ (.slice Ao46 t469.length co46 : Value).ownBlock) v486 t485) := ⟨h0_⟩
           have n1_ : Aside0 (Kd.R k48 48 w140 w.heap.size (fun k_ => some k_ ≠ (v486 : Value).ownBlock ∧ some k_ ≠ (.slice Ao29 t456.length co29 : Value).ownBlock ∧ some k_ ≠ (.slice Ao35 t480.length co35 : Value).ownBlock ∧ some k_ ≠ (.slice Ao46 t469.length co46 : Value).ownBlock) v493 t492) := ⟨h1_⟩
           have n2_ : Aside0 (Kd.R k48 48 w140 w.heap.size (fun k_ => some k_ ≠ (v486 : Value).ownBlock ∧ some k_ ≠ (v493 : Value).ownBlock ∧ some k_ ≠ (.slice Ao35 t480.length co35 : Value).ownBlock ∧ some k_ ≠ (.slice Ao46 t469.length co46 : Value).ownBlock) (.slice Ao29 t456.length co29) t456) := ⟨h2_⟩
           have n3_ : Aside0 (Kd.R k48 48 w140 w.heap.size (fun k_ => some k_ ≠ (v486 : Value).ownBlock ∧ some k_ ≠ (v493 : Value).ownBlock ∧ some k_ ≠ (.slice Ao29 t456.length co29 : Value).ownBlock ∧ some k_ ≠ (.slice Ao46 t469.length co46 : Value).ownBlock) (.slice Ao35 t480.length co35) t480) := ⟨h3_⟩
           have n4_ : Aside0 (Kd.R k48 48 w140 w.heap.size (fun k_ => some k_ ≠ (v486 : Value).ownBlock ∧ some k_ ≠ (v493 : Value).ownBlock ∧ some k_ ≠ (.slice Ao29 t456.length co29 : Value).ownBlock ∧ some k_ ≠ (.slice Ao35 t480.length co35 : Value).ownBlock) (.slice Ao46 t469.length co46) t483) := ⟨h4_⟩
           have n5_ : Aside0 (w140.heap[gb446]? = some (.cells #[.slice A0_0 l0_0.length c0_0] 24 (0, 0))) := ⟨h5_⟩
           have n6_ : Aside0 (w140.heap[gb447]? = some (.cells #[.int .i64 a1_0, .int .i64 a1_1, .int .i64 a1_2, .bool a1_3] 45 (0, 0))) := ⟨h6_⟩
           have n7_ : Aside0 (w140.heap[gb460]? = some (.cells #[.slice Ao29 t456.length co29] 29 (0, 0))) := ⟨h7_⟩
           have n8_ : Aside0 (w140.heap[gb464]? = some (.cells #[.slice Ao35 t480.length co35] 29 (0, 0))) := ⟨h8_⟩
           have n9_ : Aside0 (w140.heap[gb473]? = some (.cells #[.slice Ao46 t469.length co46] 29 (0, 0))) := ⟨h9_⟩
           have n10_ : Aside0 (w140.heap[gb496]? = some (.cells #[.slice none 0 0] 29 (0, 0))) := ⟨h10_⟩
           have n11_ : Aside0 (w.heap.size ≤ gb496) := ⟨h11_⟩
           have n12_ : Aside0 (w.heap.size ≤ gb496) := ⟨h12_⟩
           have n13_ : Aside0 (gb446 ≠ gb496) := ⟨h13_⟩
           have n14_ : Aside0 (gb496 ≠ gb446) := ⟨h14_⟩
           have n15_ : Aside0 (gb447 ≠ gb496) := ⟨h15_⟩
           have n16_ : Aside0 (gb496 ≠ gb447) := ⟨h16_⟩
           have n17_ : Aside0 (gb460 ≠ gb496) := ⟨h17_⟩
           have n18_ : Aside0 (gb496 ≠ gb460) := ⟨h18_⟩
           have n19_ : Aside0 (gb464 ≠ gb496) := ⟨h19_⟩
           have n20_ : Aside0 (gb496 ≠ gb464) := ⟨h20_⟩
           have n21_ : Aside0 (gb473 ≠ gb496) := ⟨h21_⟩
           have n22_ : Aside0 (gb496 ≠ gb473) := ⟨h22_⟩
           have n23_ : Aside0 (Below w.heap.size w w140) := ⟨h23_⟩
           clear HO_461000
           clear HO_465000
           clear HO_474000
           clear BK446
           clear BK447
           clear BK460
           clear BK464
           clear BK473
           clear HB
           clear h0_ h1_ h2_ h3_ h4_ h5_ h6_ h7_ h8_ h9_ h10_ h11_ h12_ h13_ h14_ h15_ h16_ h17_ h18_ h19_ h20_ h21_ h22_ h23_
           have HO487 := n0_
           have HO494 := n1_
           have HO_461000 := n2_
           have HO_465000 := n3_
           have HO_474000 := n4_
           have BK446 := n5_
           have BK447 := n6_
           have BK460 := n7_
           have BK464 := n8_
           have BK473 := n9_
           have BK496 := n10_
           have GW496 := n11_
           have GE496 := n12_
           have NB446_496 := n13_
           have NB496_446 := n14_
           have NB447_496 := n15_
           have NB496_447 := n16_
           have NB460_496 := n17_
           have NB496_460 := n18_
           have NB464_496 := n19_
           have NB496_464 := n20_
           have NB473_496 := n21_
           have NB496_473 := n22_
           have HB := n23_
           clear n0_ n1_ n2_ n3_ n4_ n5_ n6_ n7_ n8_ n9_ n10_ n11_ n12_ n13_ n14_ n15_ n16_ n17_ n18_ n19_ n20_ n21_ n22_ n23_
           have hHeld : w140.cell? ⟨gb446, 0, none⟩ = some (.slice A0_0 l0_0.length c0_0) ∧ w140.cell? ⟨gb447, 0, none⟩ = some (.int .i64 a1_0) ∧ w140.cell? ⟨gb447, 1, none⟩ = some (.int .i64 a1_1) ∧ w140.cell? ⟨gb447, 2, none⟩ = some (.int .i64 a1_2) ∧ w140.cell? ⟨gb447, 3, none⟩ = some (.bool a1_3) := hS_
           obtain ⟨Ao141, co141, eo141⟩ := Kd.R_slice HO494.out
           (first | subst eo141 | (injection eo141 with f1_ f2_ f3_; have f4_ := f1_.symm; have f5_ := f3_.symm; clear f1_ f2_ f3_; subst f4_; subst f5_))
           refine norm_ (a' := ?_) ?_ ?_
           rotate_left
           ·
            simp only [putAll, Act.put, List.setIfInBounds_toArray, List.set_cons_zero, List.set_cons_succ]
            rfl
           refine one_ (i := 9) (N := none) #[true, true, true, true, true, true, true, true, true, true, false] rfl rfl (one_of HT_.out (by kernel_rfl)) (by decide) (fun K hK => ?_)
           have hs142 : w140.cell? ⟨gb496, 0, none⟩ = some (.slice none 0 0) := (blk_cell BK496.out 0).trans rfl
           have hfs142 := blk_frozen BK496.out 0
           have hns142_0 := NB446_496.out
           have hns142_1 := NB447_496.out
           have hns142_2 := NB460_496.out
           have hns142_3 := NB464_496.out
           have hns142_4 := NB473_496.out
           have hms142_0 := NB496_446.out
           have hms142_1 := NB496_447.out
           have hms142_2 := NB496_460.out
           have hms142_3 := NB496_464.out
           have hms142_4 := NB496_473.out
           refine skip_ (w1 := ?_) (by rfl) rfl ?_ ?_
           rotate_left
           ·
            go_simp
            rfl
           refine hK.out _ _ ⟨((cell_far (p := ⟨gb496, _, none⟩) NB446_496.out _).trans (hHeld.1)), ((cell_far (p := ⟨gb496, _, none⟩) NB447_496.out _).trans (hHeld.2.1)), ((cell_far (p := ⟨gb496, _, none⟩) NB447_496.out _).trans (hHeld.2.2.1)), ((cell_far (p := ⟨gb496, _, none⟩) NB447_496.out _).trans (hHeld.2.2.2.1)), ((cell_far (p := ⟨gb496, _, none⟩) NB447_496.out _).trans (hHeld.2.2.2.2))⟩ (fun hHeld => ?_)
           clear hK K
           refine pure_ (i := 10) (N := some 15) (v := ?_) (a' := ?_) #[true, true, true, true, true, true, true, true, true, true, true] rfl rfl (any_of HT_.out (by kernel_rfl)) (fun _ _ _ h => h) (Or.inl ⟨by rfl, ?_⟩) ?_ ?_
           rotate_left
           ·
            intro w'
            go_simp
            with_reducible rfl
           rotate_left
           ·
            simp only [Act.put, List.setIfInBounds_toArray, List.set_cons_zero, List.set_cons_succ, i64_w, i32_w]
            rfl
           refine done_ (done_of HT_.out (by kernel_rfl)) ?_
           go_upto_region 25 with (fail)
           go_cut [95] (fun v95 wc => ∃ (kq : Nat) (x95_124 : Bool), v95 = .bool x95_124 ∧ Aside0 (laws_FnExactMapPiece.j2 kq t482 x95_124 t483 = some r) ∧ Aside0 (kq ≤ kj74) ∧ Aside0 (Kd.R k48 48 wc w.heap.size (fun k_ => some k_ ≠ ((.slice Ao35 t480.length co35) : Value).ownBlock ∧ some k_ ≠ ((.slice Ao46 t469.length co46) : Value).ownBlock ∧ some k_ ≠ ((.slice Ao141 t492.length co141) : Value).ownBlock) (.slice Ao29 t456.length co29) t456) ∧ Aside0 (Kd.R k48 48 wc w.heap.size (fun k_ => some k_ ≠ ((.slice Ao29 t456.length co29) : Value).ownBlock ∧ some k_ ≠ ((.slice Ao46 t469.length co46) : Value).ownBlock ∧ some k_ ≠ ((.slice Ao141 t492.length co141) : Value).ownBlock) (.slice Ao35 t480.length co35) t480) ∧ Aside0 (Kd.R k48 48 wc w.heap.size (fun k_ => some k_ ≠ ((.slice Ao29 t456.length co29) : Value).ownBlock ∧ some k_ ≠ ((.slice Ao35 t480.length co35) : Value).ownBlock ∧ some k_ ≠ ((.slice Ao141 t492.length co141) : Value).ownBlock) (.slice Ao46 t469.length co46) t483) ∧ Aside0 (Kd.R k48 48 wc w.heap.size (fun k_ => some k_ ≠ ((.slice Ao29 t456.length co29) : Value).ownBlock ∧ some k_ ≠ ((.slice Ao35 t480.length co35) : Value).ownBlock ∧ some k_ ≠ ((.slice Ao46 t469.length co46) : Value).ownBlock) (.slice Ao141 t492.length co141) t492) ∧ Aside0 (wc.heap[gb446]? = some (.cells #[(.slice A0_0 l0_0.length c0_0)] 24 (0, 0))) ∧ Aside0 (wc.heap[gb447]? = some (.cells #[.int .i64 a1_0, .int .i64 a1_1, .int .i64 a1_2, .bool a1_3] 45 (0, 0))) ∧ Aside0 (wc.heap[gb460]? = some (.cells #[(.slice Ao29 t456.length co29)] 29 (0, 0))) ∧ Aside0 (wc.heap[gb464]? = some (.cells #[(.slice Ao35 t480.length co35)] 29 (0, 0))) ∧ Aside0 (wc.heap[gb473]? = some (.cells #[(.slice Ao46 t469.length co46)] 29 (0, 0))) ∧ Aside0 (wc.heap[gb496]? = some (.cells #[(.slice Ao141 t492.length co141)] 29 (0, 0))) ∧ Aside0 (Below w.heap.size w wc))
           case first =>
            have H := HC125.out
            clear HC125
            replace H := Option.bind_eq_some_iff.mp H
            obtain ⟨t497, A1430, H⟩ := H
            replace H : (if t497 = true then (laws_FnExactMapPiece.j2 kj74 t482 (t495 != t459) t483) else (laws_FnExactMapPiece.j2 kj74 t482 true t483)) = some r := H
            have A143 := Aside0.mk A1430
            clear A1430
            by_cases c144 : t497 = true
            ·
             subst c144
             rw [if_pos rfl] at H
             have H' := Aside0.mk H
             clear H
             have hnb145 := NB496_446.out
             have hnc145 := NB446_496.out
             have hnb146 := NB496_447.out
             have hnc146 := NB447_496.out
             have hnb147 := NB496_460.out
             have hnc147 := NB460_496.out
             have hnb148 := NB496_464.out
             have hnc148 := NB464_496.out
             have hnb149 := NB496_473.out
             have hnc149 := NB473_496.out
             have hcz150_0 := cz1 BK496
             have hfz150_0 := fz1 BK496
             have hnb151 := NB460_446.out
             have hnc151 := NB446_460.out
             have hnb152 := NB460_447.out
             have hnc152 := NB447_460.out
             have hnb153 := NB460_464.out
             have hnc153 := NB464_460.out
             have hnb154 := NB460_473.out
             have hnc154 := NB473_460.out
             have hcz155_0 := cz1 BK460
             have hfz155_0 := fz1 BK460
             go_wp2_with (first | ((with_reducible refine gate_callee (f := 18) rfl ?_); refine gL (some 89) rfl rfl Try.func18 (by kernel_rfl) rfl #[.agg #[.slice Ao141 t492.length co141], .agg #[.slice Ao29 t456.length co29]] rfl ?_; (with_reducible refine (laws_eqFileMap.calls kj74 _ _ t492 _ _ t456 true _ ?side1 ?side2 ?side3 ?side4 A143.out).mono ?_); (case side1 => exact rc HO494 BK496); (case side2 => exact (Kd.R_reads' HO494.out).2.1); (case side3 => exact rc HO_461000 BK496); (case side4 => exact (Kd.R_reads' HO_461000.out).2.1); rintro e w156 ⟨rfl, hb⟩; refine ⟨_, rfl, ?_⟩; replace HO_461000 := nf HO_461000 BK496 hb; replace HO_465000 := nf HO_465000 BK496 hb; replace HO_474000 := nf HO_474000 BK496 hb; replace HO487 := nf HO487 BK496 hb; replace HO494 := nf HO494 BK496 hb; replace BK446 := Aside0.mk (blk_below (bf BK446 NB446_496) hb); replace BK447 := Aside0.mk (blk_below (bf BK447 NB447_496) hb); replace BK460 := Aside0.mk (blk_below (bf BK460 NB460_496) hb); replace BK464 := Aside0.mk (blk_below (bf BK464 NB464_496) hb); replace BK473 := Aside0.mk (blk_below (bf BK473 NB473_496) hb); replace BK496 := Aside0.mk (blk_below (g := gb496) (o := .cells #[.slice Ao141 t492.length co141] 29 (0, 0)) (by (with_reducible repeat (first | refine blk_drewN ?_ _ | refine blk_drew ?_ | refine blk_alloc ?_ _)); refine blk_put (cs := #[.slice none 0 0]) ?_ 0 _ rfl; (with_reducible repeat (first | refine blk_drewN ?_ _ | refine blk_drew ?_ | refine blk_alloc ?_ _)); exact BK496.out) hb); replace HB := Aside0.mk (below_step (bs6 HB GE446 GE447 GE460 GE464 GE473 GE496) hb); (try clear hb); (try clear hb2); (try clear hk); (try clear hi)))
             go_meet
             case rel => exact ⟨_, ((t495 != t459)), (by first | rfl | (simp; done) | (simp [*]; done)), H', ⟨by have := HJ15.out; have := HJ74.out; first | omega | exact Nat.le_refl _⟩, ⟨by (try simp only [hl465000_74]); (with_reducible repeat (first | apply Kd.R_alloc | apply Kd.R_drewN | apply Kd.R_drew)); exact Kd.R_mono HO_461000.out (fun _ hk => ⟨hk.2.2.1, ⟨hk.2.2.2, hk.2.1⟩⟩)⟩, ⟨by (try simp only [hl465000_74]); (with_reducible repeat (first | apply Kd.R_alloc | apply Kd.R_drewN | apply Kd.R_drew)); exact Kd.R_mono HO_465000.out (fun _ hk => ⟨hk.2.2.1, ⟨hk.2.2.2, hk.2.1⟩⟩)⟩, ⟨by (try simp only [hl465000_74]); (with_reducible repeat (first | apply Kd.R_alloc | apply Kd.R_drewN | apply Kd.R_drew)); exact Kd.R_mono HO_474000.out (fun _ hk => ⟨hk.2.2.1, ⟨hk.2.2.2, hk.2.1⟩⟩)⟩, ⟨by (try simp only [hl465000_74]); (with_reducible repeat (first | apply Kd.R_alloc | apply Kd.R_drewN | apply Kd.R_drew)); exact Kd.R_mono HO494.out (fun _ hk => ⟨hk.2.1, ⟨hk.2.2.1, hk.2.2.2⟩⟩)⟩, ⟨by (try simp only [hl465000_74]); (with_reducible repeat (first | refine blk_drewN ?_ _ | refine blk_drew ?_ | refine blk_alloc ?_ _)); exact BK446.out⟩, ⟨by (try simp only [hl465000_74]); (with_reducible repeat (first | refine blk_drewN ?_ _ | refine blk_drew ?_ | refine blk_alloc ?_ _)); exact BK447.out⟩, ⟨by (try simp only [hl465000_74]); (with_reducible repeat (first | refine blk_drewN ?_ _ | refine blk_drew ?_ | refine blk_alloc ?_ _)); exact BK460.out⟩, ⟨by (try simp only [hl465000_74]); (with_reducible repeat (first | refine blk_drewN ?_ _ | refine blk_drew ?_ | refine blk_alloc ?_ _)); exact BK464.out⟩, ⟨by (try simp only [hl465000_74]); (with_reducible repeat (first | refine blk_drewN ?_ _ | refine blk_drew ?_ | refine blk_alloc ?_ _)); exact BK473.out⟩, ⟨by (try simp only [hl465000_74]); (with_reducible repeat (first | refine blk_drewN ?_ _ | refine blk_drew ?_ | refine blk_alloc ?_ _)); exact BK496.out⟩, ⟨bs6 HB GE446 GE447 GE460 GE464 GE473 GE496⟩⟩
            ·
             replace c144 := Bool.eq_false_iff.mpr c144
             subst c144
             rw [if_neg (show ¬ (false = true) by decide)] at H
             have H' := Aside0.mk H
             clear H
             have hnb157 := NB496_446.out
             have hnc157 := NB446_496.out
             have hnb158 := NB496_447.out
             have hnc158 := NB447_496.out
             have hnb159 := NB496_460.out
             have hnc159 := NB460_496.out
             have hnb160 := NB496_464.out
             have hnc160 := NB464_496.out
             have hnb161 := NB496_473.out
             have hnc161 := NB473_496.out
             have hcz162_0 := cz1 BK496
             have hfz162_0 := fz1 BK496
             have hnb163 := NB460_446.out
             have hnc163 := NB446_460.out
             have hnb164 := NB460_447.out
             have hnc164 := NB447_460.out
             have hnb165 := NB460_464.out
             have hnc165 := NB464_460.out
             have hnb166 := NB460_473.out
             have hnc166 := NB473_460.out
             have hcz167_0 := cz1 BK460
             have hfz167_0 := fz1 BK460
             go_wp2_with (first | ((with_reducible refine gate_callee (f := 18) rfl ?_); refine gL (some 89) rfl rfl Try.func18 (by kernel_rfl) rfl #[.agg #[.slice Ao141 t492.length co141], .agg #[.slice Ao29 t456.length co29]] rfl ?_; (with_reducible refine (laws_eqFileMap.calls kj74 _ _ t492 _ _ t456 false _ ?side1 ?side2 ?side3 ?side4 A143.out).mono ?_); (case side1 => exact rc HO494 BK496); (case side2 => exact (Kd.R_reads' HO494.out).2.1); (case side3 => exact rc HO_461000 BK496); (case side4 => exact (Kd.R_reads' HO_461000.out).2.1); rintro e w168 ⟨rfl, hb⟩; refine ⟨_, rfl, ?_⟩; replace HO_461000 := nf HO_461000 BK496 hb; replace HO_465000 := nf HO_465000 BK496 hb; replace HO_474000 := nf HO_474000 BK496 hb; replace HO487 := nf HO487 BK496 hb; replace HO494 := nf HO494 BK496 hb; replace BK446 := Aside0.mk (blk_below (bf BK446 NB446_496) hb); replace BK447 := Aside0.mk (blk_below (bf BK447 NB447_496) hb); replace BK460 := Aside0.mk (blk_below (bf BK460 NB460_496) hb); replace BK464 := Aside0.mk (blk_below (bf BK464 NB464_496) hb); replace BK473 := Aside0.mk (blk_below (bf BK473 NB473_496) hb); replace BK496 := Aside0.mk (blk_below (g := gb496) (o := .cells #[.slice Ao141 t492.length co141] 29 (0, 0)) (by (with_reducible repeat (first | refine blk_drewN ?_ _ | refine blk_drew ?_ | refine blk_alloc ?_ _)); refine blk_put (cs := #[.slice none 0 0]) ?_ 0 _ rfl; (with_reducible repeat (first | refine blk_drewN ?_ _ | refine blk_drew ?_ | refine blk_alloc ?_ _)); exact BK496.out) hb); replace HB := Aside0.mk (below_step (bs6 HB GE446 GE447 GE460 GE464 GE473 GE496) hb); (try clear hb); (try clear hb2); (try clear hk); (try clear hi)))
             go_meet
             case rel => exact ⟨_, (true), (by first | rfl | (simp; done) | (simp [*]; done)), H', ⟨by have := HJ15.out; have := HJ74.out; first | omega | exact Nat.le_refl _⟩, ⟨by (try simp only [hl465000_74]); (with_reducible repeat (first | apply Kd.R_alloc | apply Kd.R_drewN | apply Kd.R_drew)); exact Kd.R_mono HO_461000.out (fun _ hk => ⟨hk.2.2.1, ⟨hk.2.2.2, hk.2.1⟩⟩)⟩, ⟨by (try simp only [hl465000_74]); (with_reducible repeat (first | apply Kd.R_alloc | apply Kd.R_drewN | apply Kd.R_drew)); exact Kd.R_mono HO_465000.out (fun _ hk => ⟨hk.2.2.1, ⟨hk.2.2.2, hk.2.1⟩⟩)⟩, ⟨by (try simp only [hl465000_74]); (with_reducible repeat (first | apply Kd.R_alloc | apply Kd.R_drewN | apply Kd.R_drew)); exact Kd.R_mono HO_474000.out (fun _ hk => ⟨hk.2.2.1, ⟨hk.2.2.2, hk.2.1⟩⟩)⟩, ⟨by (try simp only [hl465000_74]); (with_reducible repeat (first | apply Kd.R_alloc | apply Kd.R_drewN | apply Kd.R_drew)); exact Kd.R_mono HO494.out (fun _ hk => ⟨hk.2.1, ⟨hk.2.2.1, hk.2.2.2⟩⟩)⟩, ⟨by (try simp only [hl465000_74]); (with_reducible repeat (first | refine blk_drewN ?_ _ | refine blk_drew ?_ | refine blk_alloc ?_ _)); exact BK446.out⟩, ⟨by (try simp only [hl465000_74]); (with_reducible repeat (first | refine blk_drewN ?_ _ | refine blk_drew ?_ | refine blk_alloc ?_ _)); exact BK447.out⟩, ⟨by (try simp only [hl465000_74]); (with_reducible repeat (first | refine blk_drewN ?_ _ | refine blk_drew ?_ | refine blk_alloc ?_ _)); exact BK460.out⟩, ⟨by (try simp only [hl465000_74]); (with_reducible repeat (first | refine blk_drewN ?_ _ | refine blk_drew ?_ | refine blk_alloc ?_ _)); exact BK464.out⟩, ⟨by (try simp only [hl465000_74]); (with_reducible repeat (first | refine blk_drewN ?_ _ | refine blk_drew ?_ | refine blk_alloc ?_ _)); exact BK473.out⟩, ⟨by (try simp only [hl465000_74]); (with_reducible repeat (first | refine blk_drewN ?_ _ | refine blk_drew ?_ | refine blk_alloc ?_ _)); exact BK496.out⟩, ⟨bs6 HB GE446 GE447 GE460 GE464 GE473 GE496⟩⟩
           case rest =>
            clear HC125
            try clear c1
            try clear p2
            try clear c3
            try clear c14
            try clear c15
            try clear c16
            try clear c18
            try clear c30
            try clear c31
            try clear c144
            try clear c145
            try clear c146
            try clear c147
            try clear c148
            try clear c149
            try clear c151
            try clear c152
            try clear c153
            try clear c154
            try clear c157
            try clear c158
            try clear c159
            try clear c160
            try clear c161
            try clear c163
            try clear c164
            try clear c165
            try clear c166
            try clear hcz150_0
            try clear hcz155_0
            try clear hcz162_0
            try clear hcz167_0
            try clear hfz150_0
            try clear hfz155_0
            try clear hfz162_0
            try clear hfz167_0
            obtain ⟨kq, x95_124, rfl, HA, HJ124, HO_461000, HO_465000, HO_474000, HO_497000, BK446, BK447, BK460, BK464, BK473, BK496, HB⟩ := hcut
            have hl474000_124 := (Kd.R_reads' HO_474000.out).1
            rw [hl474000_124] at HO_474000
            (try simp only [hl474000_124])
            (try simp only [hl474000_124] at BK446)
            (try simp only [hl474000_124] at BK447)
            (try simp only [hl474000_124] at BK460)
            (try simp only [hl474000_124] at BK464)
            (try simp only [hl474000_124] at BK473)
            (try simp only [hl474000_124] at BK496)
            (try simp only [hl474000_124] at HO_461000)
            (try simp only [hl474000_124] at HO_465000)
            (try simp only [hl474000_124] at HO_497000)
            cases kq with
            | zero => exact absurd HA.out (by simp [laws_FnExactMapPiece.j2])
            | succ kj124 =>
             have H := HA.out
             clear HA
             simp only [laws_FnExactMapPiece.j2] at H
             by_cases c169 : x95_124 = true
             ·
              subst c169
              rw [if_pos rfl] at H
              obtain rfl := Option.some.inj H
              go_wp2
              go_ret
              exact ⟨by first | rfl | (simp [errW_none, errW_some] <;> rfl) | (simp [*, errW_none, errW_some] <;> rfl), bs6 HB GE446 GE447 GE460 GE464 GE473 GE496⟩
             ·
              replace c169 := Bool.eq_false_iff.mpr c169
              subst c169
              rw [if_neg (show ¬ (false = true) by decide)] at H
              replace H := Option.bind_eq_some_iff.mp H
              obtain ⟨t498, A1700, H⟩ := H
              replace H : (if t498 < 0 then (some false) else (if t498 = t482 then (some true) else (some false))) = some r := H
              have A170 := Aside0.mk A1700
              clear A1700
              by_cases c171 : t498 < 0
              ·
               rw [if_pos c171] at H
               have c171b0 : decide (t498 < 0) = true := decide_eq_true c171
               clear c171
               obtain rfl := Option.some.inj H
               have hnb172 := NB473_446.out
               have hnc172 := NB446_473.out
               have hnb173 := NB473_447.out
               have hnc173 := NB447_473.out
               have hnb174 := NB473_460.out
               have hnc174 := NB460_473.out
               have hnb175 := NB473_464.out
               have hnc175 := NB464_473.out
               have hnb176 := NB473_496.out
               have hnc176 := NB496_473.out
               have hcz177_0 := cz1 BK473
               have hfz177_0 := fz1 BK473
               go_wp2_with (first | ((with_reducible refine gate_callee (f := 32) rfl ?_); refine gL (some 98) rfl rfl Try.func32 (by kernel_rfl) rfl #[.agg #[.slice Ao46 t483.length co46], .int .i64 1] rfl ?_; (with_reducible refine (laws_heldFileMap.calls kj124 _ _ t483 1 t498 _ ?side1 ?side2 A170.out).mono ?_); (case side1 => exact rc0 HO_474000); (case side2 => exact (Kd.R_reads' HO_474000.out).2.1); rintro e w178 ⟨rfl, hb⟩; refine ⟨_, rfl, ?_⟩; replace HO_461000 := nr HO_461000 hb; replace HO_465000 := nr HO_465000 hb; replace HO_474000 := nr HO_474000 hb; replace HO_497000 := nr HO_497000 hb; replace BK446 := nb BK446 hb; replace BK447 := nb BK447 hb; replace BK460 := nb BK460 hb; replace BK464 := nb BK464 hb; replace BK473 := nb BK473 hb; replace BK496 := nb BK496 hb; replace HB := Aside0.mk (below_step (bs6 HB GE446 GE447 GE460 GE464 GE473 GE496) hb); (try clear hb); (try clear hb2); (try clear hk); (try clear hi)))
               go_ret
               exact ⟨by first | rfl | (simp [errW_none, errW_some] <;> rfl) | (simp [*, errW_none, errW_some] <;> rfl), bs6 HB GE446 GE447 GE460 GE464 GE473 GE496⟩
              ·
               rw [if_neg c171] at H
               have c171b0 : decide (t498 < 0) = false := decide_eq_false c171
               clear c171
               by_cases c179 : t498 = t482
               ·
                rw [if_pos c179] at H
                have c179b0 : (t498 == t482) = true := beq_iff_eq.mpr c179
                have c179b1 : (t498 != t482) = false := bne_eq_false_iff_eq.mpr c179
                clear c179
                obtain rfl := Option.some.inj H
                have hnb180 := NB473_446.out
                have hnc180 := NB446_473.out
                have hnb181 := NB473_447.out
                have hnc181 := NB447_473.out
                have hnb182 := NB473_460.out
                have hnc182 := NB460_473.out
                have hnb183 := NB473_464.out
                have hnc183 := NB464_473.out
                have hnb184 := NB473_496.out
                have hnc184 := NB496_473.out
                have hcz185_0 := cz1 BK473
                have hfz185_0 := fz1 BK473
                go_wp2_with (first | ((with_reducible refine gate_callee (f := 32) rfl ?_); refine gL (some 98) rfl rfl Try.func32 (by kernel_rfl) rfl #[.agg #[.slice Ao46 t483.length co46], .int .i64 1] rfl ?_; (with_reducible refine (laws_heldFileMap.calls kj124 _ _ t483 1 t498 _ ?side1 ?side2 A170.out).mono ?_); (case side1 => exact rc0 HO_474000); (case side2 => exact (Kd.R_reads' HO_474000.out).2.1); rintro e w186 ⟨rfl, hb⟩; refine ⟨_, rfl, ?_⟩; replace HO_461000 := nr HO_461000 hb; replace HO_465000 := nr HO_465000 hb; replace HO_474000 := nr HO_474000 hb; replace HO_497000 := nr HO_497000 hb; replace BK446 := nb BK446 hb; replace BK447 := nb BK447 hb; replace BK460 := nb BK460 hb; replace BK464 := nb BK464 hb; replace BK473 := nb BK473 hb; replace BK496 := nb BK496 hb; replace HB := Aside0.mk (below_step (bs6 HB GE446 GE447 GE460 GE464 GE473 GE496) hb); (try clear hb); (try clear hb2); (try clear hk); (try clear hi)))
                go_ret
                exact ⟨by first | rfl | (simp [errW_none, errW_some] <;> rfl) | (simp [*, errW_none, errW_some] <;> rfl), bs6 HB GE446 GE447 GE460 GE464 GE473 GE496⟩
               ·
                rw [if_neg c179] at H
                have c179b0 : (t498 == t482) = false := beq_eq_false_iff_ne.mpr c179
                have c179b1 : (t498 != t482) = true := bne_iff_ne.mpr c179
                obtain rfl := Option.some.inj H
                have hnb187 := NB473_446.out
                have hnc187 := NB446_473.out
                have hnb188 := NB473_447.out
                have hnc188 := NB447_473.out
                have hnb189 := NB473_460.out
                have hnc189 := NB460_473.out
                have hnb190 := NB473_464.out
                have hnc190 := NB464_473.out
                have hnb191 := NB473_496.out
                have hnc191 := NB496_473.out
                have hcz192_0 := cz1 BK473
                have hfz192_0 := fz1 BK473
                go_wp2_with (first | ((with_reducible refine gate_callee (f := 32) rfl ?_); refine gL (some 98) rfl rfl Try.func32 (by kernel_rfl) rfl #[.agg #[.slice Ao46 t483.length co46], .int .i64 1] rfl ?_; (with_reducible refine (laws_heldFileMap.calls kj124 _ _ t483 1 t498 _ ?side1 ?side2 A170.out).mono ?_); (case side1 => exact rc0 HO_474000); (case side2 => exact (Kd.R_reads' HO_474000.out).2.1); rintro e w193 ⟨rfl, hb⟩; refine ⟨_, rfl, ?_⟩; replace HO_461000 := nr HO_461000 hb; replace HO_465000 := nr HO_465000 hb; replace HO_474000 := nr HO_474000 hb; replace HO_497000 := nr HO_497000 hb; replace BK446 := nb BK446 hb; replace BK447 := nb BK447 hb; replace BK460 := nb BK460 hb; replace BK464 := nb BK464 hb; replace BK473 := nb BK473 hb; replace BK496 := nb BK496 hb; replace HB := Aside0.mk (below_step (bs6 HB GE446 GE447 GE460 GE464 GE473 GE496) hb); (try clear hb); (try clear hb2); (try clear hk); (try clear hi)))
                go_ret
                exact ⟨by first | rfl | (simp [errW_none, errW_some] <;> rfl) | (simp [*, errW_none, errW_some] <;> rfl), bs6 HB GE446 GE447 GE460 GE464 GE473 GE496⟩
          ·
           rw [if_neg c121] at H
           have c121b0 : (t484 == t482) = false := beq_eq_false_iff_ne.mpr c121
           have c121b1 : (t484 != t482) = true := bne_iff_ne.mpr c121
           obtain rfl := Option.some.inj H
           have hnb194 := NB473_446.out
           have hnc194 := NB446_473.out
           have hnb195 := NB473_447.out
           have hnc195 := NB447_473.out
           have hnb196 := NB473_460.out
           have hnc196 := NB460_473.out
           have hnb197 := NB473_464.out
           have hnc197 := NB464_473.out
           have hcz198_0 := cz1 BK473
           have hfz198_0 := fz1 BK473
           go_wp2_with (first | ((with_reducible refine gate_callee (f := 26) rfl ?_); refine gL (some 70) rfl rfl Try.func26 (by kernel_rfl) rfl #[.agg #[.slice Ao46 t469.length co46], .int .i64 1] rfl ?_; (with_reducible refine (laws_markFileMap.calls kj74 (fun k_ => some k_ = (.slice Ao46 t469.length co46 : Value).ownBlock) (.slice Ao46 t469.length co46) t469 1 t482 t483 w _ ?side1 ?side2 A110.out).mono ?_); (case side1 => repeat (first | (with_reducible first | exact HB.out | apply below_alloc | apply pw_below_drewN | apply below_drew1 | refine below_set ?_ GE446.out | refine below_set ?_ GE447.out | refine below_set ?_ GE460.out | refine below_set ?_ GE464.out | refine below_set ?_ GE473.out) | exact HB.out)); (case side2 => exact Kd.R_tight rfl HO_474000.out); rintro e w199 ⟨rfl, hy0, hb, hkp⟩; refine ⟨_, rfl, ?_⟩; replace HO_461000 := Aside0.mk (Kd.R_mono (ok' := fun k_ => some k_ ≠ (.slice Ao35 t480.length co35 : Value).ownBlock ∧ some k_ ≠ (.slice Ao46 t469.length co46 : Value).ownBlock) (Kd.R_keptB (HO_461000.out) hkp (fun k_ hk_ hs_ => (hk_.2) hs_)) (fun k_ hk_ => ⟨hk_.1.1, hk_.1.2⟩)); replace HO_465000 := Aside0.mk (Kd.R_mono (ok' := fun k_ => some k_ ≠ (.slice Ao29 t456.length co29 : Value).ownBlock ∧ some k_ ≠ (.slice Ao46 t469.length co46 : Value).ownBlock) (Kd.R_keptB (HO_465000.out) hkp (fun k_ hk_ hs_ => (hk_.2) hs_)) (fun k_ hk_ => ⟨hk_.1.1, hk_.1.2⟩)); replace BK446 := Aside0.mk (blk_kept (bk BK446) hkp (fun hs_ => (fun e_ => (Kd.R_ne HO_474000.out BK446.out (by decide)) e_) hs_)); replace BK447 := Aside0.mk (blk_kept (bk BK447) hkp (fun hs_ => (fun e_ => (Kd.R_ne HO_474000.out BK447.out (by decide)) e_) hs_)); replace BK460 := Aside0.mk (blk_kept (bk BK460) hkp (fun hs_ => (fun e_ => (Kd.R_ne HO_474000.out BK460.out (by decide)) e_) hs_)); replace BK464 := Aside0.mk (blk_kept (bk BK464) hkp (fun hs_ => (fun e_ => (Kd.R_ne HO_474000.out BK464.out (by decide)) e_) hs_)); replace BK473 := Aside0.mk (blk_kept (bk BK473) hkp (fun hs_ => (fun e_ => (Kd.R_ne HO_474000.out BK473.out (by decide)) e_) hs_)); replace HO_474000 := Aside0.mk (Kd.R_reok rfl hy0 (fun k_ e_ => HO_474000.out.1 k_ e_)); replace HB := Aside0.mk (hb); (try clear hb); (try clear hkp); (try clear hy0); have hcz200_0 := cz1 BK473; have hfz200_0 := fz1 BK473) | ((with_reducible refine gate_callee (f := 32) rfl ?_); refine goesL_ (some 73) rfl rfl Try.func32 (by kernel_rfl) rfl #[.agg #[.slice Ao46 t483.length co46], .int .i64 1] rfl (by (try simp only [List.map_toArray, List.map_cons, List.map_nil]); first | done | (rw [show t483.length = t469.length from (Kd.R_reads' HO_474000.out).1.symm] <;> rfl) | rfl | (simp only [List.length_drop, List.length_take]; rfl)) ?_; (with_reducible refine (laws_heldFileMap.calls kj74 _ _ t483 1 t484 _ ?side1 ?side2 A111.out).mono ?_); (case side1 => exact rc0 HO_474000); (case side2 => rw [show t483.length = t469.length from (Kd.R_reads' HO_474000.out).1.symm]; exact (Kd.R_reads' HO_474000.out).2.1); rintro e w201 ⟨rfl, hb⟩; refine ⟨_, rfl, ?_⟩; replace HO_461000 := nr HO_461000 hb; replace HO_465000 := nr HO_465000 hb; replace HO_474000 := nr HO_474000 hb; replace BK446 := nb BK446 hb; replace BK447 := nb BK447 hb; replace BK460 := nb BK460 hb; replace BK464 := nb BK464 hb; replace BK473 := nb BK473 hb; replace HB := Aside0.mk (below_step (bs5 HB GE446 GE447 GE460 GE464 GE473) hb); (try clear hb); (try clear hb2); (try clear hk); (try clear hi)))
           go_ret
           exact ⟨by first | rfl | (simp [errW_none, errW_some] <;> rfl) | (simp [*, errW_none, errW_some] <;> rfl), bs5 HB GE446 GE447 GE460 GE464 GE473⟩
     ·
      replace c73 := Bool.eq_false_iff.mpr c73
      subst c73
      rw [if_neg (show ¬ (false = true) by decide)] at H
      obtain rfl := Option.some.inj H
      try go_wp2
      have n0_ := Aside0.mk (Kd.R_drew HO_461000.out)
      have n1_ := Aside0.mk (Kd.R_drew HO_465000.out)
      have n2_ := Aside0.mk (Kd.R_drew HO_474000.out)
      have n3_ := Aside0.mk (blk_drew BK446.out)
      have n4_ := Aside0.mk (blk_drew BK447.out)
      have n5_ := Aside0.mk (blk_drew BK460.out)
      have n6_ := Aside0.mk (blk_drew BK464.out)
      have n7_ := Aside0.mk (blk_drew BK473.out)
      have n8_ := Aside0.mk (below_drew1 HB.out)
      clear HO_461000
      clear HO_465000
      clear HO_474000
      clear BK446
      clear BK447
      clear BK460
      clear BK464
      clear BK473
      clear HB
      have HO_461000 := n0_
      have HO_465000 := n1_
      have HO_474000 := n2_
      have BK446 := n3_
      have BK447 := n4_
      have BK460 := n5_
      have BK464 := n6_
      have BK473 := n7_
      have HB := n8_
      clear n0_ n1_ n2_ n3_ n4_ n5_ n6_ n7_ n8_
      refine start_ (n := 5) (S := fun w' => w'.cell? ⟨gb464, 0, none⟩ = some (.slice Ao35 t461.length co35) ∧ w'.cell? ⟨gb446, 0, none⟩ = some (.slice A0_0 l0_0.length c0_0)) (ds := []) #[false, false, false, false, false] (by kernel_rfl) rfl rfl ⟨(blk_cell BK464.out 0).trans rfl, (blk_cell BK446.out 0).trans rfl⟩ (fun hHeld => ?_)
      generalize wc.drew = w202 at HO_461000 HO_465000 HO_474000 BK446 BK447 BK460 BK464 BK473 HB hHeld ⊢
      refine take_ (i := 0) (N := some 47) (v := ?_) (a' := ?_) #[true, false, false, false, false] rfl rfl (by kernel_rfl) (fun _ _ _ h => h) (Or.inl ⟨by rfl, ?_⟩) hHeld ?_ ?_
      rotate_left
      ·
       rintro w' ⟨s0, s1⟩
       go_simp
       with_reducible rfl
      rotate_left
      ·
       simp only [Act.put, List.setIfInBounds_toArray, List.set_cons_zero, List.set_cons_succ, i64_w, i32_w]
       rfl
      refine take_ (i := 1) (N := some 48) (v := ?_) (a' := ?_) #[true, true, false, false, false] rfl rfl (by kernel_rfl) (fun _ _ _ h => h) (Or.inl ⟨by rfl, ?_⟩) hHeld ?_ ?_
      rotate_left
      ·
       rintro w' ⟨s0, s1⟩
       go_simp
       with_reducible rfl
      rotate_left
      ·
       simp only [Act.put, List.setIfInBounds_toArray, List.set_cons_zero, List.set_cons_succ, i64_w, i32_w]
       rfl
      refine one_ (i := 2) (N := some 49) #[true, true, true, false, false] rfl rfl (by kernel_rfl) (by decide) (fun K hK => ?_)
      refine goes_ Try.func16 (by kernel_rfl) rfl #[.agg #[.slice A0_0 l0_0.length c0_0]] (by rfl) rfl rfl (by (try simp only [List.map_toArray, List.map_cons, List.map_nil]); first | done | rfl | (simp only [List.length_drop, List.length_take]; rfl)) ?_
      with_reducible refine (laws_toFileMap.calls kj15 _ _ l0_0 t475 _ ?side1 ?side2 A71.out).mono ?_
      (case side1 => exact cb HR0_0 HB)
      (case side2 => exact HC0_0.out)
      rintro e w203 ⟨v476, rfl, ho0, hb⟩
      refine ⟨_, rfl, ?_⟩
      have n0_ := Aside0.mk (Kd.R_elder' (rr HO_461000.out) (Kd.R_base ho0) hb)
      have n1_ := Aside0.mk (Kd.R_elder' (rr HO_465000.out) (Kd.R_base ho0) hb)
      have n2_ := Aside0.mk (Kd.R_elder' (rr HO_474000.out) (Kd.R_base ho0) hb)
      have n3_ := Aside0.mk (Kd.R_lower (Kd.R_new' (Kd.R_new' (Kd.R_new' ho0 (Kd.R_lt (rr HO_461000.out))) (Kd.R_lt (rr HO_465000.out))) (Kd.R_lt (rr HO_474000.out))) (below_size (bs5 HB GE446 GE447 GE460 GE464 GE473)))
      have n4_ := Aside0.mk (bb BK446 hb)
      have n5_ := Aside0.mk (bb BK447 hb)
      have n6_ := Aside0.mk (bb BK460 hb)
      have n7_ := Aside0.mk (bb BK464 hb)
      have n8_ := Aside0.mk (bb BK473 hb)
      have n9_ := Aside0.mk (below_step (bs5 HB GE446 GE447 GE460 GE464 GE473) hb)
      clear HO_461000
      clear HO_465000
      clear HO_474000
      clear BK446
      clear BK447
      clear BK460
      clear BK464
      clear BK473
      clear HB
      have HO_461000 := n0_
      have HO_465000 := n1_
      have HO_474000 := n2_
      have HO477 := n3_
      have BK446 := n4_
      have BK447 := n5_
      have BK460 := n6_
      have BK464 := n7_
      have BK473 := n8_
      have HB := n9_
      clear n0_ n1_ n2_ n3_ n4_ n5_ n6_ n7_ n8_ n9_
      (try clear hb)
      (try clear hb2)
      (try clear hk)
      (try clear hi)
      (try clear ho0)
      obtain ⟨Ao204, co204, eo204⟩ := Kd.R_slice HO477.out
      (first | subst eo204 | (injection eo204 with f1_ f2_ f3_; have f4_ := f1_.symm; have f5_ := f3_.symm; clear f1_ f2_ f3_; subst f4_; subst f5_))
      refine hK.out _ _ ⟨(blk_cell BK464.out 0).trans rfl, (blk_cell BK446.out 0).trans rfl⟩ (fun hHeld => ?_)
      clear hK K
      refine norm_ (a' := ?_) ?_ ?_
      rotate_left
      ·
       show Act.put _ (some 49) _ = _
       simp only [Act.put, List.setIfInBounds_toArray, List.set_cons_zero, List.set_cons_succ, i64_w, i32_w]
       rfl
      refine one_ (i := 3) (N := some 50) #[true, true, true, true, false] rfl rfl (by kernel_rfl) (by decide) (fun K hK => ?_)
      refine goes_ Try.func18 (by kernel_rfl) rfl #[.agg #[.slice Ao35 t461.length co35], .agg #[.slice Ao204 t475.length co204]] (by rfl) rfl rfl (by (try simp only [List.map_toArray, List.map_cons, List.map_nil]); first | done | rfl | (simp only [List.length_drop, List.length_take]; rfl)) ?_
      with_reducible refine (laws_eqFileMap.calls kj15 _ _ t461 _ _ t475 false _ ?side1 ?side2 ?side3 ?side4 A72.out).mono ?_
      (case side1 => exact rc0 HO_465000)
      (case side2 => exact (Kd.R_reads' HO_465000.out).2.1)
      (case side3 => exact rc0 HO477)
      (case side4 => exact (Kd.R_reads' HO477.out).2.1)
      rintro e w205 ⟨rfl, hb⟩
      refine ⟨_, rfl, ?_⟩
      have n0_ := Aside0.mk (Kd.R_below (rr HO_461000.out) hb)
      have n1_ := Aside0.mk (Kd.R_below (rr HO_465000.out) hb)
      have n2_ := Aside0.mk (Kd.R_below (rr HO_474000.out) hb)
      have n3_ := Aside0.mk (Kd.R_below (rr HO477.out) hb)
      have n4_ := Aside0.mk (bb BK446 hb)
      have n5_ := Aside0.mk (bb BK447 hb)
      have n6_ := Aside0.mk (bb BK460 hb)
      have n7_ := Aside0.mk (bb BK464 hb)
      have n8_ := Aside0.mk (bb BK473 hb)
      have n9_ := Aside0.mk (below_step (bs5 HB GE446 GE447 GE460 GE464 GE473) hb)
      clear HO_461000
      clear HO_465000
      clear HO_474000
      clear HO477
      clear BK446
      clear BK447
      clear BK460
      clear BK464
      clear BK473
      clear HB
      have HO_461000 := n0_
      have HO_465000 := n1_
      have HO_474000 := n2_
      have HO477 := n3_
      have BK446 := n4_
      have BK447 := n5_
      have BK460 := n6_
      have BK464 := n7_
      have BK473 := n8_
      have HB := n9_
      clear n0_ n1_ n2_ n3_ n4_ n5_ n6_ n7_ n8_ n9_
      (try clear hb)
      (try clear hb2)
      (try clear hk)
      (try clear hi)
      refine hK.out _ _ ⟨(blk_cell BK464.out 0).trans rfl, (blk_cell BK446.out 0).trans rfl⟩ (fun hHeld => ?_)
      clear hK K
      refine norm_ (a' := ?_) ?_ ?_
      rotate_left
      ·
       show Act.put _ (some 50) _ = _
       simp only [Act.put, List.setIfInBounds_toArray, List.set_cons_zero, List.set_cons_succ, i64_w, i32_w]
       rfl
      refine pure_ (i := 4) (N := some 51) (v := ?_) (a' := ?_) #[true, true, true, true, true] rfl rfl (by kernel_rfl) (fun _ _ _ h => h) (Or.inl ⟨by rfl, ?_⟩) ?_ ?_
      rotate_left
      ·
       intro w'
       go_simp
       with_reducible rfl
      rotate_left
      ·
       simp only [Act.put, List.setIfInBounds_toArray, List.set_cons_zero, List.set_cons_succ, i64_w, i32_w]
       rfl
      refine done_ (by kernel_rfl) ?_
      try go_wp2
      go_ret
      exact ⟨by first | rfl | (simp [errW_none, errW_some] <;> rfl) | (simp [*, errW_none, errW_some] <;> rfl), bs5 HB GE446 GE447 GE460 GE464 GE473⟩

/-- THE ONE PURE STATEMENT of laws_FnExactMapPiece. -/
def laws_FnExactMapPiece.Pure : Prop := ∀ (l0_0 : List (S45)) (a1_0 : Int) (a1_1 : Int) (a1_2 : Int) (a1_3 : Bool), ok24 (⟨l0_0⟩ : S24) → ok45 (⟨a1_0, a1_1, a1_2, a1_3⟩ : S45) → ∃ k, laws_FnExactMapPiece.f k l0_0 a1_0 a1_1 a1_2 a1_3 = some true

end Go.Proofs.Ytojdlcbmbpgplaa.G
