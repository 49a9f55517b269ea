-- Printed by a program of this session (drive.py, by way of the kit's print). Not trusted: Lean checks it.
import Derived.Test.YtcdkgenfggdpaaaG0
import Derived.Test.YtcdkgenfggdpaaaG6
import Derived.Test.YtcdkgenfggdpaaaG7
namespace Go.Proofs.Ytcdkgenfggdpaaa.G
open Go.RowKit Go.Proofs.YtcdkgenfggdpaaaW.PrintWords Go.Proofs.YtcdkgenfggdpaaaW.PrintLast Go.Proofs.YtcdkgenfggdpaaaW.PrintMore
attribute [local go_sem] max2_int min2_int max_two min_two max_three min_three max_four min_four   -- for this text's walks alone
set_option linter.unusedVariables false
set_option linter.unusedSimpArgs false

/-! ### laws_FnExactGoodStore: function 5 -/
mutual
def laws_FnExactGoodStore.j0 : Nat → List ByteArray → List (S76) → List ByteArray → Int → Option (Bool)
 | 0, _, _, _, _ => none
 | k + 1, x361000, x361001, x361002, x361003 => (laws_toStore.f k x361000 x361001 x361002 x361003).bind fun bt362 => ((spec_GoodStore.f k bt362.1 bt362.2.1 bt362.2.2.1 bt362.2.2.2).bind fun t372 => ((laws_toStore.f k x361000 x361001 x361002 x361003).bind fun bt373 => ((impl_GoodStore.f k bt373.1 bt373.2.1 bt373.2.2.1 bt373.2.2.2).bind fun t384 => (if (t384 != t372) = true then (some false) else (laws_FnExactGoodStore.j1 k x361000 x361001 x361002 x361003 bt373.1 bt373.2.1 bt373.2.2.1 bt373.2.2.2)))))
def laws_FnExactGoodStore.j1 : Nat → List ByteArray → List (S76) → List ByteArray → Int → List ByteArray → List (S72) → List ByteArray → Int → Option (Bool)
 | 0, _, _, _, _, _, _, _, _ => none
 | k + 1, x361000, x361001, x361002, x361003, x384000, x384001, x384002, x384003 => (laws_toStore.f k x361000 x361001 x361002 x361003).bind fun bt385 => ((laws_eqStore.f k x384000 x384001 x384002 x384003 bt385.1 bt385.2.1 bt385.2.2.1 bt385.2.2.2).bind fun t395 => (if t395 = true then (some true) else (some false)))
end
def laws_FnExactGoodStore.f (k : Nat) (l0_0 : List ByteArray) (l0_1 : List (S76)) (l0_2 : List ByteArray) (a0_3 : Int) : Option (Bool) := (laws_szStore.f k l0_0 l0_1 l0_2 a0_3 1048576).bind fun t361 => (if t361 < 0 then (some true) else (laws_FnExactGoodStore.j0 k l0_0 l0_1 l0_2 a0_3))
theorem laws_FnExactGoodStore.mono_l : ∀ k, (∀ y0 y1 y2 y3, LeO (laws_FnExactGoodStore.j0 k y0 y1 y2 y3) (laws_FnExactGoodStore.j0 (k + 1) y0 y1 y2 y3)) ∧ (∀ y0 y1 y2 y3 y4 y5 y6 y7, LeO (laws_FnExactGoodStore.j1 k y0 y1 y2 y3 y4 y5 y6 y7) (laws_FnExactGoodStore.j1 (k + 1) y0 y1 y2 y3 y4 y5 y6 y7))
 | 0 => ⟨fun _ _ _ _ r h => by simp [laws_FnExactGoodStore.j0] at h, fun _ _ _ _ _ _ _ _ r h => by simp [laws_FnExactGoodStore.j1] at h⟩
 | k + 1 => by
  obtain ⟨ih0, ih1⟩ := laws_FnExactGoodStore.mono_l k
  refine ⟨?_, ?_⟩
  ·
   intro y0 y1 y2 y3
   unfold laws_FnExactGoodStore.j0
   repeat' first
   | (with_reducible exact ih0 _ _ _ _)
   | (with_reducible exact ih1 _ _ _ _ _ _ _ _)
   | (with_reducible exact impl_GoodStore.mono _ _ _ _ _)
   | (with_reducible exact laws_eqStore.mono _ _ _ _ _ _ _ _ _)
   | (with_reducible exact laws_szStore.mono _ _ _ _ _ _)
   | (with_reducible exact laws_toStore.mono _ _ _ _ _)
   | (with_reducible exact spec_GoodStore.mono _ _ _ _ _)
   | (with_reducible exact LeO.refl _)
   | (with_reducible exact LeO.none _)
   | (with_reducible refine LeO.ite ?_ ?_)
   | (with_reducible refine LeO.bind ?_ (fun _ => ?_))
   | exact ih0 _ _ _ _
   | exact ih1 _ _ _ _ _ _ _ _
   | exact impl_GoodStore.mono _ _ _ _ _
   | exact laws_eqStore.mono _ _ _ _ _ _ _ _ _
   | exact laws_szStore.mono _ _ _ _ _ _
   | exact laws_toStore.mono _ _ _ _ _
   | exact spec_GoodStore.mono _ _ _ _ _
   | exact LeO.none _
   | refine LeO.ite ?_ ?_
   | refine LeO.bind ?_ (fun _ => ?_)
  ·
   intro y0 y1 y2 y3 y4 y5 y6 y7
   unfold laws_FnExactGoodStore.j1
   repeat' first
   | (with_reducible exact ih0 _ _ _ _)
   | (with_reducible exact ih1 _ _ _ _ _ _ _ _)
   | (with_reducible exact impl_GoodStore.mono _ _ _ _ _)
   | (with_reducible exact laws_eqStore.mono _ _ _ _ _ _ _ _ _)
   | (with_reducible exact laws_szStore.mono _ _ _ _ _ _)
   | (with_reducible exact laws_toStore.mono _ _ _ _ _)
   | (with_reducible exact spec_GoodStore.mono _ _ _ _ _)
   | (with_reducible exact LeO.refl _)
   | (with_reducible exact LeO.none _)
   | (with_reducible refine LeO.ite ?_ ?_)
   | (with_reducible refine LeO.bind ?_ (fun _ => ?_))
   | exact ih0 _ _ _ _
   | exact ih1 _ _ _ _ _ _ _ _
   | exact impl_GoodStore.mono _ _ _ _ _
   | exact laws_eqStore.mono _ _ _ _ _ _ _ _ _
   | exact laws_szStore.mono _ _ _ _ _ _
   | exact laws_toStore.mono _ _ _ _ _
   | exact spec_GoodStore.mono _ _ _ _ _
   | exact LeO.none _
   | refine LeO.ite ?_ ?_
   | refine LeO.bind ?_ (fun _ => ?_)
theorem laws_FnExactGoodStore.mono : ∀ a0 a1 a2 a3 k, LeO (laws_FnExactGoodStore.f k a0 a1 a2 a3) (laws_FnExactGoodStore.f (k + 1) a0 a1 a2 a3) := by
 intro a0 a1 a2 a3 k
 obtain ⟨ih0, ih1⟩ := laws_FnExactGoodStore.mono_l k
 unfold laws_FnExactGoodStore.f
 repeat' first
   | (with_reducible exact ih0 _ _ _ _)
   | (with_reducible exact ih1 _ _ _ _ _ _ _ _)
   | (with_reducible exact impl_GoodStore.mono _ _ _ _ _)
   | (with_reducible exact laws_eqStore.mono _ _ _ _ _ _ _ _ _)
   | (with_reducible exact laws_szStore.mono _ _ _ _ _ _)
   | (with_reducible exact laws_toStore.mono _ _ _ _ _)
   | (with_reducible exact spec_GoodStore.mono _ _ _ _ _)
   | (with_reducible exact LeO.refl _)
   | (with_reducible exact LeO.none _)
   | (with_reducible refine LeO.ite ?_ ?_)
   | (with_reducible refine LeO.bind ?_ (fun _ => ?_))
   | exact ih0 _ _ _ _
   | exact ih1 _ _ _ _ _ _ _ _
   | exact impl_GoodStore.mono _ _ _ _ _
   | exact laws_eqStore.mono _ _ _ _ _ _ _ _ _
   | exact laws_szStore.mono _ _ _ _ _ _
   | exact laws_toStore.mono _ _ _ _ _
   | exact spec_GoodStore.mono _ _ _ _ _
   | exact LeO.none _
   | refine LeO.ite ?_ ?_
   | refine LeO.bind ?_ (fun _ => ?_)
set_option maxHeartbeats 8000000 in
set_option maxRecDepth 100000 in
theorem laws_FnExactGoodStore.calls (k : Nat) (A0_0 : Option Addr) (c0_0 : Nat) (l0_0 : List ByteArray) (A0_1 : Option Addr) (c0_1 : Nat) (l0_1 : List (S76)) (A0_2 : Option Addr) (c0_2 : Nat) (l0_2 : List ByteArray) (a0_3 : Int) (r : Bool) (w : World) (hr0_0 : Kd.C Kd.string w A0_0 l0_0.length l0_0) (hc0_0 : l0_0.length ≤ c0_0) (hr0_1 : Kd.C k76 w A0_1 l0_1.length l0_1) (hc0_1 : l0_1.length ≤ c0_1) (hr0_2 : Kd.C Kd.string w A0_2 l0_2.length l0_2) (hc0_2 : l0_2.length ≤ c0_2) (h : laws_FnExactGoodStore.f k l0_0 l0_1 l0_2 a0_3 = some r) :
  Calls Try.prog 5 #[.agg #[.slice A0_0 l0_0.length c0_0, .slice A0_1 l0_1.length c0_1, .slice A0_2 l0_2.length c0_2, .int .i64 a0_3]] w fun e w' => e = .returned (.bool r) ∧ Below w.heap.size w w' := by
 have hu38 := Try.underlying38
 have hu44 := Try.underlying44
 have HR0_0 := Aside0.mk hr0_0
 have HC0_0 := Aside0.mk hc0_0
 clear hr0_0 hc0_0
 have HR0_1 := Aside0.mk hr0_1
 have HC0_1 := Aside0.mk hc0_1
 clear hr0_1 hc0_1
 have HR0_2 := Aside0.mk hr0_2
 have HC0_2 := Aside0.mk hc0_2
 clear hr0_2 hc0_2
 have HB := Aside0.mk (Below.refl w.heap.size w)
 have H : ((laws_szStore.f k l0_0 l0_1 l0_2 a0_3 1048576).bind fun t361 => (if t361 < 0 then (some true) else (laws_FnExactGoodStore.j0 k l0_0 l0_1 l0_2 a0_3))) = some r := h
 clear h
 replace H := Option.bind_eq_some_iff.mp H
 obtain ⟨t361, A20, H⟩ := H
 replace H : (if t361 < 0 then (some true) else (laws_FnExactGoodStore.j0 k l0_0 l0_1 l0_2 a0_3)) = some r := H
 have A2 := Aside0.mk A20
 clear A20
 have HC3 := Aside0.mk H
 clear H
 go_enter Try.func5, Try.ntmps5
 go_upto_if 11 with (first | ((with_reducible refine gate_dst (N := 1) rfl ?_); refine box_event ?hg (N := 1) ?hd (cs := #[.slice A0_0 l0_0.length c0_0, .slice A0_1 l0_1.length c0_1, .slice A0_2 l0_2.length c0_2, .int .i64 a0_3]) (t := 38) ?hr ?_; (case hd => rfl); (case hg => rfl); (case hr => first | (go_simp; done) | (go_simp; rfl)); intro gb360 hg w4 hbox hb; have BK360 := Aside0.mk (hbox); have GW360 := Aside0.mk ((by rw [hg]; exact (below_size (bs HB)) : w.heap.size ≤ gb360)); have GE360 := Aside0.mk ((by rw [hg]; exact (below_size (bs HB)) : w.heap.size ≤ gb360)); replace HB := Aside0.mk (below_step (bs HB) hb); clear hb hbox hg; have hcz5_0 : w4.cell? ⟨gb360, 0, none⟩ = some (.slice A0_0 l0_0.length c0_0) := (blk_cell BK360.out 0).trans rfl; have hcz5_1 : w4.cell? ⟨gb360, 1, none⟩ = some (.slice A0_1 l0_1.length c0_1) := (blk_cell BK360.out 1).trans rfl; have hcz5_2 : w4.cell? ⟨gb360, 2, none⟩ = some (.slice A0_2 l0_2.length c0_2) := (blk_cell BK360.out 2).trans rfl; have hcz5_3 : w4.cell? ⟨gb360, 3, none⟩ = some (.int .i64 a0_3) := (blk_cell BK360.out 3).trans rfl; have hfz5_0 := blk_frozen BK360.out 0; have hfz5_1 := blk_frozen BK360.out 1; have hfz5_2 := blk_frozen BK360.out 2; have hfz5_3 := blk_frozen BK360.out 3) | ((with_reducible refine gate_callee (f := 25) rfl ?_); refine goesL_ (some 9) rfl rfl Try.func25 (by kernel_rfl) rfl #[.agg #[.slice A0_0 l0_0.length c0_0, .slice A0_1 l0_1.length c0_1, .slice A0_2 l0_2.length c0_2, .int .i64 a0_3], .int .i64 1048576] rfl (by (try simp only [List.map_toArray, List.map_cons, List.map_nil]); first | done | rfl | (simp only [List.length_drop, List.length_take]; rfl)) ?_; (with_reducible refine (laws_szStore.calls k _ _ l0_0 _ _ l0_1 _ _ l0_2 a0_3 1048576 t361 _ ?side1 ?side2 ?side3 ?side4 ?side5 ?side6 A2.out).mono ?_); (case side1 => exact cb HR0_0 HB); (case side2 => exact HC0_0.out); (case side3 => exact cb HR0_1 HB); (case side4 => exact HC0_1.out); (case side5 => exact cb HR0_2 HB); (case side6 => exact HC0_2.out); rintro e w6 ⟨rfl, hb⟩; refine ⟨_, rfl, ?_⟩; replace BK360 := nb BK360 hb; replace HB := Aside0.mk (below_step (bs1 HB GE360) hb); (try clear hb); (try clear hb2); (try clear hk); (try clear hi)))
 (try simp only [Act.put, List.setIfInBounds_toArray, List.set_cons_zero, List.set_cons_succ])
 go_cut [] (fun wc => ∃ (kq : Nat), Aside0 (laws_FnExactGoodStore.j0 kq l0_0 l0_1 l0_2 a0_3 = some r) ∧ Aside0 (kq ≤ k) ∧ Aside0 (wc.heap[gb360]? = some (.cells #[(.slice A0_0 l0_0.length c0_0), (.slice A0_1 l0_1.length c0_1), (.slice A0_2 l0_2.length c0_2), .int .i64 a0_3] 38 (0, 0))) ∧ Aside0 (Below w.heap.size w wc))
 case first =>
  have H := HC3.out
  clear HC3
  by_cases c7 : t361 < 0
  ·
   rw [if_pos c7] at H
   have c7b0 : decide (t361 < 0) = true := decide_eq_true c7
   clear c7
   (first | rw [c7b0] | (simp only [i64_w, i32_w]; rw [c7b0]) | (simp only [c7b2, Bool.not_false, Bool.not_true]) | skip)
   obtain rfl := Option.some.inj H
   go_wp2
   go_ret
   exact ⟨by first | rfl | (simp [errW_none, errW_some] <;> rfl) | (simp [*, errW_none, errW_some] <;> rfl), bs1 HB GE360⟩
  ·
   rw [if_neg c7] at H
   have c7b0 : decide (t361 < 0) = false := decide_eq_false c7
   clear c7
   (first | rw [c7b0] | (simp only [i64_w, i32_w]; rw [c7b0]) | (simp only [c7b2, Bool.not_false, Bool.not_true]) | skip)
   have H' := Aside0.mk H
   clear H
   go_wp2
   go_meet
   case rel => exact ⟨_, H', ⟨by first | omega | exact Nat.le_refl _⟩, ⟨bk BK360⟩, ⟨bs1 HB GE360⟩⟩
 case rest =>
  clear HC3
  try clear c2
  try clear p2
  try clear c5
  try clear c7
  try clear c7b0
  try clear hcz5_0
  try clear hcz5_1
  try clear hcz5_2
  try clear hcz5_3
  try clear hfz5_0
  try clear hfz5_1
  try clear hfz5_2
  try clear hfz5_3
  obtain ⟨kq, HA, HJ2, BK360, HB⟩ := hcut
  cases kq with
  | zero => exact absurd HA.out (by simp [laws_FnExactGoodStore.j0])
  | succ kj2 =>
   have H := HA.out
   clear HA
   simp only [laws_FnExactGoodStore.j0] at H
   replace H := Option.bind_eq_some_iff.mp H
   obtain ⟨⟨t362, t365, t368, t371⟩, A80, H⟩ := H
   replace H : ((spec_GoodStore.f kj2 t362 t365 t368 t371).bind fun t372 => ((laws_toStore.f kj2 l0_0 l0_1 l0_2 a0_3).bind fun bt373 => ((impl_GoodStore.f kj2 bt373.1 bt373.2.1 bt373.2.2.1 bt373.2.2.2).bind fun t384 => (if (t384 != t372) = true then (some false) else (laws_FnExactGoodStore.j1 kj2 l0_0 l0_1 l0_2 a0_3 bt373.1 bt373.2.1 bt373.2.2.1 bt373.2.2.2))))) = some r := H
   have A8 := Aside0.mk A80
   clear A80
   replace H := Option.bind_eq_some_iff.mp H
   obtain ⟨t372, A90, H⟩ := H
   replace H : ((laws_toStore.f kj2 l0_0 l0_1 l0_2 a0_3).bind fun bt373 => ((impl_GoodStore.f kj2 bt373.1 bt373.2.1 bt373.2.2.1 bt373.2.2.2).bind fun t384 => (if (t384 != t372) = true then (some false) else (laws_FnExactGoodStore.j1 kj2 l0_0 l0_1 l0_2 a0_3 bt373.1 bt373.2.1 bt373.2.2.1 bt373.2.2.2)))) = some r := H
   have A9 := Aside0.mk A90
   clear A90
   replace H := Option.bind_eq_some_iff.mp H
   obtain ⟨⟨t373, t376, t379, t382⟩, A100, H⟩ := H
   replace H : ((impl_GoodStore.f kj2 t373 t376 t379 t382).bind fun t384 => (if (t384 != t372) = true then (some false) else (laws_FnExactGoodStore.j1 kj2 l0_0 l0_1 l0_2 a0_3 t373 t376 t379 t382))) = some r := H
   have A10 := Aside0.mk A100
   clear A100
   replace H := Option.bind_eq_some_iff.mp H
   obtain ⟨t384, A110, H⟩ := H
   replace H : (if (t384 != t372) = true then (some false) else (laws_FnExactGoodStore.j1 kj2 l0_0 l0_1 l0_2 a0_3 t373 t376 t379 t382)) = some r := H
   have A11 := Aside0.mk A110
   clear A110
   have HC12 := Aside0.mk H
   clear H
   have hcz13_0 : wc.cell? ⟨gb360, 0, none⟩ = some (.slice A0_0 l0_0.length c0_0) := (blk_cell BK360.out 0).trans rfl
   have hcz13_1 : wc.cell? ⟨gb360, 1, none⟩ = some (.slice A0_1 l0_1.length c0_1) := (blk_cell BK360.out 1).trans rfl
   have hcz13_2 : wc.cell? ⟨gb360, 2, none⟩ = some (.slice A0_2 l0_2.length c0_2) := (blk_cell BK360.out 2).trans rfl
   have hcz13_3 : wc.cell? ⟨gb360, 3, none⟩ = some (.int .i64 a0_3) := (blk_cell BK360.out 3).trans rfl
   have hfz13_0 := blk_frozen BK360.out 0
   have hfz13_1 := blk_frozen BK360.out 1
   have hfz13_2 := blk_frozen BK360.out 2
   have hfz13_3 := blk_frozen BK360.out 3
   go_upto_if 21 with (first | ((with_reducible refine gate_callee (f := 27) rfl ?_); refine goesL_ (some 13) rfl rfl Try.func27 (by kernel_rfl) rfl #[.agg #[.slice A0_0 l0_0.length c0_0, .slice A0_1 l0_1.length c0_1, .slice A0_2 l0_2.length c0_2, .int .i64 a0_3]] rfl (by (try simp only [List.map_toArray, List.map_cons, List.map_nil]); first | done | rfl | (simp only [List.length_drop, List.length_take]; rfl)) ?_; (with_reducible refine (laws_toStore.calls kj2 _ _ l0_0 _ _ l0_1 _ _ l0_2 a0_3 t362 t365 t368 t371 _ ?side1 ?side2 ?side3 ?side4 ?side5 ?side6 A8.out).mono ?_); (case side1 => exact cb HR0_0 HB); (case side2 => exact HC0_0.out); (case side3 => exact cb HR0_1 HB); (case side4 => exact HC0_1.out); (case side5 => exact cb HR0_2 HB); (case side6 => exact HC0_2.out); rintro e w14 ⟨v363, v366, v369, rfl, ho0, ho1, ho2, hb⟩; refine ⟨_, rfl, ?_⟩; have HO364 := Aside0.mk (Kd.R_lower ho0 (below_size (bs1 HB GE360))); have HO367 := Aside0.mk (Kd.R_lower ho1 (below_size (bs1 HB GE360))); have HO370 := Aside0.mk (Kd.R_lower ho2 (below_size (bs1 HB GE360))); replace BK360 := nb BK360 hb; replace HB := Aside0.mk (below_step (bs1 HB GE360) hb); (try clear hb); (try clear hb2); (try clear hk); (try clear hi); (try clear ho0); (try clear ho1); (try clear ho2); obtain ⟨Ao15, co15, eo15⟩ := Kd.R_slice HO364.out; subst eo15; obtain ⟨Ao16, co16, eo16⟩ := Kd.R_slice HO367.out; subst eo16; obtain ⟨Ao17, co17, eo17⟩ := Kd.R_slice HO370.out; subst eo17) | ((with_reducible refine gate_callee (f := 26) rfl ?_); refine goesL_ (some 14) rfl rfl Try.func26 (by kernel_rfl) rfl #[.agg #[.slice Ao15 t362.length co15, .slice Ao16 t365.length co16, .slice Ao17 t368.length co17, .int .i64 t371]] rfl (by (try simp only [List.map_toArray, List.map_cons, List.map_nil]); first | done | rfl | (simp only [List.length_drop, List.length_take]; rfl)) ?_; (with_reducible refine (spec_GoodStore.calls kj2 _ _ t362 _ _ t365 _ _ t368 t371 t372 _ ?side1 ?side2 ?side3 ?side4 ?side5 ?side6 A9.out).mono ?_); (case side1 => exact rc0 HO364); (case side2 => exact (Kd.R_reads' HO364.out).2.1); (case side3 => exact rc0 HO367); (case side4 => exact (Kd.R_reads' HO367.out).2.1); (case side5 => exact rc0 HO370); (case side6 => exact (Kd.R_reads' HO370.out).2.1); rintro e w18 ⟨rfl, hb⟩; refine ⟨_, rfl, ?_⟩; replace HO364 := nr HO364 hb; replace HO367 := nr HO367 hb; replace HO370 := nr HO370 hb; replace BK360 := nb BK360 hb; replace HB := Aside0.mk (below_step (bs1 HB GE360) hb); (try clear hb); (try clear hb2); (try clear hk); (try clear hi); have hcz19_0 : w18.cell? ⟨gb360, 0, none⟩ = some (.slice A0_0 l0_0.length c0_0) := (blk_cell BK360.out 0).trans rfl; have hcz19_1 : w18.cell? ⟨gb360, 1, none⟩ = some (.slice A0_1 l0_1.length c0_1) := (blk_cell BK360.out 1).trans rfl; have hcz19_2 : w18.cell? ⟨gb360, 2, none⟩ = some (.slice A0_2 l0_2.length c0_2) := (blk_cell BK360.out 2).trans rfl; have hcz19_3 : w18.cell? ⟨gb360, 3, none⟩ = some (.int .i64 a0_3) := (blk_cell BK360.out 3).trans rfl; have hfz19_0 := blk_frozen BK360.out 0; have hfz19_1 := blk_frozen BK360.out 1; have hfz19_2 := blk_frozen BK360.out 2; have hfz19_3 := blk_frozen BK360.out 3) | ((with_reducible refine gate_callee (f := 27) rfl ?_); refine goesL_ (some 16) rfl rfl Try.func27 (by kernel_rfl) rfl #[.agg #[.slice A0_0 l0_0.length c0_0, .slice A0_1 l0_1.length c0_1, .slice A0_2 l0_2.length c0_2, .int .i64 a0_3]] rfl (by (try simp only [List.map_toArray, List.map_cons, List.map_nil]); first | done | rfl | (simp only [List.length_drop, List.length_take]; rfl)) ?_; (with_reducible refine (laws_toStore.calls kj2 _ _ l0_0 _ _ l0_1 _ _ l0_2 a0_3 t373 t376 t379 t382 _ ?side1 ?side2 ?side3 ?side4 ?side5 ?side6 A10.out).mono ?_); (case side1 => exact cb HR0_0 HB); (case side2 => exact HC0_0.out); (case side3 => exact cb HR0_1 HB); (case side4 => exact HC0_1.out); (case side5 => exact cb HR0_2 HB); (case side6 => exact HC0_2.out); rintro e w20 ⟨v374, v377, v380, rfl, ho0, ho1, ho2, hb⟩; refine ⟨_, rfl, ?_⟩; have HO375 := Aside0.mk (Kd.R_lower (Kd.R_new' (Kd.R_new' ho0 (Kd.R_lt (rr HO364.out))) (Kd.R_lt (rr HO370.out))) (below_size (bs1 HB GE360))); have HO378 := Aside0.mk (Kd.R_lower (Kd.R_new' ho1 (Kd.R_lt (rr HO367.out))) (below_size (bs1 HB GE360))); replace HO367 := Aside0.mk (Kd.R_elder' (rr HO367.out) (Kd.R_base ho1) hb); have HO381 := Aside0.mk (Kd.R_lower (Kd.R_new' (Kd.R_new' ho2 (Kd.R_lt (rr HO364.out))) (Kd.R_lt (rr HO370.out))) (below_size (bs1 HB GE360))); replace HO364 := Aside0.mk (Kd.R_mono (Kd.R_told (Kd.R_told (Kd.R_old (rr HO364.out) hb) (Kd.R_base ho0)) (Kd.R_base ho2)) (fun _ h_ => h_.1)); replace HO370 := Aside0.mk (Kd.R_mono (Kd.R_told (Kd.R_told (Kd.R_old (rr HO370.out) hb) (Kd.R_base ho0)) (Kd.R_base ho2)) (fun _ h_ => h_.1)); replace BK360 := nb BK360 hb; replace HB := Aside0.mk (below_step (bs1 HB GE360) hb); (try clear hb); (try clear hb2); (try clear hk); (try clear hi); (try clear ho0); (try clear ho1); (try clear ho2)) | ((with_reducible refine gate_dst (N := 5) rfl ?_); refine box_event ?hg (N := 5) ?hd (cs := #[.slice none 0 0, .slice none 0 0, .slice none 0 0, .int .i64 0]) (t := 44) ?hr ?_; (case hd => rfl); (case hg => rfl); (case hr => first | (go_simp; done) | (go_simp; rfl)); intro gb383 hg w21 hbox hb; replace HO364 := nr HO364 hb; replace HO367 := nr HO367 hb; replace HO370 := nr HO370 hb; replace HO375 := nr HO375 hb; replace HO378 := nr HO378 hb; replace HO381 := nr HO381 hb; have BK383 := Aside0.mk (hbox); have GW383 := Aside0.mk ((by rw [hg]; exact (below_size (bs1 HB GE360)) : w.heap.size ≤ gb383)); have GE383 := Aside0.mk ((by rw [hg]; exact (below_size (bs1 HB GE360)) : w.heap.size ≤ gb383)); replace HB := Aside0.mk (below_step (bs1 HB GE360) hb); have NB360_383 := Aside0.mk ((bn BK360 hg : gb360 ≠ gb383)); have NB383_360 := Aside0.mk ((bm BK360 hg : gb383 ≠ gb360)); replace BK360 := nb BK360 hb; clear hb hbox hg; obtain ⟨Ao22, co22, eo22⟩ := Kd.R_slice HO375.out; subst eo22; have hnb23 := NB383_360.out; have hnc23 := NB360_383.out; have hcz24_0 : w21.cell? ⟨gb383, 0, none⟩ = some (.slice none 0 0) := (blk_cell BK383.out 0).trans rfl; have hcz24_1 : w21.cell? ⟨gb383, 1, none⟩ = some (.slice none 0 0) := (blk_cell BK383.out 1).trans rfl; have hcz24_2 : w21.cell? ⟨gb383, 2, none⟩ = some (.slice none 0 0) := (blk_cell BK383.out 2).trans rfl; have hcz24_3 : w21.cell? ⟨gb383, 3, none⟩ = some (.int .i64 0) := (blk_cell BK383.out 3).trans rfl; have hfz24_0 := blk_frozen BK383.out 0; have hfz24_1 := blk_frozen BK383.out 1; have hfz24_2 := blk_frozen BK383.out 2; have hfz24_3 := blk_frozen BK383.out 3; obtain ⟨Ao25, co25, eo25⟩ := Kd.R_slice HO378.out; subst eo25; obtain ⟨Ao26, co26, eo26⟩ := Kd.R_slice HO381.out; subst eo26) | ((with_reducible refine gate_callee (f := 28) rfl ?_); refine goesL_ (some 18) rfl rfl Try.func28 (by kernel_rfl) rfl #[.agg #[.slice Ao22 t373.length co22, .slice Ao25 t376.length co25, .slice Ao26 t379.length co26, .int .i64 t382]] rfl (by (try simp only [List.map_toArray, List.map_cons, List.map_nil]); first | done | rfl | (simp only [List.length_drop, List.length_take]; rfl)) ?_; (with_reducible refine (impl_GoodStore.calls kj2 _ _ t373 _ _ t376 _ _ t379 t382 t384 _ ?side1 ?side2 ?side3 ?side4 ?side5 ?side6 A11.out).mono ?_); (case side1 => exact rc HO375 BK383); (case side2 => exact (Kd.R_reads' HO375.out).2.1); (case side3 => exact rc HO378 BK383); (case side4 => exact (Kd.R_reads' HO378.out).2.1); (case side5 => exact rc HO381 BK383); (case side6 => exact (Kd.R_reads' HO381.out).2.1); rintro e w27 ⟨rfl, hb⟩; refine ⟨_, rfl, ?_⟩; replace HO364 := nf HO364 BK383 hb; replace HO367 := nf HO367 BK383 hb; replace HO370 := nf HO370 BK383 hb; replace HO375 := nf HO375 BK383 hb; replace HO378 := nf HO378 BK383 hb; replace HO381 := nf HO381 BK383 hb; replace BK360 := Aside0.mk (blk_below (bf BK360 NB360_383) hb); replace BK383 := Aside0.mk (blk_below (g := gb383) (o := .cells #[.slice Ao22 t373.length co22, .slice Ao25 t376.length co25, .slice Ao26 t379.length co26, .int .i64 t382] 44 (0, 0)) (by (with_reducible repeat (first | refine blk_drewN ?_ _ | refine blk_drew ?_ | refine blk_alloc ?_ _)); refine blk_put (cs := #[.slice Ao22 t373.length co22, .slice Ao25 t376.length co25, .slice Ao26 t379.length co26, .int .i64 0]) ?_ 3 _ rfl; (with_reducible repeat (first | refine blk_drewN ?_ _ | refine blk_drew ?_ | refine blk_alloc ?_ _)); refine blk_put (cs := #[.slice Ao22 t373.length co22, .slice Ao25 t376.length co25, .slice none 0 0, .int .i64 0]) ?_ 2 _ rfl; (with_reducible repeat (first | refine blk_drewN ?_ _ | refine blk_drew ?_ | refine blk_alloc ?_ _)); refine blk_put (cs := #[.slice Ao22 t373.length co22, .slice none 0 0, .slice none 0 0, .int .i64 0]) ?_ 1 _ rfl; (with_reducible repeat (first | refine blk_drewN ?_ _ | refine blk_drew ?_ | refine blk_alloc ?_ _)); refine blk_put (cs := #[.slice none 0 0, .slice none 0 0, .slice none 0 0, .int .i64 0]) ?_ 0 _ rfl; (with_reducible repeat (first | refine blk_drewN ?_ _ | refine blk_drew ?_ | refine blk_alloc ?_ _)); exact BK383.out) hb); replace HB := Aside0.mk (below_step (bs2 HB GE360 GE383) hb); (try clear hb); (try clear hb2); (try clear hk); (try clear hi)))
   (try simp only [Act.put, List.setIfInBounds_toArray, List.set_cons_zero, List.set_cons_succ])
   go_cut [] (fun wc => ∃ (kq : Nat), Aside0 (laws_FnExactGoodStore.j1 kq l0_0 l0_1 l0_2 a0_3 t373 t376 t379 t382 = some r) ∧ Aside0 (kq ≤ kj2) ∧ Aside0 (Kd.R Kd.string 9 wc w.heap.size (fun k_ => some k_ ≠ ((.slice Ao26 t379.length co26) : Value).ownBlock) (.slice Ao22 t373.length co22) t373) ∧ Aside0 (Kd.R k72 72 wc w.heap.size (fun _ => True) (.slice Ao25 t376.length co25) t376) ∧ Aside0 (Kd.R Kd.string 9 wc w.heap.size (fun k_ => some k_ ≠ ((.slice Ao22 t373.length co22) : Value).ownBlock) (.slice Ao26 t379.length co26) t379) ∧ Aside0 (wc.heap[gb360]? = some (.cells #[(.slice A0_0 l0_0.length c0_0), (.slice A0_1 l0_1.length c0_1), (.slice A0_2 l0_2.length c0_2), .int .i64 a0_3] 38 (0, 0))) ∧ Aside0 (wc.heap[gb383]? = some (.cells #[(.slice Ao22 t373.length co22), (.slice Ao25 t376.length co25), (.slice Ao26 t379.length co26), .int .i64 t382] 44 (0, 0))) ∧ Aside0 (Below w.heap.size w wc))
   case first =>
    have H := HC12.out
    clear HC12
    by_cases c28 : (t384 != t372) = true
    ·
     rw [if_pos c28] at H
     have c28b0 : (t384 != t372) = true := c28
     (try (have c28b1 : decide (t384 = t372) = false := by simpa using c28))
     (try (have c28b2 : (t384 == t372) = false := by simpa using c28))
     (try (have c28b3 : ¬ (t384 = t372) := by simpa using c28))
     clear c28
     (first | rw [c28b0] | (simp only [i64_w, i32_w]; rw [c28b0]) | (simp only [c28b2, Bool.not_false, Bool.not_true]) | skip)
     obtain rfl := Option.some.inj H
     go_wp2
     go_ret
     exact ⟨by first | rfl | (simp [errW_none, errW_some] <;> rfl) | (simp [*, errW_none, errW_some] <;> rfl), bs2 HB GE360 GE383⟩
    ·
     rw [if_neg c28] at H
     have c28b0 : (t384 != t372) = false := by simpa using c28
     (try (have c28b1 : decide (t384 = t372) = true := by simpa using c28))
     (try (have c28b2 : (t384 == t372) = true := by simpa using c28))
     clear c28
     (first | rw [c28b0] | (simp only [i64_w, i32_w]; rw [c28b0]) | (simp only [c28b2, Bool.not_false, Bool.not_true]) | skip)
     have H' := Aside0.mk H
     clear H
     go_wp2
     go_meet
     case rel => exact ⟨_, H', ⟨by have := HJ2.out; first | omega | exact Nat.le_refl _⟩, rm HO375 (fun _ hk => hk.1.1), rm HO378 (fun _ hk => trivial), rm HO381 (fun _ hk => hk.1.1), ⟨bk BK360⟩, ⟨bk BK383⟩, ⟨bs2 HB GE360 GE383⟩⟩
   case rest =>
    clear HC12
    try clear c2
    try clear p2
    try clear c5
    try clear c7
    try clear c7b0
    try clear c23
    try clear c25
    try clear c26
    try clear c27
    try clear c28
    try clear c28b0
    try clear c28b1
    try clear c28b2
    try clear hcz13_0
    try clear hcz13_1
    try clear hcz13_2
    try clear hcz13_3
    try clear hcz19_0
    try clear hcz19_1
    try clear hcz19_2
    try clear hcz19_3
    try clear hcz24_0
    try clear hcz24_1
    try clear hcz24_2
    try clear hcz24_3
    try clear hcz5_0
    try clear hcz5_1
    try clear hcz5_2
    try clear hcz5_3
    try clear hfz13_0
    try clear hfz13_1
    try clear hfz13_2
    try clear hfz13_3
    try clear hfz19_0
    try clear hfz19_1
    try clear hfz19_2
    try clear hfz19_3
    try clear hfz24_0
    try clear hfz24_1
    try clear hfz24_2
    try clear hfz24_3
    try clear hfz5_0
    try clear hfz5_1
    try clear hfz5_2
    try clear hfz5_3
    try clear p2
    obtain ⟨kq, HA, HJ11, HO_384000, HO_384001, HO_384002, BK360, BK383, HB⟩ := hcut
    cases kq with
    | zero => exact absurd HA.out (by simp [laws_FnExactGoodStore.j1])
    | succ kj11 =>
     have H := HA.out
     clear HA
     simp only [laws_FnExactGoodStore.j1] at H
     replace H := Option.bind_eq_some_iff.mp H
     obtain ⟨⟨t385, t388, t391, t394⟩, A290, H⟩ := H
     replace H : ((laws_eqStore.f kj11 t373 t376 t379 t382 t385 t388 t391 t394).bind fun t395 => (if t395 = true then (some true) else (some false))) = some r := H
     have A29 := Aside0.mk A290
     clear A290
     replace H := Option.bind_eq_some_iff.mp H
     obtain ⟨t395, A300, H⟩ := H
     replace H : (if t395 = true then (some true) else (some false)) = some r := H
     have A30 := Aside0.mk A300
     clear A300
     by_cases c31 : t395 = true
     ·
      subst c31
      rw [if_pos rfl] at H
      obtain rfl := Option.some.inj H
      try go_wp2
      have n0_ := Aside0.mk (Kd.R_drew HO_384000.out)
      have n1_ := Aside0.mk (Kd.R_drew HO_384001.out)
      have n2_ := Aside0.mk (Kd.R_drew HO_384002.out)
      have n3_ := Aside0.mk (blk_drew BK360.out)
      have n4_ := Aside0.mk (blk_drew BK383.out)
      have n5_ := Aside0.mk (below_drew1 HB.out)
      clear HO_384000
      clear HO_384001
      clear HO_384002
      clear BK360
      clear BK383
      clear HB
      have HO_384000 := n0_
      have HO_384001 := n1_
      have HO_384002 := n2_
      have BK360 := n3_
      have BK383 := n4_
      have HB := n5_
      clear n0_ n1_ n2_ n3_ n4_ n5_
      refine start_ (n := 5) (S := fun w' => w'.cell? ⟨gb383, 0, none⟩ = some (.slice Ao22 t373.length co22) ∧ w'.cell? ⟨gb383, 1, none⟩ = some (.slice Ao25 t376.length co25) ∧ w'.cell? ⟨gb383, 2, none⟩ = some (.slice Ao26 t379.length co26) ∧ w'.cell? ⟨gb383, 3, none⟩ = some (.int .i64 t382) ∧ w'.cell? ⟨gb360, 0, none⟩ = some (.slice A0_0 l0_0.length c0_0) ∧ w'.cell? ⟨gb360, 1, none⟩ = some (.slice A0_1 l0_1.length c0_1) ∧ w'.cell? ⟨gb360, 2, none⟩ = some (.slice A0_2 l0_2.length c0_2) ∧ w'.cell? ⟨gb360, 3, none⟩ = some (.int .i64 a0_3)) (ds := []) #[false, false, false, false, false] (by kernel_rfl) rfl rfl ⟨(blk_cell BK383.out 0).trans rfl, (blk_cell BK383.out 1).trans rfl, (blk_cell BK383.out 2).trans rfl, (blk_cell BK383.out 3).trans rfl, (blk_cell BK360.out 0).trans rfl, (blk_cell BK360.out 1).trans rfl, (blk_cell BK360.out 2).trans rfl, (blk_cell BK360.out 3).trans rfl⟩ (fun hHeld => ?_)
      generalize wc.drew = w32 at HO_384000 HO_384001 HO_384002 BK360 BK383 HB hHeld ⊢
      refine take_ (i := 0) (N := some 22) (v := ?_) (a' := ?_) #[true, false, false, false, false] rfl rfl (by kernel_rfl) (fun _ _ _ h => h) (Or.inl ⟨by rfl, ?_⟩) hHeld ?_ ?_
      rotate_left
      ·
       rintro w' ⟨s0, s1, s2, s3, s4, s5, s6, s7⟩
       go_simp
       with_reducible rfl
      rotate_left
      ·
       simp only [Act.put, List.setIfInBounds_toArray, List.set_cons_zero, List.set_cons_succ, i64_w, i32_w]
       rfl
      refine take_ (i := 1) (N := some 23) (v := ?_) (a' := ?_) #[true, true, false, false, false] rfl rfl (by kernel_rfl) (fun _ _ _ h => h) (Or.inl ⟨by rfl, ?_⟩) hHeld ?_ ?_
      rotate_left
      ·
       rintro w' ⟨s0, s1, s2, s3, s4, s5, s6, s7⟩
       go_simp
       with_reducible rfl
      rotate_left
      ·
       simp only [Act.put, List.setIfInBounds_toArray, List.set_cons_zero, List.set_cons_succ, i64_w, i32_w]
       rfl
      refine one_ (i := 2) (N := some 24) #[true, true, true, false, false] rfl rfl (by kernel_rfl) (by decide) (fun K hK => ?_)
      refine goes_ Try.func27 (by kernel_rfl) rfl #[.agg #[.slice A0_0 l0_0.length c0_0, .slice A0_1 l0_1.length c0_1, .slice A0_2 l0_2.length c0_2, .int .i64 a0_3]] (by rfl) rfl rfl (by (try simp only [List.map_toArray, List.map_cons, List.map_nil]); first | done | rfl | (simp only [List.length_drop, List.length_take]; rfl)) ?_
      with_reducible refine (laws_toStore.calls kj11 _ _ l0_0 _ _ l0_1 _ _ l0_2 a0_3 t385 t388 t391 t394 _ ?side1 ?side2 ?side3 ?side4 ?side5 ?side6 A29.out).mono ?_
      (case side1 => exact cb HR0_0 HB)
      (case side2 => exact HC0_0.out)
      (case side3 => exact cb HR0_1 HB)
      (case side4 => exact HC0_1.out)
      (case side5 => exact cb HR0_2 HB)
      (case side6 => exact HC0_2.out)
      rintro e w33 ⟨v386, v389, v392, rfl, ho0, ho1, ho2, hb⟩
      refine ⟨_, rfl, ?_⟩
      have n0_ := Aside0.mk (Kd.R_mono (Kd.R_told (Kd.R_told (Kd.R_old (rr HO_384000.out) hb) (Kd.R_base ho0)) (Kd.R_base ho2)) (fun _ h_ => h_.1))
      have n1_ := Aside0.mk (Kd.R_elder' (rr HO_384001.out) (Kd.R_base ho1) hb)
      have n2_ := Aside0.mk (Kd.R_mono (Kd.R_told (Kd.R_told (Kd.R_old (rr HO_384002.out) hb) (Kd.R_base ho0)) (Kd.R_base ho2)) (fun _ h_ => h_.1))
      have n3_ := Aside0.mk (Kd.R_lower (Kd.R_new' (Kd.R_new' ho0 (Kd.R_lt (rr HO_384000.out))) (Kd.R_lt (rr HO_384002.out))) (below_size (bs2 HB GE360 GE383)))
      have n4_ := Aside0.mk (Kd.R_lower (Kd.R_new' ho1 (Kd.R_lt (rr HO_384001.out))) (below_size (bs2 HB GE360 GE383)))
      have n5_ := Aside0.mk (Kd.R_lower (Kd.R_new' (Kd.R_new' ho2 (Kd.R_lt (rr HO_384000.out))) (Kd.R_lt (rr HO_384002.out))) (below_size (bs2 HB GE360 GE383)))
      have n6_ := Aside0.mk (bb BK360 hb)
      have n7_ := Aside0.mk (bb BK383 hb)
      have n8_ := Aside0.mk (below_step (bs2 HB GE360 GE383) hb)
      clear HO_384000
      clear HO_384001
      clear HO_384002
      clear BK360
      clear BK383
      clear HB
      have HO_384000 := n0_
      have HO_384001 := n1_
      have HO_384002 := n2_
      have HO387 := n3_
      have HO390 := n4_
      have HO393 := n5_
      have BK360 := n6_
      have BK383 := n7_
      have HB := n8_
      clear n0_ n1_ n2_ n3_ n4_ n5_ n6_ n7_ n8_
      (try clear hb)
      (try clear hb2)
      (try clear hk)
      (try clear hi)
      (try clear ho0)
      (try clear ho1)
      (try clear ho2)
      obtain ⟨Ao34, co34, eo34⟩ := Kd.R_slice HO387.out
      (first | subst eo34 | (injection eo34 with f1_ f2_ f3_; have f4_ := f1_.symm; have f5_ := f3_.symm; clear f1_ f2_ f3_; subst f4_; subst f5_))
      obtain ⟨Ao35, co35, eo35⟩ := Kd.R_slice HO390.out
      (first | subst eo35 | (injection eo35 with f1_ f2_ f3_; have f4_ := f1_.symm; have f5_ := f3_.symm; clear f1_ f2_ f3_; subst f4_; subst f5_))
      obtain ⟨Ao36, co36, eo36⟩ := Kd.R_slice HO393.out
      (first | subst eo36 | (injection eo36 with f1_ f2_ f3_; have f4_ := f1_.symm; have f5_ := f3_.symm; clear f1_ f2_ f3_; subst f4_; subst f5_))
      refine hK.out _ _ ⟨(blk_cell BK383.out 0).trans rfl, (blk_cell BK383.out 1).trans rfl, (blk_cell BK383.out 2).trans rfl, (blk_cell BK383.out 3).trans rfl, (blk_cell BK360.out 0).trans rfl, (blk_cell BK360.out 1).trans rfl, (blk_cell BK360.out 2).trans rfl, (blk_cell BK360.out 3).trans rfl⟩ (fun hHeld => ?_)
      clear hK K
      refine norm_ (a' := ?_) ?_ ?_
      rotate_left
      ·
       show Act.put _ (some 24) _ = _
       simp only [Act.put, List.setIfInBounds_toArray, List.set_cons_zero, List.set_cons_succ, i64_w, i32_w]
       rfl
      refine one_ (i := 3) (N := some 25) #[true, true, true, true, false] rfl rfl (by kernel_rfl) (by decide) (fun K hK => ?_)
      refine goes_ Try.func29 (by kernel_rfl) rfl #[.agg #[.slice Ao22 t373.length co22, .slice Ao25 t376.length co25, .slice Ao26 t379.length co26, .int .i64 t382], .agg #[.slice Ao34 t385.length co34, .slice Ao35 t388.length co35, .slice Ao36 t391.length co36, .int .i64 t394]] (by rfl) rfl rfl (by (try simp only [List.map_toArray, List.map_cons, List.map_nil]); first | done | rfl | (simp only [List.length_drop, List.length_take]; rfl)) ?_
      with_reducible refine (laws_eqStore.calls kj11 _ _ t373 _ _ t376 _ _ t379 t382 _ _ t385 _ _ t388 _ _ t391 t394 true _ ?side1 ?side2 ?side3 ?side4 ?side5 ?side6 ?side7 ?side8 ?side9 ?side10 ?side11 ?side12 A30.out).mono ?_
      (case side1 => exact rc0 HO_384000)
      (case side2 => exact (Kd.R_reads' HO_384000.out).2.1)
      (case side3 => exact rc0 HO_384001)
      (case side4 => exact (Kd.R_reads' HO_384001.out).2.1)
      (case side5 => exact rc0 HO_384002)
      (case side6 => exact (Kd.R_reads' HO_384002.out).2.1)
      (case side7 => exact rc0 HO387)
      (case side8 => exact (Kd.R_reads' HO387.out).2.1)
      (case side9 => exact rc0 HO390)
      (case side10 => exact (Kd.R_reads' HO390.out).2.1)
      (case side11 => exact rc0 HO393)
      (case side12 => exact (Kd.R_reads' HO393.out).2.1)
      rintro e w37 ⟨rfl, hb⟩
      refine ⟨_, rfl, ?_⟩
      have n0_ := Aside0.mk (Kd.R_below (rr HO_384000.out) hb)
      have n1_ := Aside0.mk (Kd.R_below (rr HO_384001.out) hb)
      have n2_ := Aside0.mk (Kd.R_below (rr HO_384002.out) hb)
      have n3_ := Aside0.mk (Kd.R_below (rr HO387.out) hb)
      have n4_ := Aside0.mk (Kd.R_below (rr HO390.out) hb)
      have n5_ := Aside0.mk (Kd.R_below (rr HO393.out) hb)
      have n6_ := Aside0.mk (bb BK360 hb)
      have n7_ := Aside0.mk (bb BK383 hb)
      have n8_ := Aside0.mk (below_step (bs2 HB GE360 GE383) hb)
      clear HO_384000
      clear HO_384001
      clear HO_384002
      clear HO387
      clear HO390
      clear HO393
      clear BK360
      clear BK383
      clear HB
      have HO_384000 := n0_
      have HO_384001 := n1_
      have HO_384002 := n2_
      have HO387 := n3_
      have HO390 := n4_
      have HO393 := n5_
      have BK360 := n6_
      have BK383 := n7_
      have HB := n8_
      clear n0_ n1_ n2_ n3_ n4_ n5_ n6_ n7_ n8_
      (try clear hb)
      (try clear hb2)
      (try clear hk)
      (try clear hi)
      refine hK.out _ _ ⟨(blk_cell BK383.out 0).trans rfl, (blk_cell BK383.out 1).trans rfl, (blk_cell BK383.out 2).trans rfl, (blk_cell BK383.out 3).trans rfl, (blk_cell BK360.out 0).trans rfl, (blk_cell BK360.out 1).trans rfl, (blk_cell BK360.out 2).trans rfl, (blk_cell BK360.out 3).trans rfl⟩ (fun hHeld => ?_)
      clear hK K
      refine norm_ (a' := ?_) ?_ ?_
      rotate_left
      ·
       show Act.put _ (some 25) _ = _
       simp only [Act.put, List.setIfInBounds_toArray, List.set_cons_zero, List.set_cons_succ, i64_w, i32_w]
       rfl
      refine pure_ (i := 4) (N := some 26) (v := ?_) (a' := ?_) #[true, true, true, true, true] rfl rfl (by kernel_rfl) (fun _ _ _ h => h) (Or.inl ⟨by rfl, ?_⟩) ?_ ?_
      rotate_left
      ·
       intro w'
       go_simp
       with_reducible rfl
      rotate_left
      ·
       simp only [Act.put, List.setIfInBounds_toArray, List.set_cons_zero, List.set_cons_succ, i64_w, i32_w]
       rfl
      refine done_ (by kernel_rfl) ?_
      try go_wp2
      go_ret
      exact ⟨by first | rfl | (simp [errW_none, errW_some] <;> rfl) | (simp [*, errW_none, errW_some] <;> rfl), bs2 HB GE360 GE383⟩
     ·
      replace c31 := Bool.eq_false_iff.mpr c31
      subst c31
      rw [if_neg (show ¬ (false = true) by decide)] at H
      obtain rfl := Option.some.inj H
      try go_wp2
      have n0_ := Aside0.mk (Kd.R_drew HO_384000.out)
      have n1_ := Aside0.mk (Kd.R_drew HO_384001.out)
      have n2_ := Aside0.mk (Kd.R_drew HO_384002.out)
      have n3_ := Aside0.mk (blk_drew BK360.out)
      have n4_ := Aside0.mk (blk_drew BK383.out)
      have n5_ := Aside0.mk (below_drew1 HB.out)
      clear HO_384000
      clear HO_384001
      clear HO_384002
      clear BK360
      clear BK383
      clear HB
      have HO_384000 := n0_
      have HO_384001 := n1_
      have HO_384002 := n2_
      have BK360 := n3_
      have BK383 := n4_
      have HB := n5_
      clear n0_ n1_ n2_ n3_ n4_ n5_
      refine start_ (n := 5) (S := fun w' => w'.cell? ⟨gb383, 0, none⟩ = some (.slice Ao22 t373.length co22) ∧ w'.cell? ⟨gb383, 1, none⟩ = some (.slice Ao25 t376.length co25) ∧ w'.cell? ⟨gb383, 2, none⟩ = some (.slice Ao26 t379.length co26) ∧ w'.cell? ⟨gb383, 3, none⟩ = some (.int .i64 t382) ∧ w'.cell? ⟨gb360, 0, none⟩ = some (.slice A0_0 l0_0.length c0_0) ∧ w'.cell? ⟨gb360, 1, none⟩ = some (.slice A0_1 l0_1.length c0_1) ∧ w'.cell? ⟨gb360, 2, none⟩ = some (.slice A0_2 l0_2.length c0_2) ∧ w'.cell? ⟨gb360, 3, none⟩ = some (.int .i64 a0_3)) (ds := []) #[false, false, false, false, false] (by kernel_rfl) rfl rfl ⟨(blk_cell BK383.out 0).trans rfl, (blk_cell BK383.out 1).trans rfl, (blk_cell BK383.out 2).trans rfl, (blk_cell BK383.out 3).trans rfl, (blk_cell BK360.out 0).trans rfl, (blk_cell BK360.out 1).trans rfl, (blk_cell BK360.out 2).trans rfl, (blk_cell BK360.out 3).trans rfl⟩ (fun hHeld => ?_)
      generalize wc.drew = w38 at HO_384000 HO_384001 HO_384002 BK360 BK383 HB hHeld ⊢
      refine take_ (i := 0) (N := some 22) (v := ?_) (a' := ?_) #[true, false, false, false, false] rfl rfl (by kernel_rfl) (fun _ _ _ h => h) (Or.inl ⟨by rfl, ?_⟩) hHeld ?_ ?_
      rotate_left
      ·
       rintro w' ⟨s0, s1, s2, s3, s4, s5, s6, s7⟩
       go_simp
       with_reducible rfl
      rotate_left
      ·
       simp only [Act.put, List.setIfInBounds_toArray, List.set_cons_zero, List.set_cons_succ, i64_w, i32_w]
       rfl
      refine take_ (i := 1) (N := some 23) (v := ?_) (a' := ?_) #[true, true, false, false, false] rfl rfl (by kernel_rfl) (fun _ _ _ h => h) (Or.inl ⟨by rfl, ?_⟩) hHeld ?_ ?_
      rotate_left
      ·
       rintro w' ⟨s0, s1, s2, s3, s4, s5, s6, s7⟩
       go_simp
       with_reducible rfl
      rotate_left
      ·
       simp only [Act.put, List.setIfInBounds_toArray, List.set_cons_zero, List.set_cons_succ, i64_w, i32_w]
       rfl
      refine one_ (i := 2) (N := some 24) #[true, true, true, false, false] rfl rfl (by kernel_rfl) (by decide) (fun K hK => ?_)
      refine goes_ Try.func27 (by kernel_rfl) rfl #[.agg #[.slice A0_0 l0_0.length c0_0, .slice A0_1 l0_1.length c0_1, .slice A0_2 l0_2.length c0_2, .int .i64 a0_3]] (by rfl) rfl rfl (by (try simp only [List.map_toArray, List.map_cons, List.map_nil]); first | done | rfl | (simp only [List.length_drop, List.length_take]; rfl)) ?_
      with_reducible refine (laws_toStore.calls kj11 _ _ l0_0 _ _ l0_1 _ _ l0_2 a0_3 t385 t388 t391 t394 _ ?side1 ?side2 ?side3 ?side4 ?side5 ?side6 A29.out).mono ?_
      (case side1 => exact cb HR0_0 HB)
      (case side2 => exact HC0_0.out)
      (case side3 => exact cb HR0_1 HB)
      (case side4 => exact HC0_1.out)
      (case side5 => exact cb HR0_2 HB)
      (case side6 => exact HC0_2.out)
      rintro e w39 ⟨v386, v389, v392, rfl, ho0, ho1, ho2, hb⟩
      refine ⟨_, rfl, ?_⟩
      have n0_ := Aside0.mk (Kd.R_mono (Kd.R_told (Kd.R_told (Kd.R_old (rr HO_384000.out) hb) (Kd.R_base ho0)) (Kd.R_base ho2)) (fun _ h_ => h_.1))
      have n1_ := Aside0.mk (Kd.R_elder' (rr HO_384001.out) (Kd.R_base ho1) hb)
      have n2_ := Aside0.mk (Kd.R_mono (Kd.R_told (Kd.R_told (Kd.R_old (rr HO_384002.out) hb) (Kd.R_base ho0)) (Kd.R_base ho2)) (fun _ h_ => h_.1))
      have n3_ := Aside0.mk (Kd.R_lower (Kd.R_new' (Kd.R_new' ho0 (Kd.R_lt (rr HO_384000.out))) (Kd.R_lt (rr HO_384002.out))) (below_size (bs2 HB GE360 GE383)))
      have n4_ := Aside0.mk (Kd.R_lower (Kd.R_new' ho1 (Kd.R_lt (rr HO_384001.out))) (below_size (bs2 HB GE360 GE383)))
      have n5_ := Aside0.mk (Kd.R_lower (Kd.R_new' (Kd.R_new' ho2 (Kd.R_lt (rr HO_384000.out))) (Kd.R_lt (rr HO_384002.out))) (below_size (bs2 HB GE360 GE383)))
      have n6_ := Aside0.mk (bb BK360 hb)
      have n7_ := Aside0.mk (bb BK383 hb)
      have n8_ := Aside0.mk (below_step (bs2 HB GE360 GE383) hb)
      clear HO_384000
      clear HO_384001
      clear HO_384002
      clear BK360
      clear BK383
      clear HB
      have HO_384000 := n0_
      have HO_384001 := n1_
      have HO_384002 := n2_
      have HO387 := n3_
      have HO390 := n4_
      have HO393 := n5_
      have BK360 := n6_
      have BK383 := n7_
      have HB := n8_
      clear n0_ n1_ n2_ n3_ n4_ n5_ n6_ n7_ n8_
      (try clear hb)
      (try clear hb2)
      (try clear hk)
      (try clear hi)
      (try clear ho0)
      (try clear ho1)
      (try clear ho2)
      obtain ⟨Ao40, co40, eo40⟩ := Kd.R_slice HO387.out
      (first | subst eo40 | (injection eo40 with f1_ f2_ f3_; have f4_ := f1_.symm; have f5_ := f3_.symm; clear f1_ f2_ f3_; subst f4_; subst f5_))
      obtain ⟨Ao41, co41, eo41⟩ := Kd.R_slice HO390.out
      (first | subst eo41 | (injection eo41 with f1_ f2_ f3_; have f4_ := f1_.symm; have f5_ := f3_.symm; clear f1_ f2_ f3_; subst f4_; subst f5_))
      obtain ⟨Ao42, co42, eo42⟩ := Kd.R_slice HO393.out
      (first | subst eo42 | (injection eo42 with f1_ f2_ f3_; have f4_ := f1_.symm; have f5_ := f3_.symm; clear f1_ f2_ f3_; subst f4_; subst f5_))
      refine hK.out _ _ ⟨(blk_cell BK383.out 0).trans rfl, (blk_cell BK383.out 1).trans rfl, (blk_cell BK383.out 2).trans rfl, (blk_cell BK383.out 3).trans rfl, (blk_cell BK360.out 0).trans rfl, (blk_cell BK360.out 1).trans rfl, (blk_cell BK360.out 2).trans rfl, (blk_cell BK360.out 3).trans rfl⟩ (fun hHeld => ?_)
      clear hK K
      refine norm_ (a' := ?_) ?_ ?_
      rotate_left
      ·
       show Act.put _ (some 24) _ = _
       simp only [Act.put, List.setIfInBounds_toArray, List.set_cons_zero, List.set_cons_succ, i64_w, i32_w]
       rfl
      refine one_ (i := 3) (N := some 25) #[true, true, true, true, false] rfl rfl (by kernel_rfl) (by decide) (fun K hK => ?_)
      refine goes_ Try.func29 (by kernel_rfl) rfl #[.agg #[.slice Ao22 t373.length co22, .slice Ao25 t376.length co25, .slice Ao26 t379.length co26, .int .i64 t382], .agg #[.slice Ao40 t385.length co40, .slice Ao41 t388.length co41, .slice Ao42 t391.length co42, .int .i64 t394]] (by rfl) rfl rfl (by (try simp only [List.map_toArray, List.map_cons, List.map_nil]); first | done | rfl | (simp only [List.length_drop, List.length_take]; rfl)) ?_
      with_reducible refine (laws_eqStore.calls kj11 _ _ t373 _ _ t376 _ _ t379 t382 _ _ t385 _ _ t388 _ _ t391 t394 false _ ?side1 ?side2 ?side3 ?side4 ?side5 ?side6 ?side7 ?side8 ?side9 ?side10 ?side11 ?side12 A30.out).mono ?_
      (case side1 => exact rc0 HO_384000)
      (case side2 => exact (Kd.R_reads' HO_384000.out).2.1)
      (case side3 => exact rc0 HO_384001)
      (case side4 => exact (Kd.R_reads' HO_384001.out).2.1)
      (case side5 => exact rc0 HO_384002)
      (case side6 => exact (Kd.R_reads' HO_384002.out).2.1)
      (case side7 => exact rc0 HO387)
      (case side8 => exact (Kd.R_reads' HO387.out).2.1)
      (case side9 => exact rc0 HO390)
      (case side10 => exact (Kd.R_reads' HO390.out).2.1)
      (case side11 => exact rc0 HO393)
      (case side12 => exact (Kd.R_reads' HO393.out).2.1)
      rintro e w43 ⟨rfl, hb⟩
      refine ⟨_, rfl, ?_⟩
      have n0_ := Aside0.mk (Kd.R_below (rr HO_384000.out) hb)
      have n1_ := Aside0.mk (Kd.R_below (rr HO_384001.out) hb)
      have n2_ := Aside0.mk (Kd.R_below (rr HO_384002.out) hb)
      have n3_ := Aside0.mk (Kd.R_below (rr HO387.out) hb)
      have n4_ := Aside0.mk (Kd.R_below (rr HO390.out) hb)
      have n5_ := Aside0.mk (Kd.R_below (rr HO393.out) hb)
      have n6_ := Aside0.mk (bb BK360 hb)
      have n7_ := Aside0.mk (bb BK383 hb)
      have n8_ := Aside0.mk (below_step (bs2 HB GE360 GE383) hb)
      clear HO_384000
      clear HO_384001
      clear HO_384002
      clear HO387
      clear HO390
      clear HO393
      clear BK360
      clear BK383
      clear HB
      have HO_384000 := n0_
      have HO_384001 := n1_
      have HO_384002 := n2_
      have HO387 := n3_
      have HO390 := n4_
      have HO393 := n5_
      have BK360 := n6_
      have BK383 := n7_
      have HB := n8_
      clear n0_ n1_ n2_ n3_ n4_ n5_ n6_ n7_ n8_
      (try clear hb)
      (try clear hb2)
      (try clear hk)
      (try clear hi)
      refine hK.out _ _ ⟨(blk_cell BK383.out 0).trans rfl, (blk_cell BK383.out 1).trans rfl, (blk_cell BK383.out 2).trans rfl, (blk_cell BK383.out 3).trans rfl, (blk_cell BK360.out 0).trans rfl, (blk_cell BK360.out 1).trans rfl, (blk_cell BK360.out 2).trans rfl, (blk_cell BK360.out 3).trans rfl⟩ (fun hHeld => ?_)
      clear hK K
      refine norm_ (a' := ?_) ?_ ?_
      rotate_left
      ·
       show Act.put _ (some 25) _ = _
       simp only [Act.put, List.setIfInBounds_toArray, List.set_cons_zero, List.set_cons_succ, i64_w, i32_w]
       rfl
      refine pure_ (i := 4) (N := some 26) (v := ?_) (a' := ?_) #[true, true, true, true, true] rfl rfl (by kernel_rfl) (fun _ _ _ h => h) (Or.inl ⟨by rfl, ?_⟩) ?_ ?_
      rotate_left
      ·
       intro w'
       go_simp
       with_reducible rfl
      rotate_left
      ·
       simp only [Act.put, List.setIfInBounds_toArray, List.set_cons_zero, List.set_cons_succ, i64_w, i32_w]
       rfl
      refine done_ (by kernel_rfl) ?_
      try go_wp2
      go_ret
      exact ⟨by first | rfl | (simp [errW_none, errW_some] <;> rfl) | (simp [*, errW_none, errW_some] <;> rfl), bs2 HB GE360 GE383⟩

/-- THE ONE PURE STATEMENT of laws_FnExactGoodStore. -/
def laws_FnExactGoodStore.Pure : Prop := ∀ (l0_0 : List ByteArray) (l0_1 : List (S76)) (l0_2 : List ByteArray) (a0_3 : Int), ok38 (⟨(⟨l0_0, l0_1⟩ : S36), l0_2, a0_3⟩ : S38) → ∃ k, laws_FnExactGoodStore.f k l0_0 l0_1 l0_2 a0_3 = some true

end Go.Proofs.Ytcdkgenfggdpaaa.G
