-- Printed by a program of this session (drive.py, by way of the kit's print). Not trusted: Lean checks it.
import Derived.Test.YthlifcbkpafofaaDoorG0
import Derived.Test.YthlifcbkpafofaaDoorG2
import Derived.Test.YthlifcbkpafofaaDoorG5
namespace Go.Proofs.YthlifcbkpafofaaDoor.G
open Go.RowKit Go.Proofs.YthlifcbkpafofaaDoorW.PrintWords Go.Proofs.YthlifcbkpafofaaDoorW.PrintLast Go.Proofs.YthlifcbkpafofaaDoorW.PrintMore
attribute [local go_sem] max2_int min2_int max_two min_two max_three min_three max_four min_four   -- for this text's walks alone
set_option linter.unusedVariables false
set_option linter.unusedSimpArgs false

/-! ### laws_FnExactNewRing: function 5 -/
mutual
def laws_FnExactNewRing.j0 : Nat → Int → Bool → Bool → List (S26) → Int → Int → Int → List (S26) → Int → Int → Int → Option (Bool)
 | 0, _, _, _, _, _, _, _, _, _, _, _ => none
 | k + 1, x0, x4, x29, x209000, x209001, x209002, x209003, x217000, x217001, x217002, x217003 => if x29 = true then (some false) else ((laws_markRing.f k x217000 x217001 x217002 x217003 1).bind fun bt218 => ((laws_heldRing.f k bt218.2 x217001 x217002 x217003 1).bind fun t220 => (if t220 < 0 then (some false) else (if t220 = bt218.1 then ((impl_NewRing.f k x0).bind fun bt221 => ((laws_eqRing.f k bt221.1 bt221.2.1 bt221.2.2.1 bt221.2.2.2.1 x209000 x209001 x209002 x209003).bind fun t229 => (if t229 = true then (laws_FnExactNewRing.j1 k bt218.1 (bt221.2.2.2.2 != x4) bt218.2 x217001 x217002 x217003) else (laws_FnExactNewRing.j1 k bt218.1 true bt218.2 x217001 x217002 x217003)))) else (some false)))))
def laws_FnExactNewRing.j1 : Nat → Int → Bool → List (S26) → Int → Int → Int → Option (Bool)
 | 0, _, _, _, _, _, _ => none
 | k + 1, x7, x54, x217000, x217001, x217002, x217003 => if x54 = true then (some false) else ((laws_heldRing.f k x217000 x217001 x217002 x217003 1).bind fun t230 => (if t230 < 0 then (some false) else (if t230 = x7 then (some true) else (some false))))
end
def laws_FnExactNewRing.f (k : Nat) (a0 : Int) : Option (Bool) := (spec_NewRing.f k a0).bind fun bt201 => ((impl_NewRing.f k a0).bind fun bt209 => ((laws_eqRing.f k bt209.1 bt209.2.1 bt209.2.2.1 bt209.2.2.2.1 bt201.1 bt201.2.1 bt201.2.2.1 bt201.2.2.2.1).bind fun t217 => (if t217 = true then (laws_FnExactNewRing.j0 k a0 bt201.2.2.2.2 (bt209.2.2.2.2 != bt201.2.2.2.2) bt201.1 bt201.2.1 bt201.2.2.1 bt201.2.2.2.1 bt209.1 bt209.2.1 bt209.2.2.1 bt209.2.2.2.1) else (laws_FnExactNewRing.j0 k a0 bt201.2.2.2.2 true bt201.1 bt201.2.1 bt201.2.2.1 bt201.2.2.2.1 bt209.1 bt209.2.1 bt209.2.2.1 bt209.2.2.2.1))))
theorem laws_FnExactNewRing.mono_l : ∀ k, (∀ y0 y1 y2 y3 y4 y5 y6 y7 y8 y9 y10, LeO (laws_FnExactNewRing.j0 k y0 y1 y2 y3 y4 y5 y6 y7 y8 y9 y10) (laws_FnExactNewRing.j0 (k + 1) y0 y1 y2 y3 y4 y5 y6 y7 y8 y9 y10)) ∧ (∀ y0 y1 y2 y3 y4 y5, LeO (laws_FnExactNewRing.j1 k y0 y1 y2 y3 y4 y5) (laws_FnExactNewRing.j1 (k + 1) y0 y1 y2 y3 y4 y5))
 | 0 => ⟨fun _ _ _ _ _ _ _ _ _ _ _ r h => by simp [laws_FnExactNewRing.j0] at h, fun _ _ _ _ _ _ r h => by simp [laws_FnExactNewRing.j1] at h⟩
 | k + 1 => by
  obtain ⟨ih0, ih1⟩ := laws_FnExactNewRing.mono_l k
  refine ⟨?_, ?_⟩
  ·
   intro y0 y1 y2 y3 y4 y5 y6 y7 y8 y9 y10
   unfold laws_FnExactNewRing.j0
   repeat' first
   | (with_reducible exact ih0 _ _ _ _ _ _ _ _ _ _ _)
   | (with_reducible exact ih1 _ _ _ _ _ _)
   | (with_reducible exact impl_NewRing.mono _ _)
   | (with_reducible exact laws_eqRing.mono _ _ _ _ _ _ _ _ _)
   | (with_reducible exact laws_heldRing.mono _ _ _ _ _ _)
   | (with_reducible exact laws_markRing.mono _ _ _ _ _ _)
   | (with_reducible exact spec_NewRing.mono _ _)
   | (with_reducible exact LeO.refl _)
   | (with_reducible exact LeO.none _)
   | (with_reducible refine LeO.ite ?_ ?_)
   | (with_reducible refine LeO.bind ?_ (fun _ => ?_))
   | exact ih0 _ _ _ _ _ _ _ _ _ _ _
   | exact ih1 _ _ _ _ _ _
   | exact impl_NewRing.mono _ _
   | exact laws_eqRing.mono _ _ _ _ _ _ _ _ _
   | exact laws_heldRing.mono _ _ _ _ _ _
   | exact laws_markRing.mono _ _ _ _ _ _
   | exact spec_NewRing.mono _ _
   | exact LeO.none _
   | refine LeO.ite ?_ ?_
   | refine LeO.bind ?_ (fun _ => ?_)
  ·
   intro y0 y1 y2 y3 y4 y5
   unfold laws_FnExactNewRing.j1
   repeat' first
   | (with_reducible exact ih0 _ _ _ _ _ _ _ _ _ _ _)
   | (with_reducible exact ih1 _ _ _ _ _ _)
   | (with_reducible exact impl_NewRing.mono _ _)
   | (with_reducible exact laws_eqRing.mono _ _ _ _ _ _ _ _ _)
   | (with_reducible exact laws_heldRing.mono _ _ _ _ _ _)
   | (with_reducible exact laws_markRing.mono _ _ _ _ _ _)
   | (with_reducible exact spec_NewRing.mono _ _)
   | (with_reducible exact LeO.refl _)
   | (with_reducible exact LeO.none _)
   | (with_reducible refine LeO.ite ?_ ?_)
   | (with_reducible refine LeO.bind ?_ (fun _ => ?_))
   | exact ih0 _ _ _ _ _ _ _ _ _ _ _
   | exact ih1 _ _ _ _ _ _
   | exact impl_NewRing.mono _ _
   | exact laws_eqRing.mono _ _ _ _ _ _ _ _ _
   | exact laws_heldRing.mono _ _ _ _ _ _
   | exact laws_markRing.mono _ _ _ _ _ _
   | exact spec_NewRing.mono _ _
   | exact LeO.none _
   | refine LeO.ite ?_ ?_
   | refine LeO.bind ?_ (fun _ => ?_)
theorem laws_FnExactNewRing.mono : ∀ a0 k, LeO (laws_FnExactNewRing.f k a0) (laws_FnExactNewRing.f (k + 1) a0) := by
 intro a0 k
 obtain ⟨ih0, ih1⟩ := laws_FnExactNewRing.mono_l k
 unfold laws_FnExactNewRing.f
 repeat' first
   | (with_reducible exact ih0 _ _ _ _ _ _ _ _ _ _ _)
   | (with_reducible exact ih1 _ _ _ _ _ _)
   | (with_reducible exact impl_NewRing.mono _ _)
   | (with_reducible exact laws_eqRing.mono _ _ _ _ _ _ _ _ _)
   | (with_reducible exact laws_heldRing.mono _ _ _ _ _ _)
   | (with_reducible exact laws_markRing.mono _ _ _ _ _ _)
   | (with_reducible exact spec_NewRing.mono _ _)
   | (with_reducible exact LeO.refl _)
   | (with_reducible exact LeO.none _)
   | (with_reducible refine LeO.ite ?_ ?_)
   | (with_reducible refine LeO.bind ?_ (fun _ => ?_))
   | exact ih0 _ _ _ _ _ _ _ _ _ _ _
   | exact ih1 _ _ _ _ _ _
   | exact impl_NewRing.mono _ _
   | exact laws_eqRing.mono _ _ _ _ _ _ _ _ _
   | exact laws_heldRing.mono _ _ _ _ _ _
   | exact laws_markRing.mono _ _ _ _ _ _
   | exact spec_NewRing.mono _ _
   | exact LeO.none _
   | refine LeO.ite ?_ ?_
   | refine LeO.bind ?_ (fun _ => ?_)
set_option maxHeartbeats 8000000 in
set_option maxRecDepth 100000 in
theorem laws_FnExactNewRing.calls (k : Nat) (a0 : Int) (r : Bool) (w : World) (hTab_ : Aside0 (Ito.TabW w)) (h : laws_FnExactNewRing.f k a0 = some r) :
  Calls Tryd.prog 5 #[.int .i64 a0] w fun e w' => e = .returned (.bool r) ∧ Below w.heap.size w w' := by
 have hu36 := Tryd.underlying36
 have HB := Aside0.mk (Below.refl w.heap.size w)
 have H : ((spec_NewRing.f k a0).bind fun bt201 => ((impl_NewRing.f k a0).bind fun bt209 => ((laws_eqRing.f k bt209.1 bt209.2.1 bt209.2.2.1 bt209.2.2.2.1 bt201.1 bt201.2.1 bt201.2.2.1 bt201.2.2.2.1).bind fun t217 => (if t217 = true then (laws_FnExactNewRing.j0 k a0 bt201.2.2.2.2 (bt209.2.2.2.2 != bt201.2.2.2.2) bt201.1 bt201.2.1 bt201.2.2.1 bt201.2.2.2.1 bt209.1 bt209.2.1 bt209.2.2.1 bt209.2.2.2.1) else (laws_FnExactNewRing.j0 k a0 bt201.2.2.2.2 true bt201.1 bt201.2.1 bt201.2.2.1 bt201.2.2.2.1 bt209.1 bt209.2.1 bt209.2.2.1 bt209.2.2.2.1))))) = some r := h
 clear h
 replace H := Option.bind_eq_some_iff.mp H
 obtain ⟨⟨t201, t204, t205, t206, t207⟩, A20, H⟩ := H
 replace H : ((impl_NewRing.f k a0).bind fun bt209 => ((laws_eqRing.f k bt209.1 bt209.2.1 bt209.2.2.1 bt209.2.2.2.1 t201 t204 t205 t206).bind fun t217 => (if t217 = true then (laws_FnExactNewRing.j0 k a0 t207 (bt209.2.2.2.2 != t207) t201 t204 t205 t206 bt209.1 bt209.2.1 bt209.2.2.1 bt209.2.2.2.1) else (laws_FnExactNewRing.j0 k a0 t207 true t201 t204 t205 t206 bt209.1 bt209.2.1 bt209.2.2.1 bt209.2.2.2.1)))) = some r := H
 have A2 := Aside0.mk A20
 clear A20
 replace H := Option.bind_eq_some_iff.mp H
 obtain ⟨⟨t209, t212, t213, t214, t215⟩, A30, H⟩ := H
 replace H : ((laws_eqRing.f k t209 t212 t213 t214 t201 t204 t205 t206).bind fun t217 => (if t217 = true then (laws_FnExactNewRing.j0 k a0 t207 (t215 != t207) t201 t204 t205 t206 t209 t212 t213 t214) else (laws_FnExactNewRing.j0 k a0 t207 true t201 t204 t205 t206 t209 t212 t213 t214))) = some r := H
 have A3 := Aside0.mk A30
 clear A30
 have HC4 := Aside0.mk H
 clear H
 go_enter Tryd.func5, Tryd.ntmps5
 go_upto_region 3 with (first | ((with_reducible refine gate_callee (f := 22) rfl ?_); refine gL (some 13) rfl rfl Tryd.func22 (by kernel_rfl) rfl #[.int .i64 a0] rfl ?_; (with_reducible refine (spec_NewRing.calls k a0 t201 t204 t205 t206 t207 _ A2.out).mono ?_); rintro e w5 ⟨v202, rfl, ho0, hb⟩; refine ⟨_, rfl, ?_⟩; have HO203 := Aside0.mk (Kd.R_lower ho0 (below_size (bs HB))); replace HB := Aside0.mk (below_step (bs HB) hb); (try clear hb); (try clear hb2); (try clear hk); (try clear hi); (try clear ho0)) | ((with_reducible refine gate_dst (N := 3) rfl ?_); refine box_event ?hg (N := 3) ?hd (cs := #[.slice none 0 0, .int .i64 0, .int .i64 0, .int .i64 0]) (t := 36) ?hr ?_; (case hd => rfl); (case hg => rfl); (case hr => first | (go_simp; done) | (go_simp; rfl)); intro gb208 hg w6 hbox hb; replace HO203 := nr HO203 hb; have BK208 := Aside0.mk (hbox); have GW208 := Aside0.mk ((by rw [hg]; exact (below_size (bs HB)) : w.heap.size ≤ gb208)); have GE208 := Aside0.mk ((by rw [hg]; exact (below_size (bs HB)) : w.heap.size ≤ gb208)); replace HB := Aside0.mk (below_step (bs HB) hb); clear hb hbox hg; obtain ⟨Ao7, co7, eo7⟩ := Kd.R_slice HO203.out; subst eo7; obtain ⟨hcz8_0, hcz8_1, hcz8_2, hcz8_3⟩ := cz4 BK208; obtain ⟨hfz8_0, hfz8_1, hfz8_2, hfz8_3⟩ := fz4 BK208) | ((with_reducible refine gate_callee (f := 23) rfl ?_); refine gL (some 18) rfl rfl Tryd.func23 (by kernel_rfl) rfl #[.int .i64 a0] rfl ?_; (with_reducible refine (impl_NewRing.calls k a0 t209 t212 t213 t214 t215 _ ?sideT A3.out).mono ?_); (case sideT => refine ⟨Ito.tabB hTab_.out ?_⟩; first | exact bs HB | exact st_below | (repeat (first | (with_reducible first | exact HB.out | apply below_alloc | apply pw_below_drewN | apply below_drew1 | refine below_set ?_ (Aside0.out (by assumption))) | exact HB.out))); rintro e w9 ⟨v210, rfl, ho0, hb⟩; refine ⟨_, rfl, ?_⟩; have HO211 := Aside0.mk (Kd.R_lower (Kd.R_new' ho0 (Kd.R_lt (rf HO203 BK208))) (below_size (bs1 HB GE208))); replace HO203 := Aside0.mk (Kd.R_elder' (rf HO203 BK208) (Kd.R_base ho0) hb); replace BK208 := Aside0.mk (blk_below (g := gb208) (o := .cells #[.slice Ao7 t201.length co7, .int .i64 t204, .int .i64 t205, .int .i64 t206] 36 (0, 0)) (by (with_reducible repeat (first | refine blk_drewN ?_ _ | refine blk_drew ?_ | refine blk_alloc ?_ _)); refine blk_put (cs := #[.slice Ao7 t201.length co7, .int .i64 t204, .int .i64 t205, .int .i64 0]) ?_ 3 _ rfl; (with_reducible repeat (first | refine blk_drewN ?_ _ | refine blk_drew ?_ | refine blk_alloc ?_ _)); refine blk_put (cs := #[.slice Ao7 t201.length co7, .int .i64 t204, .int .i64 0, .int .i64 0]) ?_ 2 _ rfl; (with_reducible repeat (first | refine blk_drewN ?_ _ | refine blk_drew ?_ | refine blk_alloc ?_ _)); refine blk_put (cs := #[.slice Ao7 t201.length co7, .int .i64 0, .int .i64 0, .int .i64 0]) ?_ 1 _ rfl; (with_reducible repeat (first | refine blk_drewN ?_ _ | refine blk_drew ?_ | refine blk_alloc ?_ _)); refine blk_put (cs := #[.slice none 0 0, .int .i64 0, .int .i64 0, .int .i64 0]) ?_ 0 _ rfl; (with_reducible repeat (first | refine blk_drewN ?_ _ | refine blk_drew ?_ | refine blk_alloc ?_ _)); exact BK208.out) hb); replace HB := Aside0.mk (below_step (bs1 HB GE208) hb); (try clear hb); (try clear hb2); (try clear hk); (try clear hi); (try clear ho0)) | ((with_reducible refine gate_dst (N := 5) rfl ?_); refine box_event ?hg (N := 5) ?hd (cs := #[.slice none 0 0, .int .i64 0, .int .i64 0, .int .i64 0]) (t := 36) ?hr ?_; (case hd => rfl); (case hg => rfl); (case hr => first | (go_simp; done) | (go_simp; rfl)); intro gb216 hg w10 hbox hb; replace HO203 := nr HO203 hb; replace HO211 := nr HO211 hb; have BK216 := Aside0.mk (hbox); have GW216 := Aside0.mk ((by rw [hg]; exact (below_size (bs1 HB GE208)) : w.heap.size ≤ gb216)); have GE216 := Aside0.mk ((by rw [hg]; exact (below_size (bs1 HB GE208)) : w.heap.size ≤ gb216)); replace HB := Aside0.mk (below_step (bs1 HB GE208) hb); have NB208_216 := Aside0.mk ((bn BK208 hg : gb208 ≠ gb216)); have NB216_208 := Aside0.mk ((bm BK208 hg : gb216 ≠ gb208)); replace BK208 := nb BK208 hb; clear hb hbox hg; obtain ⟨Ao11, co11, eo11⟩ := Kd.R_slice HO211.out; subst eo11; have hnb12 := NB216_208.out; have hnc12 := NB208_216.out; obtain ⟨hcz13_0, hcz13_1, hcz13_2, hcz13_3⟩ := cz4 BK216; obtain ⟨hfz13_0, hfz13_1, hfz13_2, hfz13_3⟩ := fz4 BK216))
 (try simp only [Act.put, List.setIfInBounds_toArray, List.set_cons_zero, List.set_cons_succ])
 go_cut [29] (fun v29 wc => ∃ (kq : Nat) (x29_3 : Bool), v29 = .bool x29_3 ∧ Aside0 (laws_FnExactNewRing.j0 kq a0 t207 x29_3 t201 t204 t205 t206 t209 t212 t213 t214 = some r) ∧ Aside0 (kq ≤ k) ∧ Aside0 (Kd.R k26 26 wc w.heap.size (fun k_ => some k_ ≠ ((.slice Ao11 t209.length co11) : Value).ownBlock) (.slice Ao7 t201.length co7) t201) ∧ Aside0 (Kd.R k26 26 wc w.heap.size (fun k_ => some k_ ≠ ((.slice Ao7 t201.length co7) : Value).ownBlock) (.slice Ao11 t209.length co11) t209) ∧ Aside0 (wc.heap[gb208]? = some (.cells #[(.slice Ao7 t201.length co7), .int .i64 t204, .int .i64 t205, .int .i64 t206] 36 (0, 0))) ∧ Aside0 (wc.heap[gb216]? = some (.cells #[(.slice Ao11 t209.length co11), .int .i64 t212, .int .i64 t213, .int .i64 t214] 36 (0, 0))) ∧ Aside0 (Below w.heap.size w wc))
 case first =>
  have H := HC4.out
  clear HC4
  replace H := Option.bind_eq_some_iff.mp H
  obtain ⟨t217, A140, H⟩ := H
  replace H : (if t217 = true then (laws_FnExactNewRing.j0 k a0 t207 (t215 != t207) t201 t204 t205 t206 t209 t212 t213 t214) else (laws_FnExactNewRing.j0 k a0 t207 true t201 t204 t205 t206 t209 t212 t213 t214)) = some r := H
  have A14 := Aside0.mk A140
  clear A140
  by_cases c15 : t217 = true
  ·
   subst c15
   rw [if_pos rfl] at H
   have H' := Aside0.mk H
   clear H
   have hnb16 := NB216_208.out
   have hnc16 := NB208_216.out
   obtain ⟨hcz17_0, hcz17_1, hcz17_2, hcz17_3⟩ := cz4 BK216
   obtain ⟨hfz17_0, hfz17_1, hfz17_2, hfz17_3⟩ := fz4 BK216
   obtain ⟨hcz18_0, hcz18_1, hcz18_2, hcz18_3⟩ := cz4 BK208
   obtain ⟨hfz18_0, hfz18_1, hfz18_2, hfz18_3⟩ := fz4 BK208
   go_wp2_with (first | ((with_reducible refine gate_callee (f := 21) rfl ?_); refine gL (some 23) rfl rfl Tryd.func21 (by kernel_rfl) rfl #[.agg #[.slice Ao11 t209.length co11, .int .i64 t212, .int .i64 t213, .int .i64 t214], .agg #[.slice Ao7 t201.length co7, .int .i64 t204, .int .i64 t205, .int .i64 t206]] rfl ?_; (with_reducible refine (laws_eqRing.calls k _ _ t209 t212 t213 t214 _ _ t201 t204 t205 t206 true _ ?side1 ?side2 ?side3 ?side4 A14.out).mono ?_); (case side1 => exact rc HO211 BK216); (case side2 => exact (Kd.R_reads' HO211.out).2.1); (case side3 => exact rc HO203 BK216); (case side4 => exact (Kd.R_reads' HO203.out).2.1); rintro e w19 ⟨rfl, hb⟩; refine ⟨_, rfl, ?_⟩; replace HO203 := nf HO203 BK216 hb; replace HO211 := nf HO211 BK216 hb; replace BK208 := Aside0.mk (blk_below (bf BK208 NB208_216) hb); replace BK216 := Aside0.mk (blk_below (g := gb216) (o := .cells #[.slice Ao11 t209.length co11, .int .i64 t212, .int .i64 t213, .int .i64 t214] 36 (0, 0)) (by (with_reducible repeat (first | refine blk_drewN ?_ _ | refine blk_drew ?_ | refine blk_alloc ?_ _)); refine blk_put (cs := #[.slice Ao11 t209.length co11, .int .i64 t212, .int .i64 t213, .int .i64 0]) ?_ 3 _ rfl; (with_reducible repeat (first | refine blk_drewN ?_ _ | refine blk_drew ?_ | refine blk_alloc ?_ _)); refine blk_put (cs := #[.slice Ao11 t209.length co11, .int .i64 t212, .int .i64 0, .int .i64 0]) ?_ 2 _ rfl; (with_reducible repeat (first | refine blk_drewN ?_ _ | refine blk_drew ?_ | refine blk_alloc ?_ _)); refine blk_put (cs := #[.slice Ao11 t209.length co11, .int .i64 0, .int .i64 0, .int .i64 0]) ?_ 1 _ rfl; (with_reducible repeat (first | refine blk_drewN ?_ _ | refine blk_drew ?_ | refine blk_alloc ?_ _)); refine blk_put (cs := #[.slice none 0 0, .int .i64 0, .int .i64 0, .int .i64 0]) ?_ 0 _ rfl; (with_reducible repeat (first | refine blk_drewN ?_ _ | refine blk_drew ?_ | refine blk_alloc ?_ _)); exact BK216.out) hb); replace HB := Aside0.mk (below_step (bs2 HB GE208 GE216) hb); (try clear hb); (try clear hb2); (try clear hk); (try clear hi)))
   go_meet
   case rel => exact ⟨_, ((t215 != t207)), (by first | rfl | (simp; done) | (simp [*]; done)), H', ⟨by first | omega | exact Nat.le_refl _⟩, rm HO203 (fun _ hk => hk.2), rm HO211 (fun _ hk => hk.2), ⟨bk BK208⟩, ⟨bk BK216⟩, ⟨bs2 HB GE208 GE216⟩⟩
  ·
   replace c15 := Bool.eq_false_iff.mpr c15
   subst c15
   rw [if_neg (show ¬ (false = true) by decide)] at H
   have H' := Aside0.mk H
   clear H
   have hnb20 := NB216_208.out
   have hnc20 := NB208_216.out
   obtain ⟨hcz21_0, hcz21_1, hcz21_2, hcz21_3⟩ := cz4 BK216
   obtain ⟨hfz21_0, hfz21_1, hfz21_2, hfz21_3⟩ := fz4 BK216
   obtain ⟨hcz22_0, hcz22_1, hcz22_2, hcz22_3⟩ := cz4 BK208
   obtain ⟨hfz22_0, hfz22_1, hfz22_2, hfz22_3⟩ := fz4 BK208
   go_wp2_with (first | ((with_reducible refine gate_callee (f := 21) rfl ?_); refine gL (some 23) rfl rfl Tryd.func21 (by kernel_rfl) rfl #[.agg #[.slice Ao11 t209.length co11, .int .i64 t212, .int .i64 t213, .int .i64 t214], .agg #[.slice Ao7 t201.length co7, .int .i64 t204, .int .i64 t205, .int .i64 t206]] rfl ?_; (with_reducible refine (laws_eqRing.calls k _ _ t209 t212 t213 t214 _ _ t201 t204 t205 t206 false _ ?side1 ?side2 ?side3 ?side4 A14.out).mono ?_); (case side1 => exact rc HO211 BK216); (case side2 => exact (Kd.R_reads' HO211.out).2.1); (case side3 => exact rc HO203 BK216); (case side4 => exact (Kd.R_reads' HO203.out).2.1); rintro e w23 ⟨rfl, hb⟩; refine ⟨_, rfl, ?_⟩; replace HO203 := nf HO203 BK216 hb; replace HO211 := nf HO211 BK216 hb; replace BK208 := Aside0.mk (blk_below (bf BK208 NB208_216) hb); replace BK216 := Aside0.mk (blk_below (g := gb216) (o := .cells #[.slice Ao11 t209.length co11, .int .i64 t212, .int .i64 t213, .int .i64 t214] 36 (0, 0)) (by (with_reducible repeat (first | refine blk_drewN ?_ _ | refine blk_drew ?_ | refine blk_alloc ?_ _)); refine blk_put (cs := #[.slice Ao11 t209.length co11, .int .i64 t212, .int .i64 t213, .int .i64 0]) ?_ 3 _ rfl; (with_reducible repeat (first | refine blk_drewN ?_ _ | refine blk_drew ?_ | refine blk_alloc ?_ _)); refine blk_put (cs := #[.slice Ao11 t209.length co11, .int .i64 t212, .int .i64 0, .int .i64 0]) ?_ 2 _ rfl; (with_reducible repeat (first | refine blk_drewN ?_ _ | refine blk_drew ?_ | refine blk_alloc ?_ _)); refine blk_put (cs := #[.slice Ao11 t209.length co11, .int .i64 0, .int .i64 0, .int .i64 0]) ?_ 1 _ rfl; (with_reducible repeat (first | refine blk_drewN ?_ _ | refine blk_drew ?_ | refine blk_alloc ?_ _)); refine blk_put (cs := #[.slice none 0 0, .int .i64 0, .int .i64 0, .int .i64 0]) ?_ 0 _ rfl; (with_reducible repeat (first | refine blk_drewN ?_ _ | refine blk_drew ?_ | refine blk_alloc ?_ _)); exact BK216.out) hb); replace HB := Aside0.mk (below_step (bs2 HB GE208 GE216) hb); (try clear hb); (try clear hb2); (try clear hk); (try clear hi)))
   go_meet
   case rel => exact ⟨_, (true), (by first | rfl | (simp; done) | (simp [*]; done)), H', ⟨by first | omega | exact Nat.le_refl _⟩, rm HO203 (fun _ hk => hk.2), rm HO211 (fun _ hk => hk.2), ⟨bk BK208⟩, ⟨bk BK216⟩, ⟨bs2 HB GE208 GE216⟩⟩
 case rest =>
  clear HC4
  try clear c1
  try clear c2
  try clear p2
  try clear c5
  try clear c12
  try clear c15
  try clear c16
  try clear c20
  try clear c21
  try clear c22
  try clear c23
  try clear hcz13_0 hcz13_1 hcz13_2 hcz13_3
  try clear hcz17_0 hcz17_1 hcz17_2 hcz17_3
  try clear hcz18_0 hcz18_1 hcz18_2 hcz18_3
  try clear hcz21_0 hcz21_1 hcz21_2 hcz21_3
  try clear hcz22_0 hcz22_1 hcz22_2 hcz22_3
  try clear hcz8_0 hcz8_1 hcz8_2 hcz8_3
  try clear hfz13_0 hfz13_1 hfz13_2 hfz13_3
  try clear hfz17_0 hfz17_1 hfz17_2 hfz17_3
  try clear hfz18_0 hfz18_1 hfz18_2 hfz18_3
  try clear hfz21_0 hfz21_1 hfz21_2 hfz21_3
  try clear hfz22_0 hfz22_1 hfz22_2 hfz22_3
  try clear hfz8_0 hfz8_1 hfz8_2 hfz8_3
  obtain ⟨kq, x29_3, rfl, HA, HJ3, HO_209000, HO_217000, BK208, BK216, HB⟩ := hcut
  cases kq with
  | zero => exact absurd HA.out (by simp [laws_FnExactNewRing.j0])
  | succ kj3 =>
   have H := HA.out
   clear HA
   simp only [laws_FnExactNewRing.j0] at H
   by_cases c24 : x29_3 = true
   ·
    subst c24
    rw [if_pos rfl] at H
    obtain rfl := Option.some.inj H
    go_wp2
    go_ret
    exact ⟨by first | rfl | (simp [errW_none, errW_some] <;> rfl) | (simp [*, errW_none, errW_some] <;> rfl), bs2 HB GE208 GE216⟩
   ·
    replace c24 := Bool.eq_false_iff.mpr c24
    subst c24
    rw [if_neg (show ¬ (false = true) by decide)] at H
    replace H := Option.bind_eq_some_iff.mp H
    obtain ⟨⟨t218, t219⟩, A250, H⟩ := H
    replace H : ((laws_heldRing.f kj3 t219 t212 t213 t214 1).bind fun t220 => (if t220 < 0 then (some false) else (if t220 = t218 then ((impl_NewRing.f kj3 a0).bind fun bt221 => ((laws_eqRing.f kj3 bt221.1 bt221.2.1 bt221.2.2.1 bt221.2.2.2.1 t201 t204 t205 t206).bind fun t229 => (if t229 = true then (laws_FnExactNewRing.j1 kj3 t218 (bt221.2.2.2.2 != t207) t219 t212 t213 t214) else (laws_FnExactNewRing.j1 kj3 t218 true t219 t212 t213 t214)))) else (some false)))) = some r := H
    have A25 := Aside0.mk A250
    clear A250
    replace H := Option.bind_eq_some_iff.mp H
    obtain ⟨t220, A260, H⟩ := H
    replace H : (if t220 < 0 then (some false) else (if t220 = t218 then ((impl_NewRing.f kj3 a0).bind fun bt221 => ((laws_eqRing.f kj3 bt221.1 bt221.2.1 bt221.2.2.1 bt221.2.2.2.1 t201 t204 t205 t206).bind fun t229 => (if t229 = true then (laws_FnExactNewRing.j1 kj3 t218 (bt221.2.2.2.2 != t207) t219 t212 t213 t214) else (laws_FnExactNewRing.j1 kj3 t218 true t219 t212 t213 t214)))) else (some false))) = some r := H
    have A26 := Aside0.mk A260
    clear A260
    by_cases c27 : t220 < 0
    ·
     rw [if_pos c27] at H
     have c27b0 : decide (t220 < 0) = true := decide_eq_true c27
     clear c27
     obtain rfl := Option.some.inj H
     have hnb28 := NB216_208.out
     have hnc28 := NB208_216.out
     obtain ⟨hcz29_0, hcz29_1, hcz29_2, hcz29_3⟩ := cz4 BK216
     obtain ⟨hfz29_0, hfz29_1, hfz29_2, hfz29_3⟩ := fz4 BK216
     go_wp2_with (first | ((with_reducible refine gate_callee (f := 24) rfl ?_); refine gL (some 32) rfl rfl Tryd.func24 (by kernel_rfl) rfl #[.agg #[.slice Ao11 t209.length co11, .int .i64 t212, .int .i64 t213, .int .i64 t214], .int .i64 1] rfl ?_; (with_reducible refine (laws_markRing.calls kj3 (fun k_ => some k_ = (.slice Ao11 t209.length co11 : Value).ownBlock) (.slice Ao11 t209.length co11) t209 t212 t213 t214 1 t218 t219 w _ ?side1 ?side2 A25.out).mono ?_); (case side1 => repeat (first | (with_reducible first | exact HB.out | apply below_alloc | apply pw_below_drewN | apply below_drew1 | refine below_set ?_ GE208.out | refine below_set ?_ GE216.out) | exact HB.out)); (case side2 => exact Kd.R_tight rfl HO_217000.out); rintro e w30 ⟨rfl, hy0, hb, hkp⟩; refine ⟨_, rfl, ?_⟩; replace HO_209000 := Aside0.mk (Kd.R_mono (ok' := fun k_ => some k_ ≠ (.slice Ao11 t209.length co11 : Value).ownBlock) (Kd.R_keptB (HO_209000.out) hkp (fun k_ hk_ hs_ => (hk_) hs_)) (fun k_ hk_ => hk_.1)); replace BK208 := Aside0.mk (blk_kept (bk BK208) hkp (fun hs_ => (fun e_ => (Kd.R_ne HO_217000.out BK208.out (by decide)) e_) hs_)); replace BK216 := Aside0.mk (blk_kept (bk BK216) hkp (fun hs_ => (fun e_ => (Kd.R_ne HO_217000.out BK216.out (by decide)) e_) hs_)); replace HO_217000 := Aside0.mk (Kd.R_reok rfl hy0 (fun k_ e_ => HO_217000.out.1 k_ e_)); replace HB := Aside0.mk (hb); (try clear hb); (try clear hkp); (try clear hy0); obtain ⟨hcz31_0, hcz31_1, hcz31_2, hcz31_3⟩ := cz4 BK216; obtain ⟨hfz31_0, hfz31_1, hfz31_2, hfz31_3⟩ := fz4 BK216) | ((with_reducible refine gate_callee (f := 25) rfl ?_); refine goesL_ (some 35) rfl rfl Tryd.func25 (by kernel_rfl) rfl #[.agg #[.slice Ao11 t219.length co11, .int .i64 t212, .int .i64 t213, .int .i64 t214], .int .i64 1] rfl (by (try simp only [List.map_toArray, List.map_cons, List.map_nil]); first | done | (rw [show t219.length = t209.length from (Kd.R_reads' HO_217000.out).1.symm] <;> rfl) | rfl | (simp only [List.length_drop, List.length_take]; rfl)) ?_; (with_reducible refine (laws_heldRing.calls kj3 _ _ t219 t212 t213 t214 1 t220 _ ?side1 ?side2 A26.out).mono ?_); (case side1 => exact rc0 HO_217000); (case side2 => rw [show t219.length = t209.length from (Kd.R_reads' HO_217000.out).1.symm]; exact (Kd.R_reads' HO_217000.out).2.1); rintro e w32 ⟨rfl, hb⟩; refine ⟨_, rfl, ?_⟩; replace HO_209000 := nr HO_209000 hb; replace HO_217000 := nr HO_217000 hb; replace BK208 := nb BK208 hb; replace BK216 := nb BK216 hb; replace HB := Aside0.mk (below_step (bs2 HB GE208 GE216) hb); (try clear hb); (try clear hb2); (try clear hk); (try clear hi)))
     go_ret
     exact ⟨by first | rfl | (simp [errW_none, errW_some] <;> rfl) | (simp [*, errW_none, errW_some] <;> rfl), bs2 HB GE208 GE216⟩
    ·
     rw [if_neg c27] at H
     have c27b0 : decide (t220 < 0) = false := decide_eq_false c27
     clear c27
     by_cases c33 : t220 = t218
     ·
      rw [if_pos c33] at H
      have c33b0 : (t220 == t218) = true := beq_iff_eq.mpr c33
      have c33b1 : (t220 != t218) = false := bne_eq_false_iff_eq.mpr c33
      clear c33
      replace H := Option.bind_eq_some_iff.mp H
      obtain ⟨⟨t221, t224, t225, t226, t227⟩, A340, H⟩ := H
      replace H : ((laws_eqRing.f kj3 t221 t224 t225 t226 t201 t204 t205 t206).bind fun t229 => (if t229 = true then (laws_FnExactNewRing.j1 kj3 t218 (t227 != t207) t219 t212 t213 t214) else (laws_FnExactNewRing.j1 kj3 t218 true t219 t212 t213 t214))) = some r := H
      have A34 := Aside0.mk A340
      clear A340
      have HC35 := Aside0.mk H
      clear H
      have hnb36 := NB216_208.out
      have hnc36 := NB208_216.out
      obtain ⟨hcz37_0, hcz37_1, hcz37_2, hcz37_3⟩ := cz4 BK216
      obtain ⟨hfz37_0, hfz37_1, hfz37_2, hfz37_3⟩ := fz4 BK216
      go_upto_region 14 with (first | ((with_reducible refine gate_callee (f := 24) rfl ?_); refine gL (some 32) rfl rfl Tryd.func24 (by kernel_rfl) rfl #[.agg #[.slice Ao11 t209.length co11, .int .i64 t212, .int .i64 t213, .int .i64 t214], .int .i64 1] rfl ?_; (with_reducible refine (laws_markRing.calls kj3 (fun k_ => some k_ = (.slice Ao11 t209.length co11 : Value).ownBlock) (.slice Ao11 t209.length co11) t209 t212 t213 t214 1 t218 t219 w _ ?side1 ?side2 A25.out).mono ?_); (case side1 => repeat (first | (with_reducible first | exact HB.out | apply below_alloc | apply pw_below_drewN | apply below_drew1 | refine below_set ?_ GE208.out | refine below_set ?_ GE216.out) | exact HB.out)); (case side2 => exact Kd.R_tight rfl HO_217000.out); rintro e w38 ⟨rfl, hy0, hb, hkp⟩; refine ⟨_, rfl, ?_⟩; replace HO_209000 := Aside0.mk (Kd.R_mono (ok' := fun k_ => some k_ ≠ (.slice Ao11 t209.length co11 : Value).ownBlock) (Kd.R_keptB (HO_209000.out) hkp (fun k_ hk_ hs_ => (hk_) hs_)) (fun k_ hk_ => hk_.1)); replace BK208 := Aside0.mk (blk_kept (bk BK208) hkp (fun hs_ => (fun e_ => (Kd.R_ne HO_217000.out BK208.out (by decide)) e_) hs_)); replace BK216 := Aside0.mk (blk_kept (bk BK216) hkp (fun hs_ => (fun e_ => (Kd.R_ne HO_217000.out BK216.out (by decide)) e_) hs_)); replace HO_217000 := Aside0.mk (Kd.R_reok rfl hy0 (fun k_ e_ => HO_217000.out.1 k_ e_)); replace HB := Aside0.mk (hb); (try clear hb); (try clear hkp); (try clear hy0); obtain ⟨hcz39_0, hcz39_1, hcz39_2, hcz39_3⟩ := cz4 BK216; obtain ⟨hfz39_0, hfz39_1, hfz39_2, hfz39_3⟩ := fz4 BK216) | ((with_reducible refine gate_callee (f := 25) rfl ?_); refine goesL_ (some 35) rfl rfl Tryd.func25 (by kernel_rfl) rfl #[.agg #[.slice Ao11 t219.length co11, .int .i64 t212, .int .i64 t213, .int .i64 t214], .int .i64 1] rfl (by (try simp only [List.map_toArray, List.map_cons, List.map_nil]); first | done | (rw [show t219.length = t209.length from (Kd.R_reads' HO_217000.out).1.symm] <;> rfl) | rfl | (simp only [List.length_drop, List.length_take]; rfl)) ?_; (with_reducible refine (laws_heldRing.calls kj3 _ _ t219 t212 t213 t214 1 t220 _ ?side1 ?side2 A26.out).mono ?_); (case side1 => exact rc0 HO_217000); (case side2 => rw [show t219.length = t209.length from (Kd.R_reads' HO_217000.out).1.symm]; exact (Kd.R_reads' HO_217000.out).2.1); rintro e w40 ⟨rfl, hb⟩; refine ⟨_, rfl, ?_⟩; replace HO_209000 := nr HO_209000 hb; replace HO_217000 := nr HO_217000 hb; replace BK208 := nb BK208 hb; replace BK216 := nb BK216 hb; replace HB := Aside0.mk (below_step (bs2 HB GE208 GE216) hb); (try clear hb); (try clear hb2); (try clear hk); (try clear hi)) | ((with_reducible refine gate_callee (f := 23) rfl ?_); refine gL (some 43) rfl rfl Tryd.func23 (by kernel_rfl) rfl #[.int .i64 a0] rfl ?_; (with_reducible refine (impl_NewRing.calls kj3 a0 t221 t224 t225 t226 t227 _ ?sideT A34.out).mono ?_); (case sideT => refine ⟨Ito.tabB hTab_.out ?_⟩; first | exact bs HB | exact st_below | (repeat (first | (with_reducible first | exact HB.out | apply below_alloc | apply pw_below_drewN | apply below_drew1 | refine below_set ?_ (Aside0.out (by assumption))) | exact HB.out))); rintro e w41 ⟨v222, rfl, ho0, hb⟩; refine ⟨_, rfl, ?_⟩; have HO223 := Aside0.mk (Kd.R_lower (Kd.R_new' (Kd.R_new' ho0 (Kd.R_lt (rr HO_209000.out))) (Kd.R_lt (rr HO_217000.out))) (below_size (bs2 HB GE208 GE216))); replace HO_209000 := Aside0.mk (Kd.R_elder' (rr HO_209000.out) (Kd.R_base ho0) hb); replace HO_217000 := Aside0.mk (Kd.R_elder' (rr HO_217000.out) (Kd.R_base ho0) hb); replace BK208 := nb BK208 hb; replace BK216 := nb BK216 hb; replace HB := Aside0.mk (below_step (bs2 HB GE208 GE216) hb); (try clear hb); (try clear hb2); (try clear hk); (try clear hi); (try clear ho0)) | ((with_reducible refine gate_dst (N := 9) rfl ?_); refine box_event ?hg (N := 9) ?hd (cs := #[.slice none 0 0, .int .i64 0, .int .i64 0, .int .i64 0]) (t := 36) ?hr ?_; (case hd => rfl); (case hg => rfl); (case hr => first | (go_simp; done) | (go_simp; rfl)); intro gb228 hg w42 hbox hb; replace HO_209000 := nr HO_209000 hb; replace HO_217000 := nr HO_217000 hb; replace HO223 := nr HO223 hb; have BK228 := Aside0.mk (hbox); have GW228 := Aside0.mk ((by rw [hg]; exact (below_size (bs2 HB GE208 GE216)) : w.heap.size ≤ gb228)); have GE228 := Aside0.mk ((by rw [hg]; exact (below_size (bs2 HB GE208 GE216)) : w.heap.size ≤ gb228)); replace HB := Aside0.mk (below_step (bs2 HB GE208 GE216) hb); have NB208_228 := Aside0.mk ((bn BK208 hg : gb208 ≠ gb228)); have NB228_208 := Aside0.mk ((bm BK208 hg : gb228 ≠ gb208)); replace BK208 := nb BK208 hb; have NB216_228 := Aside0.mk ((bn BK216 hg : gb216 ≠ gb228)); have NB228_216 := Aside0.mk ((bm BK216 hg : gb228 ≠ gb216)); replace BK216 := nb BK216 hb; clear hb hbox hg; obtain ⟨Ao43, co43, eo43⟩ := Kd.R_slice HO223.out; subst eo43; have hnb44 := NB228_208.out; have hnc44 := NB208_228.out; have hnb45 := NB228_216.out; have hnc45 := NB216_228.out; obtain ⟨hcz46_0, hcz46_1, hcz46_2, hcz46_3⟩ := cz4 BK228; obtain ⟨hfz46_0, hfz46_1, hfz46_2, hfz46_3⟩ := fz4 BK228))
      (try simp only [Act.put, List.setIfInBounds_toArray, List.set_cons_zero, List.set_cons_succ])
      go_cut [54] (fun v54 wc => ∃ (kq : Nat) (x54_34 : Bool), v54 = .bool x54_34 ∧ Aside0 (laws_FnExactNewRing.j1 kq t218 x54_34 t219 t212 t213 t214 = some r) ∧ Aside0 (kq ≤ kj3) ∧ Aside0 (Kd.R k26 26 wc w.heap.size (fun k_ => some k_ ≠ ((.slice Ao11 t209.length co11) : Value).ownBlock ∧ some k_ ≠ ((.slice Ao43 t221.length co43) : Value).ownBlock) (.slice Ao7 t201.length co7) t201) ∧ Aside0 (Kd.R k26 26 wc w.heap.size (fun k_ => some k_ ≠ ((.slice Ao7 t201.length co7) : Value).ownBlock ∧ some k_ ≠ ((.slice Ao43 t221.length co43) : Value).ownBlock) (.slice Ao11 t209.length co11) t219) ∧ Aside0 (Kd.R k26 26 wc w.heap.size (fun k_ => some k_ ≠ ((.slice Ao7 t201.length co7) : Value).ownBlock ∧ some k_ ≠ ((.slice Ao11 t209.length co11) : Value).ownBlock) (.slice Ao43 t221.length co43) t221) ∧ Aside0 (wc.heap[gb208]? = some (.cells #[(.slice Ao7 t201.length co7), .int .i64 t204, .int .i64 t205, .int .i64 t206] 36 (0, 0))) ∧ Aside0 (wc.heap[gb216]? = some (.cells #[(.slice Ao11 t209.length co11), .int .i64 t212, .int .i64 t213, .int .i64 t214] 36 (0, 0))) ∧ Aside0 (wc.heap[gb228]? = some (.cells #[(.slice Ao43 t221.length co43), .int .i64 t224, .int .i64 t225, .int .i64 t226] 36 (0, 0))) ∧ Aside0 (Below w.heap.size w wc))
      case first =>
       have H := HC35.out
       clear HC35
       replace H := Option.bind_eq_some_iff.mp H
       obtain ⟨t229, A470, H⟩ := H
       replace H : (if t229 = true then (laws_FnExactNewRing.j1 kj3 t218 (t227 != t207) t219 t212 t213 t214) else (laws_FnExactNewRing.j1 kj3 t218 true t219 t212 t213 t214)) = some r := H
       have A47 := Aside0.mk A470
       clear A470
       by_cases c48 : t229 = true
       ·
        subst c48
        rw [if_pos rfl] at H
        have H' := Aside0.mk H
        clear H
        have hnb49 := NB228_208.out
        have hnc49 := NB208_228.out
        have hnb50 := NB228_216.out
        have hnc50 := NB216_228.out
        obtain ⟨hcz51_0, hcz51_1, hcz51_2, hcz51_3⟩ := cz4 BK228
        obtain ⟨hfz51_0, hfz51_1, hfz51_2, hfz51_3⟩ := fz4 BK228
        have hnb52 := NB208_216.out
        have hnc52 := NB216_208.out
        obtain ⟨hcz53_0, hcz53_1, hcz53_2, hcz53_3⟩ := cz4 BK208
        obtain ⟨hfz53_0, hfz53_1, hfz53_2, hfz53_3⟩ := fz4 BK208
        go_wp2_with (first | ((with_reducible refine gate_callee (f := 21) rfl ?_); refine gL (some 48) rfl rfl Tryd.func21 (by kernel_rfl) rfl #[.agg #[.slice Ao43 t221.length co43, .int .i64 t224, .int .i64 t225, .int .i64 t226], .agg #[.slice Ao7 t201.length co7, .int .i64 t204, .int .i64 t205, .int .i64 t206]] rfl ?_; (with_reducible refine (laws_eqRing.calls kj3 _ _ t221 t224 t225 t226 _ _ t201 t204 t205 t206 true _ ?side1 ?side2 ?side3 ?side4 A47.out).mono ?_); (case side1 => exact rc HO223 BK228); (case side2 => exact (Kd.R_reads' HO223.out).2.1); (case side3 => exact rc HO_209000 BK228); (case side4 => exact (Kd.R_reads' HO_209000.out).2.1); rintro e w54 ⟨rfl, hb⟩; refine ⟨_, rfl, ?_⟩; replace HO_209000 := nf HO_209000 BK228 hb; replace HO_217000 := nf HO_217000 BK228 hb; replace HO223 := nf HO223 BK228 hb; replace BK208 := Aside0.mk (blk_below (bf BK208 NB208_228) hb); replace BK216 := Aside0.mk (blk_below (bf BK216 NB216_228) hb); replace BK228 := Aside0.mk (blk_below (g := gb228) (o := .cells #[.slice Ao43 t221.length co43, .int .i64 t224, .int .i64 t225, .int .i64 t226] 36 (0, 0)) (by (with_reducible repeat (first | refine blk_drewN ?_ _ | refine blk_drew ?_ | refine blk_alloc ?_ _)); refine blk_put (cs := #[.slice Ao43 t221.length co43, .int .i64 t224, .int .i64 t225, .int .i64 0]) ?_ 3 _ rfl; (with_reducible repeat (first | refine blk_drewN ?_ _ | refine blk_drew ?_ | refine blk_alloc ?_ _)); refine blk_put (cs := #[.slice Ao43 t221.length co43, .int .i64 t224, .int .i64 0, .int .i64 0]) ?_ 2 _ rfl; (with_reducible repeat (first | refine blk_drewN ?_ _ | refine blk_drew ?_ | refine blk_alloc ?_ _)); refine blk_put (cs := #[.slice Ao43 t221.length co43, .int .i64 0, .int .i64 0, .int .i64 0]) ?_ 1 _ rfl; (with_reducible repeat (first | refine blk_drewN ?_ _ | refine blk_drew ?_ | refine blk_alloc ?_ _)); refine blk_put (cs := #[.slice none 0 0, .int .i64 0, .int .i64 0, .int .i64 0]) ?_ 0 _ rfl; (with_reducible repeat (first | refine blk_drewN ?_ _ | refine blk_drew ?_ | refine blk_alloc ?_ _)); exact BK228.out) hb); replace HB := Aside0.mk (below_step (bs3 HB GE208 GE216 GE228) hb); (try clear hb); (try clear hb2); (try clear hk); (try clear hi)))
        go_meet
        case rel => exact ⟨_, ((t227 != t207)), (by first | rfl | (simp; done) | (simp [*]; done)), H', ⟨by have := HJ3.out; first | omega | exact Nat.le_refl _⟩, ⟨rr HO_209000.out⟩, ⟨rr HO_217000.out⟩, rm HO223 (fun _ hk => ⟨hk.1.2, hk.2⟩), ⟨bk BK208⟩, ⟨bk BK216⟩, ⟨bk BK228⟩, ⟨bs3 HB GE208 GE216 GE228⟩⟩
       ·
        replace c48 := Bool.eq_false_iff.mpr c48
        subst c48
        rw [if_neg (show ¬ (false = true) by decide)] at H
        have H' := Aside0.mk H
        clear H
        have hnb55 := NB228_208.out
        have hnc55 := NB208_228.out
        have hnb56 := NB228_216.out
        have hnc56 := NB216_228.out
        obtain ⟨hcz57_0, hcz57_1, hcz57_2, hcz57_3⟩ := cz4 BK228
        obtain ⟨hfz57_0, hfz57_1, hfz57_2, hfz57_3⟩ := fz4 BK228
        have hnb58 := NB208_216.out
        have hnc58 := NB216_208.out
        obtain ⟨hcz59_0, hcz59_1, hcz59_2, hcz59_3⟩ := cz4 BK208
        obtain ⟨hfz59_0, hfz59_1, hfz59_2, hfz59_3⟩ := fz4 BK208
        go_wp2_with (first | ((with_reducible refine gate_callee (f := 21) rfl ?_); refine gL (some 48) rfl rfl Tryd.func21 (by kernel_rfl) rfl #[.agg #[.slice Ao43 t221.length co43, .int .i64 t224, .int .i64 t225, .int .i64 t226], .agg #[.slice Ao7 t201.length co7, .int .i64 t204, .int .i64 t205, .int .i64 t206]] rfl ?_; (with_reducible refine (laws_eqRing.calls kj3 _ _ t221 t224 t225 t226 _ _ t201 t204 t205 t206 false _ ?side1 ?side2 ?side3 ?side4 A47.out).mono ?_); (case side1 => exact rc HO223 BK228); (case side2 => exact (Kd.R_reads' HO223.out).2.1); (case side3 => exact rc HO_209000 BK228); (case side4 => exact (Kd.R_reads' HO_209000.out).2.1); rintro e w60 ⟨rfl, hb⟩; refine ⟨_, rfl, ?_⟩; replace HO_209000 := nf HO_209000 BK228 hb; replace HO_217000 := nf HO_217000 BK228 hb; replace HO223 := nf HO223 BK228 hb; replace BK208 := Aside0.mk (blk_below (bf BK208 NB208_228) hb); replace BK216 := Aside0.mk (blk_below (bf BK216 NB216_228) hb); replace BK228 := Aside0.mk (blk_below (g := gb228) (o := .cells #[.slice Ao43 t221.length co43, .int .i64 t224, .int .i64 t225, .int .i64 t226] 36 (0, 0)) (by (with_reducible repeat (first | refine blk_drewN ?_ _ | refine blk_drew ?_ | refine blk_alloc ?_ _)); refine blk_put (cs := #[.slice Ao43 t221.length co43, .int .i64 t224, .int .i64 t225, .int .i64 0]) ?_ 3 _ rfl; (with_reducible repeat (first | refine blk_drewN ?_ _ | refine blk_drew ?_ | refine blk_alloc ?_ _)); refine blk_put (cs := #[.slice Ao43 t221.length co43, .int .i64 t224, .int .i64 0, .int .i64 0]) ?_ 2 _ rfl; (with_reducible repeat (first | refine blk_drewN ?_ _ | refine blk_drew ?_ | refine blk_alloc ?_ _)); refine blk_put (cs := #[.slice Ao43 t221.length co43, .int .i64 0, .int .i64 0, .int .i64 0]) ?_ 1 _ rfl; (with_reducible repeat (first | refine blk_drewN ?_ _ | refine blk_drew ?_ | refine blk_alloc ?_ _)); refine blk_put (cs := #[.slice none 0 0, .int .i64 0, .int .i64 0, .int .i64 0]) ?_ 0 _ rfl; (with_reducible repeat (first | refine blk_drewN ?_ _ | refine blk_drew ?_ | refine blk_alloc ?_ _)); exact BK228.out) hb); replace HB := Aside0.mk (below_step (bs3 HB GE208 GE216 GE228) hb); (try clear hb); (try clear hb2); (try clear hk); (try clear hi)))
        go_meet
        case rel => exact ⟨_, (true), (by first | rfl | (simp; done) | (simp [*]; done)), H', ⟨by have := HJ3.out; first | omega | exact Nat.le_refl _⟩, ⟨rr HO_209000.out⟩, ⟨rr HO_217000.out⟩, rm HO223 (fun _ hk => ⟨hk.1.2, hk.2⟩), ⟨bk BK208⟩, ⟨bk BK216⟩, ⟨bk BK228⟩, ⟨bs3 HB GE208 GE216 GE228⟩⟩
      case rest =>
       clear HC35
       try clear c1
       try clear c2
       try clear p2
       try clear c3
       try clear c4
       try clear c5
       try clear c12
       try clear c15
       try clear c16
       try clear c20
       try clear c21
       try clear c22
       try clear c23
       try clear c24
       try clear c25
       try clear c27
       try clear c27b0
       try clear c28
       try clear c33
       try clear c33b0
       try clear c33b1
       try clear c36
       try clear c44
       try clear c45
       try clear c48
       try clear c49
       try clear c50
       try clear c52
       try clear c55
       try clear c56
       try clear c58
       try clear hcz13_0 hcz13_1 hcz13_2 hcz13_3
       try clear hcz17_0 hcz17_1 hcz17_2 hcz17_3
       try clear hcz18_0 hcz18_1 hcz18_2 hcz18_3
       try clear hcz21_0 hcz21_1 hcz21_2 hcz21_3
       try clear hcz22_0 hcz22_1 hcz22_2 hcz22_3
       try clear hcz29_0 hcz29_1 hcz29_2 hcz29_3
       try clear hcz31_0 hcz31_1 hcz31_2 hcz31_3
       try clear hcz37_0 hcz37_1 hcz37_2 hcz37_3
       try clear hcz39_0 hcz39_1 hcz39_2 hcz39_3
       try clear hcz46_0 hcz46_1 hcz46_2 hcz46_3
       try clear hcz51_0 hcz51_1 hcz51_2 hcz51_3
       try clear hcz53_0 hcz53_1 hcz53_2 hcz53_3
       try clear hcz57_0 hcz57_1 hcz57_2 hcz57_3
       try clear hcz59_0 hcz59_1 hcz59_2 hcz59_3
       try clear hcz8_0 hcz8_1 hcz8_2 hcz8_3
       try clear hfz13_0 hfz13_1 hfz13_2 hfz13_3
       try clear hfz17_0 hfz17_1 hfz17_2 hfz17_3
       try clear hfz18_0 hfz18_1 hfz18_2 hfz18_3
       try clear hfz21_0 hfz21_1 hfz21_2 hfz21_3
       try clear hfz22_0 hfz22_1 hfz22_2 hfz22_3
       try clear hfz29_0 hfz29_1 hfz29_2 hfz29_3
       try clear hfz31_0 hfz31_1 hfz31_2 hfz31_3
       try clear hfz37_0 hfz37_1 hfz37_2 hfz37_3
       try clear hfz39_0 hfz39_1 hfz39_2 hfz39_3
       try clear hfz46_0 hfz46_1 hfz46_2 hfz46_3
       try clear hfz51_0 hfz51_1 hfz51_2 hfz51_3
       try clear hfz53_0 hfz53_1 hfz53_2 hfz53_3
       try clear hfz57_0 hfz57_1 hfz57_2 hfz57_3
       try clear hfz59_0 hfz59_1 hfz59_2 hfz59_3
       try clear hfz8_0 hfz8_1 hfz8_2 hfz8_3
       try clear p2
       obtain ⟨kq, x54_34, rfl, HA, HJ34, HO_209000, HO_217000, HO_229000, BK208, BK216, BK228, HB⟩ := hcut
       have hl217000_34 := (Kd.R_reads' HO_217000.out).1
       rw [hl217000_34] at HO_217000
       (try simp only [hl217000_34])
       (try simp only [hl217000_34] at BK208)
       (try simp only [hl217000_34] at BK216)
       (try simp only [hl217000_34] at BK228)
       (try simp only [hl217000_34] at HO_209000)
       (try simp only [hl217000_34] at HO_229000)
       cases kq with
       | zero => exact absurd HA.out (by simp [laws_FnExactNewRing.j1])
       | succ kj34 =>
        have H := HA.out
        clear HA
        simp only [laws_FnExactNewRing.j1] at H
        by_cases c61 : x54_34 = true
        ·
         subst c61
         rw [if_pos rfl] at H
         obtain rfl := Option.some.inj H
         go_wp2
         go_ret
         exact ⟨by first | rfl | (simp [errW_none, errW_some] <;> rfl) | (simp [*, errW_none, errW_some] <;> rfl), bs3 HB GE208 GE216 GE228⟩
        ·
         replace c61 := Bool.eq_false_iff.mpr c61
         subst c61
         rw [if_neg (show ¬ (false = true) by decide)] at H
         replace H := Option.bind_eq_some_iff.mp H
         obtain ⟨t230, A620, H⟩ := H
         replace H : (if t230 < 0 then (some false) else (if t230 = t218 then (some true) else (some false))) = some r := H
         have A62 := Aside0.mk A620
         clear A620
         by_cases c63 : t230 < 0
         ·
          rw [if_pos c63] at H
          have c63b0 : decide (t230 < 0) = true := decide_eq_true c63
          clear c63
          obtain rfl := Option.some.inj H
          have hnb64 := NB216_208.out
          have hnc64 := NB208_216.out
          have hnb65 := NB216_228.out
          have hnc65 := NB228_216.out
          obtain ⟨hcz66_0, hcz66_1, hcz66_2, hcz66_3⟩ := cz4 BK216
          obtain ⟨hfz66_0, hfz66_1, hfz66_2, hfz66_3⟩ := fz4 BK216
          go_wp2_with (first | ((with_reducible refine gate_callee (f := 25) rfl ?_); refine gL (some 57) rfl rfl Tryd.func25 (by kernel_rfl) rfl #[.agg #[.slice Ao11 t219.length co11, .int .i64 t212, .int .i64 t213, .int .i64 t214], .int .i64 1] rfl ?_; (with_reducible refine (laws_heldRing.calls kj34 _ _ t219 t212 t213 t214 1 t230 _ ?side1 ?side2 A62.out).mono ?_); (case side1 => exact rc0 HO_217000); (case side2 => exact (Kd.R_reads' HO_217000.out).2.1); rintro e w67 ⟨rfl, hb⟩; refine ⟨_, rfl, ?_⟩; replace HO_209000 := nr HO_209000 hb; replace HO_217000 := nr HO_217000 hb; replace HO_229000 := nr HO_229000 hb; replace BK208 := nb BK208 hb; replace BK216 := nb BK216 hb; replace BK228 := nb BK228 hb; replace HB := Aside0.mk (below_step (bs3 HB GE208 GE216 GE228) hb); (try clear hb); (try clear hb2); (try clear hk); (try clear hi)))
          go_ret
          exact ⟨by first | rfl | (simp [errW_none, errW_some] <;> rfl) | (simp [*, errW_none, errW_some] <;> rfl), bs3 HB GE208 GE216 GE228⟩
         ·
          rw [if_neg c63] at H
          have c63b0 : decide (t230 < 0) = false := decide_eq_false c63
          clear c63
          by_cases c68 : t230 = t218
          ·
           rw [if_pos c68] at H
           have c68b0 : (t230 == t218) = true := beq_iff_eq.mpr c68
           have c68b1 : (t230 != t218) = false := bne_eq_false_iff_eq.mpr c68
           clear c68
           obtain rfl := Option.some.inj H
           have hnb69 := NB216_208.out
           have hnc69 := NB208_216.out
           have hnb70 := NB216_228.out
           have hnc70 := NB228_216.out
           obtain ⟨hcz71_0, hcz71_1, hcz71_2, hcz71_3⟩ := cz4 BK216
           obtain ⟨hfz71_0, hfz71_1, hfz71_2, hfz71_3⟩ := fz4 BK216
           go_wp2_with (first | ((with_reducible refine gate_callee (f := 25) rfl ?_); refine gL (some 57) rfl rfl Tryd.func25 (by kernel_rfl) rfl #[.agg #[.slice Ao11 t219.length co11, .int .i64 t212, .int .i64 t213, .int .i64 t214], .int .i64 1] rfl ?_; (with_reducible refine (laws_heldRing.calls kj34 _ _ t219 t212 t213 t214 1 t230 _ ?side1 ?side2 A62.out).mono ?_); (case side1 => exact rc0 HO_217000); (case side2 => exact (Kd.R_reads' HO_217000.out).2.1); rintro e w72 ⟨rfl, hb⟩; refine ⟨_, rfl, ?_⟩; replace HO_209000 := nr HO_209000 hb; replace HO_217000 := nr HO_217000 hb; replace HO_229000 := nr HO_229000 hb; replace BK208 := nb BK208 hb; replace BK216 := nb BK216 hb; replace BK228 := nb BK228 hb; replace HB := Aside0.mk (below_step (bs3 HB GE208 GE216 GE228) hb); (try clear hb); (try clear hb2); (try clear hk); (try clear hi)))
           go_ret
           exact ⟨by first | rfl | (simp [errW_none, errW_some] <;> rfl) | (simp [*, errW_none, errW_some] <;> rfl), bs3 HB GE208 GE216 GE228⟩
          ·
           rw [if_neg c68] at H
           have c68b0 : (t230 == t218) = false := beq_eq_false_iff_ne.mpr c68
           have c68b1 : (t230 != t218) = true := bne_iff_ne.mpr c68
           obtain rfl := Option.some.inj H
           have hnb73 := NB216_208.out
           have hnc73 := NB208_216.out
           have hnb74 := NB216_228.out
           have hnc74 := NB228_216.out
           obtain ⟨hcz75_0, hcz75_1, hcz75_2, hcz75_3⟩ := cz4 BK216
           obtain ⟨hfz75_0, hfz75_1, hfz75_2, hfz75_3⟩ := fz4 BK216
           go_wp2_with (first | ((with_reducible refine gate_callee (f := 25) rfl ?_); refine gL (some 57) rfl rfl Tryd.func25 (by kernel_rfl) rfl #[.agg #[.slice Ao11 t219.length co11, .int .i64 t212, .int .i64 t213, .int .i64 t214], .int .i64 1] rfl ?_; (with_reducible refine (laws_heldRing.calls kj34 _ _ t219 t212 t213 t214 1 t230 _ ?side1 ?side2 A62.out).mono ?_); (case side1 => exact rc0 HO_217000); (case side2 => exact (Kd.R_reads' HO_217000.out).2.1); rintro e w76 ⟨rfl, hb⟩; refine ⟨_, rfl, ?_⟩; replace HO_209000 := nr HO_209000 hb; replace HO_217000 := nr HO_217000 hb; replace HO_229000 := nr HO_229000 hb; replace BK208 := nb BK208 hb; replace BK216 := nb BK216 hb; replace BK228 := nb BK228 hb; replace HB := Aside0.mk (below_step (bs3 HB GE208 GE216 GE228) hb); (try clear hb); (try clear hb2); (try clear hk); (try clear hi)))
           go_ret
           exact ⟨by first | rfl | (simp [errW_none, errW_some] <;> rfl) | (simp [*, errW_none, errW_some] <;> rfl), bs3 HB GE208 GE216 GE228⟩
     ·
      rw [if_neg c33] at H
      have c33b0 : (t220 == t218) = false := beq_eq_false_iff_ne.mpr c33
      have c33b1 : (t220 != t218) = true := bne_iff_ne.mpr c33
      obtain rfl := Option.some.inj H
      have hnb77 := NB216_208.out
      have hnc77 := NB208_216.out
      obtain ⟨hcz78_0, hcz78_1, hcz78_2, hcz78_3⟩ := cz4 BK216
      obtain ⟨hfz78_0, hfz78_1, hfz78_2, hfz78_3⟩ := fz4 BK216
      go_wp2_with (first | ((with_reducible refine gate_callee (f := 24) rfl ?_); refine gL (some 32) rfl rfl Tryd.func24 (by kernel_rfl) rfl #[.agg #[.slice Ao11 t209.length co11, .int .i64 t212, .int .i64 t213, .int .i64 t214], .int .i64 1] rfl ?_; (with_reducible refine (laws_markRing.calls kj3 (fun k_ => some k_ = (.slice Ao11 t209.length co11 : Value).ownBlock) (.slice Ao11 t209.length co11) t209 t212 t213 t214 1 t218 t219 w _ ?side1 ?side2 A25.out).mono ?_); (case side1 => repeat (first | (with_reducible first | exact HB.out | apply below_alloc | apply pw_below_drewN | apply below_drew1 | refine below_set ?_ GE208.out | refine below_set ?_ GE216.out) | exact HB.out)); (case side2 => exact Kd.R_tight rfl HO_217000.out); rintro e w79 ⟨rfl, hy0, hb, hkp⟩; refine ⟨_, rfl, ?_⟩; replace HO_209000 := Aside0.mk (Kd.R_mono (ok' := fun k_ => some k_ ≠ (.slice Ao11 t209.length co11 : Value).ownBlock) (Kd.R_keptB (HO_209000.out) hkp (fun k_ hk_ hs_ => (hk_) hs_)) (fun k_ hk_ => hk_.1)); replace BK208 := Aside0.mk (blk_kept (bk BK208) hkp (fun hs_ => (fun e_ => (Kd.R_ne HO_217000.out BK208.out (by decide)) e_) hs_)); replace BK216 := Aside0.mk (blk_kept (bk BK216) hkp (fun hs_ => (fun e_ => (Kd.R_ne HO_217000.out BK216.out (by decide)) e_) hs_)); replace HO_217000 := Aside0.mk (Kd.R_reok rfl hy0 (fun k_ e_ => HO_217000.out.1 k_ e_)); replace HB := Aside0.mk (hb); (try clear hb); (try clear hkp); (try clear hy0); obtain ⟨hcz80_0, hcz80_1, hcz80_2, hcz80_3⟩ := cz4 BK216; obtain ⟨hfz80_0, hfz80_1, hfz80_2, hfz80_3⟩ := fz4 BK216) | ((with_reducible refine gate_callee (f := 25) rfl ?_); refine goesL_ (some 35) rfl rfl Tryd.func25 (by kernel_rfl) rfl #[.agg #[.slice Ao11 t219.length co11, .int .i64 t212, .int .i64 t213, .int .i64 t214], .int .i64 1] rfl (by (try simp only [List.map_toArray, List.map_cons, List.map_nil]); first | done | (rw [show t219.length = t209.length from (Kd.R_reads' HO_217000.out).1.symm] <;> rfl) | rfl | (simp only [List.length_drop, List.length_take]; rfl)) ?_; (with_reducible refine (laws_heldRing.calls kj3 _ _ t219 t212 t213 t214 1 t220 _ ?side1 ?side2 A26.out).mono ?_); (case side1 => exact rc0 HO_217000); (case side2 => rw [show t219.length = t209.length from (Kd.R_reads' HO_217000.out).1.symm]; exact (Kd.R_reads' HO_217000.out).2.1); rintro e w81 ⟨rfl, hb⟩; refine ⟨_, rfl, ?_⟩; replace HO_209000 := nr HO_209000 hb; replace HO_217000 := nr HO_217000 hb; replace BK208 := nb BK208 hb; replace BK216 := nb BK216 hb; replace HB := Aside0.mk (below_step (bs2 HB GE208 GE216) hb); (try clear hb); (try clear hb2); (try clear hk); (try clear hi)))
      go_ret
      exact ⟨by first | rfl | (simp [errW_none, errW_some] <;> rfl) | (simp [*, errW_none, errW_some] <;> rfl), bs2 HB GE208 GE216⟩

/-- THE ONE PURE STATEMENT of laws_FnExactNewRing. -/
def laws_FnExactNewRing.Pure : Prop := ∀ (a0 : Int), (Lit.int .i64 a0).wf = true → ∃ k, laws_FnExactNewRing.f k a0 = some true

end Go.Proofs.YthlifcbkpafofaaDoor.G
