-- Printed by a program of this session (drive.py, by way of the kit's print). Not trusted: Lean checks it.
import Derived.Test.YtdclpgcmeabmbaaG0
import Derived.Test.YtdclpgcmeabmbaaG1
namespace Go.Proofs.Ytdclpgcmeabmbaa.G
open Go.RowKit Go.Proofs.YtdclpgcmeabmbaaW.PrintWords Go.Proofs.YtdclpgcmeabmbaaW.PrintLast Go.Proofs.YtdclpgcmeabmbaaW.PrintMore
attribute [local go_sem] max2_int min2_int max_two min_two max_three min_three max_four min_four   -- for this text's walks alone
set_option linter.unusedVariables false
set_option linter.unusedSimpArgs false

/-! ### laws_FnExactNewStore: function 3 -/
mutual
def laws_FnExactNewStore.j0 : Nat → Int → Bool → Bool → List ByteArray → List (S90) → List ByteArray → Int → List ByteArray → List (S90) → List ByteArray → Int → Option (Bool)
 | 0, _, _, _, _, _, _, _, _, _, _, _ => none
 | k + 1, x0, x4, x29, x198000, x198001, x198002, x198003, x210000, x210001, x210002, x210003 => if x29 = true then (some false) else ((laws_markStore.f k x210000 x210001 x210002 x210003 1).bind fun bt211 => ((laws_heldStore.f k bt211.2.1 bt211.2.2.1 bt211.2.2.2 x210003 1).bind fun t215 => (if t215 < 0 then (some false) else (if t215 = bt211.1 then ((impl_NewStore.f x0).bind fun bt216 => ((laws_eqStore.f k bt216.1 bt216.2.1 bt216.2.2.1 bt216.2.2.2.1 x198000 x198001 x198002 x198003).bind fun t228 => (if t228 = true then (laws_FnExactNewStore.j1 k bt211.1 (bt216.2.2.2.2 != x4) bt211.2.1 bt211.2.2.1 bt211.2.2.2 x210003) else (laws_FnExactNewStore.j1 k bt211.1 true bt211.2.1 bt211.2.2.1 bt211.2.2.2 x210003)))) else (some false)))))
def laws_FnExactNewStore.j1 : Nat → Int → Bool → List ByteArray → List (S90) → List ByteArray → Int → Option (Bool)
 | 0, _, _, _, _, _, _ => none
 | k + 1, x7, x54, x210000, x210001, x210002, x210003 => if x54 = true then (some false) else ((laws_heldStore.f k x210000 x210001 x210002 x210003 1).bind fun t229 => (if t229 < 0 then (some false) else (if t229 = x7 then (some true) else (some false))))
end
def laws_FnExactNewStore.f (k : Nat) (a0 : Int) : Option (Bool) := (spec_NewStore.f k a0).bind fun bt186 => ((impl_NewStore.f a0).bind fun bt198 => ((laws_eqStore.f k bt198.1 bt198.2.1 bt198.2.2.1 bt198.2.2.2.1 bt186.1 bt186.2.1 bt186.2.2.1 bt186.2.2.2.1).bind fun t210 => (if t210 = true then (laws_FnExactNewStore.j0 k a0 bt186.2.2.2.2 (bt198.2.2.2.2 != bt186.2.2.2.2) bt186.1 bt186.2.1 bt186.2.2.1 bt186.2.2.2.1 bt198.1 bt198.2.1 bt198.2.2.1 bt198.2.2.2.1) else (laws_FnExactNewStore.j0 k a0 bt186.2.2.2.2 true bt186.1 bt186.2.1 bt186.2.2.1 bt186.2.2.2.1 bt198.1 bt198.2.1 bt198.2.2.1 bt198.2.2.2.1))))
theorem laws_FnExactNewStore.mono_l : ∀ k, (∀ y0 y1 y2 y3 y4 y5 y6 y7 y8 y9 y10, LeO (laws_FnExactNewStore.j0 k y0 y1 y2 y3 y4 y5 y6 y7 y8 y9 y10) (laws_FnExactNewStore.j0 (k + 1) y0 y1 y2 y3 y4 y5 y6 y7 y8 y9 y10)) ∧ (∀ y0 y1 y2 y3 y4 y5, LeO (laws_FnExactNewStore.j1 k y0 y1 y2 y3 y4 y5) (laws_FnExactNewStore.j1 (k + 1) y0 y1 y2 y3 y4 y5))
 | 0 => ⟨fun _ _ _ _ _ _ _ _ _ _ _ r h => by simp [laws_FnExactNewStore.j0] at h, fun _ _ _ _ _ _ r h => by simp [laws_FnExactNewStore.j1] at h⟩
 | k + 1 => by
  obtain ⟨ih0, ih1⟩ := laws_FnExactNewStore.mono_l k
  refine ⟨?_, ?_⟩
  ·
   intro y0 y1 y2 y3 y4 y5 y6 y7 y8 y9 y10
   unfold laws_FnExactNewStore.j0
   repeat' first
   | (with_reducible exact ih0 _ _ _ _ _ _ _ _ _ _ _)
   | (with_reducible exact ih1 _ _ _ _ _ _)
   | (with_reducible exact laws_eqStore.mono _ _ _ _ _ _ _ _ _)
   | (with_reducible exact laws_heldStore.mono _ _ _ _ _ _)
   | (with_reducible exact laws_markStore.mono _ _ _ _ _ _)
   | (with_reducible exact spec_NewStore.mono _ _)
   | (with_reducible exact LeO.refl _)
   | (with_reducible exact LeO.none _)
   | (with_reducible refine LeO.ite ?_ ?_)
   | (with_reducible refine LeO.bind ?_ (fun _ => ?_))
   | exact ih0 _ _ _ _ _ _ _ _ _ _ _
   | exact ih1 _ _ _ _ _ _
   | exact laws_eqStore.mono _ _ _ _ _ _ _ _ _
   | exact laws_heldStore.mono _ _ _ _ _ _
   | exact laws_markStore.mono _ _ _ _ _ _
   | exact spec_NewStore.mono _ _
   | exact LeO.none _
   | refine LeO.ite ?_ ?_
   | refine LeO.bind ?_ (fun _ => ?_)
  ·
   intro y0 y1 y2 y3 y4 y5
   unfold laws_FnExactNewStore.j1
   repeat' first
   | (with_reducible exact ih0 _ _ _ _ _ _ _ _ _ _ _)
   | (with_reducible exact ih1 _ _ _ _ _ _)
   | (with_reducible exact laws_eqStore.mono _ _ _ _ _ _ _ _ _)
   | (with_reducible exact laws_heldStore.mono _ _ _ _ _ _)
   | (with_reducible exact laws_markStore.mono _ _ _ _ _ _)
   | (with_reducible exact spec_NewStore.mono _ _)
   | (with_reducible exact LeO.refl _)
   | (with_reducible exact LeO.none _)
   | (with_reducible refine LeO.ite ?_ ?_)
   | (with_reducible refine LeO.bind ?_ (fun _ => ?_))
   | exact ih0 _ _ _ _ _ _ _ _ _ _ _
   | exact ih1 _ _ _ _ _ _
   | exact laws_eqStore.mono _ _ _ _ _ _ _ _ _
   | exact laws_heldStore.mono _ _ _ _ _ _
   | exact laws_markStore.mono _ _ _ _ _ _
   | exact spec_NewStore.mono _ _
   | exact LeO.none _
   | refine LeO.ite ?_ ?_
   | refine LeO.bind ?_ (fun _ => ?_)
theorem laws_FnExactNewStore.mono : ∀ a0 k, LeO (laws_FnExactNewStore.f k a0) (laws_FnExactNewStore.f (k + 1) a0) := by
 intro a0 k
 obtain ⟨ih0, ih1⟩ := laws_FnExactNewStore.mono_l k
 unfold laws_FnExactNewStore.f
 repeat' first
   | (with_reducible exact ih0 _ _ _ _ _ _ _ _ _ _ _)
   | (with_reducible exact ih1 _ _ _ _ _ _)
   | (with_reducible exact laws_eqStore.mono _ _ _ _ _ _ _ _ _)
   | (with_reducible exact laws_heldStore.mono _ _ _ _ _ _)
   | (with_reducible exact laws_markStore.mono _ _ _ _ _ _)
   | (with_reducible exact spec_NewStore.mono _ _)
   | (with_reducible exact LeO.refl _)
   | (with_reducible exact LeO.none _)
   | (with_reducible refine LeO.ite ?_ ?_)
   | (with_reducible refine LeO.bind ?_ (fun _ => ?_))
   | exact ih0 _ _ _ _ _ _ _ _ _ _ _
   | exact ih1 _ _ _ _ _ _
   | exact laws_eqStore.mono _ _ _ _ _ _ _ _ _
   | exact laws_heldStore.mono _ _ _ _ _ _
   | exact laws_markStore.mono _ _ _ _ _ _
   | exact spec_NewStore.mono _ _
   | exact LeO.none _
   | refine LeO.ite ?_ ?_
   | refine LeO.bind ?_ (fun _ => ?_)
set_option maxHeartbeats 8000000 in
set_option maxRecDepth 100000 in
theorem laws_FnExactNewStore.calls (k : Nat) (a0 : Int) (r : Bool) (w : World) (h : laws_FnExactNewStore.f k a0 = some r) :
  Calls Try.prog 3 #[.int .i64 a0] w fun e w' => e = .returned (.bool r) ∧ Below w.heap.size w w' := by
 have hu27 := Try.underlying27
 have HB := Aside0.mk (Below.refl w.heap.size w)
 have H : ((spec_NewStore.f k a0).bind fun bt186 => ((impl_NewStore.f a0).bind fun bt198 => ((laws_eqStore.f k bt198.1 bt198.2.1 bt198.2.2.1 bt198.2.2.2.1 bt186.1 bt186.2.1 bt186.2.2.1 bt186.2.2.2.1).bind fun t210 => (if t210 = true then (laws_FnExactNewStore.j0 k a0 bt186.2.2.2.2 (bt198.2.2.2.2 != bt186.2.2.2.2) bt186.1 bt186.2.1 bt186.2.2.1 bt186.2.2.2.1 bt198.1 bt198.2.1 bt198.2.2.1 bt198.2.2.2.1) else (laws_FnExactNewStore.j0 k a0 bt186.2.2.2.2 true bt186.1 bt186.2.1 bt186.2.2.1 bt186.2.2.2.1 bt198.1 bt198.2.1 bt198.2.2.1 bt198.2.2.2.1))))) = some r := h
 clear h
 replace H := Option.bind_eq_some_iff.mp H
 obtain ⟨⟨t186, t189, t192, t195, t196⟩, A20, H⟩ := H
 replace H : ((impl_NewStore.f a0).bind fun bt198 => ((laws_eqStore.f k bt198.1 bt198.2.1 bt198.2.2.1 bt198.2.2.2.1 t186 t189 t192 t195).bind fun t210 => (if t210 = true then (laws_FnExactNewStore.j0 k a0 t196 (bt198.2.2.2.2 != t196) t186 t189 t192 t195 bt198.1 bt198.2.1 bt198.2.2.1 bt198.2.2.2.1) else (laws_FnExactNewStore.j0 k a0 t196 true t186 t189 t192 t195 bt198.1 bt198.2.1 bt198.2.2.1 bt198.2.2.2.1)))) = some r := H
 have A2 := Aside0.mk A20
 clear A20
 replace H := Option.bind_eq_some_iff.mp H
 obtain ⟨⟨t198, t201, t204, t207, t208⟩, A30, H⟩ := H
 replace H : ((laws_eqStore.f k t198 t201 t204 t207 t186 t189 t192 t195).bind fun t210 => (if t210 = true then (laws_FnExactNewStore.j0 k a0 t196 (t208 != t196) t186 t189 t192 t195 t198 t201 t204 t207) else (laws_FnExactNewStore.j0 k a0 t196 true t186 t189 t192 t195 t198 t201 t204 t207))) = some r := H
 have A3 := Aside0.mk A30
 clear A30
 have HC4 := Aside0.mk H
 clear H
 go_enter Try.func3, Try.ntmps3
 go_upto_region 3 with (first | ((with_reducible refine gate_callee (f := 6) rfl ?_); refine gL (some 13) rfl rfl Try.func6 (by kernel_rfl) rfl #[.int .i64 a0] rfl ?_; (with_reducible refine (spec_NewStore.calls k a0 t186 t189 t192 t195 t196 _ A2.out).mono ?_); rintro e w5 ⟨v187, v190, v193, rfl, ho0, ho1, ho2, hb⟩; refine ⟨_, rfl, ?_⟩; have HO188 := Aside0.mk (Kd.R_lower ho0 (below_size (bs HB))); have HO191 := Aside0.mk (Kd.R_lower ho1 (below_size (bs HB))); have HO194 := Aside0.mk (Kd.R_lower ho2 (below_size (bs HB))); replace HB := Aside0.mk (below_step (bs HB) hb); (try clear hb); (try clear hb2); (try clear hk); (try clear hi); (try clear ho0); (try clear ho1); (try clear ho2)) | ((with_reducible refine gate_dst (N := 3) rfl ?_); refine box_event ?hg (N := 3) ?hd (cs := #[.slice none 0 0, .slice none 0 0, .slice none 0 0, .int .i64 0]) (t := 27) ?hr ?_; (case hd => rfl); (case hg => rfl); (case hr => first | (go_simp; done) | (go_simp; rfl)); intro gb197 hg w6 hbox hb; replace HO188 := nr HO188 hb; replace HO191 := nr HO191 hb; replace HO194 := nr HO194 hb; have BK197 := Aside0.mk (hbox); have GW197 := Aside0.mk ((by rw [hg]; exact (below_size (bs HB)) : w.heap.size ≤ gb197)); have GE197 := Aside0.mk ((by rw [hg]; exact (below_size (bs HB)) : w.heap.size ≤ gb197)); replace HB := Aside0.mk (below_step (bs HB) hb); clear hb hbox hg; obtain ⟨Ao7, co7, eo7⟩ := Kd.R_slice HO188.out; subst eo7; obtain ⟨hcz8_0, hcz8_1, hcz8_2, hcz8_3⟩ := cz4 BK197; obtain ⟨hfz8_0, hfz8_1, hfz8_2, hfz8_3⟩ := fz4 BK197; obtain ⟨Ao9, co9, eo9⟩ := Kd.R_slice HO191.out; subst eo9; obtain ⟨Ao10, co10, eo10⟩ := Kd.R_slice HO194.out; subst eo10) | ((with_reducible refine gate_callee (f := 7) rfl ?_); refine gL (some 18) rfl rfl Try.func7 (by kernel_rfl) rfl #[.int .i64 a0] rfl ?_; (with_reducible refine (impl_NewStore.calls a0 t198 t201 t204 t207 t208 _ A3.out).mono ?_); rintro e w11 ⟨v199, v202, v205, rfl, ho0, ho1, ho2, hb⟩; refine ⟨_, rfl, ?_⟩; have HO200 := Aside0.mk (Kd.R_lower (Kd.R_new' (Kd.R_new' ho0 (Kd.R_lt (rf HO188 BK197))) (Kd.R_lt (rf HO194 BK197))) (below_size (bs1 HB GE197))); have HO203 := Aside0.mk (Kd.R_lower (Kd.R_new' ho1 (Kd.R_lt (rf HO191 BK197))) (below_size (bs1 HB GE197))); replace HO191 := Aside0.mk (Kd.R_elder' (rf HO191 BK197) (Kd.R_base ho1) hb); have HO206 := Aside0.mk (Kd.R_lower (Kd.R_new' (Kd.R_new' ho2 (Kd.R_lt (rf HO188 BK197))) (Kd.R_lt (rf HO194 BK197))) (below_size (bs1 HB GE197))); replace HO188 := Aside0.mk (Kd.R_mono (Kd.R_told (Kd.R_told (Kd.R_old (rf HO188 BK197) hb) (Kd.R_base ho0)) (Kd.R_base ho2)) (fun _ h_ => h_.1)); replace HO194 := Aside0.mk (Kd.R_mono (Kd.R_told (Kd.R_told (Kd.R_old (rf HO194 BK197) hb) (Kd.R_base ho0)) (Kd.R_base ho2)) (fun _ h_ => h_.1)); replace BK197 := Aside0.mk (blk_below (g := gb197) (o := .cells #[.slice Ao7 t186.length co7, .slice Ao9 t189.length co9, .slice Ao10 t192.length co10, .int .i64 t195] 27 (0, 0)) (by (with_reducible repeat (first | refine blk_drewN ?_ _ | refine blk_drew ?_ | refine blk_alloc ?_ _)); refine blk_put (cs := #[.slice Ao7 t186.length co7, .slice Ao9 t189.length co9, .slice Ao10 t192.length co10, .int .i64 0]) ?_ 3 _ rfl; (with_reducible repeat (first | refine blk_drewN ?_ _ | refine blk_drew ?_ | refine blk_alloc ?_ _)); refine blk_put (cs := #[.slice Ao7 t186.length co7, .slice Ao9 t189.length co9, .slice none 0 0, .int .i64 0]) ?_ 2 _ rfl; (with_reducible repeat (first | refine blk_drewN ?_ _ | refine blk_drew ?_ | refine blk_alloc ?_ _)); refine blk_put (cs := #[.slice Ao7 t186.length co7, .slice none 0 0, .slice none 0 0, .int .i64 0]) ?_ 1 _ rfl; (with_reducible repeat (first | refine blk_drewN ?_ _ | refine blk_drew ?_ | refine blk_alloc ?_ _)); refine blk_put (cs := #[.slice none 0 0, .slice none 0 0, .slice none 0 0, .int .i64 0]) ?_ 0 _ rfl; (with_reducible repeat (first | refine blk_drewN ?_ _ | refine blk_drew ?_ | refine blk_alloc ?_ _)); exact BK197.out) hb); replace HB := Aside0.mk (below_step (bs1 HB GE197) hb); (try clear hb); (try clear hb2); (try clear hk); (try clear hi); (try clear ho0); (try clear ho1); (try clear ho2)) | ((with_reducible refine gate_dst (N := 5) rfl ?_); refine box_event ?hg (N := 5) ?hd (cs := #[.slice none 0 0, .slice none 0 0, .slice none 0 0, .int .i64 0]) (t := 27) ?hr ?_; (case hd => rfl); (case hg => rfl); (case hr => first | (go_simp; done) | (go_simp; rfl)); intro gb209 hg w12 hbox hb; replace HO188 := nr HO188 hb; replace HO191 := nr HO191 hb; replace HO194 := nr HO194 hb; replace HO200 := nr HO200 hb; replace HO203 := nr HO203 hb; replace HO206 := nr HO206 hb; have BK209 := Aside0.mk (hbox); have GW209 := Aside0.mk ((by rw [hg]; exact (below_size (bs1 HB GE197)) : w.heap.size ≤ gb209)); have GE209 := Aside0.mk ((by rw [hg]; exact (below_size (bs1 HB GE197)) : w.heap.size ≤ gb209)); replace HB := Aside0.mk (below_step (bs1 HB GE197) hb); have NB197_209 := Aside0.mk ((bn BK197 hg : gb197 ≠ gb209)); have NB209_197 := Aside0.mk ((bm BK197 hg : gb209 ≠ gb197)); replace BK197 := nb BK197 hb; clear hb hbox hg; obtain ⟨Ao13, co13, eo13⟩ := Kd.R_slice HO200.out; subst eo13; have hnb14 := NB209_197.out; have hnc14 := NB197_209.out; obtain ⟨hcz15_0, hcz15_1, hcz15_2, hcz15_3⟩ := cz4 BK209; obtain ⟨hfz15_0, hfz15_1, hfz15_2, hfz15_3⟩ := fz4 BK209; obtain ⟨Ao16, co16, eo16⟩ := Kd.R_slice HO203.out; subst eo16; obtain ⟨Ao17, co17, eo17⟩ := Kd.R_slice HO206.out; subst eo17))
 (try simp only [Act.put, List.setIfInBounds_toArray, List.set_cons_zero, List.set_cons_succ])
 go_cut [29] (fun v29 wc => ∃ (kq : Nat) (x29_3 : Bool), v29 = .bool x29_3 ∧ Aside0 (laws_FnExactNewStore.j0 kq a0 t196 x29_3 t186 t189 t192 t195 t198 t201 t204 t207 = some r) ∧ Aside0 (kq ≤ k) ∧ Aside0 (Kd.R Kd.string 9 wc w.heap.size (fun k_ => some k_ ≠ ((.slice Ao10 t192.length co10) : Value).ownBlock ∧ some k_ ≠ ((.slice Ao13 t198.length co13) : Value).ownBlock ∧ some k_ ≠ ((.slice Ao17 t204.length co17) : Value).ownBlock) (.slice Ao7 t186.length co7) t186) ∧ Aside0 (Kd.R k90 90 wc w.heap.size (fun k_ => some k_ ≠ ((.slice Ao16 t201.length co16) : Value).ownBlock) (.slice Ao9 t189.length co9) t189) ∧ Aside0 (Kd.R Kd.string 9 wc w.heap.size (fun k_ => some k_ ≠ ((.slice Ao7 t186.length co7) : Value).ownBlock ∧ some k_ ≠ ((.slice Ao13 t198.length co13) : Value).ownBlock ∧ some k_ ≠ ((.slice Ao17 t204.length co17) : Value).ownBlock) (.slice Ao10 t192.length co10) t192) ∧ Aside0 (Kd.R Kd.string 9 wc w.heap.size (fun k_ => some k_ ≠ ((.slice Ao7 t186.length co7) : Value).ownBlock ∧ some k_ ≠ ((.slice Ao10 t192.length co10) : Value).ownBlock ∧ some k_ ≠ ((.slice Ao17 t204.length co17) : Value).ownBlock) (.slice Ao13 t198.length co13) t198) ∧ Aside0 (Kd.R k90 90 wc w.heap.size (fun k_ => some k_ ≠ ((.slice Ao9 t189.length co9) : Value).ownBlock) (.slice Ao16 t201.length co16) t201) ∧ Aside0 (Kd.R Kd.string 9 wc w.heap.size (fun k_ => some k_ ≠ ((.slice Ao7 t186.length co7) : Value).ownBlock ∧ some k_ ≠ ((.slice Ao10 t192.length co10) : Value).ownBlock ∧ some k_ ≠ ((.slice Ao13 t198.length co13) : Value).ownBlock) (.slice Ao17 t204.length co17) t204) ∧ Aside0 (wc.heap[gb197]? = some (.cells #[(.slice Ao7 t186.length co7), (.slice Ao9 t189.length co9), (.slice Ao10 t192.length co10), .int .i64 t195] 27 (0, 0))) ∧ Aside0 (wc.heap[gb209]? = some (.cells #[(.slice Ao13 t198.length co13), (.slice Ao16 t201.length co16), (.slice Ao17 t204.length co17), .int .i64 t207] 27 (0, 0))) ∧ Aside0 (Below w.heap.size w wc))
 case first =>
  have H := HC4.out
  clear HC4
  replace H := Option.bind_eq_some_iff.mp H
  obtain ⟨t210, A180, H⟩ := H
  replace H : (if t210 = true then (laws_FnExactNewStore.j0 k a0 t196 (t208 != t196) t186 t189 t192 t195 t198 t201 t204 t207) else (laws_FnExactNewStore.j0 k a0 t196 true t186 t189 t192 t195 t198 t201 t204 t207)) = some r := H
  have A18 := Aside0.mk A180
  clear A180
  by_cases c19 : t210 = true
  ·
   subst c19
   rw [if_pos rfl] at H
   have H' := Aside0.mk H
   clear H
   have hnb20 := NB209_197.out
   have hnc20 := NB197_209.out
   obtain ⟨hcz21_0, hcz21_1, hcz21_2, hcz21_3⟩ := cz4 BK209
   obtain ⟨hfz21_0, hfz21_1, hfz21_2, hfz21_3⟩ := fz4 BK209
   obtain ⟨hcz22_0, hcz22_1, hcz22_2, hcz22_3⟩ := cz4 BK197
   obtain ⟨hfz22_0, hfz22_1, hfz22_2, hfz22_3⟩ := fz4 BK197
   go_wp2_with (first | ((with_reducible refine gate_callee (f := 8) rfl ?_); refine gL (some 23) rfl rfl Try.func8 (by kernel_rfl) rfl #[.agg #[.slice Ao13 t198.length co13, .slice Ao16 t201.length co16, .slice Ao17 t204.length co17, .int .i64 t207], .agg #[.slice Ao7 t186.length co7, .slice Ao9 t189.length co9, .slice Ao10 t192.length co10, .int .i64 t195]] rfl ?_; (with_reducible refine (laws_eqStore.calls k _ _ t198 _ _ t201 _ _ t204 t207 _ _ t186 _ _ t189 _ _ t192 t195 true _ ?side1 ?side2 ?side3 ?side4 ?side5 ?side6 ?side7 ?side8 ?side9 ?side10 ?side11 ?side12 A18.out).mono ?_); (case side1 => exact rc HO200 BK209); (case side2 => exact (Kd.R_reads' HO200.out).2.1); (case side3 => exact rc HO203 BK209); (case side4 => exact (Kd.R_reads' HO203.out).2.1); (case side5 => exact rc HO206 BK209); (case side6 => exact (Kd.R_reads' HO206.out).2.1); (case side7 => exact rc HO188 BK209); (case side8 => exact (Kd.R_reads' HO188.out).2.1); (case side9 => exact rc HO191 BK209); (case side10 => exact (Kd.R_reads' HO191.out).2.1); (case side11 => exact rc HO194 BK209); (case side12 => exact (Kd.R_reads' HO194.out).2.1); rintro e w23 ⟨rfl, hb⟩; refine ⟨_, rfl, ?_⟩; replace HO188 := nf HO188 BK209 hb; replace HO191 := nf HO191 BK209 hb; replace HO194 := nf HO194 BK209 hb; replace HO200 := nf HO200 BK209 hb; replace HO203 := nf HO203 BK209 hb; replace HO206 := nf HO206 BK209 hb; replace BK197 := Aside0.mk (blk_below (bf BK197 NB197_209) hb); replace BK209 := Aside0.mk (blk_below (g := gb209) (o := .cells #[.slice Ao13 t198.length co13, .slice Ao16 t201.length co16, .slice Ao17 t204.length co17, .int .i64 t207] 27 (0, 0)) (by (with_reducible repeat (first | refine blk_drewN ?_ _ | refine blk_drew ?_ | refine blk_alloc ?_ _)); refine blk_put (cs := #[.slice Ao13 t198.length co13, .slice Ao16 t201.length co16, .slice Ao17 t204.length co17, .int .i64 0]) ?_ 3 _ rfl; (with_reducible repeat (first | refine blk_drewN ?_ _ | refine blk_drew ?_ | refine blk_alloc ?_ _)); refine blk_put (cs := #[.slice Ao13 t198.length co13, .slice Ao16 t201.length co16, .slice none 0 0, .int .i64 0]) ?_ 2 _ rfl; (with_reducible repeat (first | refine blk_drewN ?_ _ | refine blk_drew ?_ | refine blk_alloc ?_ _)); refine blk_put (cs := #[.slice Ao13 t198.length co13, .slice none 0 0, .slice none 0 0, .int .i64 0]) ?_ 1 _ rfl; (with_reducible repeat (first | refine blk_drewN ?_ _ | refine blk_drew ?_ | refine blk_alloc ?_ _)); refine blk_put (cs := #[.slice none 0 0, .slice none 0 0, .slice none 0 0, .int .i64 0]) ?_ 0 _ rfl; (with_reducible repeat (first | refine blk_drewN ?_ _ | refine blk_drew ?_ | refine blk_alloc ?_ _)); exact BK209.out) hb); replace HB := Aside0.mk (below_step (bs2 HB GE197 GE209) hb); (try clear hb); (try clear hb2); (try clear hk); (try clear hi)))
   go_meet
   case rel => exact ⟨_, ((t208 != t196)), (by first | rfl | (simp; done) | (simp [*]; done)), H', ⟨by first | omega | exact Nat.le_refl _⟩, rm HO188 (fun _ hk => ⟨hk.1.1, ⟨hk.1.2, hk.2⟩⟩), rm HO191 (fun _ hk => hk.2), rm HO194 (fun _ hk => ⟨hk.1.1, ⟨hk.1.2, hk.2⟩⟩), rm HO200 (fun _ hk => ⟨hk.1.2, ⟨hk.2, hk.1.1⟩⟩), rm HO203 (fun _ hk => hk.2), rm HO206 (fun _ hk => ⟨hk.1.2, ⟨hk.2, hk.1.1⟩⟩), ⟨bk BK197⟩, ⟨bk BK209⟩, ⟨bs2 HB GE197 GE209⟩⟩
  ·
   replace c19 := Bool.eq_false_iff.mpr c19
   subst c19
   rw [if_neg (show ¬ (false = true) by decide)] at H
   have H' := Aside0.mk H
   clear H
   have hnb24 := NB209_197.out
   have hnc24 := NB197_209.out
   obtain ⟨hcz25_0, hcz25_1, hcz25_2, hcz25_3⟩ := cz4 BK209
   obtain ⟨hfz25_0, hfz25_1, hfz25_2, hfz25_3⟩ := fz4 BK209
   obtain ⟨hcz26_0, hcz26_1, hcz26_2, hcz26_3⟩ := cz4 BK197
   obtain ⟨hfz26_0, hfz26_1, hfz26_2, hfz26_3⟩ := fz4 BK197
   go_wp2_with (first | ((with_reducible refine gate_callee (f := 8) rfl ?_); refine gL (some 23) rfl rfl Try.func8 (by kernel_rfl) rfl #[.agg #[.slice Ao13 t198.length co13, .slice Ao16 t201.length co16, .slice Ao17 t204.length co17, .int .i64 t207], .agg #[.slice Ao7 t186.length co7, .slice Ao9 t189.length co9, .slice Ao10 t192.length co10, .int .i64 t195]] rfl ?_; (with_reducible refine (laws_eqStore.calls k _ _ t198 _ _ t201 _ _ t204 t207 _ _ t186 _ _ t189 _ _ t192 t195 false _ ?side1 ?side2 ?side3 ?side4 ?side5 ?side6 ?side7 ?side8 ?side9 ?side10 ?side11 ?side12 A18.out).mono ?_); (case side1 => exact rc HO200 BK209); (case side2 => exact (Kd.R_reads' HO200.out).2.1); (case side3 => exact rc HO203 BK209); (case side4 => exact (Kd.R_reads' HO203.out).2.1); (case side5 => exact rc HO206 BK209); (case side6 => exact (Kd.R_reads' HO206.out).2.1); (case side7 => exact rc HO188 BK209); (case side8 => exact (Kd.R_reads' HO188.out).2.1); (case side9 => exact rc HO191 BK209); (case side10 => exact (Kd.R_reads' HO191.out).2.1); (case side11 => exact rc HO194 BK209); (case side12 => exact (Kd.R_reads' HO194.out).2.1); rintro e w27 ⟨rfl, hb⟩; refine ⟨_, rfl, ?_⟩; replace HO188 := nf HO188 BK209 hb; replace HO191 := nf HO191 BK209 hb; replace HO194 := nf HO194 BK209 hb; replace HO200 := nf HO200 BK209 hb; replace HO203 := nf HO203 BK209 hb; replace HO206 := nf HO206 BK209 hb; replace BK197 := Aside0.mk (blk_below (bf BK197 NB197_209) hb); replace BK209 := Aside0.mk (blk_below (g := gb209) (o := .cells #[.slice Ao13 t198.length co13, .slice Ao16 t201.length co16, .slice Ao17 t204.length co17, .int .i64 t207] 27 (0, 0)) (by (with_reducible repeat (first | refine blk_drewN ?_ _ | refine blk_drew ?_ | refine blk_alloc ?_ _)); refine blk_put (cs := #[.slice Ao13 t198.length co13, .slice Ao16 t201.length co16, .slice Ao17 t204.length co17, .int .i64 0]) ?_ 3 _ rfl; (with_reducible repeat (first | refine blk_drewN ?_ _ | refine blk_drew ?_ | refine blk_alloc ?_ _)); refine blk_put (cs := #[.slice Ao13 t198.length co13, .slice Ao16 t201.length co16, .slice none 0 0, .int .i64 0]) ?_ 2 _ rfl; (with_reducible repeat (first | refine blk_drewN ?_ _ | refine blk_drew ?_ | refine blk_alloc ?_ _)); refine blk_put (cs := #[.slice Ao13 t198.length co13, .slice none 0 0, .slice none 0 0, .int .i64 0]) ?_ 1 _ rfl; (with_reducible repeat (first | refine blk_drewN ?_ _ | refine blk_drew ?_ | refine blk_alloc ?_ _)); refine blk_put (cs := #[.slice none 0 0, .slice none 0 0, .slice none 0 0, .int .i64 0]) ?_ 0 _ rfl; (with_reducible repeat (first | refine blk_drewN ?_ _ | refine blk_drew ?_ | refine blk_alloc ?_ _)); exact BK209.out) hb); replace HB := Aside0.mk (below_step (bs2 HB GE197 GE209) hb); (try clear hb); (try clear hb2); (try clear hk); (try clear hi)))
   go_meet
   case rel => exact ⟨_, (true), (by first | rfl | (simp; done) | (simp [*]; done)), H', ⟨by first | omega | exact Nat.le_refl _⟩, rm HO188 (fun _ hk => ⟨hk.1.1, ⟨hk.1.2, hk.2⟩⟩), rm HO191 (fun _ hk => hk.2), rm HO194 (fun _ hk => ⟨hk.1.1, ⟨hk.1.2, hk.2⟩⟩), rm HO200 (fun _ hk => ⟨hk.1.2, ⟨hk.2, hk.1.1⟩⟩), rm HO203 (fun _ hk => hk.2), rm HO206 (fun _ hk => ⟨hk.1.2, ⟨hk.2, hk.1.1⟩⟩), ⟨bk BK197⟩, ⟨bk BK209⟩, ⟨bs2 HB GE197 GE209⟩⟩
 case rest =>
  clear HC4
  try clear c1
  try clear c2
  try clear p2
  try clear c3
  try clear c6
  try clear c7
  try clear c8
  try clear c14
  try clear c19
  try clear c20
  try clear c24
  try clear hcz15_0 hcz15_1 hcz15_2 hcz15_3
  try clear hcz21_0 hcz21_1 hcz21_2 hcz21_3
  try clear hcz22_0 hcz22_1 hcz22_2 hcz22_3
  try clear hcz25_0 hcz25_1 hcz25_2 hcz25_3
  try clear hcz26_0 hcz26_1 hcz26_2 hcz26_3
  try clear hcz8_0 hcz8_1 hcz8_2 hcz8_3
  try clear hfz15_0 hfz15_1 hfz15_2 hfz15_3
  try clear hfz21_0 hfz21_1 hfz21_2 hfz21_3
  try clear hfz22_0 hfz22_1 hfz22_2 hfz22_3
  try clear hfz25_0 hfz25_1 hfz25_2 hfz25_3
  try clear hfz26_0 hfz26_1 hfz26_2 hfz26_3
  try clear hfz8_0 hfz8_1 hfz8_2 hfz8_3
  obtain ⟨kq, x29_3, rfl, HA, HJ3, HO_198000, HO_198001, HO_198002, HO_210000, HO_210001, HO_210002, BK197, BK209, HB⟩ := hcut
  cases kq with
  | zero => exact absurd HA.out (by simp [laws_FnExactNewStore.j0])
  | succ kj3 =>
   have H := HA.out
   clear HA
   simp only [laws_FnExactNewStore.j0] at H
   by_cases c28 : x29_3 = true
   ·
    subst c28
    rw [if_pos rfl] at H
    obtain rfl := Option.some.inj H
    go_wp2
    go_ret
    exact ⟨by first | rfl | (simp [errW_none, errW_some] <;> rfl) | (simp [*, errW_none, errW_some] <;> rfl), bs2 HB GE197 GE209⟩
   ·
    replace c28 := Bool.eq_false_iff.mpr c28
    subst c28
    rw [if_neg (show ¬ (false = true) by decide)] at H
    replace H := Option.bind_eq_some_iff.mp H
    obtain ⟨⟨t211, t212, t213, t214⟩, A290, H⟩ := H
    replace H : ((laws_heldStore.f kj3 t212 t213 t214 t207 1).bind fun t215 => (if t215 < 0 then (some false) else (if t215 = t211 then ((impl_NewStore.f a0).bind fun bt216 => ((laws_eqStore.f kj3 bt216.1 bt216.2.1 bt216.2.2.1 bt216.2.2.2.1 t186 t189 t192 t195).bind fun t228 => (if t228 = true then (laws_FnExactNewStore.j1 kj3 t211 (bt216.2.2.2.2 != t196) t212 t213 t214 t207) else (laws_FnExactNewStore.j1 kj3 t211 true t212 t213 t214 t207)))) else (some false)))) = some r := H
    have A29 := Aside0.mk A290
    clear A290
    replace H := Option.bind_eq_some_iff.mp H
    obtain ⟨t215, A300, H⟩ := H
    replace H : (if t215 < 0 then (some false) else (if t215 = t211 then ((impl_NewStore.f a0).bind fun bt216 => ((laws_eqStore.f kj3 bt216.1 bt216.2.1 bt216.2.2.1 bt216.2.2.2.1 t186 t189 t192 t195).bind fun t228 => (if t228 = true then (laws_FnExactNewStore.j1 kj3 t211 (bt216.2.2.2.2 != t196) t212 t213 t214 t207) else (laws_FnExactNewStore.j1 kj3 t211 true t212 t213 t214 t207)))) else (some false))) = some r := H
    have A30 := Aside0.mk A300
    clear A300
    by_cases c31 : t215 < 0
    ·
     rw [if_pos c31] at H
     have c31b0 : decide (t215 < 0) = true := decide_eq_true c31
     clear c31
     obtain rfl := Option.some.inj H
     have hnb32 := NB209_197.out
     have hnc32 := NB197_209.out
     obtain ⟨hcz33_0, hcz33_1, hcz33_2, hcz33_3⟩ := cz4 BK209
     obtain ⟨hfz33_0, hfz33_1, hfz33_2, hfz33_3⟩ := fz4 BK209
     go_wp2_with (first | ((with_reducible refine gate_callee (f := 9) rfl ?_); refine gL (some 32) rfl rfl Try.func9 (by kernel_rfl) rfl #[.agg #[.slice Ao13 t198.length co13, .slice Ao16 t201.length co16, .slice Ao17 t204.length co17, .int .i64 t207], .int .i64 1] rfl ?_; (with_reducible refine (laws_markStore.calls kj3 (fun k_ => some k_ = (.slice Ao13 t198.length co13 : Value).ownBlock) (.slice Ao13 t198.length co13) t198 (fun k_ => some k_ = (.slice Ao16 t201.length co16 : Value).ownBlock) (.slice Ao16 t201.length co16) t201 (fun k_ => some k_ = (.slice Ao17 t204.length co17 : Value).ownBlock) (.slice Ao17 t204.length co17) t204 t207 1 t211 t212 t213 t214 w _ ?side1 ?side2 ?side3 ?side4 ?side5 ?side6 A29.out).mono ?_); (case side1 => repeat (first | (with_reducible first | exact HB.out | apply below_alloc | apply pw_below_drewN | apply below_drew1 | refine below_set ?_ GE197.out | refine below_set ?_ GE209.out) | exact HB.out)); (case side2 => exact Kd.R_tight rfl HO_210000.out); (case side3 => exact fun k_ e_ => (HO_210000.out.1 k_ e_.symm).2.2); (case side4 => exact Kd.R_tight rfl HO_210001.out); (case side5 => exact Kd.R_tight rfl HO_210002.out); (case side6 => exact fun k_ e_ => (HO_210002.out.1 k_ e_.symm).2.2); rintro e w34 ⟨rfl, hy0, hy1, hy2, hb, hkp⟩; refine ⟨_, rfl, ?_⟩; replace HO_198000 := Aside0.mk (Kd.R_mono (ok' := fun k_ => some k_ ≠ (.slice Ao10 t192.length co10 : Value).ownBlock ∧ some k_ ≠ (.slice Ao13 t198.length co13 : Value).ownBlock ∧ some k_ ≠ (.slice Ao17 t204.length co17 : Value).ownBlock) (Kd.R_keptB ((Kd.R_apart' HO_198000.out (Kd.R_typed HO_210001.out) (by decide))) hkp (fun k_ hk_ hs_ => Or.elim hs_ (fun e_ => (hk_.1.2.1) e_) (fun e_ => Or.elim e_ (fun e_ => (hk_.2) e_) (fun e_ => (hk_.1.2.2) e_)))) (fun k_ hk_ => ⟨hk_.1.1.1, hk_.1.1.2.1, hk_.1.1.2.2⟩)); replace HO_198001 := Aside0.mk (Kd.R_mono (ok' := fun k_ => some k_ ≠ (.slice Ao16 t201.length co16 : Value).ownBlock) (Kd.R_keptB ((Kd.R_apart' (Kd.R_apart' HO_198001.out (Kd.R_typed HO_210000.out) (by decide)) (Kd.R_typed HO_210002.out) (by decide))) hkp (fun k_ hk_ hs_ => Or.elim hs_ (fun e_ => (hk_.1.2) e_) (fun e_ => Or.elim e_ (fun e_ => (hk_.1.1) e_) (fun e_ => (hk_.2) e_)))) (fun k_ hk_ => hk_.1.1.1)); replace HO_198002 := Aside0.mk (Kd.R_mono (ok' := fun k_ => some k_ ≠ (.slice Ao7 t186.length co7 : Value).ownBlock ∧ some k_ ≠ (.slice Ao13 t198.length co13 : Value).ownBlock ∧ some k_ ≠ (.slice Ao17 t204.length co17 : Value).ownBlock) (Kd.R_keptB ((Kd.R_apart' HO_198002.out (Kd.R_typed HO_210001.out) (by decide))) hkp (fun k_ hk_ hs_ => Or.elim hs_ (fun e_ => (hk_.1.2.1) e_) (fun e_ => Or.elim e_ (fun e_ => (hk_.2) e_) (fun e_ => (hk_.1.2.2) e_)))) (fun k_ hk_ => ⟨hk_.1.1.1, hk_.1.1.2.1, hk_.1.1.2.2⟩)); replace BK197 := Aside0.mk (blk_kept (bk BK197) hkp (fun hs_ => Or.elim hs_ (fun e_ => (fun e_ => (Kd.R_ne HO_210000.out BK197.out (by decide)) e_) e_) (fun e_ => Or.elim e_ (fun e_ => (fun e_ => (Kd.R_ne HO_210001.out BK197.out (by decide)) e_) e_) (fun e_ => (fun e_ => (Kd.R_ne HO_210002.out BK197.out (by decide)) e_) e_)))); replace BK209 := Aside0.mk (blk_kept (bk BK209) hkp (fun hs_ => Or.elim hs_ (fun e_ => (fun e_ => (Kd.R_ne HO_210000.out BK209.out (by decide)) e_) e_) (fun e_ => Or.elim e_ (fun e_ => (fun e_ => (Kd.R_ne HO_210001.out BK209.out (by decide)) e_) e_) (fun e_ => (fun e_ => (Kd.R_ne HO_210002.out BK209.out (by decide)) e_) e_)))); replace HO_210000 := Aside0.mk (Kd.R_reok rfl hy0 (fun k_ e_ => HO_210000.out.1 k_ e_)); replace HO_210001 := Aside0.mk (Kd.R_reok rfl hy1 (fun k_ e_ => HO_210001.out.1 k_ e_)); replace HO_210002 := Aside0.mk (Kd.R_reok rfl hy2 (fun k_ e_ => HO_210002.out.1 k_ e_)); replace HB := Aside0.mk (hb); (try clear hb); (try clear hkp); (try clear hy0); (try clear hy1); (try clear hy2); obtain ⟨hcz35_0, hcz35_1, hcz35_2, hcz35_3⟩ := cz4 BK209; obtain ⟨hfz35_0, hfz35_1, hfz35_2, hfz35_3⟩ := fz4 BK209) | ((with_reducible refine gate_callee (f := 10) rfl ?_); refine goesL_ (some 35) rfl rfl Try.func10 (by kernel_rfl) rfl #[.agg #[.slice Ao13 t212.length co13, .slice Ao16 t213.length co16, .slice Ao17 t214.length co17, .int .i64 t207], .int .i64 1] rfl (by (try simp only [List.map_toArray, List.map_cons, List.map_nil]); first | done | (rw [show t212.length = t198.length from (Kd.R_reads' HO_210000.out).1.symm, show t213.length = t201.length from (Kd.R_reads' HO_210001.out).1.symm, show t214.length = t204.length from (Kd.R_reads' HO_210002.out).1.symm] <;> rfl) | rfl | (simp only [List.length_drop, List.length_take]; rfl)) ?_; (with_reducible refine (laws_heldStore.calls kj3 _ _ t212 _ _ t213 _ _ t214 t207 1 t215 _ ?side1 ?side2 ?side3 ?side4 ?side5 ?side6 A30.out).mono ?_); (case side1 => exact rc0 HO_210000); (case side2 => rw [show t212.length = t198.length from (Kd.R_reads' HO_210000.out).1.symm]; exact (Kd.R_reads' HO_210000.out).2.1); (case side3 => exact rc0 HO_210001); (case side4 => rw [show t213.length = t201.length from (Kd.R_reads' HO_210001.out).1.symm]; exact (Kd.R_reads' HO_210001.out).2.1); (case side5 => exact rc0 HO_210002); (case side6 => rw [show t214.length = t204.length from (Kd.R_reads' HO_210002.out).1.symm]; exact (Kd.R_reads' HO_210002.out).2.1); rintro e w36 ⟨rfl, hb⟩; refine ⟨_, rfl, ?_⟩; replace HO_198000 := nr HO_198000 hb; replace HO_198001 := nr HO_198001 hb; replace HO_198002 := nr HO_198002 hb; replace HO_210000 := nr HO_210000 hb; replace HO_210001 := nr HO_210001 hb; replace HO_210002 := nr HO_210002 hb; replace BK197 := nb BK197 hb; replace BK209 := nb BK209 hb; replace HB := Aside0.mk (below_step (bs2 HB GE197 GE209) hb); (try clear hb); (try clear hb2); (try clear hk); (try clear hi)))
     go_ret
     exact ⟨by first | rfl | (simp [errW_none, errW_some] <;> rfl) | (simp [*, errW_none, errW_some] <;> rfl), bs2 HB GE197 GE209⟩
    ·
     rw [if_neg c31] at H
     have c31b0 : decide (t215 < 0) = false := decide_eq_false c31
     clear c31
     by_cases c37 : t215 = t211
     ·
      rw [if_pos c37] at H
      have c37b0 : (t215 == t211) = true := beq_iff_eq.mpr c37
      have c37b1 : (t215 != t211) = false := bne_eq_false_iff_eq.mpr c37
      clear c37
      replace H := Option.bind_eq_some_iff.mp H
      obtain ⟨⟨t216, t219, t222, t225, t226⟩, A380, H⟩ := H
      replace H : ((laws_eqStore.f kj3 t216 t219 t222 t225 t186 t189 t192 t195).bind fun t228 => (if t228 = true then (laws_FnExactNewStore.j1 kj3 t211 (t226 != t196) t212 t213 t214 t207) else (laws_FnExactNewStore.j1 kj3 t211 true t212 t213 t214 t207))) = some r := H
      have A38 := Aside0.mk A380
      clear A380
      have HC39 := Aside0.mk H
      clear H
      have hnb40 := NB209_197.out
      have hnc40 := NB197_209.out
      obtain ⟨hcz41_0, hcz41_1, hcz41_2, hcz41_3⟩ := cz4 BK209
      obtain ⟨hfz41_0, hfz41_1, hfz41_2, hfz41_3⟩ := fz4 BK209
      go_upto_region 14 with (first | ((with_reducible refine gate_callee (f := 9) rfl ?_); refine gL (some 32) rfl rfl Try.func9 (by kernel_rfl) rfl #[.agg #[.slice Ao13 t198.length co13, .slice Ao16 t201.length co16, .slice Ao17 t204.length co17, .int .i64 t207], .int .i64 1] rfl ?_; (with_reducible refine (laws_markStore.calls kj3 (fun k_ => some k_ = (.slice Ao13 t198.length co13 : Value).ownBlock) (.slice Ao13 t198.length co13) t198 (fun k_ => some k_ = (.slice Ao16 t201.length co16 : Value).ownBlock) (.slice Ao16 t201.length co16) t201 (fun k_ => some k_ = (.slice Ao17 t204.length co17 : Value).ownBlock) (.slice Ao17 t204.length co17) t204 t207 1 t211 t212 t213 t214 w _ ?side1 ?side2 ?side3 ?side4 ?side5 ?side6 A29.out).mono ?_); (case side1 => repeat (first | (with_reducible first | exact HB.out | apply below_alloc | apply pw_below_drewN | apply below_drew1 | refine below_set ?_ GE197.out | refine below_set ?_ GE209.out) | exact HB.out)); (case side2 => exact Kd.R_tight rfl HO_210000.out); (case side3 => exact fun k_ e_ => (HO_210000.out.1 k_ e_.symm).2.2); (case side4 => exact Kd.R_tight rfl HO_210001.out); (case side5 => exact Kd.R_tight rfl HO_210002.out); (case side6 => exact fun k_ e_ => (HO_210002.out.1 k_ e_.symm).2.2); rintro e w42 ⟨rfl, hy0, hy1, hy2, hb, hkp⟩; refine ⟨_, rfl, ?_⟩; replace HO_198000 := Aside0.mk (Kd.R_mono (ok' := fun k_ => some k_ ≠ (.slice Ao10 t192.length co10 : Value).ownBlock ∧ some k_ ≠ (.slice Ao13 t198.length co13 : Value).ownBlock ∧ some k_ ≠ (.slice Ao17 t204.length co17 : Value).ownBlock) (Kd.R_keptB ((Kd.R_apart' HO_198000.out (Kd.R_typed HO_210001.out) (by decide))) hkp (fun k_ hk_ hs_ => Or.elim hs_ (fun e_ => (hk_.1.2.1) e_) (fun e_ => Or.elim e_ (fun e_ => (hk_.2) e_) (fun e_ => (hk_.1.2.2) e_)))) (fun k_ hk_ => ⟨hk_.1.1.1, hk_.1.1.2.1, hk_.1.1.2.2⟩)); replace HO_198001 := Aside0.mk (Kd.R_mono (ok' := fun k_ => some k_ ≠ (.slice Ao16 t201.length co16 : Value).ownBlock) (Kd.R_keptB ((Kd.R_apart' (Kd.R_apart' HO_198001.out (Kd.R_typed HO_210000.out) (by decide)) (Kd.R_typed HO_210002.out) (by decide))) hkp (fun k_ hk_ hs_ => Or.elim hs_ (fun e_ => (hk_.1.2) e_) (fun e_ => Or.elim e_ (fun e_ => (hk_.1.1) e_) (fun e_ => (hk_.2) e_)))) (fun k_ hk_ => hk_.1.1.1)); replace HO_198002 := Aside0.mk (Kd.R_mono (ok' := fun k_ => some k_ ≠ (.slice Ao7 t186.length co7 : Value).ownBlock ∧ some k_ ≠ (.slice Ao13 t198.length co13 : Value).ownBlock ∧ some k_ ≠ (.slice Ao17 t204.length co17 : Value).ownBlock) (Kd.R_keptB ((Kd.R_apart' HO_198002.out (Kd.R_typed HO_210001.out) (by decide))) hkp (fun k_ hk_ hs_ => Or.elim hs_ (fun e_ => (hk_.1.2.1) e_) (fun e_ => Or.elim e_ (fun e_ => (hk_.2) e_) (fun e_ => (hk_.1.2.2) e_)))) (fun k_ hk_ => ⟨hk_.1.1.1, hk_.1.1.2.1, hk_.1.1.2.2⟩)); replace BK197 := Aside0.mk (blk_kept (bk BK197) hkp (fun hs_ => Or.elim hs_ (fun e_ => (fun e_ => (Kd.R_ne HO_210000.out BK197.out (by decide)) e_) e_) (fun e_ => Or.elim e_ (fun e_ => (fun e_ => (Kd.R_ne HO_210001.out BK197.out (by decide)) e_) e_) (fun e_ => (fun e_ => (Kd.R_ne HO_210002.out BK197.out (by decide)) e_) e_)))); replace BK209 := Aside0.mk (blk_kept (bk BK209) hkp (fun hs_ => Or.elim hs_ (fun e_ => (fun e_ => (Kd.R_ne HO_210000.out BK209.out (by decide)) e_) e_) (fun e_ => Or.elim e_ (fun e_ => (fun e_ => (Kd.R_ne HO_210001.out BK209.out (by decide)) e_) e_) (fun e_ => (fun e_ => (Kd.R_ne HO_210002.out BK209.out (by decide)) e_) e_)))); replace HO_210000 := Aside0.mk (Kd.R_reok rfl hy0 (fun k_ e_ => HO_210000.out.1 k_ e_)); replace HO_210001 := Aside0.mk (Kd.R_reok rfl hy1 (fun k_ e_ => HO_210001.out.1 k_ e_)); replace HO_210002 := Aside0.mk (Kd.R_reok rfl hy2 (fun k_ e_ => HO_210002.out.1 k_ e_)); replace HB := Aside0.mk (hb); (try clear hb); (try clear hkp); (try clear hy0); (try clear hy1); (try clear hy2); obtain ⟨hcz43_0, hcz43_1, hcz43_2, hcz43_3⟩ := cz4 BK209; obtain ⟨hfz43_0, hfz43_1, hfz43_2, hfz43_3⟩ := fz4 BK209) | ((with_reducible refine gate_callee (f := 10) rfl ?_); refine goesL_ (some 35) rfl rfl Try.func10 (by kernel_rfl) rfl #[.agg #[.slice Ao13 t212.length co13, .slice Ao16 t213.length co16, .slice Ao17 t214.length co17, .int .i64 t207], .int .i64 1] rfl (by (try simp only [List.map_toArray, List.map_cons, List.map_nil]); first | done | (rw [show t212.length = t198.length from (Kd.R_reads' HO_210000.out).1.symm, show t213.length = t201.length from (Kd.R_reads' HO_210001.out).1.symm, show t214.length = t204.length from (Kd.R_reads' HO_210002.out).1.symm] <;> rfl) | rfl | (simp only [List.length_drop, List.length_take]; rfl)) ?_; (with_reducible refine (laws_heldStore.calls kj3 _ _ t212 _ _ t213 _ _ t214 t207 1 t215 _ ?side1 ?side2 ?side3 ?side4 ?side5 ?side6 A30.out).mono ?_); (case side1 => exact rc0 HO_210000); (case side2 => rw [show t212.length = t198.length from (Kd.R_reads' HO_210000.out).1.symm]; exact (Kd.R_reads' HO_210000.out).2.1); (case side3 => exact rc0 HO_210001); (case side4 => rw [show t213.length = t201.length from (Kd.R_reads' HO_210001.out).1.symm]; exact (Kd.R_reads' HO_210001.out).2.1); (case side5 => exact rc0 HO_210002); (case side6 => rw [show t214.length = t204.length from (Kd.R_reads' HO_210002.out).1.symm]; exact (Kd.R_reads' HO_210002.out).2.1); rintro e w44 ⟨rfl, hb⟩; refine ⟨_, rfl, ?_⟩; replace HO_198000 := nr HO_198000 hb; replace HO_198001 := nr HO_198001 hb; replace HO_198002 := nr HO_198002 hb; replace HO_210000 := nr HO_210000 hb; replace HO_210001 := nr HO_210001 hb; replace HO_210002 := nr HO_210002 hb; replace BK197 := nb BK197 hb; replace BK209 := nb BK209 hb; replace HB := Aside0.mk (below_step (bs2 HB GE197 GE209) hb); (try clear hb); (try clear hb2); (try clear hk); (try clear hi)) | ((with_reducible refine gate_callee (f := 7) rfl ?_); refine gL (some 43) rfl rfl Try.func7 (by kernel_rfl) rfl #[.int .i64 a0] rfl ?_; (with_reducible refine (impl_NewStore.calls a0 t216 t219 t222 t225 t226 _ A38.out).mono ?_); rintro e w45 ⟨v217, v220, v223, rfl, ho0, ho1, ho2, hb⟩; refine ⟨_, rfl, ?_⟩; have HO218 := Aside0.mk (Kd.R_lower (Kd.R_new' (Kd.R_new' (Kd.R_new' (Kd.R_new' ho0 (Kd.R_lt (rr HO_198000.out))) (Kd.R_lt (rr HO_198002.out))) (Kd.R_lt (rr HO_210000.out))) (Kd.R_lt (rr HO_210002.out))) (below_size (bs2 HB GE197 GE209))); have HO221 := Aside0.mk (Kd.R_lower (Kd.R_new' (Kd.R_new' ho1 (Kd.R_lt (rr HO_198001.out))) (Kd.R_lt (rr HO_210001.out))) (below_size (bs2 HB GE197 GE209))); replace HO_198001 := Aside0.mk (Kd.R_elder' (rr HO_198001.out) (Kd.R_base ho1) hb); replace HO_210001 := Aside0.mk (Kd.R_elder' (rr HO_210001.out) (Kd.R_base ho1) hb); have HO224 := Aside0.mk (Kd.R_lower (Kd.R_new' (Kd.R_new' (Kd.R_new' (Kd.R_new' ho2 (Kd.R_lt (rr HO_198000.out))) (Kd.R_lt (rr HO_198002.out))) (Kd.R_lt (rr HO_210000.out))) (Kd.R_lt (rr HO_210002.out))) (below_size (bs2 HB GE197 GE209))); replace HO_198000 := Aside0.mk (Kd.R_mono (Kd.R_told (Kd.R_told (Kd.R_old (rr HO_198000.out) hb) (Kd.R_base ho0)) (Kd.R_base ho2)) (fun _ h_ => h_.1)); replace HO_198002 := Aside0.mk (Kd.R_mono (Kd.R_told (Kd.R_told (Kd.R_old (rr HO_198002.out) hb) (Kd.R_base ho0)) (Kd.R_base ho2)) (fun _ h_ => h_.1)); replace HO_210000 := Aside0.mk (Kd.R_mono (Kd.R_told (Kd.R_told (Kd.R_old (rr HO_210000.out) hb) (Kd.R_base ho0)) (Kd.R_base ho2)) (fun _ h_ => h_.1)); replace HO_210002 := Aside0.mk (Kd.R_mono (Kd.R_told (Kd.R_told (Kd.R_old (rr HO_210002.out) hb) (Kd.R_base ho0)) (Kd.R_base ho2)) (fun _ h_ => h_.1)); replace BK197 := nb BK197 hb; replace BK209 := nb BK209 hb; replace HB := Aside0.mk (below_step (bs2 HB GE197 GE209) hb); (try clear hb); (try clear hb2); (try clear hk); (try clear hi); (try clear ho0); (try clear ho1); (try clear ho2)) | ((with_reducible refine gate_dst (N := 9) rfl ?_); refine box_event ?hg (N := 9) ?hd (cs := #[.slice none 0 0, .slice none 0 0, .slice none 0 0, .int .i64 0]) (t := 27) ?hr ?_; (case hd => rfl); (case hg => rfl); (case hr => first | (go_simp; done) | (go_simp; rfl)); intro gb227 hg w46 hbox hb; replace HO_198000 := nr HO_198000 hb; replace HO_198001 := nr HO_198001 hb; replace HO_198002 := nr HO_198002 hb; replace HO_210000 := nr HO_210000 hb; replace HO_210001 := nr HO_210001 hb; replace HO_210002 := nr HO_210002 hb; replace HO218 := nr HO218 hb; replace HO221 := nr HO221 hb; replace HO224 := nr HO224 hb; have BK227 := Aside0.mk (hbox); have GW227 := Aside0.mk ((by rw [hg]; exact (below_size (bs2 HB GE197 GE209)) : w.heap.size ≤ gb227)); have GE227 := Aside0.mk ((by rw [hg]; exact (below_size (bs2 HB GE197 GE209)) : w.heap.size ≤ gb227)); replace HB := Aside0.mk (below_step (bs2 HB GE197 GE209) hb); have NB197_227 := Aside0.mk ((bn BK197 hg : gb197 ≠ gb227)); have NB227_197 := Aside0.mk ((bm BK197 hg : gb227 ≠ gb197)); replace BK197 := nb BK197 hb; have NB209_227 := Aside0.mk ((bn BK209 hg : gb209 ≠ gb227)); have NB227_209 := Aside0.mk ((bm BK209 hg : gb227 ≠ gb209)); replace BK209 := nb BK209 hb; clear hb hbox hg; obtain ⟨Ao47, co47, eo47⟩ := Kd.R_slice HO218.out; subst eo47; have hnb48 := NB227_197.out; have hnc48 := NB197_227.out; have hnb49 := NB227_209.out; have hnc49 := NB209_227.out; obtain ⟨hcz50_0, hcz50_1, hcz50_2, hcz50_3⟩ := cz4 BK227; obtain ⟨hfz50_0, hfz50_1, hfz50_2, hfz50_3⟩ := fz4 BK227; obtain ⟨Ao51, co51, eo51⟩ := Kd.R_slice HO221.out; subst eo51; obtain ⟨Ao52, co52, eo52⟩ := Kd.R_slice HO224.out; subst eo52))
      (try simp only [Act.put, List.setIfInBounds_toArray, List.set_cons_zero, List.set_cons_succ])
      go_cut [54] (fun v54 wc => ∃ (kq : Nat) (x54_38 : Bool), v54 = .bool x54_38 ∧ Aside0 (laws_FnExactNewStore.j1 kq t211 x54_38 t212 t213 t214 t207 = some r) ∧ Aside0 (kq ≤ kj3) ∧ Aside0 (Kd.R Kd.string 9 wc w.heap.size (fun k_ => some k_ ≠ ((.slice Ao10 t192.length co10) : Value).ownBlock ∧ some k_ ≠ ((.slice Ao13 t198.length co13) : Value).ownBlock ∧ some k_ ≠ ((.slice Ao17 t204.length co17) : Value).ownBlock ∧ some k_ ≠ ((.slice Ao47 t216.length co47) : Value).ownBlock ∧ some k_ ≠ ((.slice Ao52 t222.length co52) : Value).ownBlock) (.slice Ao7 t186.length co7) t186) ∧ Aside0 (Kd.R k90 90 wc w.heap.size (fun k_ => some k_ ≠ ((.slice Ao16 t201.length co16) : Value).ownBlock ∧ some k_ ≠ ((.slice Ao51 t219.length co51) : Value).ownBlock) (.slice Ao9 t189.length co9) t189) ∧ Aside0 (Kd.R Kd.string 9 wc w.heap.size (fun k_ => some k_ ≠ ((.slice Ao7 t186.length co7) : Value).ownBlock ∧ some k_ ≠ ((.slice Ao13 t198.length co13) : Value).ownBlock ∧ some k_ ≠ ((.slice Ao17 t204.length co17) : Value).ownBlock ∧ some k_ ≠ ((.slice Ao47 t216.length co47) : Value).ownBlock ∧ some k_ ≠ ((.slice Ao52 t222.length co52) : Value).ownBlock) (.slice Ao10 t192.length co10) t192) ∧ Aside0 (Kd.R Kd.string 9 wc w.heap.size (fun k_ => some k_ ≠ ((.slice Ao7 t186.length co7) : Value).ownBlock ∧ some k_ ≠ ((.slice Ao10 t192.length co10) : Value).ownBlock ∧ some k_ ≠ ((.slice Ao17 t204.length co17) : Value).ownBlock ∧ some k_ ≠ ((.slice Ao47 t216.length co47) : Value).ownBlock ∧ some k_ ≠ ((.slice Ao52 t222.length co52) : Value).ownBlock) (.slice Ao13 t198.length co13) t212) ∧ Aside0 (Kd.R k90 90 wc w.heap.size (fun k_ => some k_ ≠ ((.slice Ao9 t189.length co9) : Value).ownBlock ∧ some k_ ≠ ((.slice Ao51 t219.length co51) : Value).ownBlock) (.slice Ao16 t201.length co16) t213) ∧ Aside0 (Kd.R Kd.string 9 wc w.heap.size (fun k_ => some k_ ≠ ((.slice Ao7 t186.length co7) : Value).ownBlock ∧ some k_ ≠ ((.slice Ao10 t192.length co10) : Value).ownBlock ∧ some k_ ≠ ((.slice Ao13 t198.length co13) : Value).ownBlock ∧ some k_ ≠ ((.slice Ao47 t216.length co47) : Value).ownBlock ∧ some k_ ≠ ((.slice Ao52 t222.length co52) : Value).ownBlock) (.slice Ao17 t204.length co17) t214) ∧ Aside0 (Kd.R Kd.string 9 wc w.heap.size (fun k_ => some k_ ≠ ((.slice Ao7 t186.length co7) : Value).ownBlock ∧ some k_ ≠ ((.slice Ao10 t192.length co10) : Value).ownBlock ∧ some k_ ≠ ((.slice Ao13 t198.length co13) : Value).ownBlock ∧ some k_ ≠ ((.slice Ao17 t204.length co17) : Value).ownBlock ∧ some k_ ≠ ((.slice Ao52 t222.length co52) : Value).ownBlock) (.slice Ao47 t216.length co47) t216) ∧ Aside0 (Kd.R k90 90 wc w.heap.size (fun k_ => some k_ ≠ ((.slice Ao9 t189.length co9) : Value).ownBlock ∧ some k_ ≠ ((.slice Ao16 t201.length co16) : Value).ownBlock) (.slice Ao51 t219.length co51) t219) ∧ Aside0 (Kd.R Kd.string 9 wc w.heap.size (fun k_ => some k_ ≠ ((.slice Ao7 t186.length co7) : Value).ownBlock ∧ some k_ ≠ ((.slice Ao10 t192.length co10) : Value).ownBlock ∧ some k_ ≠ ((.slice Ao13 t198.length co13) : Value).ownBlock ∧ some k_ ≠ ((.slice Ao17 t204.length co17) : Value).ownBlock ∧ some k_ ≠ ((.slice Ao47 t216.length co47) : Value).ownBlock) (.slice Ao52 t222.length co52) t222) ∧ Aside0 (wc.heap[gb197]? = some (.cells #[(.slice Ao7 t186.length co7), (.slice Ao9 t189.length co9), (.slice Ao10 t192.length co10), .int .i64 t195] 27 (0, 0))) ∧ Aside0 (wc.heap[gb209]? = some (.cells #[(.slice Ao13 t198.length co13), (.slice Ao16 t201.length co16), (.slice Ao17 t204.length co17), .int .i64 t207] 27 (0, 0))) ∧ Aside0 (wc.heap[gb227]? = some (.cells #[(.slice Ao47 t216.length co47), (.slice Ao51 t219.length co51), (.slice Ao52 t222.length co52), .int .i64 t225] 27 (0, 0))) ∧ Aside0 (Below w.heap.size w wc))
      case first =>
       have H := HC39.out
       clear HC39
       replace H := Option.bind_eq_some_iff.mp H
       obtain ⟨t228, A530, H⟩ := H
       replace H : (if t228 = true then (laws_FnExactNewStore.j1 kj3 t211 (t226 != t196) t212 t213 t214 t207) else (laws_FnExactNewStore.j1 kj3 t211 true t212 t213 t214 t207)) = some r := H
       have A53 := Aside0.mk A530
       clear A530
       by_cases c54 : t228 = true
       ·
        subst c54
        rw [if_pos rfl] at H
        have H' := Aside0.mk H
        clear H
        have hnb55 := NB227_197.out
        have hnc55 := NB197_227.out
        have hnb56 := NB227_209.out
        have hnc56 := NB209_227.out
        obtain ⟨hcz57_0, hcz57_1, hcz57_2, hcz57_3⟩ := cz4 BK227
        obtain ⟨hfz57_0, hfz57_1, hfz57_2, hfz57_3⟩ := fz4 BK227
        have hnb58 := NB197_209.out
        have hnc58 := NB209_197.out
        obtain ⟨hcz59_0, hcz59_1, hcz59_2, hcz59_3⟩ := cz4 BK197
        obtain ⟨hfz59_0, hfz59_1, hfz59_2, hfz59_3⟩ := fz4 BK197
        go_wp2_with (first | ((with_reducible refine gate_callee (f := 8) rfl ?_); refine gL (some 48) rfl rfl Try.func8 (by kernel_rfl) rfl #[.agg #[.slice Ao47 t216.length co47, .slice Ao51 t219.length co51, .slice Ao52 t222.length co52, .int .i64 t225], .agg #[.slice Ao7 t186.length co7, .slice Ao9 t189.length co9, .slice Ao10 t192.length co10, .int .i64 t195]] rfl ?_; (with_reducible refine (laws_eqStore.calls kj3 _ _ t216 _ _ t219 _ _ t222 t225 _ _ t186 _ _ t189 _ _ t192 t195 true _ ?side1 ?side2 ?side3 ?side4 ?side5 ?side6 ?side7 ?side8 ?side9 ?side10 ?side11 ?side12 A53.out).mono ?_); (case side1 => exact rc HO218 BK227); (case side2 => exact (Kd.R_reads' HO218.out).2.1); (case side3 => exact rc HO221 BK227); (case side4 => exact (Kd.R_reads' HO221.out).2.1); (case side5 => exact rc HO224 BK227); (case side6 => exact (Kd.R_reads' HO224.out).2.1); (case side7 => exact rc HO_198000 BK227); (case side8 => exact (Kd.R_reads' HO_198000.out).2.1); (case side9 => exact rc HO_198001 BK227); (case side10 => exact (Kd.R_reads' HO_198001.out).2.1); (case side11 => exact rc HO_198002 BK227); (case side12 => exact (Kd.R_reads' HO_198002.out).2.1); rintro e w60 ⟨rfl, hb⟩; refine ⟨_, rfl, ?_⟩; replace HO_198000 := nf HO_198000 BK227 hb; replace HO_198001 := nf HO_198001 BK227 hb; replace HO_198002 := nf HO_198002 BK227 hb; replace HO_210000 := nf HO_210000 BK227 hb; replace HO_210001 := nf HO_210001 BK227 hb; replace HO_210002 := nf HO_210002 BK227 hb; replace HO218 := nf HO218 BK227 hb; replace HO221 := nf HO221 BK227 hb; replace HO224 := nf HO224 BK227 hb; replace BK197 := Aside0.mk (blk_below (bf BK197 NB197_227) hb); replace BK209 := Aside0.mk (blk_below (bf BK209 NB209_227) hb); replace BK227 := Aside0.mk (blk_below (g := gb227) (o := .cells #[.slice Ao47 t216.length co47, .slice Ao51 t219.length co51, .slice Ao52 t222.length co52, .int .i64 t225] 27 (0, 0)) (by (with_reducible repeat (first | refine blk_drewN ?_ _ | refine blk_drew ?_ | refine blk_alloc ?_ _)); refine blk_put (cs := #[.slice Ao47 t216.length co47, .slice Ao51 t219.length co51, .slice Ao52 t222.length co52, .int .i64 0]) ?_ 3 _ rfl; (with_reducible repeat (first | refine blk_drewN ?_ _ | refine blk_drew ?_ | refine blk_alloc ?_ _)); refine blk_put (cs := #[.slice Ao47 t216.length co47, .slice Ao51 t219.length co51, .slice none 0 0, .int .i64 0]) ?_ 2 _ rfl; (with_reducible repeat (first | refine blk_drewN ?_ _ | refine blk_drew ?_ | refine blk_alloc ?_ _)); refine blk_put (cs := #[.slice Ao47 t216.length co47, .slice none 0 0, .slice none 0 0, .int .i64 0]) ?_ 1 _ rfl; (with_reducible repeat (first | refine blk_drewN ?_ _ | refine blk_drew ?_ | refine blk_alloc ?_ _)); refine blk_put (cs := #[.slice none 0 0, .slice none 0 0, .slice none 0 0, .int .i64 0]) ?_ 0 _ rfl; (with_reducible repeat (first | refine blk_drewN ?_ _ | refine blk_drew ?_ | refine blk_alloc ?_ _)); exact BK227.out) hb); replace HB := Aside0.mk (below_step (bs3 HB GE197 GE209 GE227) hb); (try clear hb); (try clear hb2); (try clear hk); (try clear hi)))
        go_meet
        case rel => exact ⟨_, ((t226 != t196)), (by first | rfl | (simp; done) | (simp [*]; done)), H', ⟨by have := HJ3.out; first | omega | exact Nat.le_refl _⟩, rm HO_198000 (fun _ hk => ⟨hk.1.1.1, ⟨hk.1.1.2.1, ⟨hk.1.1.2.2, ⟨hk.1.2, hk.2⟩⟩⟩⟩), ⟨rr HO_198001.out⟩, rm HO_198002 (fun _ hk => ⟨hk.1.1.1, ⟨hk.1.1.2.1, ⟨hk.1.1.2.2, ⟨hk.1.2, hk.2⟩⟩⟩⟩), rm HO_210000 (fun _ hk => ⟨hk.1.1.1, ⟨hk.1.1.2.1, ⟨hk.1.1.2.2, ⟨hk.1.2, hk.2⟩⟩⟩⟩), ⟨rr HO_210001.out⟩, rm HO_210002 (fun _ hk => ⟨hk.1.1.1, ⟨hk.1.1.2.1, ⟨hk.1.1.2.2, ⟨hk.1.2, hk.2⟩⟩⟩⟩), rm HO218 (fun _ hk => ⟨hk.1.1.1.2, ⟨hk.1.1.2, ⟨hk.1.2, ⟨hk.2, hk.1.1.1.1⟩⟩⟩⟩), rm HO221 (fun _ hk => ⟨hk.1.2, hk.2⟩), rm HO224 (fun _ hk => ⟨hk.1.1.1.2, ⟨hk.1.1.2, ⟨hk.1.2, ⟨hk.2, hk.1.1.1.1⟩⟩⟩⟩), ⟨bk BK197⟩, ⟨bk BK209⟩, ⟨bk BK227⟩, ⟨bs3 HB GE197 GE209 GE227⟩⟩
       ·
        replace c54 := Bool.eq_false_iff.mpr c54
        subst c54
        rw [if_neg (show ¬ (false = true) by decide)] at H
        have H' := Aside0.mk H
        clear H
        have hnb61 := NB227_197.out
        have hnc61 := NB197_227.out
        have hnb62 := NB227_209.out
        have hnc62 := NB209_227.out
        obtain ⟨hcz63_0, hcz63_1, hcz63_2, hcz63_3⟩ := cz4 BK227
        obtain ⟨hfz63_0, hfz63_1, hfz63_2, hfz63_3⟩ := fz4 BK227
        have hnb64 := NB197_209.out
        have hnc64 := NB209_197.out
        obtain ⟨hcz65_0, hcz65_1, hcz65_2, hcz65_3⟩ := cz4 BK197
        obtain ⟨hfz65_0, hfz65_1, hfz65_2, hfz65_3⟩ := fz4 BK197
        go_wp2_with (first | ((with_reducible refine gate_callee (f := 8) rfl ?_); refine gL (some 48) rfl rfl Try.func8 (by kernel_rfl) rfl #[.agg #[.slice Ao47 t216.length co47, .slice Ao51 t219.length co51, .slice Ao52 t222.length co52, .int .i64 t225], .agg #[.slice Ao7 t186.length co7, .slice Ao9 t189.length co9, .slice Ao10 t192.length co10, .int .i64 t195]] rfl ?_; (with_reducible refine (laws_eqStore.calls kj3 _ _ t216 _ _ t219 _ _ t222 t225 _ _ t186 _ _ t189 _ _ t192 t195 false _ ?side1 ?side2 ?side3 ?side4 ?side5 ?side6 ?side7 ?side8 ?side9 ?side10 ?side11 ?side12 A53.out).mono ?_); (case side1 => exact rc HO218 BK227); (case side2 => exact (Kd.R_reads' HO218.out).2.1); (case side3 => exact rc HO221 BK227); (case side4 => exact (Kd.R_reads' HO221.out).2.1); (case side5 => exact rc HO224 BK227); (case side6 => exact (Kd.R_reads' HO224.out).2.1); (case side7 => exact rc HO_198000 BK227); (case side8 => exact (Kd.R_reads' HO_198000.out).2.1); (case side9 => exact rc HO_198001 BK227); (case side10 => exact (Kd.R_reads' HO_198001.out).2.1); (case side11 => exact rc HO_198002 BK227); (case side12 => exact (Kd.R_reads' HO_198002.out).2.1); rintro e w66 ⟨rfl, hb⟩; refine ⟨_, rfl, ?_⟩; replace HO_198000 := nf HO_198000 BK227 hb; replace HO_198001 := nf HO_198001 BK227 hb; replace HO_198002 := nf HO_198002 BK227 hb; replace HO_210000 := nf HO_210000 BK227 hb; replace HO_210001 := nf HO_210001 BK227 hb; replace HO_210002 := nf HO_210002 BK227 hb; replace HO218 := nf HO218 BK227 hb; replace HO221 := nf HO221 BK227 hb; replace HO224 := nf HO224 BK227 hb; replace BK197 := Aside0.mk (blk_below (bf BK197 NB197_227) hb); replace BK209 := Aside0.mk (blk_below (bf BK209 NB209_227) hb); replace BK227 := Aside0.mk (blk_below (g := gb227) (o := .cells #[.slice Ao47 t216.length co47, .slice Ao51 t219.length co51, .slice Ao52 t222.length co52, .int .i64 t225] 27 (0, 0)) (by (with_reducible repeat (first | refine blk_drewN ?_ _ | refine blk_drew ?_ | refine blk_alloc ?_ _)); refine blk_put (cs := #[.slice Ao47 t216.length co47, .slice Ao51 t219.length co51, .slice Ao52 t222.length co52, .int .i64 0]) ?_ 3 _ rfl; (with_reducible repeat (first | refine blk_drewN ?_ _ | refine blk_drew ?_ | refine blk_alloc ?_ _)); refine blk_put (cs := #[.slice Ao47 t216.length co47, .slice Ao51 t219.length co51, .slice none 0 0, .int .i64 0]) ?_ 2 _ rfl; (with_reducible repeat (first | refine blk_drewN ?_ _ | refine blk_drew ?_ | refine blk_alloc ?_ _)); refine blk_put (cs := #[.slice Ao47 t216.length co47, .slice none 0 0, .slice none 0 0, .int .i64 0]) ?_ 1 _ rfl; (with_reducible repeat (first | refine blk_drewN ?_ _ | refine blk_drew ?_ | refine blk_alloc ?_ _)); refine blk_put (cs := #[.slice none 0 0, .slice none 0 0, .slice none 0 0, .int .i64 0]) ?_ 0 _ rfl; (with_reducible repeat (first | refine blk_drewN ?_ _ | refine blk_drew ?_ | refine blk_alloc ?_ _)); exact BK227.out) hb); replace HB := Aside0.mk (below_step (bs3 HB GE197 GE209 GE227) hb); (try clear hb); (try clear hb2); (try clear hk); (try clear hi)))
        go_meet
        case rel => exact ⟨_, (true), (by first | rfl | (simp; done) | (simp [*]; done)), H', ⟨by have := HJ3.out; first | omega | exact Nat.le_refl _⟩, rm HO_198000 (fun _ hk => ⟨hk.1.1.1, ⟨hk.1.1.2.1, ⟨hk.1.1.2.2, ⟨hk.1.2, hk.2⟩⟩⟩⟩), ⟨rr HO_198001.out⟩, rm HO_198002 (fun _ hk => ⟨hk.1.1.1, ⟨hk.1.1.2.1, ⟨hk.1.1.2.2, ⟨hk.1.2, hk.2⟩⟩⟩⟩), rm HO_210000 (fun _ hk => ⟨hk.1.1.1, ⟨hk.1.1.2.1, ⟨hk.1.1.2.2, ⟨hk.1.2, hk.2⟩⟩⟩⟩), ⟨rr HO_210001.out⟩, rm HO_210002 (fun _ hk => ⟨hk.1.1.1, ⟨hk.1.1.2.1, ⟨hk.1.1.2.2, ⟨hk.1.2, hk.2⟩⟩⟩⟩), rm HO218 (fun _ hk => ⟨hk.1.1.1.2, ⟨hk.1.1.2, ⟨hk.1.2, ⟨hk.2, hk.1.1.1.1⟩⟩⟩⟩), rm HO221 (fun _ hk => ⟨hk.1.2, hk.2⟩), rm HO224 (fun _ hk => ⟨hk.1.1.1.2, ⟨hk.1.1.2, ⟨hk.1.2, ⟨hk.2, hk.1.1.1.1⟩⟩⟩⟩), ⟨bk BK197⟩, ⟨bk BK209⟩, ⟨bk BK227⟩, ⟨bs3 HB GE197 GE209 GE227⟩⟩
      case rest =>
       clear HC39
       try clear c1
       try clear c2
       try clear p2
       try clear c3
       try clear c4
       try clear c5
       try clear c6
       try clear c7
       try clear c8
       try clear c9
       try clear c10
       try clear c14
       try clear c19
       try clear c20
       try clear c24
       try clear c28
       try clear c31
       try clear c31b0
       try clear c32
       try clear c37
       try clear c37b0
       try clear c37b1
       try clear c40
       try clear c48
       try clear c49
       try clear c54
       try clear c55
       try clear c56
       try clear c58
       try clear c61
       try clear c62
       try clear c64
       try clear hcz15_0 hcz15_1 hcz15_2 hcz15_3
       try clear hcz21_0 hcz21_1 hcz21_2 hcz21_3
       try clear hcz22_0 hcz22_1 hcz22_2 hcz22_3
       try clear hcz25_0 hcz25_1 hcz25_2 hcz25_3
       try clear hcz26_0 hcz26_1 hcz26_2 hcz26_3
       try clear hcz33_0 hcz33_1 hcz33_2 hcz33_3
       try clear hcz35_0 hcz35_1 hcz35_2 hcz35_3
       try clear hcz41_0 hcz41_1 hcz41_2 hcz41_3
       try clear hcz43_0 hcz43_1 hcz43_2 hcz43_3
       try clear hcz50_0 hcz50_1 hcz50_2 hcz50_3
       try clear hcz57_0 hcz57_1 hcz57_2 hcz57_3
       try clear hcz59_0 hcz59_1 hcz59_2 hcz59_3
       try clear hcz63_0 hcz63_1 hcz63_2 hcz63_3
       try clear hcz65_0 hcz65_1 hcz65_2 hcz65_3
       try clear hcz8_0 hcz8_1 hcz8_2 hcz8_3
       try clear hfz15_0 hfz15_1 hfz15_2 hfz15_3
       try clear hfz21_0 hfz21_1 hfz21_2 hfz21_3
       try clear hfz22_0 hfz22_1 hfz22_2 hfz22_3
       try clear hfz25_0 hfz25_1 hfz25_2 hfz25_3
       try clear hfz26_0 hfz26_1 hfz26_2 hfz26_3
       try clear hfz33_0 hfz33_1 hfz33_2 hfz33_3
       try clear hfz35_0 hfz35_1 hfz35_2 hfz35_3
       try clear hfz41_0 hfz41_1 hfz41_2 hfz41_3
       try clear hfz43_0 hfz43_1 hfz43_2 hfz43_3
       try clear hfz50_0 hfz50_1 hfz50_2 hfz50_3
       try clear hfz57_0 hfz57_1 hfz57_2 hfz57_3
       try clear hfz59_0 hfz59_1 hfz59_2 hfz59_3
       try clear hfz63_0 hfz63_1 hfz63_2 hfz63_3
       try clear hfz65_0 hfz65_1 hfz65_2 hfz65_3
       try clear hfz8_0 hfz8_1 hfz8_2 hfz8_3
       try clear p2
       obtain ⟨kq, x54_38, rfl, HA, HJ38, HO_198000, HO_198001, HO_198002, HO_210000, HO_210001, HO_210002, HO_228000, HO_228001, HO_228002, BK197, BK209, BK227, HB⟩ := hcut
       have hl210000_38 := (Kd.R_reads' HO_210000.out).1
       rw [hl210000_38] at HO_210000
       (try simp only [hl210000_38])
       (try simp only [hl210000_38] at BK197)
       (try simp only [hl210000_38] at BK209)
       (try simp only [hl210000_38] at BK227)
       (try simp only [hl210000_38] at HO_198000)
       (try simp only [hl210000_38] at HO_198001)
       (try simp only [hl210000_38] at HO_198002)
       (try simp only [hl210000_38] at HO_210001)
       (try simp only [hl210000_38] at HO_210002)
       (try simp only [hl210000_38] at HO_228000)
       (try simp only [hl210000_38] at HO_228001)
       (try simp only [hl210000_38] at HO_228002)
       have hl210001_38 := (Kd.R_reads' HO_210001.out).1
       rw [hl210001_38] at HO_210001
       (try simp only [hl210001_38])
       (try simp only [hl210001_38] at BK197)
       (try simp only [hl210001_38] at BK209)
       (try simp only [hl210001_38] at BK227)
       (try simp only [hl210001_38] at HO_198000)
       (try simp only [hl210001_38] at HO_198001)
       (try simp only [hl210001_38] at HO_198002)
       (try simp only [hl210001_38] at HO_210000)
       (try simp only [hl210001_38] at HO_210002)
       (try simp only [hl210001_38] at HO_228000)
       (try simp only [hl210001_38] at HO_228001)
       (try simp only [hl210001_38] at HO_228002)
       have hl210002_38 := (Kd.R_reads' HO_210002.out).1
       rw [hl210002_38] at HO_210002
       (try simp only [hl210002_38])
       (try simp only [hl210002_38] at BK197)
       (try simp only [hl210002_38] at BK209)
       (try simp only [hl210002_38] at BK227)
       (try simp only [hl210002_38] at HO_198000)
       (try simp only [hl210002_38] at HO_198001)
       (try simp only [hl210002_38] at HO_198002)
       (try simp only [hl210002_38] at HO_210000)
       (try simp only [hl210002_38] at HO_210001)
       (try simp only [hl210002_38] at HO_228000)
       (try simp only [hl210002_38] at HO_228001)
       (try simp only [hl210002_38] at HO_228002)
       cases kq with
       | zero => exact absurd HA.out (by simp [laws_FnExactNewStore.j1])
       | succ kj38 =>
        have H := HA.out
        clear HA
        simp only [laws_FnExactNewStore.j1] at H
        by_cases c67 : x54_38 = true
        ·
         subst c67
         rw [if_pos rfl] at H
         obtain rfl := Option.some.inj H
         go_wp2
         go_ret
         exact ⟨by first | rfl | (simp [errW_none, errW_some] <;> rfl) | (simp [*, errW_none, errW_some] <;> rfl), bs3 HB GE197 GE209 GE227⟩
        ·
         replace c67 := Bool.eq_false_iff.mpr c67
         subst c67
         rw [if_neg (show ¬ (false = true) by decide)] at H
         replace H := Option.bind_eq_some_iff.mp H
         obtain ⟨t229, A680, H⟩ := H
         replace H : (if t229 < 0 then (some false) else (if t229 = t211 then (some true) else (some false))) = some r := H
         have A68 := Aside0.mk A680
         clear A680
         by_cases c69 : t229 < 0
         ·
          rw [if_pos c69] at H
          have c69b0 : decide (t229 < 0) = true := decide_eq_true c69
          clear c69
          obtain rfl := Option.some.inj H
          have hnb70 := NB209_197.out
          have hnc70 := NB197_209.out
          have hnb71 := NB209_227.out
          have hnc71 := NB227_209.out
          obtain ⟨hcz72_0, hcz72_1, hcz72_2, hcz72_3⟩ := cz4 BK209
          obtain ⟨hfz72_0, hfz72_1, hfz72_2, hfz72_3⟩ := fz4 BK209
          go_wp2_with (first | ((with_reducible refine gate_callee (f := 10) rfl ?_); refine gL (some 57) rfl rfl Try.func10 (by kernel_rfl) rfl #[.agg #[.slice Ao13 t212.length co13, .slice Ao16 t213.length co16, .slice Ao17 t214.length co17, .int .i64 t207], .int .i64 1] rfl ?_; (with_reducible refine (laws_heldStore.calls kj38 _ _ t212 _ _ t213 _ _ t214 t207 1 t229 _ ?side1 ?side2 ?side3 ?side4 ?side5 ?side6 A68.out).mono ?_); (case side1 => exact rc0 HO_210000); (case side2 => exact (Kd.R_reads' HO_210000.out).2.1); (case side3 => exact rc0 HO_210001); (case side4 => exact (Kd.R_reads' HO_210001.out).2.1); (case side5 => exact rc0 HO_210002); (case side6 => exact (Kd.R_reads' HO_210002.out).2.1); rintro e w73 ⟨rfl, hb⟩; refine ⟨_, rfl, ?_⟩; replace HO_198000 := nr HO_198000 hb; replace HO_198001 := nr HO_198001 hb; replace HO_198002 := nr HO_198002 hb; replace HO_210000 := nr HO_210000 hb; replace HO_210001 := nr HO_210001 hb; replace HO_210002 := nr HO_210002 hb; replace HO_228000 := nr HO_228000 hb; replace HO_228001 := nr HO_228001 hb; replace HO_228002 := nr HO_228002 hb; replace BK197 := nb BK197 hb; replace BK209 := nb BK209 hb; replace BK227 := nb BK227 hb; replace HB := Aside0.mk (below_step (bs3 HB GE197 GE209 GE227) hb); (try clear hb); (try clear hb2); (try clear hk); (try clear hi)))
          go_ret
          exact ⟨by first | rfl | (simp [errW_none, errW_some] <;> rfl) | (simp [*, errW_none, errW_some] <;> rfl), bs3 HB GE197 GE209 GE227⟩
         ·
          rw [if_neg c69] at H
          have c69b0 : decide (t229 < 0) = false := decide_eq_false c69
          clear c69
          by_cases c74 : t229 = t211
          ·
           rw [if_pos c74] at H
           have c74b0 : (t229 == t211) = true := beq_iff_eq.mpr c74
           have c74b1 : (t229 != t211) = false := bne_eq_false_iff_eq.mpr c74
           clear c74
           obtain rfl := Option.some.inj H
           have hnb75 := NB209_197.out
           have hnc75 := NB197_209.out
           have hnb76 := NB209_227.out
           have hnc76 := NB227_209.out
           obtain ⟨hcz77_0, hcz77_1, hcz77_2, hcz77_3⟩ := cz4 BK209
           obtain ⟨hfz77_0, hfz77_1, hfz77_2, hfz77_3⟩ := fz4 BK209
           go_wp2_with (first | ((with_reducible refine gate_callee (f := 10) rfl ?_); refine gL (some 57) rfl rfl Try.func10 (by kernel_rfl) rfl #[.agg #[.slice Ao13 t212.length co13, .slice Ao16 t213.length co16, .slice Ao17 t214.length co17, .int .i64 t207], .int .i64 1] rfl ?_; (with_reducible refine (laws_heldStore.calls kj38 _ _ t212 _ _ t213 _ _ t214 t207 1 t229 _ ?side1 ?side2 ?side3 ?side4 ?side5 ?side6 A68.out).mono ?_); (case side1 => exact rc0 HO_210000); (case side2 => exact (Kd.R_reads' HO_210000.out).2.1); (case side3 => exact rc0 HO_210001); (case side4 => exact (Kd.R_reads' HO_210001.out).2.1); (case side5 => exact rc0 HO_210002); (case side6 => exact (Kd.R_reads' HO_210002.out).2.1); rintro e w78 ⟨rfl, hb⟩; refine ⟨_, rfl, ?_⟩; replace HO_198000 := nr HO_198000 hb; replace HO_198001 := nr HO_198001 hb; replace HO_198002 := nr HO_198002 hb; replace HO_210000 := nr HO_210000 hb; replace HO_210001 := nr HO_210001 hb; replace HO_210002 := nr HO_210002 hb; replace HO_228000 := nr HO_228000 hb; replace HO_228001 := nr HO_228001 hb; replace HO_228002 := nr HO_228002 hb; replace BK197 := nb BK197 hb; replace BK209 := nb BK209 hb; replace BK227 := nb BK227 hb; replace HB := Aside0.mk (below_step (bs3 HB GE197 GE209 GE227) hb); (try clear hb); (try clear hb2); (try clear hk); (try clear hi)))
           go_ret
           exact ⟨by first | rfl | (simp [errW_none, errW_some] <;> rfl) | (simp [*, errW_none, errW_some] <;> rfl), bs3 HB GE197 GE209 GE227⟩
          ·
           rw [if_neg c74] at H
           have c74b0 : (t229 == t211) = false := beq_eq_false_iff_ne.mpr c74
           have c74b1 : (t229 != t211) = true := bne_iff_ne.mpr c74
           obtain rfl := Option.some.inj H
           have hnb79 := NB209_197.out
           have hnc79 := NB197_209.out
           have hnb80 := NB209_227.out
           have hnc80 := NB227_209.out
           obtain ⟨hcz81_0, hcz81_1, hcz81_2, hcz81_3⟩ := cz4 BK209
           obtain ⟨hfz81_0, hfz81_1, hfz81_2, hfz81_3⟩ := fz4 BK209
           go_wp2_with (first | ((with_reducible refine gate_callee (f := 10) rfl ?_); refine gL (some 57) rfl rfl Try.func10 (by kernel_rfl) rfl #[.agg #[.slice Ao13 t212.length co13, .slice Ao16 t213.length co16, .slice Ao17 t214.length co17, .int .i64 t207], .int .i64 1] rfl ?_; (with_reducible refine (laws_heldStore.calls kj38 _ _ t212 _ _ t213 _ _ t214 t207 1 t229 _ ?side1 ?side2 ?side3 ?side4 ?side5 ?side6 A68.out).mono ?_); (case side1 => exact rc0 HO_210000); (case side2 => exact (Kd.R_reads' HO_210000.out).2.1); (case side3 => exact rc0 HO_210001); (case side4 => exact (Kd.R_reads' HO_210001.out).2.1); (case side5 => exact rc0 HO_210002); (case side6 => exact (Kd.R_reads' HO_210002.out).2.1); rintro e w82 ⟨rfl, hb⟩; refine ⟨_, rfl, ?_⟩; replace HO_198000 := nr HO_198000 hb; replace HO_198001 := nr HO_198001 hb; replace HO_198002 := nr HO_198002 hb; replace HO_210000 := nr HO_210000 hb; replace HO_210001 := nr HO_210001 hb; replace HO_210002 := nr HO_210002 hb; replace HO_228000 := nr HO_228000 hb; replace HO_228001 := nr HO_228001 hb; replace HO_228002 := nr HO_228002 hb; replace BK197 := nb BK197 hb; replace BK209 := nb BK209 hb; replace BK227 := nb BK227 hb; replace HB := Aside0.mk (below_step (bs3 HB GE197 GE209 GE227) hb); (try clear hb); (try clear hb2); (try clear hk); (try clear hi)))
           go_ret
           exact ⟨by first | rfl | (simp [errW_none, errW_some] <;> rfl) | (simp [*, errW_none, errW_some] <;> rfl), bs3 HB GE197 GE209 GE227⟩
     ·
      rw [if_neg c37] at H
      have c37b0 : (t215 == t211) = false := beq_eq_false_iff_ne.mpr c37
      have c37b1 : (t215 != t211) = true := bne_iff_ne.mpr c37
      obtain rfl := Option.some.inj H
      have hnb83 := NB209_197.out
      have hnc83 := NB197_209.out
      obtain ⟨hcz84_0, hcz84_1, hcz84_2, hcz84_3⟩ := cz4 BK209
      obtain ⟨hfz84_0, hfz84_1, hfz84_2, hfz84_3⟩ := fz4 BK209
      go_wp2_with (first | ((with_reducible refine gate_callee (f := 9) rfl ?_); refine gL (some 32) rfl rfl Try.func9 (by kernel_rfl) rfl #[.agg #[.slice Ao13 t198.length co13, .slice Ao16 t201.length co16, .slice Ao17 t204.length co17, .int .i64 t207], .int .i64 1] rfl ?_; (with_reducible refine (laws_markStore.calls kj3 (fun k_ => some k_ = (.slice Ao13 t198.length co13 : Value).ownBlock) (.slice Ao13 t198.length co13) t198 (fun k_ => some k_ = (.slice Ao16 t201.length co16 : Value).ownBlock) (.slice Ao16 t201.length co16) t201 (fun k_ => some k_ = (.slice Ao17 t204.length co17 : Value).ownBlock) (.slice Ao17 t204.length co17) t204 t207 1 t211 t212 t213 t214 w _ ?side1 ?side2 ?side3 ?side4 ?side5 ?side6 A29.out).mono ?_); (case side1 => repeat (first | (with_reducible first | exact HB.out | apply below_alloc | apply pw_below_drewN | apply below_drew1 | refine below_set ?_ GE197.out | refine below_set ?_ GE209.out) | exact HB.out)); (case side2 => exact Kd.R_tight rfl HO_210000.out); (case side3 => exact fun k_ e_ => (HO_210000.out.1 k_ e_.symm).2.2); (case side4 => exact Kd.R_tight rfl HO_210001.out); (case side5 => exact Kd.R_tight rfl HO_210002.out); (case side6 => exact fun k_ e_ => (HO_210002.out.1 k_ e_.symm).2.2); rintro e w85 ⟨rfl, hy0, hy1, hy2, hb, hkp⟩; refine ⟨_, rfl, ?_⟩; replace HO_198000 := Aside0.mk (Kd.R_mono (ok' := fun k_ => some k_ ≠ (.slice Ao10 t192.length co10 : Value).ownBlock ∧ some k_ ≠ (.slice Ao13 t198.length co13 : Value).ownBlock ∧ some k_ ≠ (.slice Ao17 t204.length co17 : Value).ownBlock) (Kd.R_keptB ((Kd.R_apart' HO_198000.out (Kd.R_typed HO_210001.out) (by decide))) hkp (fun k_ hk_ hs_ => Or.elim hs_ (fun e_ => (hk_.1.2.1) e_) (fun e_ => Or.elim e_ (fun e_ => (hk_.2) e_) (fun e_ => (hk_.1.2.2) e_)))) (fun k_ hk_ => ⟨hk_.1.1.1, hk_.1.1.2.1, hk_.1.1.2.2⟩)); replace HO_198001 := Aside0.mk (Kd.R_mono (ok' := fun k_ => some k_ ≠ (.slice Ao16 t201.length co16 : Value).ownBlock) (Kd.R_keptB ((Kd.R_apart' (Kd.R_apart' HO_198001.out (Kd.R_typed HO_210000.out) (by decide)) (Kd.R_typed HO_210002.out) (by decide))) hkp (fun k_ hk_ hs_ => Or.elim hs_ (fun e_ => (hk_.1.2) e_) (fun e_ => Or.elim e_ (fun e_ => (hk_.1.1) e_) (fun e_ => (hk_.2) e_)))) (fun k_ hk_ => hk_.1.1.1)); replace HO_198002 := Aside0.mk (Kd.R_mono (ok' := fun k_ => some k_ ≠ (.slice Ao7 t186.length co7 : Value).ownBlock ∧ some k_ ≠ (.slice Ao13 t198.length co13 : Value).ownBlock ∧ some k_ ≠ (.slice Ao17 t204.length co17 : Value).ownBlock) (Kd.R_keptB ((Kd.R_apart' HO_198002.out (Kd.R_typed HO_210001.out) (by decide))) hkp (fun k_ hk_ hs_ => Or.elim hs_ (fun e_ => (hk_.1.2.1) e_) (fun e_ => Or.elim e_ (fun e_ => (hk_.2) e_) (fun e_ => (hk_.1.2.2) e_)))) (fun k_ hk_ => ⟨hk_.1.1.1, hk_.1.1.2.1, hk_.1.1.2.2⟩)); replace BK197 := Aside0.mk (blk_kept (bk BK197) hkp (fun hs_ => Or.elim hs_ (fun e_ => (fun e_ => (Kd.R_ne HO_210000.out BK197.out (by decide)) e_) e_) (fun e_ => Or.elim e_ (fun e_ => (fun e_ => (Kd.R_ne HO_210001.out BK197.out (by decide)) e_) e_) (fun e_ => (fun e_ => (Kd.R_ne HO_210002.out BK197.out (by decide)) e_) e_)))); replace BK209 := Aside0.mk (blk_kept (bk BK209) hkp (fun hs_ => Or.elim hs_ (fun e_ => (fun e_ => (Kd.R_ne HO_210000.out BK209.out (by decide)) e_) e_) (fun e_ => Or.elim e_ (fun e_ => (fun e_ => (Kd.R_ne HO_210001.out BK209.out (by decide)) e_) e_) (fun e_ => (fun e_ => (Kd.R_ne HO_210002.out BK209.out (by decide)) e_) e_)))); replace HO_210000 := Aside0.mk (Kd.R_reok rfl hy0 (fun k_ e_ => HO_210000.out.1 k_ e_)); replace HO_210001 := Aside0.mk (Kd.R_reok rfl hy1 (fun k_ e_ => HO_210001.out.1 k_ e_)); replace HO_210002 := Aside0.mk (Kd.R_reok rfl hy2 (fun k_ e_ => HO_210002.out.1 k_ e_)); replace HB := Aside0.mk (hb); (try clear hb); (try clear hkp); (try clear hy0); (try clear hy1); (try clear hy2); obtain ⟨hcz86_0, hcz86_1, hcz86_2, hcz86_3⟩ := cz4 BK209; obtain ⟨hfz86_0, hfz86_1, hfz86_2, hfz86_3⟩ := fz4 BK209) | ((with_reducible refine gate_callee (f := 10) rfl ?_); refine goesL_ (some 35) rfl rfl Try.func10 (by kernel_rfl) rfl #[.agg #[.slice Ao13 t212.length co13, .slice Ao16 t213.length co16, .slice Ao17 t214.length co17, .int .i64 t207], .int .i64 1] rfl (by (try simp only [List.map_toArray, List.map_cons, List.map_nil]); first | done | (rw [show t212.length = t198.length from (Kd.R_reads' HO_210000.out).1.symm, show t213.length = t201.length from (Kd.R_reads' HO_210001.out).1.symm, show t214.length = t204.length from (Kd.R_reads' HO_210002.out).1.symm] <;> rfl) | rfl | (simp only [List.length_drop, List.length_take]; rfl)) ?_; (with_reducible refine (laws_heldStore.calls kj3 _ _ t212 _ _ t213 _ _ t214 t207 1 t215 _ ?side1 ?side2 ?side3 ?side4 ?side5 ?side6 A30.out).mono ?_); (case side1 => exact rc0 HO_210000); (case side2 => rw [show t212.length = t198.length from (Kd.R_reads' HO_210000.out).1.symm]; exact (Kd.R_reads' HO_210000.out).2.1); (case side3 => exact rc0 HO_210001); (case side4 => rw [show t213.length = t201.length from (Kd.R_reads' HO_210001.out).1.symm]; exact (Kd.R_reads' HO_210001.out).2.1); (case side5 => exact rc0 HO_210002); (case side6 => rw [show t214.length = t204.length from (Kd.R_reads' HO_210002.out).1.symm]; exact (Kd.R_reads' HO_210002.out).2.1); rintro e w87 ⟨rfl, hb⟩; refine ⟨_, rfl, ?_⟩; replace HO_198000 := nr HO_198000 hb; replace HO_198001 := nr HO_198001 hb; replace HO_198002 := nr HO_198002 hb; replace HO_210000 := nr HO_210000 hb; replace HO_210001 := nr HO_210001 hb; replace HO_210002 := nr HO_210002 hb; replace BK197 := nb BK197 hb; replace BK209 := nb BK209 hb; replace HB := Aside0.mk (below_step (bs2 HB GE197 GE209) hb); (try clear hb); (try clear hb2); (try clear hk); (try clear hi)))
      go_ret
      exact ⟨by first | rfl | (simp [errW_none, errW_some] <;> rfl) | (simp [*, errW_none, errW_some] <;> rfl), bs2 HB GE197 GE209⟩

/-- THE ONE PURE STATEMENT of laws_FnExactNewStore. -/
def laws_FnExactNewStore.Pure : Prop := ∀ (a0 : Int), (Lit.int .i64 a0).wf = true → ∃ k, laws_FnExactNewStore.f k a0 = some true

end Go.Proofs.Ytdclpgcmeabmbaa.G
