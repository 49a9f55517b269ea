-- Printed by a program of this session (drive.py, by way of the kit's print). Not trusted: Lean checks it.
import Derived.Test.YthlifcbkpafofaaDoorG0
import Derived.Test.YthlifcbkpafofaaDoorG4
import Derived.Test.YthlifcbkpafofaaDoorG5
import Derived.Test.YthlifcbkpafofaaDoorG6
namespace Go.Proofs.YthlifcbkpafofaaDoor.G
open Go.RowKit Go.Proofs.YthlifcbkpafofaaDoorW.PrintWords Go.Proofs.YthlifcbkpafofaaDoorW.PrintLast Go.Proofs.YthlifcbkpafofaaDoorW.PrintMore
attribute [local go_sem] max2_int min2_int max_two min_two max_three min_three max_four min_four   -- for this text's walks alone
set_option linter.unusedVariables false
set_option linter.unusedSimpArgs false

/-! ### laws_FnExactGoodRing: function 4 -/
def laws_FnExactGoodRing.f (k : Nat) (l0_0 : List (S23)) (a0_1 : Int) (a0_2 : Int) (a0_3 : Int) : Option (Bool) := (laws_szRing.f k l0_0 a0_1 a0_2 a0_3 1048576).bind fun t233 => (if t233 < 0 then (some true) else ((laws_toRing.f k l0_0 a0_1 a0_2 a0_3).bind fun bt234 => ((spec_GoodRing.f k bt234.1 bt234.2.1 bt234.2.2.1 bt234.2.2.2).bind fun t240 => ((laws_toRing.f k l0_0 a0_1 a0_2 a0_3).bind fun bt241 => ((impl_GoodRing.f k bt241.1 bt241.2.1 bt241.2.2.1 bt241.2.2.2).bind fun t248 => (if (t248 != t240) = true then (some false) else ((laws_toRing.f k l0_0 a0_1 a0_2 a0_3).bind fun bt249 => ((laws_eqRing.f k bt241.1 bt241.2.1 bt241.2.2.1 bt241.2.2.2 bt249.1 bt249.2.1 bt249.2.2.1 bt249.2.2.2).bind fun t255 => (if t255 = true then (some true) else (some false))))))))))
theorem laws_FnExactGoodRing.mono : ∀ a0 a1 a2 a3 k, LeO (laws_FnExactGoodRing.f k a0 a1 a2 a3) (laws_FnExactGoodRing.f (k + 1) a0 a1 a2 a3) := by
 intro a0 a1 a2 a3 k
 unfold laws_FnExactGoodRing.f
 repeat' first
   | (with_reducible exact impl_GoodRing.mono _ _ _ _ _)
   | (with_reducible exact laws_eqRing.mono _ _ _ _ _ _ _ _ _)
   | (with_reducible exact laws_szRing.mono _ _ _ _ _ _)
   | (with_reducible exact laws_toRing.mono _ _ _ _ _)
   | (with_reducible exact spec_GoodRing.mono _ _ _ _ _)
   | (with_reducible exact LeO.refl _)
   | (with_reducible exact LeO.none _)
   | (with_reducible refine LeO.ite ?_ ?_)
   | (with_reducible refine LeO.bind ?_ (fun _ => ?_))
   | exact impl_GoodRing.mono _ _ _ _ _
   | exact laws_eqRing.mono _ _ _ _ _ _ _ _ _
   | exact laws_szRing.mono _ _ _ _ _ _
   | exact laws_toRing.mono _ _ _ _ _
   | exact spec_GoodRing.mono _ _ _ _ _
   | exact LeO.none _
   | refine LeO.ite ?_ ?_
   | refine LeO.bind ?_ (fun _ => ?_)
set_option maxHeartbeats 8000000 in
set_option maxRecDepth 100000 in
theorem laws_FnExactGoodRing.calls (k : Nat) (A0_0 : Option Addr) (c0_0 : Nat) (l0_0 : List (S23)) (a0_1 : Int) (a0_2 : Int) (a0_3 : Int) (r : Bool) (w : World) (hTab_ : Aside0 (Ito.TabW w)) (hr0_0 : Kd.C k23 w A0_0 l0_0.length l0_0) (hc0_0 : l0_0.length ≤ c0_0) (h : laws_FnExactGoodRing.f k l0_0 a0_1 a0_2 a0_3 = some r) :
  Calls Tryd.prog 4 #[.agg #[.slice A0_0 l0_0.length c0_0, .int .i64 a0_1, .int .i64 a0_2, .int .i64 a0_3]] w fun e w' => e = .returned (.bool r) ∧ Below w.heap.size w w' := by
 have hu31 := Tryd.underlying31
 have hu36 := Tryd.underlying36
 have HR0_0 := Aside0.mk hr0_0
 have HC0_0 := Aside0.mk hc0_0
 clear hr0_0 hc0_0
 have HB := Aside0.mk (Below.refl w.heap.size w)
 have H : ((laws_szRing.f k l0_0 a0_1 a0_2 a0_3 1048576).bind fun t233 => (if t233 < 0 then (some true) else ((laws_toRing.f k l0_0 a0_1 a0_2 a0_3).bind fun bt234 => ((spec_GoodRing.f k bt234.1 bt234.2.1 bt234.2.2.1 bt234.2.2.2).bind fun t240 => ((laws_toRing.f k l0_0 a0_1 a0_2 a0_3).bind fun bt241 => ((impl_GoodRing.f k bt241.1 bt241.2.1 bt241.2.2.1 bt241.2.2.2).bind fun t248 => (if (t248 != t240) = true then (some false) else ((laws_toRing.f k l0_0 a0_1 a0_2 a0_3).bind fun bt249 => ((laws_eqRing.f k bt241.1 bt241.2.1 bt241.2.2.1 bt241.2.2.2 bt249.1 bt249.2.1 bt249.2.2.1 bt249.2.2.2).bind fun t255 => (if t255 = true then (some true) else (some false))))))))))) = some r := h
 clear h
 replace H := Option.bind_eq_some_iff.mp H
 obtain ⟨t233, A20, H⟩ := H
 replace H : (if t233 < 0 then (some true) else ((laws_toRing.f k l0_0 a0_1 a0_2 a0_3).bind fun bt234 => ((spec_GoodRing.f k bt234.1 bt234.2.1 bt234.2.2.1 bt234.2.2.2).bind fun t240 => ((laws_toRing.f k l0_0 a0_1 a0_2 a0_3).bind fun bt241 => ((impl_GoodRing.f k bt241.1 bt241.2.1 bt241.2.2.1 bt241.2.2.2).bind fun t248 => (if (t248 != t240) = true then (some false) else ((laws_toRing.f k l0_0 a0_1 a0_2 a0_3).bind fun bt249 => ((laws_eqRing.f k bt241.1 bt241.2.1 bt241.2.2.1 bt241.2.2.2 bt249.1 bt249.2.1 bt249.2.2.1 bt249.2.2.2).bind fun t255 => (if t255 = true then (some true) else (some false)))))))))) = some r := H
 have A2 := Aside0.mk A20
 clear A20
 by_cases c3 : t233 < 0
 ·
  rw [if_pos c3] at H
  have c3b0 : decide (t233 < 0) = true := decide_eq_true c3
  clear c3
  obtain rfl := Option.some.inj H
  go_enter Tryd.func4, Tryd.ntmps4
  go_wp2_with (first | ((with_reducible refine gate_dst (N := 1) rfl ?_); refine box_event ?hg (N := 1) ?hd (cs := #[.slice A0_0 l0_0.length c0_0, .int .i64 a0_1, .int .i64 a0_2, .int .i64 a0_3]) (t := 31) ?hr ?_; (case hd => rfl); (case hg => rfl); (case hr => first | (go_simp; done) | (go_simp; rfl)); intro gb232 hg w4 hbox hb; have BK232 := Aside0.mk (hbox); have GW232 := Aside0.mk ((by rw [hg]; exact (below_size (bs HB)) : w.heap.size ≤ gb232)); have GE232 := Aside0.mk ((by rw [hg]; exact (below_size (bs HB)) : w.heap.size ≤ gb232)); replace HB := Aside0.mk (below_step (bs HB) hb); clear hb hbox hg; obtain ⟨hcz5_0, hcz5_1, hcz5_2, hcz5_3⟩ := cz4 BK232; obtain ⟨hfz5_0, hfz5_1, hfz5_2, hfz5_3⟩ := fz4 BK232) | ((with_reducible refine gate_callee (f := 17) rfl ?_); refine gL (some 9) rfl rfl Tryd.func17 (by kernel_rfl) rfl #[.agg #[.slice A0_0 l0_0.length c0_0, .int .i64 a0_1, .int .i64 a0_2, .int .i64 a0_3], .int .i64 1048576] rfl ?_; (with_reducible refine (laws_szRing.calls k _ _ l0_0 a0_1 a0_2 a0_3 1048576 t233 _ ?side1 ?side2 A2.out).mono ?_); (case side1 => exact cb HR0_0 HB); (case side2 => exact HC0_0.out); rintro e w6 ⟨rfl, hb⟩; refine ⟨_, rfl, ?_⟩; replace BK232 := nb BK232 hb; replace HB := Aside0.mk (below_step (bs1 HB GE232) hb); (try clear hb); (try clear hb2); (try clear hk); (try clear hi)))
  go_ret
  exact ⟨by first | rfl | (simp [errW_none, errW_some] <;> rfl) | (simp [*, errW_none, errW_some] <;> rfl), bs1 HB GE232⟩
 ·
  rw [if_neg c3] at H
  have c3b0 : decide (t233 < 0) = false := decide_eq_false c3
  clear c3
  replace H := Option.bind_eq_some_iff.mp H
  obtain ⟨⟨t234, t237, t238, t239⟩, A70, H⟩ := H
  replace H : ((spec_GoodRing.f k t234 t237 t238 t239).bind fun t240 => ((laws_toRing.f k l0_0 a0_1 a0_2 a0_3).bind fun bt241 => ((impl_GoodRing.f k bt241.1 bt241.2.1 bt241.2.2.1 bt241.2.2.2).bind fun t248 => (if (t248 != t240) = true then (some false) else ((laws_toRing.f k l0_0 a0_1 a0_2 a0_3).bind fun bt249 => ((laws_eqRing.f k bt241.1 bt241.2.1 bt241.2.2.1 bt241.2.2.2 bt249.1 bt249.2.1 bt249.2.2.1 bt249.2.2.2).bind fun t255 => (if t255 = true then (some true) else (some false)))))))) = some r := H
  have A7 := Aside0.mk A70
  clear A70
  replace H := Option.bind_eq_some_iff.mp H
  obtain ⟨t240, A80, H⟩ := H
  replace H : ((laws_toRing.f k l0_0 a0_1 a0_2 a0_3).bind fun bt241 => ((impl_GoodRing.f k bt241.1 bt241.2.1 bt241.2.2.1 bt241.2.2.2).bind fun t248 => (if (t248 != t240) = true then (some false) else ((laws_toRing.f k l0_0 a0_1 a0_2 a0_3).bind fun bt249 => ((laws_eqRing.f k bt241.1 bt241.2.1 bt241.2.2.1 bt241.2.2.2 bt249.1 bt249.2.1 bt249.2.2.1 bt249.2.2.2).bind fun t255 => (if t255 = true then (some true) else (some false))))))) = some r := H
  have A8 := Aside0.mk A80
  clear A80
  replace H := Option.bind_eq_some_iff.mp H
  obtain ⟨⟨t241, t244, t245, t246⟩, A90, H⟩ := H
  replace H : ((impl_GoodRing.f k t241 t244 t245 t246).bind fun t248 => (if (t248 != t240) = true then (some false) else ((laws_toRing.f k l0_0 a0_1 a0_2 a0_3).bind fun bt249 => ((laws_eqRing.f k t241 t244 t245 t246 bt249.1 bt249.2.1 bt249.2.2.1 bt249.2.2.2).bind fun t255 => (if t255 = true then (some true) else (some false)))))) = some r := H
  have A9 := Aside0.mk A90
  clear A90
  replace H := Option.bind_eq_some_iff.mp H
  obtain ⟨t248, A100, H⟩ := H
  replace H : (if (t248 != t240) = true then (some false) else ((laws_toRing.f k l0_0 a0_1 a0_2 a0_3).bind fun bt249 => ((laws_eqRing.f k t241 t244 t245 t246 bt249.1 bt249.2.1 bt249.2.2.1 bt249.2.2.2).bind fun t255 => (if t255 = true then (some true) else (some false))))) = some r := H
  have A10 := Aside0.mk A100
  clear A100
  by_cases c11 : (t248 != t240) = true
  ·
   rw [if_pos c11] at H
   have c11b0 : (t248 != t240) = true := c11
   (try (have c11b1 : decide (t248 = t240) = false := by simpa using c11))
   (try (have c11b2 : (t248 == t240) = false := by simpa using c11))
   (try (have c11b3 : ¬ (t248 = t240) := by simpa using c11))
   clear c11
   obtain rfl := Option.some.inj H
   go_enter Tryd.func4, Tryd.ntmps4
   go_wp2_with (first | ((with_reducible refine gate_dst (N := 1) rfl ?_); refine box_event ?hg (N := 1) ?hd (cs := #[.slice A0_0 l0_0.length c0_0, .int .i64 a0_1, .int .i64 a0_2, .int .i64 a0_3]) (t := 31) ?hr ?_; (case hd => rfl); (case hg => rfl); (case hr => first | (go_simp; done) | (go_simp; rfl)); intro gb232 hg w12 hbox hb; have BK232 := Aside0.mk (hbox); have GW232 := Aside0.mk ((by rw [hg]; exact (below_size (bs HB)) : w.heap.size ≤ gb232)); have GE232 := Aside0.mk ((by rw [hg]; exact (below_size (bs HB)) : w.heap.size ≤ gb232)); replace HB := Aside0.mk (below_step (bs HB) hb); clear hb hbox hg; obtain ⟨hcz13_0, hcz13_1, hcz13_2, hcz13_3⟩ := cz4 BK232; obtain ⟨hfz13_0, hfz13_1, hfz13_2, hfz13_3⟩ := fz4 BK232) | ((with_reducible refine gate_callee (f := 17) rfl ?_); refine gL (some 9) rfl rfl Tryd.func17 (by kernel_rfl) rfl #[.agg #[.slice A0_0 l0_0.length c0_0, .int .i64 a0_1, .int .i64 a0_2, .int .i64 a0_3], .int .i64 1048576] rfl ?_; (with_reducible refine (laws_szRing.calls k _ _ l0_0 a0_1 a0_2 a0_3 1048576 t233 _ ?side1 ?side2 A2.out).mono ?_); (case side1 => exact cb HR0_0 HB); (case side2 => exact HC0_0.out); rintro e w14 ⟨rfl, hb⟩; refine ⟨_, rfl, ?_⟩; replace BK232 := nb BK232 hb; replace HB := Aside0.mk (below_step (bs1 HB GE232) hb); (try clear hb); (try clear hb2); (try clear hk); (try clear hi); obtain ⟨hcz15_0, hcz15_1, hcz15_2, hcz15_3⟩ := cz4 BK232; obtain ⟨hfz15_0, hfz15_1, hfz15_2, hfz15_3⟩ := fz4 BK232) | ((with_reducible refine gate_callee (f := 19) rfl ?_); refine gL (some 13) rfl rfl Tryd.func19 (by kernel_rfl) rfl #[.agg #[.slice A0_0 l0_0.length c0_0, .int .i64 a0_1, .int .i64 a0_2, .int .i64 a0_3]] rfl ?_; (with_reducible refine (laws_toRing.calls k _ _ l0_0 a0_1 a0_2 a0_3 t234 t237 t238 t239 _ ?side1 ?side2 A7.out).mono ?_); (case side1 => exact cb HR0_0 HB); (case side2 => exact HC0_0.out); rintro e w16 ⟨v235, rfl, ho0, hb⟩; refine ⟨_, rfl, ?_⟩; have HO236 := Aside0.mk (Kd.R_lower ho0 (below_size (bs1 HB GE232))); replace BK232 := nb BK232 hb; replace HB := Aside0.mk (below_step (bs1 HB GE232) hb); (try clear hb); (try clear hb2); (try clear hk); (try clear hi); (try clear ho0); obtain ⟨Ao17, co17, eo17⟩ := Kd.R_slice HO236.out; subst eo17) | ((with_reducible refine gate_callee (f := 18) rfl ?_); refine gL (some 14) rfl rfl Tryd.func18 (by kernel_rfl) rfl #[.agg #[.slice Ao17 t234.length co17, .int .i64 t237, .int .i64 t238, .int .i64 t239]] rfl ?_; (with_reducible refine (spec_GoodRing.calls k _ _ t234 t237 t238 t239 t240 _ ?side1 ?side2 A8.out).mono ?_); (case side1 => exact rc0 HO236); (case side2 => exact (Kd.R_reads' HO236.out).2.1); rintro e w18 ⟨rfl, hb⟩; refine ⟨_, rfl, ?_⟩; replace HO236 := nr HO236 hb; replace BK232 := nb BK232 hb; replace HB := Aside0.mk (below_step (bs1 HB GE232) hb); (try clear hb); (try clear hb2); (try clear hk); (try clear hi); obtain ⟨hcz19_0, hcz19_1, hcz19_2, hcz19_3⟩ := cz4 BK232; obtain ⟨hfz19_0, hfz19_1, hfz19_2, hfz19_3⟩ := fz4 BK232) | ((with_reducible refine gate_callee (f := 19) rfl ?_); refine gL (some 16) rfl rfl Tryd.func19 (by kernel_rfl) rfl #[.agg #[.slice A0_0 l0_0.length c0_0, .int .i64 a0_1, .int .i64 a0_2, .int .i64 a0_3]] rfl ?_; (with_reducible refine (laws_toRing.calls k _ _ l0_0 a0_1 a0_2 a0_3 t241 t244 t245 t246 _ ?side1 ?side2 A9.out).mono ?_); (case side1 => exact cb HR0_0 HB); (case side2 => exact HC0_0.out); rintro e w20 ⟨v242, rfl, ho0, hb⟩; refine ⟨_, rfl, ?_⟩; have HO243 := Aside0.mk (Kd.R_lower (Kd.R_new' ho0 (Kd.R_lt (rr HO236.out))) (below_size (bs1 HB GE232))); replace HO236 := Aside0.mk (Kd.R_elder' (rr HO236.out) (Kd.R_base ho0) hb); replace BK232 := nb BK232 hb; replace HB := Aside0.mk (below_step (bs1 HB GE232) hb); (try clear hb); (try clear hb2); (try clear hk); (try clear hi); (try clear ho0)) | ((with_reducible refine gate_dst (N := 5) rfl ?_); refine box_event ?hg (N := 5) ?hd (cs := #[.slice none 0 0, .int .i64 0, .int .i64 0, .int .i64 0]) (t := 36) ?hr ?_; (case hd => rfl); (case hg => rfl); (case hr => first | (go_simp; done) | (go_simp; rfl)); intro gb247 hg w21 hbox hb; replace HO236 := nr HO236 hb; replace HO243 := nr HO243 hb; have BK247 := Aside0.mk (hbox); have GW247 := Aside0.mk ((by rw [hg]; exact (below_size (bs1 HB GE232)) : w.heap.size ≤ gb247)); have GE247 := Aside0.mk ((by rw [hg]; exact (below_size (bs1 HB GE232)) : w.heap.size ≤ gb247)); replace HB := Aside0.mk (below_step (bs1 HB GE232) hb); have NB232_247 := Aside0.mk ((bn BK232 hg : gb232 ≠ gb247)); have NB247_232 := Aside0.mk ((bm BK232 hg : gb247 ≠ gb232)); replace BK232 := nb BK232 hb; clear hb hbox hg; obtain ⟨Ao22, co22, eo22⟩ := Kd.R_slice HO243.out; subst eo22; have hnb23 := NB247_232.out; have hnc23 := NB232_247.out; obtain ⟨hcz24_0, hcz24_1, hcz24_2, hcz24_3⟩ := cz4 BK247; obtain ⟨hfz24_0, hfz24_1, hfz24_2, hfz24_3⟩ := fz4 BK247) | ((with_reducible refine gate_callee (f := 20) rfl ?_); refine gL (some 18) rfl rfl Tryd.func20 (by kernel_rfl) rfl #[.agg #[.slice Ao22 t241.length co22, .int .i64 t244, .int .i64 t245, .int .i64 t246]] rfl ?_; (with_reducible refine (impl_GoodRing.calls k _ _ t241 t244 t245 t246 t248 _ ?sideT ?side1 ?side2 A10.out).mono ?_); (case sideT => refine ⟨Ito.tabB hTab_.out ?_⟩; first | exact bs HB | exact st_below | (repeat (first | (with_reducible first | exact HB.out | apply below_alloc | apply pw_below_drewN | apply below_drew1 | refine below_set ?_ (Aside0.out (by assumption))) | exact HB.out))); (case side1 => exact rc HO243 BK247); (case side2 => exact (Kd.R_reads' HO243.out).2.1); rintro e w25 ⟨rfl, hb⟩; refine ⟨_, rfl, ?_⟩; replace HO236 := nf HO236 BK247 hb; replace HO243 := nf HO243 BK247 hb; replace BK232 := Aside0.mk (blk_below (bf BK232 NB232_247) hb); replace BK247 := Aside0.mk (blk_below (g := gb247) (o := .cells #[.slice Ao22 t241.length co22, .int .i64 t244, .int .i64 t245, .int .i64 t246] 36 (0, 0)) (by (with_reducible repeat (first | refine blk_drewN ?_ _ | refine blk_drew ?_ | refine blk_alloc ?_ _)); refine blk_put (cs := #[.slice Ao22 t241.length co22, .int .i64 t244, .int .i64 t245, .int .i64 0]) ?_ 3 _ rfl; (with_reducible repeat (first | refine blk_drewN ?_ _ | refine blk_drew ?_ | refine blk_alloc ?_ _)); refine blk_put (cs := #[.slice Ao22 t241.length co22, .int .i64 t244, .int .i64 0, .int .i64 0]) ?_ 2 _ rfl; (with_reducible repeat (first | refine blk_drewN ?_ _ | refine blk_drew ?_ | refine blk_alloc ?_ _)); refine blk_put (cs := #[.slice Ao22 t241.length co22, .int .i64 0, .int .i64 0, .int .i64 0]) ?_ 1 _ rfl; (with_reducible repeat (first | refine blk_drewN ?_ _ | refine blk_drew ?_ | refine blk_alloc ?_ _)); refine blk_put (cs := #[.slice none 0 0, .int .i64 0, .int .i64 0, .int .i64 0]) ?_ 0 _ rfl; (with_reducible repeat (first | refine blk_drewN ?_ _ | refine blk_drew ?_ | refine blk_alloc ?_ _)); exact BK247.out) hb); replace HB := Aside0.mk (below_step (bs2 HB GE232 GE247) hb); (try clear hb); (try clear hb2); (try clear hk); (try clear hi)))
   go_ret
   exact ⟨by first | rfl | (simp [errW_none, errW_some] <;> rfl) | (simp [*, errW_none, errW_some] <;> rfl), bs2 HB GE232 GE247⟩
  ·
   rw [if_neg c11] at H
   have c11b0 : (t248 != t240) = false := by simpa using c11
   (try (have c11b1 : decide (t248 = t240) = true := by simpa using c11))
   (try (have c11b2 : (t248 == t240) = true := by simpa using c11))
   clear c11
   replace H := Option.bind_eq_some_iff.mp H
   obtain ⟨⟨t249, t252, t253, t254⟩, A260, H⟩ := H
   replace H : ((laws_eqRing.f k t241 t244 t245 t246 t249 t252 t253 t254).bind fun t255 => (if t255 = true then (some true) else (some false))) = some r := H
   have A26 := Aside0.mk A260
   clear A260
   replace H := Option.bind_eq_some_iff.mp H
   obtain ⟨t255, A270, H⟩ := H
   replace H : (if t255 = true then (some true) else (some false)) = some r := H
   have A27 := Aside0.mk A270
   clear A270
   by_cases c28 : t255 = true
   ·
    subst c28
    rw [if_pos rfl] at H
    obtain rfl := Option.some.inj H
    go_enter Tryd.func4, Tryd.ntmps4
    try go_wp2_with (first | ((with_reducible refine gate_dst (N := 1) rfl ?_); refine box_event ?hg (N := 1) ?hd (cs := #[.slice A0_0 l0_0.length c0_0, .int .i64 a0_1, .int .i64 a0_2, .int .i64 a0_3]) (t := 31) ?hr ?_; (case hd => rfl); (case hg => rfl); (case hr => first | (go_simp; done) | (go_simp; rfl)); intro gb232 hg w29 hbox hb; have BK232 := Aside0.mk (hbox); have GW232 := Aside0.mk ((by rw [hg]; exact (below_size (bs HB)) : w.heap.size ≤ gb232)); have GE232 := Aside0.mk ((by rw [hg]; exact (below_size (bs HB)) : w.heap.size ≤ gb232)); replace HB := Aside0.mk (below_step (bs HB) hb); clear hb hbox hg; obtain ⟨hcz30_0, hcz30_1, hcz30_2, hcz30_3⟩ := cz4 BK232; obtain ⟨hfz30_0, hfz30_1, hfz30_2, hfz30_3⟩ := fz4 BK232) | ((with_reducible refine gate_callee (f := 17) rfl ?_); refine gL (some 9) rfl rfl Tryd.func17 (by kernel_rfl) rfl #[.agg #[.slice A0_0 l0_0.length c0_0, .int .i64 a0_1, .int .i64 a0_2, .int .i64 a0_3], .int .i64 1048576] rfl ?_; (with_reducible refine (laws_szRing.calls k _ _ l0_0 a0_1 a0_2 a0_3 1048576 t233 _ ?side1 ?side2 A2.out).mono ?_); (case side1 => exact cb HR0_0 HB); (case side2 => exact HC0_0.out); rintro e w31 ⟨rfl, hb⟩; refine ⟨_, rfl, ?_⟩; replace BK232 := nb BK232 hb; replace HB := Aside0.mk (below_step (bs1 HB GE232) hb); (try clear hb); (try clear hb2); (try clear hk); (try clear hi); obtain ⟨hcz32_0, hcz32_1, hcz32_2, hcz32_3⟩ := cz4 BK232; obtain ⟨hfz32_0, hfz32_1, hfz32_2, hfz32_3⟩ := fz4 BK232) | ((with_reducible refine gate_callee (f := 19) rfl ?_); refine gL (some 13) rfl rfl Tryd.func19 (by kernel_rfl) rfl #[.agg #[.slice A0_0 l0_0.length c0_0, .int .i64 a0_1, .int .i64 a0_2, .int .i64 a0_3]] rfl ?_; (with_reducible refine (laws_toRing.calls k _ _ l0_0 a0_1 a0_2 a0_3 t234 t237 t238 t239 _ ?side1 ?side2 A7.out).mono ?_); (case side1 => exact cb HR0_0 HB); (case side2 => exact HC0_0.out); rintro e w33 ⟨v235, rfl, ho0, hb⟩; refine ⟨_, rfl, ?_⟩; have HO236 := Aside0.mk (Kd.R_lower ho0 (below_size (bs1 HB GE232))); replace BK232 := nb BK232 hb; replace HB := Aside0.mk (below_step (bs1 HB GE232) hb); (try clear hb); (try clear hb2); (try clear hk); (try clear hi); (try clear ho0); obtain ⟨Ao34, co34, eo34⟩ := Kd.R_slice HO236.out; subst eo34) | ((with_reducible refine gate_callee (f := 18) rfl ?_); refine gL (some 14) rfl rfl Tryd.func18 (by kernel_rfl) rfl #[.agg #[.slice Ao34 t234.length co34, .int .i64 t237, .int .i64 t238, .int .i64 t239]] rfl ?_; (with_reducible refine (spec_GoodRing.calls k _ _ t234 t237 t238 t239 t240 _ ?side1 ?side2 A8.out).mono ?_); (case side1 => exact rc0 HO236); (case side2 => exact (Kd.R_reads' HO236.out).2.1); rintro e w35 ⟨rfl, hb⟩; refine ⟨_, rfl, ?_⟩; replace HO236 := nr HO236 hb; replace BK232 := nb BK232 hb; replace HB := Aside0.mk (below_step (bs1 HB GE232) hb); (try clear hb); (try clear hb2); (try clear hk); (try clear hi); obtain ⟨hcz36_0, hcz36_1, hcz36_2, hcz36_3⟩ := cz4 BK232; obtain ⟨hfz36_0, hfz36_1, hfz36_2, hfz36_3⟩ := fz4 BK232) | ((with_reducible refine gate_callee (f := 19) rfl ?_); refine gL (some 16) rfl rfl Tryd.func19 (by kernel_rfl) rfl #[.agg #[.slice A0_0 l0_0.length c0_0, .int .i64 a0_1, .int .i64 a0_2, .int .i64 a0_3]] rfl ?_; (with_reducible refine (laws_toRing.calls k _ _ l0_0 a0_1 a0_2 a0_3 t241 t244 t245 t246 _ ?side1 ?side2 A9.out).mono ?_); (case side1 => exact cb HR0_0 HB); (case side2 => exact HC0_0.out); rintro e w37 ⟨v242, rfl, ho0, hb⟩; refine ⟨_, rfl, ?_⟩; have HO243 := Aside0.mk (Kd.R_lower (Kd.R_new' ho0 (Kd.R_lt (rr HO236.out))) (below_size (bs1 HB GE232))); replace HO236 := Aside0.mk (Kd.R_elder' (rr HO236.out) (Kd.R_base ho0) hb); replace BK232 := nb BK232 hb; replace HB := Aside0.mk (below_step (bs1 HB GE232) hb); (try clear hb); (try clear hb2); (try clear hk); (try clear hi); (try clear ho0)) | ((with_reducible refine gate_dst (N := 5) rfl ?_); refine box_event ?hg (N := 5) ?hd (cs := #[.slice none 0 0, .int .i64 0, .int .i64 0, .int .i64 0]) (t := 36) ?hr ?_; (case hd => rfl); (case hg => rfl); (case hr => first | (go_simp; done) | (go_simp; rfl)); intro gb247 hg w38 hbox hb; replace HO236 := nr HO236 hb; replace HO243 := nr HO243 hb; have BK247 := Aside0.mk (hbox); have GW247 := Aside0.mk ((by rw [hg]; exact (below_size (bs1 HB GE232)) : w.heap.size ≤ gb247)); have GE247 := Aside0.mk ((by rw [hg]; exact (below_size (bs1 HB GE232)) : w.heap.size ≤ gb247)); replace HB := Aside0.mk (below_step (bs1 HB GE232) hb); have NB232_247 := Aside0.mk ((bn BK232 hg : gb232 ≠ gb247)); have NB247_232 := Aside0.mk ((bm BK232 hg : gb247 ≠ gb232)); replace BK232 := nb BK232 hb; clear hb hbox hg; obtain ⟨Ao39, co39, eo39⟩ := Kd.R_slice HO243.out; subst eo39; have hnb40 := NB247_232.out; have hnc40 := NB232_247.out; obtain ⟨hcz41_0, hcz41_1, hcz41_2, hcz41_3⟩ := cz4 BK247; obtain ⟨hfz41_0, hfz41_1, hfz41_2, hfz41_3⟩ := fz4 BK247) | ((with_reducible refine gate_callee (f := 20) rfl ?_); refine gL (some 18) rfl rfl Tryd.func20 (by kernel_rfl) rfl #[.agg #[.slice Ao39 t241.length co39, .int .i64 t244, .int .i64 t245, .int .i64 t246]] rfl ?_; (with_reducible refine (impl_GoodRing.calls k _ _ t241 t244 t245 t246 t248 _ ?sideT ?side1 ?side2 A10.out).mono ?_); (case sideT => refine ⟨Ito.tabB hTab_.out ?_⟩; first | exact bs HB | exact st_below | (repeat (first | (with_reducible first | exact HB.out | apply below_alloc | apply pw_below_drewN | apply below_drew1 | refine below_set ?_ (Aside0.out (by assumption))) | exact HB.out))); (case side1 => exact rc HO243 BK247); (case side2 => exact (Kd.R_reads' HO243.out).2.1); rintro e w42 ⟨rfl, hb⟩; refine ⟨_, rfl, ?_⟩; replace HO236 := nf HO236 BK247 hb; replace HO243 := nf HO243 BK247 hb; replace BK232 := Aside0.mk (blk_below (bf BK232 NB232_247) hb); replace BK247 := Aside0.mk (blk_below (g := gb247) (o := .cells #[.slice Ao39 t241.length co39, .int .i64 t244, .int .i64 t245, .int .i64 t246] 36 (0, 0)) (by (with_reducible repeat (first | refine blk_drewN ?_ _ | refine blk_drew ?_ | refine blk_alloc ?_ _)); refine blk_put (cs := #[.slice Ao39 t241.length co39, .int .i64 t244, .int .i64 t245, .int .i64 0]) ?_ 3 _ rfl; (with_reducible repeat (first | refine blk_drewN ?_ _ | refine blk_drew ?_ | refine blk_alloc ?_ _)); refine blk_put (cs := #[.slice Ao39 t241.length co39, .int .i64 t244, .int .i64 0, .int .i64 0]) ?_ 2 _ rfl; (with_reducible repeat (first | refine blk_drewN ?_ _ | refine blk_drew ?_ | refine blk_alloc ?_ _)); refine blk_put (cs := #[.slice Ao39 t241.length co39, .int .i64 0, .int .i64 0, .int .i64 0]) ?_ 1 _ rfl; (with_reducible repeat (first | refine blk_drewN ?_ _ | refine blk_drew ?_ | refine blk_alloc ?_ _)); refine blk_put (cs := #[.slice none 0 0, .int .i64 0, .int .i64 0, .int .i64 0]) ?_ 0 _ rfl; (with_reducible repeat (first | refine blk_drewN ?_ _ | refine blk_drew ?_ | refine blk_alloc ?_ _)); exact BK247.out) hb); replace HB := Aside0.mk (below_step (bs2 HB GE232 GE247) hb); (try clear hb); (try clear hb2); (try clear hk); (try clear hi)))
    have n0_ := Aside0.mk (Kd.R_drew HO236.out)
    have n1_ := Aside0.mk (Kd.R_drew HO243.out)
    have n2_ := Aside0.mk (blk_drew BK232.out)
    have n3_ := Aside0.mk (blk_drew BK247.out)
    have n4_ := Aside0.mk (below_drew1 HB.out)
    clear HO236
    clear HO243
    clear BK232
    clear BK247
    clear HB
    have HO236 := n0_
    have HO243 := n1_
    have BK232 := n2_
    have BK247 := n3_
    have HB := n4_
    clear n0_ n1_ n2_ n3_ n4_
    refine start_ (n := 5) (S := fun w' => w'.cell? ⟨gb247, 0, none⟩ = some (.slice Ao39 t241.length co39) ∧ w'.cell? ⟨gb247, 1, none⟩ = some (.int .i64 t244) ∧ w'.cell? ⟨gb247, 2, none⟩ = some (.int .i64 t245) ∧ w'.cell? ⟨gb247, 3, none⟩ = some (.int .i64 t246) ∧ w'.cell? ⟨gb232, 0, none⟩ = some (.slice A0_0 l0_0.length c0_0) ∧ w'.cell? ⟨gb232, 1, none⟩ = some (.int .i64 a0_1) ∧ w'.cell? ⟨gb232, 2, none⟩ = some (.int .i64 a0_2) ∧ w'.cell? ⟨gb232, 3, none⟩ = some (.int .i64 a0_3)) (ds := []) #[false, false, false, false, false] (by kernel_rfl) rfl rfl ⟨(blk_cell BK247.out 0).trans rfl, (blk_cell BK247.out 1).trans rfl, (blk_cell BK247.out 2).trans rfl, (blk_cell BK247.out 3).trans rfl, (blk_cell BK232.out 0).trans rfl, (blk_cell BK232.out 1).trans rfl, (blk_cell BK232.out 2).trans rfl, (blk_cell BK232.out 3).trans rfl⟩ (fun hHeld => ?_)
    generalize w42.drew = w43 at HO236 HO243 BK232 BK247 HB hHeld ⊢
    refine take_ (i := 0) (N := some 22) (v := ?_) (a' := ?_) #[true, false, false, false, false] rfl rfl (by kernel_rfl) (fun _ _ _ h => h) (Or.inl ⟨by rfl, ?_⟩) hHeld ?_ ?_
    rotate_left
    ·
     rintro w' ⟨s0, s1, s2, s3, s4, s5, s6, s7⟩
     go_simp
     with_reducible rfl
    rotate_left
    ·
     simp only [Act.put, List.setIfInBounds_toArray, List.set_cons_zero, List.set_cons_succ, i64_w, i32_w]
     rfl
    refine take_ (i := 1) (N := some 23) (v := ?_) (a' := ?_) #[true, true, false, false, false] rfl rfl (by kernel_rfl) (fun _ _ _ h => h) (Or.inl ⟨by rfl, ?_⟩) hHeld ?_ ?_
    rotate_left
    ·
     rintro w' ⟨s0, s1, s2, s3, s4, s5, s6, s7⟩
     go_simp
     with_reducible rfl
    rotate_left
    ·
     simp only [Act.put, List.setIfInBounds_toArray, List.set_cons_zero, List.set_cons_succ, i64_w, i32_w]
     rfl
    refine one_ (i := 2) (N := some 24) #[true, true, true, false, false] rfl rfl (by kernel_rfl) (by decide) (fun K hK => ?_)
    refine goes_ Tryd.func19 (by kernel_rfl) rfl #[.agg #[.slice A0_0 l0_0.length c0_0, .int .i64 a0_1, .int .i64 a0_2, .int .i64 a0_3]] (by rfl) rfl rfl (by (try simp only [List.map_toArray, List.map_cons, List.map_nil]); first | done | rfl | (simp only [List.length_drop, List.length_take]; rfl)) ?_
    with_reducible refine (laws_toRing.calls k _ _ l0_0 a0_1 a0_2 a0_3 t249 t252 t253 t254 _ ?side1 ?side2 A26.out).mono ?_
    (case side1 => exact cb HR0_0 HB)
    (case side2 => exact HC0_0.out)
    rintro e w44 ⟨v250, rfl, ho0, hb⟩
    refine ⟨_, rfl, ?_⟩
    have n0_ := Aside0.mk (Kd.R_elder' (rr HO236.out) (Kd.R_base ho0) hb)
    have n1_ := Aside0.mk (Kd.R_elder' (rr HO243.out) (Kd.R_base ho0) hb)
    have n2_ := Aside0.mk (Kd.R_lower (Kd.R_new' (Kd.R_new' ho0 (Kd.R_lt (rr HO236.out))) (Kd.R_lt (rr HO243.out))) (below_size (bs2 HB GE232 GE247)))
    have n3_ := Aside0.mk (bb BK232 hb)
    have n4_ := Aside0.mk (bb BK247 hb)
    have n5_ := Aside0.mk (below_step (bs2 HB GE232 GE247) hb)
    clear HO236
    clear HO243
    clear BK232
    clear BK247
    clear HB
    have HO236 := n0_
    have HO243 := n1_
    have HO251 := n2_
    have BK232 := n3_
    have BK247 := n4_
    have HB := n5_
    clear n0_ n1_ n2_ n3_ n4_ n5_
    (try clear hb)
    (try clear hb2)
    (try clear hk)
    (try clear hi)
    (try clear ho0)
    obtain ⟨Ao45, co45, eo45⟩ := Kd.R_slice HO251.out
    (first | subst eo45 | (injection eo45 with f1_ f2_ f3_; have f4_ := f1_.symm; have f5_ := f3_.symm; clear f1_ f2_ f3_; subst f4_; subst f5_))
    refine hK.out _ _ ⟨(blk_cell BK247.out 0).trans rfl, (blk_cell BK247.out 1).trans rfl, (blk_cell BK247.out 2).trans rfl, (blk_cell BK247.out 3).trans rfl, (blk_cell BK232.out 0).trans rfl, (blk_cell BK232.out 1).trans rfl, (blk_cell BK232.out 2).trans rfl, (blk_cell BK232.out 3).trans rfl⟩ (fun hHeld => ?_)
    clear hK K
    refine norm_ (a' := ?_) ?_ ?_
    rotate_left
    ·
     show Act.put _ (some 24) _ = _
     simp only [Act.put, List.setIfInBounds_toArray, List.set_cons_zero, List.set_cons_succ, i64_w, i32_w]
     rfl
    refine one_ (i := 3) (N := some 25) #[true, true, true, true, false] rfl rfl (by kernel_rfl) (by decide) (fun K hK => ?_)
    refine goes_ Tryd.func21 (by kernel_rfl) rfl #[.agg #[.slice Ao39 t241.length co39, .int .i64 t244, .int .i64 t245, .int .i64 t246], .agg #[.slice Ao45 t249.length co45, .int .i64 t252, .int .i64 t253, .int .i64 t254]] (by rfl) rfl rfl (by (try simp only [List.map_toArray, List.map_cons, List.map_nil]); first | done | rfl | (simp only [List.length_drop, List.length_take]; rfl)) ?_
    with_reducible refine (laws_eqRing.calls k _ _ t241 t244 t245 t246 _ _ t249 t252 t253 t254 true _ ?side1 ?side2 ?side3 ?side4 A27.out).mono ?_
    (case side1 => exact rc0 HO243)
    (case side2 => exact (Kd.R_reads' HO243.out).2.1)
    (case side3 => exact rc0 HO251)
    (case side4 => exact (Kd.R_reads' HO251.out).2.1)
    rintro e w46 ⟨rfl, hb⟩
    refine ⟨_, rfl, ?_⟩
    have n0_ := Aside0.mk (Kd.R_below (rr HO236.out) hb)
    have n1_ := Aside0.mk (Kd.R_below (rr HO243.out) hb)
    have n2_ := Aside0.mk (Kd.R_below (rr HO251.out) hb)
    have n3_ := Aside0.mk (bb BK232 hb)
    have n4_ := Aside0.mk (bb BK247 hb)
    have n5_ := Aside0.mk (below_step (bs2 HB GE232 GE247) hb)
    clear HO236
    clear HO243
    clear HO251
    clear BK232
    clear BK247
    clear HB
    have HO236 := n0_
    have HO243 := n1_
    have HO251 := n2_
    have BK232 := n3_
    have BK247 := n4_
    have HB := n5_
    clear n0_ n1_ n2_ n3_ n4_ n5_
    (try clear hb)
    (try clear hb2)
    (try clear hk)
    (try clear hi)
    refine hK.out _ _ ⟨(blk_cell BK247.out 0).trans rfl, (blk_cell BK247.out 1).trans rfl, (blk_cell BK247.out 2).trans rfl, (blk_cell BK247.out 3).trans rfl, (blk_cell BK232.out 0).trans rfl, (blk_cell BK232.out 1).trans rfl, (blk_cell BK232.out 2).trans rfl, (blk_cell BK232.out 3).trans rfl⟩ (fun hHeld => ?_)
    clear hK K
    refine norm_ (a' := ?_) ?_ ?_
    rotate_left
    ·
     show Act.put _ (some 25) _ = _
     simp only [Act.put, List.setIfInBounds_toArray, List.set_cons_zero, List.set_cons_succ, i64_w, i32_w]
     rfl
    refine pure_ (i := 4) (N := some 26) (v := ?_) (a' := ?_) #[true, true, true, true, true] rfl rfl (by kernel_rfl) (fun _ _ _ h => h) (Or.inl ⟨by rfl, ?_⟩) ?_ ?_
    rotate_left
    ·
     intro w'
     go_simp
     with_reducible rfl
    rotate_left
    ·
     simp only [Act.put, List.setIfInBounds_toArray, List.set_cons_zero, List.set_cons_succ, i64_w, i32_w]
     rfl
    refine done_ (by kernel_rfl) ?_
    try go_wp2
    go_ret
    exact ⟨by first | rfl | (simp [errW_none, errW_some] <;> rfl) | (simp [*, errW_none, errW_some] <;> rfl), bs2 HB GE232 GE247⟩
   ·
    replace c28 := Bool.eq_false_iff.mpr c28
    subst c28
    rw [if_neg (show ¬ (false = true) by decide)] at H
    obtain rfl := Option.some.inj H
    go_enter Tryd.func4, Tryd.ntmps4
    try go_wp2_with (first | ((with_reducible refine gate_dst (N := 1) rfl ?_); refine box_event ?hg (N := 1) ?hd (cs := #[.slice A0_0 l0_0.length c0_0, .int .i64 a0_1, .int .i64 a0_2, .int .i64 a0_3]) (t := 31) ?hr ?_; (case hd => rfl); (case hg => rfl); (case hr => first | (go_simp; done) | (go_simp; rfl)); intro gb232 hg w47 hbox hb; have BK232 := Aside0.mk (hbox); have GW232 := Aside0.mk ((by rw [hg]; exact (below_size (bs HB)) : w.heap.size ≤ gb232)); have GE232 := Aside0.mk ((by rw [hg]; exact (below_size (bs HB)) : w.heap.size ≤ gb232)); replace HB := Aside0.mk (below_step (bs HB) hb); clear hb hbox hg; obtain ⟨hcz48_0, hcz48_1, hcz48_2, hcz48_3⟩ := cz4 BK232; obtain ⟨hfz48_0, hfz48_1, hfz48_2, hfz48_3⟩ := fz4 BK232) | ((with_reducible refine gate_callee (f := 17) rfl ?_); refine gL (some 9) rfl rfl Tryd.func17 (by kernel_rfl) rfl #[.agg #[.slice A0_0 l0_0.length c0_0, .int .i64 a0_1, .int .i64 a0_2, .int .i64 a0_3], .int .i64 1048576] rfl ?_; (with_reducible refine (laws_szRing.calls k _ _ l0_0 a0_1 a0_2 a0_3 1048576 t233 _ ?side1 ?side2 A2.out).mono ?_); (case side1 => exact cb HR0_0 HB); (case side2 => exact HC0_0.out); rintro e w49 ⟨rfl, hb⟩; refine ⟨_, rfl, ?_⟩; replace BK232 := nb BK232 hb; replace HB := Aside0.mk (below_step (bs1 HB GE232) hb); (try clear hb); (try clear hb2); (try clear hk); (try clear hi); obtain ⟨hcz50_0, hcz50_1, hcz50_2, hcz50_3⟩ := cz4 BK232; obtain ⟨hfz50_0, hfz50_1, hfz50_2, hfz50_3⟩ := fz4 BK232) | ((with_reducible refine gate_callee (f := 19) rfl ?_); refine gL (some 13) rfl rfl Tryd.func19 (by kernel_rfl) rfl #[.agg #[.slice A0_0 l0_0.length c0_0, .int .i64 a0_1, .int .i64 a0_2, .int .i64 a0_3]] rfl ?_; (with_reducible refine (laws_toRing.calls k _ _ l0_0 a0_1 a0_2 a0_3 t234 t237 t238 t239 _ ?side1 ?side2 A7.out).mono ?_); (case side1 => exact cb HR0_0 HB); (case side2 => exact HC0_0.out); rintro e w51 ⟨v235, rfl, ho0, hb⟩; refine ⟨_, rfl, ?_⟩; have HO236 := Aside0.mk (Kd.R_lower ho0 (below_size (bs1 HB GE232))); replace BK232 := nb BK232 hb; replace HB := Aside0.mk (below_step (bs1 HB GE232) hb); (try clear hb); (try clear hb2); (try clear hk); (try clear hi); (try clear ho0); obtain ⟨Ao52, co52, eo52⟩ := Kd.R_slice HO236.out; subst eo52) | ((with_reducible refine gate_callee (f := 18) rfl ?_); refine gL (some 14) rfl rfl Tryd.func18 (by kernel_rfl) rfl #[.agg #[.slice Ao52 t234.length co52, .int .i64 t237, .int .i64 t238, .int .i64 t239]] rfl ?_; (with_reducible refine (spec_GoodRing.calls k _ _ t234 t237 t238 t239 t240 _ ?side1 ?side2 A8.out).mono ?_); (case side1 => exact rc0 HO236); (case side2 => exact (Kd.R_reads' HO236.out).2.1); rintro e w53 ⟨rfl, hb⟩; refine ⟨_, rfl, ?_⟩; replace HO236 := nr HO236 hb; replace BK232 := nb BK232 hb; replace HB := Aside0.mk (below_step (bs1 HB GE232) hb); (try clear hb); (try clear hb2); (try clear hk); (try clear hi); obtain ⟨hcz54_0, hcz54_1, hcz54_2, hcz54_3⟩ := cz4 BK232; obtain ⟨hfz54_0, hfz54_1, hfz54_2, hfz54_3⟩ := fz4 BK232) | ((with_reducible refine gate_callee (f := 19) rfl ?_); refine gL (some 16) rfl rfl Tryd.func19 (by kernel_rfl) rfl #[.agg #[.slice A0_0 l0_0.length c0_0, .int .i64 a0_1, .int .i64 a0_2, .int .i64 a0_3]] rfl ?_; (with_reducible refine (laws_toRing.calls k _ _ l0_0 a0_1 a0_2 a0_3 t241 t244 t245 t246 _ ?side1 ?side2 A9.out).mono ?_); (case side1 => exact cb HR0_0 HB); (case side2 => exact HC0_0.out); rintro e w55 ⟨v242, rfl, ho0, hb⟩; refine ⟨_, rfl, ?_⟩; have HO243 := Aside0.mk (Kd.R_lower (Kd.R_new' ho0 (Kd.R_lt (rr HO236.out))) (below_size (bs1 HB GE232))); replace HO236 := Aside0.mk (Kd.R_elder' (rr HO236.out) (Kd.R_base ho0) hb); replace BK232 := nb BK232 hb; replace HB := Aside0.mk (below_step (bs1 HB GE232) hb); (try clear hb); (try clear hb2); (try clear hk); (try clear hi); (try clear ho0)) | ((with_reducible refine gate_dst (N := 5) rfl ?_); refine box_event ?hg (N := 5) ?hd (cs := #[.slice none 0 0, .int .i64 0, .int .i64 0, .int .i64 0]) (t := 36) ?hr ?_; (case hd => rfl); (case hg => rfl); (case hr => first | (go_simp; done) | (go_simp; rfl)); intro gb247 hg w56 hbox hb; replace HO236 := nr HO236 hb; replace HO243 := nr HO243 hb; have BK247 := Aside0.mk (hbox); have GW247 := Aside0.mk ((by rw [hg]; exact (below_size (bs1 HB GE232)) : w.heap.size ≤ gb247)); have GE247 := Aside0.mk ((by rw [hg]; exact (below_size (bs1 HB GE232)) : w.heap.size ≤ gb247)); replace HB := Aside0.mk (below_step (bs1 HB GE232) hb); have NB232_247 := Aside0.mk ((bn BK232 hg : gb232 ≠ gb247)); have NB247_232 := Aside0.mk ((bm BK232 hg : gb247 ≠ gb232)); replace BK232 := nb BK232 hb; clear hb hbox hg; obtain ⟨Ao57, co57, eo57⟩ := Kd.R_slice HO243.out; subst eo57; have hnb58 := NB247_232.out; have hnc58 := NB232_247.out; obtain ⟨hcz59_0, hcz59_1, hcz59_2, hcz59_3⟩ := cz4 BK247; obtain ⟨hfz59_0, hfz59_1, hfz59_2, hfz59_3⟩ := fz4 BK247) | ((with_reducible refine gate_callee (f := 20) rfl ?_); refine gL (some 18) rfl rfl Tryd.func20 (by kernel_rfl) rfl #[.agg #[.slice Ao57 t241.length co57, .int .i64 t244, .int .i64 t245, .int .i64 t246]] rfl ?_; (with_reducible refine (impl_GoodRing.calls k _ _ t241 t244 t245 t246 t248 _ ?sideT ?side1 ?side2 A10.out).mono ?_); (case sideT => refine ⟨Ito.tabB hTab_.out ?_⟩; first | exact bs HB | exact st_below | (repeat (first | (with_reducible first | exact HB.out | apply below_alloc | apply pw_below_drewN | apply below_drew1 | refine below_set ?_ (Aside0.out (by assumption))) | exact HB.out))); (case side1 => exact rc HO243 BK247); (case side2 => exact (Kd.R_reads' HO243.out).2.1); rintro e w60 ⟨rfl, hb⟩; refine ⟨_, rfl, ?_⟩; replace HO236 := nf HO236 BK247 hb; replace HO243 := nf HO243 BK247 hb; replace BK232 := Aside0.mk (blk_below (bf BK232 NB232_247) hb); replace BK247 := Aside0.mk (blk_below (g := gb247) (o := .cells #[.slice Ao57 t241.length co57, .int .i64 t244, .int .i64 t245, .int .i64 t246] 36 (0, 0)) (by (with_reducible repeat (first | refine blk_drewN ?_ _ | refine blk_drew ?_ | refine blk_alloc ?_ _)); refine blk_put (cs := #[.slice Ao57 t241.length co57, .int .i64 t244, .int .i64 t245, .int .i64 0]) ?_ 3 _ rfl; (with_reducible repeat (first | refine blk_drewN ?_ _ | refine blk_drew ?_ | refine blk_alloc ?_ _)); refine blk_put (cs := #[.slice Ao57 t241.length co57, .int .i64 t244, .int .i64 0, .int .i64 0]) ?_ 2 _ rfl; (with_reducible repeat (first | refine blk_drewN ?_ _ | refine blk_drew ?_ | refine blk_alloc ?_ _)); refine blk_put (cs := #[.slice Ao57 t241.length co57, .int .i64 0, .int .i64 0, .int .i64 0]) ?_ 1 _ rfl; (with_reducible repeat (first | refine blk_drewN ?_ _ | refine blk_drew ?_ | refine blk_alloc ?_ _)); refine blk_put (cs := #[.slice none 0 0, .int .i64 0, .int .i64 0, .int .i64 0]) ?_ 0 _ rfl; (with_reducible repeat (first | refine blk_drewN ?_ _ | refine blk_drew ?_ | refine blk_alloc ?_ _)); exact BK247.out) hb); replace HB := Aside0.mk (below_step (bs2 HB GE232 GE247) hb); (try clear hb); (try clear hb2); (try clear hk); (try clear hi)))
    have n0_ := Aside0.mk (Kd.R_drew HO236.out)
    have n1_ := Aside0.mk (Kd.R_drew HO243.out)
    have n2_ := Aside0.mk (blk_drew BK232.out)
    have n3_ := Aside0.mk (blk_drew BK247.out)
    have n4_ := Aside0.mk (below_drew1 HB.out)
    clear HO236
    clear HO243
    clear BK232
    clear BK247
    clear HB
    have HO236 := n0_
    have HO243 := n1_
    have BK232 := n2_
    have BK247 := n3_
    have HB := n4_
    clear n0_ n1_ n2_ n3_ n4_
    refine start_ (n := 5) (S := fun w' => w'.cell? ⟨gb247, 0, none⟩ = some (.slice Ao57 t241.length co57) ∧ w'.cell? ⟨gb247, 1, none⟩ = some (.int .i64 t244) ∧ w'.cell? ⟨gb247, 2, none⟩ = some (.int .i64 t245) ∧ w'.cell? ⟨gb247, 3, none⟩ = some (.int .i64 t246) ∧ w'.cell? ⟨gb232, 0, none⟩ = some (.slice A0_0 l0_0.length c0_0) ∧ w'.cell? ⟨gb232, 1, none⟩ = some (.int .i64 a0_1) ∧ w'.cell? ⟨gb232, 2, none⟩ = some (.int .i64 a0_2) ∧ w'.cell? ⟨gb232, 3, none⟩ = some (.int .i64 a0_3)) (ds := []) #[false, false, false, false, false] (by kernel_rfl) rfl rfl ⟨(blk_cell BK247.out 0).trans rfl, (blk_cell BK247.out 1).trans rfl, (blk_cell BK247.out 2).trans rfl, (blk_cell BK247.out 3).trans rfl, (blk_cell BK232.out 0).trans rfl, (blk_cell BK232.out 1).trans rfl, (blk_cell BK232.out 2).trans rfl, (blk_cell BK232.out 3).trans rfl⟩ (fun hHeld => ?_)
    generalize w60.drew = w61 at HO236 HO243 BK232 BK247 HB hHeld ⊢
    refine take_ (i := 0) (N := some 22) (v := ?_) (a' := ?_) #[true, false, false, false, false] rfl rfl (by kernel_rfl) (fun _ _ _ h => h) (Or.inl ⟨by rfl, ?_⟩) hHeld ?_ ?_
    rotate_left
    ·
     rintro w' ⟨s0, s1, s2, s3, s4, s5, s6, s7⟩
     go_simp
     with_reducible rfl
    rotate_left
    ·
     simp only [Act.put, List.setIfInBounds_toArray, List.set_cons_zero, List.set_cons_succ, i64_w, i32_w]
     rfl
    refine take_ (i := 1) (N := some 23) (v := ?_) (a' := ?_) #[true, true, false, false, false] rfl rfl (by kernel_rfl) (fun _ _ _ h => h) (Or.inl ⟨by rfl, ?_⟩) hHeld ?_ ?_
    rotate_left
    ·
     rintro w' ⟨s0, s1, s2, s3, s4, s5, s6, s7⟩
     go_simp
     with_reducible rfl
    rotate_left
    ·
     simp only [Act.put, List.setIfInBounds_toArray, List.set_cons_zero, List.set_cons_succ, i64_w, i32_w]
     rfl
    refine one_ (i := 2) (N := some 24) #[true, true, true, false, false] rfl rfl (by kernel_rfl) (by decide) (fun K hK => ?_)
    refine goes_ Tryd.func19 (by kernel_rfl) rfl #[.agg #[.slice A0_0 l0_0.length c0_0, .int .i64 a0_1, .int .i64 a0_2, .int .i64 a0_3]] (by rfl) rfl rfl (by (try simp only [List.map_toArray, List.map_cons, List.map_nil]); first | done | rfl | (simp only [List.length_drop, List.length_take]; rfl)) ?_
    with_reducible refine (laws_toRing.calls k _ _ l0_0 a0_1 a0_2 a0_3 t249 t252 t253 t254 _ ?side1 ?side2 A26.out).mono ?_
    (case side1 => exact cb HR0_0 HB)
    (case side2 => exact HC0_0.out)
    rintro e w62 ⟨v250, rfl, ho0, hb⟩
    refine ⟨_, rfl, ?_⟩
    have n0_ := Aside0.mk (Kd.R_elder' (rr HO236.out) (Kd.R_base ho0) hb)
    have n1_ := Aside0.mk (Kd.R_elder' (rr HO243.out) (Kd.R_base ho0) hb)
    have n2_ := Aside0.mk (Kd.R_lower (Kd.R_new' (Kd.R_new' ho0 (Kd.R_lt (rr HO236.out))) (Kd.R_lt (rr HO243.out))) (below_size (bs2 HB GE232 GE247)))
    have n3_ := Aside0.mk (bb BK232 hb)
    have n4_ := Aside0.mk (bb BK247 hb)
    have n5_ := Aside0.mk (below_step (bs2 HB GE232 GE247) hb)
    clear HO236
    clear HO243
    clear BK232
    clear BK247
    clear HB
    have HO236 := n0_
    have HO243 := n1_
    have HO251 := n2_
    have BK232 := n3_
    have BK247 := n4_
    have HB := n5_
    clear n0_ n1_ n2_ n3_ n4_ n5_
    (try clear hb)
    (try clear hb2)
    (try clear hk)
    (try clear hi)
    (try clear ho0)
    obtain ⟨Ao63, co63, eo63⟩ := Kd.R_slice HO251.out
    (first | subst eo63 | (injection eo63 with f1_ f2_ f3_; have f4_ := f1_.symm; have f5_ := f3_.symm; clear f1_ f2_ f3_; subst f4_; subst f5_))
    refine hK.out _ _ ⟨(blk_cell BK247.out 0).trans rfl, (blk_cell BK247.out 1).trans rfl, (blk_cell BK247.out 2).trans rfl, (blk_cell BK247.out 3).trans rfl, (blk_cell BK232.out 0).trans rfl, (blk_cell BK232.out 1).trans rfl, (blk_cell BK232.out 2).trans rfl, (blk_cell BK232.out 3).trans rfl⟩ (fun hHeld => ?_)
    clear hK K
    refine norm_ (a' := ?_) ?_ ?_
    rotate_left
    ·
     show Act.put _ (some 24) _ = _
     simp only [Act.put, List.setIfInBounds_toArray, List.set_cons_zero, List.set_cons_succ, i64_w, i32_w]
     rfl
    refine one_ (i := 3) (N := some 25) #[true, true, true, true, false] rfl rfl (by kernel_rfl) (by decide) (fun K hK => ?_)
    refine goes_ Tryd.func21 (by kernel_rfl) rfl #[.agg #[.slice Ao57 t241.length co57, .int .i64 t244, .int .i64 t245, .int .i64 t246], .agg #[.slice Ao63 t249.length co63, .int .i64 t252, .int .i64 t253, .int .i64 t254]] (by rfl) rfl rfl (by (try simp only [List.map_toArray, List.map_cons, List.map_nil]); first | done | rfl | (simp only [List.length_drop, List.length_take]; rfl)) ?_
    with_reducible refine (laws_eqRing.calls k _ _ t241 t244 t245 t246 _ _ t249 t252 t253 t254 false _ ?side1 ?side2 ?side3 ?side4 A27.out).mono ?_
    (case side1 => exact rc0 HO243)
    (case side2 => exact (Kd.R_reads' HO243.out).2.1)
    (case side3 => exact rc0 HO251)
    (case side4 => exact (Kd.R_reads' HO251.out).2.1)
    rintro e w64 ⟨rfl, hb⟩
    refine ⟨_, rfl, ?_⟩
    have n0_ := Aside0.mk (Kd.R_below (rr HO236.out) hb)
    have n1_ := Aside0.mk (Kd.R_below (rr HO243.out) hb)
    have n2_ := Aside0.mk (Kd.R_below (rr HO251.out) hb)
    have n3_ := Aside0.mk (bb BK232 hb)
    have n4_ := Aside0.mk (bb BK247 hb)
    have n5_ := Aside0.mk (below_step (bs2 HB GE232 GE247) hb)
    clear HO236
    clear HO243
    clear HO251
    clear BK232
    clear BK247
    clear HB
    have HO236 := n0_
    have HO243 := n1_
    have HO251 := n2_
    have BK232 := n3_
    have BK247 := n4_
    have HB := n5_
    clear n0_ n1_ n2_ n3_ n4_ n5_
    (try clear hb)
    (try clear hb2)
    (try clear hk)
    (try clear hi)
    refine hK.out _ _ ⟨(blk_cell BK247.out 0).trans rfl, (blk_cell BK247.out 1).trans rfl, (blk_cell BK247.out 2).trans rfl, (blk_cell BK247.out 3).trans rfl, (blk_cell BK232.out 0).trans rfl, (blk_cell BK232.out 1).trans rfl, (blk_cell BK232.out 2).trans rfl, (blk_cell BK232.out 3).trans rfl⟩ (fun hHeld => ?_)
    clear hK K
    refine norm_ (a' := ?_) ?_ ?_
    rotate_left
    ·
     show Act.put _ (some 25) _ = _
     simp only [Act.put, List.setIfInBounds_toArray, List.set_cons_zero, List.set_cons_succ, i64_w, i32_w]
     rfl
    refine pure_ (i := 4) (N := some 26) (v := ?_) (a' := ?_) #[true, true, true, true, true] rfl rfl (by kernel_rfl) (fun _ _ _ h => h) (Or.inl ⟨by rfl, ?_⟩) ?_ ?_
    rotate_left
    ·
     intro w'
     go_simp
     with_reducible rfl
    rotate_left
    ·
     simp only [Act.put, List.setIfInBounds_toArray, List.set_cons_zero, List.set_cons_succ, i64_w, i32_w]
     rfl
    refine done_ (by kernel_rfl) ?_
    try go_wp2
    go_ret
    exact ⟨by first | rfl | (simp [errW_none, errW_some] <;> rfl) | (simp [*, errW_none, errW_some] <;> rfl), bs2 HB GE232 GE247⟩

/-- THE ONE PURE STATEMENT of laws_FnExactGoodRing. -/
def laws_FnExactGoodRing.Pure : Prop := ∀ (l0_0 : List (S23)) (a0_1 : Int) (a0_2 : Int) (a0_3 : Int), ok31 (⟨l0_0, a0_1, a0_2, a0_3⟩ : S31) → ∃ k, laws_FnExactGoodRing.f k l0_0 a0_1 a0_2 a0_3 = some true

end Go.Proofs.YthlifcbkpafofaaDoor.G
