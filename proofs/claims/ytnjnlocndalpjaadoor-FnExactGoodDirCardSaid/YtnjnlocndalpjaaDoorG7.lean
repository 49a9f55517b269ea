-- Printed by a program of this session (drive.py, by way of the kit's print). Not trusted: Lean checks it.
import Derived.Test.YtnjnlocndalpjaaDoorG0
import Derived.Test.YtnjnlocndalpjaaDoorG1
import Derived.Test.YtnjnlocndalpjaaDoorG2
import Derived.Test.YtnjnlocndalpjaaDoorG3
import Derived.Test.YtnjnlocndalpjaaDoorG4
import Derived.Test.YtnjnlocndalpjaaDoorG5
namespace Go.Proofs.YtnjnlocndalpjaaDoor.G
open Go.RowKit Go.Proofs.YtnjnlocndalpjaaDoorW.PrintWords Go.Proofs.YtnjnlocndalpjaaDoorW.PrintLast Go.Proofs.YtnjnlocndalpjaaDoorW.PrintMore
attribute [local go_sem] max2_int min2_int max_two min_two max_three min_three max_four min_four   -- for this text's walks alone
set_option linter.unusedVariables false
set_option linter.unusedSimpArgs false

/-! ### laws_FnExactGoodDir: function 3 -/
def laws_FnExactGoodDir.f (k : Nat) (a0_0 : Int) (l0_1 : List Int) (l0_2 : List (S62)) : Option (Bool) := (laws_szDir.f k a0_0 l0_1 l0_2 1048576).bind fun t230 => (if t230 < 0 then (some true) else ((laws_toDir.f k a0_0 l0_1 l0_2).bind fun bt231 => ((spec_GoodDir.f k bt231.1 bt231.2.1 bt231.2.2).bind fun t238 => ((laws_toDir.f k a0_0 l0_1 l0_2).bind fun bt239 => ((impl_GoodDir.f k bt239.1 bt239.2.1 bt239.2.2).bind fun t247 => (if (t247 != t238) = true then (some false) else ((laws_toDir.f k a0_0 l0_1 l0_2).bind fun bt248 => ((laws_eqDir.f k bt239.1 bt239.2.1 bt239.2.2 bt248.1 bt248.2.1 bt248.2.2).bind fun t255 => (if t255 = true then (some true) else (some false))))))))))
theorem laws_FnExactGoodDir.mono : ∀ a0 a1 a2 k, LeO (laws_FnExactGoodDir.f k a0 a1 a2) (laws_FnExactGoodDir.f (k + 1) a0 a1 a2) := by
 intro a0 a1 a2 k
 unfold laws_FnExactGoodDir.f
 repeat' first
   | (with_reducible exact impl_GoodDir.mono _ _ _ _)
   | (with_reducible exact laws_eqDir.mono _ _ _ _ _ _ _)
   | (with_reducible exact laws_szDir.mono _ _ _ _ _)
   | (with_reducible exact laws_toDir.mono _ _ _ _)
   | (with_reducible exact spec_GoodDir.mono _ _ _ _)
   | (with_reducible exact LeO.refl _)
   | (with_reducible exact LeO.none _)
   | (with_reducible refine LeO.ite ?_ ?_)
   | (with_reducible refine LeO.bind ?_ (fun _ => ?_))
   | exact impl_GoodDir.mono _ _ _ _
   | exact laws_eqDir.mono _ _ _ _ _ _ _
   | exact laws_szDir.mono _ _ _ _ _
   | exact laws_toDir.mono _ _ _ _
   | exact spec_GoodDir.mono _ _ _ _
   | exact LeO.none _
   | refine LeO.ite ?_ ?_
   | refine LeO.bind ?_ (fun _ => ?_)
set_option maxHeartbeats 8000000 in
set_option maxRecDepth 100000 in
theorem laws_FnExactGoodDir.calls (k : Nat) (a0_0 : Int) (A0_1 : Option Addr) (c0_1 : Nat) (l0_1 : List Int) (A0_2 : Option Addr) (c0_2 : Nat) (l0_2 : List (S62)) (r : Bool) (w : World) (hr0_1 : Kd.C (Kd.int .i64) w A0_1 l0_1.length l0_1) (hc0_1 : l0_1.length ≤ c0_1) (hr0_2 : Kd.C k62 w A0_2 l0_2.length l0_2) (hc0_2 : l0_2.length ≤ c0_2) (h : laws_FnExactGoodDir.f k a0_0 l0_1 l0_2 = some r) :
  Calls Tryd.prog 3 #[.agg #[.int .i64 a0_0, .slice A0_1 l0_1.length c0_1, .slice A0_2 l0_2.length c0_2]] w fun e w' => e = .returned (.bool r) ∧ Below w.heap.size w w' := by
 have hu25 := Tryd.underlying25
 have hu30 := Tryd.underlying30
 have HR0_1 := Aside0.mk hr0_1
 have HC0_1 := Aside0.mk hc0_1
 clear hr0_1 hc0_1
 have HR0_2 := Aside0.mk hr0_2
 have HC0_2 := Aside0.mk hc0_2
 clear hr0_2 hc0_2
 have HB := Aside0.mk (Below.refl w.heap.size w)
 have H : ((laws_szDir.f k a0_0 l0_1 l0_2 1048576).bind fun t230 => (if t230 < 0 then (some true) else ((laws_toDir.f k a0_0 l0_1 l0_2).bind fun bt231 => ((spec_GoodDir.f k bt231.1 bt231.2.1 bt231.2.2).bind fun t238 => ((laws_toDir.f k a0_0 l0_1 l0_2).bind fun bt239 => ((impl_GoodDir.f k bt239.1 bt239.2.1 bt239.2.2).bind fun t247 => (if (t247 != t238) = true then (some false) else ((laws_toDir.f k a0_0 l0_1 l0_2).bind fun bt248 => ((laws_eqDir.f k bt239.1 bt239.2.1 bt239.2.2 bt248.1 bt248.2.1 bt248.2.2).bind fun t255 => (if t255 = true then (some true) else (some false))))))))))) = some r := h
 clear h
 replace H := Option.bind_eq_some_iff.mp H
 obtain ⟨t230, A20, H⟩ := H
 replace H : (if t230 < 0 then (some true) else ((laws_toDir.f k a0_0 l0_1 l0_2).bind fun bt231 => ((spec_GoodDir.f k bt231.1 bt231.2.1 bt231.2.2).bind fun t238 => ((laws_toDir.f k a0_0 l0_1 l0_2).bind fun bt239 => ((impl_GoodDir.f k bt239.1 bt239.2.1 bt239.2.2).bind fun t247 => (if (t247 != t238) = true then (some false) else ((laws_toDir.f k a0_0 l0_1 l0_2).bind fun bt248 => ((laws_eqDir.f k bt239.1 bt239.2.1 bt239.2.2 bt248.1 bt248.2.1 bt248.2.2).bind fun t255 => (if t255 = true then (some true) else (some false)))))))))) = some r := H
 have A2 := Aside0.mk A20
 clear A20
 by_cases c3 : t230 < 0
 ·
  rw [if_pos c3] at H
  have c3b0 : decide (t230 < 0) = true := decide_eq_true c3
  clear c3
  obtain rfl := Option.some.inj H
  go_enter Tryd.func3, Tryd.ntmps3
  go_wp2_with (first | ((with_reducible refine gate_dst (N := 1) rfl ?_); refine box_event ?hg (N := 1) ?hd (cs := #[.int .i64 a0_0, .slice A0_1 l0_1.length c0_1, .slice A0_2 l0_2.length c0_2]) (t := 25) ?hr ?_; (case hd => rfl); (case hg => rfl); (case hr => first | (go_simp; done) | (go_simp; rfl)); intro gb229 hg w4 hbox hb; have BK229 := Aside0.mk (hbox); have GW229 := Aside0.mk ((by rw [hg]; exact (below_size (bs HB)) : w.heap.size ≤ gb229)); have GE229 := Aside0.mk ((by rw [hg]; exact (below_size (bs HB)) : w.heap.size ≤ gb229)); replace HB := Aside0.mk (below_step (bs HB) hb); clear hb hbox hg; obtain ⟨hcz5_0, hcz5_1, hcz5_2⟩ := cz3 BK229; obtain ⟨hfz5_0, hfz5_1, hfz5_2⟩ := fz3 BK229) | ((with_reducible refine gate_callee (f := 6) rfl ?_); refine gL (some 9) rfl rfl Tryd.func6 (by kernel_rfl) rfl #[.agg #[.int .i64 a0_0, .slice A0_1 l0_1.length c0_1, .slice A0_2 l0_2.length c0_2], .int .i64 1048576] rfl ?_; (with_reducible refine (laws_szDir.calls k a0_0 _ _ l0_1 _ _ l0_2 1048576 t230 _ ?side1 ?side2 ?side3 ?side4 A2.out).mono ?_); (case side1 => exact cb HR0_1 HB); (case side2 => exact HC0_1.out); (case side3 => exact cb HR0_2 HB); (case side4 => exact HC0_2.out); rintro e w6 ⟨rfl, hb⟩; refine ⟨_, rfl, ?_⟩; replace BK229 := nb BK229 hb; replace HB := Aside0.mk (below_step (bs1 HB GE229) hb); (try clear hb); (try clear hb2); (try clear hk); (try clear hi)))
  go_ret
  exact ⟨by first | rfl | (simp [errW_none, errW_some] <;> rfl) | (simp [*, errW_none, errW_some] <;> rfl), bs1 HB GE229⟩
 ·
  rw [if_neg c3] at H
  have c3b0 : decide (t230 < 0) = false := decide_eq_false c3
  clear c3
  replace H := Option.bind_eq_some_iff.mp H
  obtain ⟨⟨t231, t232, t235⟩, A70, H⟩ := H
  replace H : ((spec_GoodDir.f k t231 t232 t235).bind fun t238 => ((laws_toDir.f k a0_0 l0_1 l0_2).bind fun bt239 => ((impl_GoodDir.f k bt239.1 bt239.2.1 bt239.2.2).bind fun t247 => (if (t247 != t238) = true then (some false) else ((laws_toDir.f k a0_0 l0_1 l0_2).bind fun bt248 => ((laws_eqDir.f k bt239.1 bt239.2.1 bt239.2.2 bt248.1 bt248.2.1 bt248.2.2).bind fun t255 => (if t255 = true then (some true) else (some false)))))))) = some r := H
  have A7 := Aside0.mk A70
  clear A70
  replace H := Option.bind_eq_some_iff.mp H
  obtain ⟨t238, A80, H⟩ := H
  replace H : ((laws_toDir.f k a0_0 l0_1 l0_2).bind fun bt239 => ((impl_GoodDir.f k bt239.1 bt239.2.1 bt239.2.2).bind fun t247 => (if (t247 != t238) = true then (some false) else ((laws_toDir.f k a0_0 l0_1 l0_2).bind fun bt248 => ((laws_eqDir.f k bt239.1 bt239.2.1 bt239.2.2 bt248.1 bt248.2.1 bt248.2.2).bind fun t255 => (if t255 = true then (some true) else (some false))))))) = some r := H
  have A8 := Aside0.mk A80
  clear A80
  replace H := Option.bind_eq_some_iff.mp H
  obtain ⟨⟨t239, t240, t243⟩, A90, H⟩ := H
  replace H : ((impl_GoodDir.f k t239 t240 t243).bind fun t247 => (if (t247 != t238) = true then (some false) else ((laws_toDir.f k a0_0 l0_1 l0_2).bind fun bt248 => ((laws_eqDir.f k t239 t240 t243 bt248.1 bt248.2.1 bt248.2.2).bind fun t255 => (if t255 = true then (some true) else (some false)))))) = some r := H
  have A9 := Aside0.mk A90
  clear A90
  replace H := Option.bind_eq_some_iff.mp H
  obtain ⟨t247, A100, H⟩ := H
  replace H : (if (t247 != t238) = true then (some false) else ((laws_toDir.f k a0_0 l0_1 l0_2).bind fun bt248 => ((laws_eqDir.f k t239 t240 t243 bt248.1 bt248.2.1 bt248.2.2).bind fun t255 => (if t255 = true then (some true) else (some false))))) = some r := H
  have A10 := Aside0.mk A100
  clear A100
  by_cases c11 : (t247 != t238) = true
  ·
   rw [if_pos c11] at H
   have c11b0 : (t247 != t238) = true := c11
   (try (have c11b1 : decide (t247 = t238) = false := by simpa using c11))
   (try (have c11b2 : (t247 == t238) = false := by simpa using c11))
   (try (have c11b3 : ¬ (t247 = t238) := by simpa using c11))
   clear c11
   obtain rfl := Option.some.inj H
   go_enter Tryd.func3, Tryd.ntmps3
   go_wp2_with (first | ((with_reducible refine gate_dst (N := 1) rfl ?_); refine box_event ?hg (N := 1) ?hd (cs := #[.int .i64 a0_0, .slice A0_1 l0_1.length c0_1, .slice A0_2 l0_2.length c0_2]) (t := 25) ?hr ?_; (case hd => rfl); (case hg => rfl); (case hr => first | (go_simp; done) | (go_simp; rfl)); intro gb229 hg w12 hbox hb; have BK229 := Aside0.mk (hbox); have GW229 := Aside0.mk ((by rw [hg]; exact (below_size (bs HB)) : w.heap.size ≤ gb229)); have GE229 := Aside0.mk ((by rw [hg]; exact (below_size (bs HB)) : w.heap.size ≤ gb229)); replace HB := Aside0.mk (below_step (bs HB) hb); clear hb hbox hg; obtain ⟨hcz13_0, hcz13_1, hcz13_2⟩ := cz3 BK229; obtain ⟨hfz13_0, hfz13_1, hfz13_2⟩ := fz3 BK229) | ((with_reducible refine gate_callee (f := 6) rfl ?_); refine gL (some 9) rfl rfl Tryd.func6 (by kernel_rfl) rfl #[.agg #[.int .i64 a0_0, .slice A0_1 l0_1.length c0_1, .slice A0_2 l0_2.length c0_2], .int .i64 1048576] rfl ?_; (with_reducible refine (laws_szDir.calls k a0_0 _ _ l0_1 _ _ l0_2 1048576 t230 _ ?side1 ?side2 ?side3 ?side4 A2.out).mono ?_); (case side1 => exact cb HR0_1 HB); (case side2 => exact HC0_1.out); (case side3 => exact cb HR0_2 HB); (case side4 => exact HC0_2.out); rintro e w14 ⟨rfl, hb⟩; refine ⟨_, rfl, ?_⟩; replace BK229 := nb BK229 hb; replace HB := Aside0.mk (below_step (bs1 HB GE229) hb); (try clear hb); (try clear hb2); (try clear hk); (try clear hi); obtain ⟨hcz15_0, hcz15_1, hcz15_2⟩ := cz3 BK229; obtain ⟨hfz15_0, hfz15_1, hfz15_2⟩ := fz3 BK229) | ((with_reducible refine gate_callee (f := 8) rfl ?_); refine gL (some 13) rfl rfl Tryd.func8 (by kernel_rfl) rfl #[.agg #[.int .i64 a0_0, .slice A0_1 l0_1.length c0_1, .slice A0_2 l0_2.length c0_2]] rfl ?_; (with_reducible refine (laws_toDir.calls k a0_0 _ _ l0_1 _ _ l0_2 t231 t232 t235 _ ?side1 ?side2 ?side3 ?side4 A7.out).mono ?_); (case side1 => exact cb HR0_1 HB); (case side2 => exact HC0_1.out); (case side3 => exact cb HR0_2 HB); (case side4 => exact HC0_2.out); rintro e w16 ⟨v233, v236, rfl, ho0, ho1, hb⟩; refine ⟨_, rfl, ?_⟩; have HO234 := Aside0.mk (Kd.R_lower ho0 (below_size (bs1 HB GE229))); have HO237 := Aside0.mk (Kd.S_lower ho1 (below_size (bs1 HB GE229))); replace BK229 := nb BK229 hb; replace HB := Aside0.mk (below_step (bs1 HB GE229) hb); (try clear hb); (try clear hb2); (try clear hk); (try clear hi); (try clear ho0); (try clear ho1); obtain ⟨Ao17, co17, eo17⟩ := Kd.R_slice HO234.out; subst eo17; obtain ⟨Ao18, co18, eo18⟩ := Kd.S_slice HO237.out; subst eo18) | ((with_reducible refine gate_callee (f := 7) rfl ?_); refine gL (some 14) rfl rfl Tryd.func7 (by kernel_rfl) rfl #[.agg #[.int .i64 t231, .slice Ao17 t232.length co17, .slice Ao18 t235.length co18]] rfl ?_; (with_reducible refine (spec_GoodDir.calls k t231 _ _ t232 _ _ t235 t238 _ ?side1 ?side2 ?side3 ?side4 A8.out).mono ?_); (case side1 => exact rc0 HO234); (case side2 => exact (Kd.R_reads' HO234.out).2.1); (case side3 => repeat (first | exact (Kd.S_reads' HO237.out).2.2 | (with_reducible refine Kd.C_alloc ?_ _) | (with_reducible refine Kd.C_drewN ?_ _) | (with_reducible refine Kd.C_drew ?_))); (case side4 => exact (Kd.S_reads' HO237.out).2.1); rintro e w19 ⟨rfl, hb⟩; refine ⟨_, rfl, ?_⟩; replace HO234 := nr HO234 hb; replace HO237 := Aside0.mk (Kd.S_below (by (with_reducible repeat (first | apply Kd.S_alloc | apply Kd.S_drewN | apply Kd.S_drew)); exact HO237.out) hb); replace BK229 := nb BK229 hb; replace HB := Aside0.mk (below_step (bs1 HB GE229) hb); (try clear hb); (try clear hb2); (try clear hk); (try clear hi); obtain ⟨hcz20_0, hcz20_1, hcz20_2⟩ := cz3 BK229; obtain ⟨hfz20_0, hfz20_1, hfz20_2⟩ := fz3 BK229) | ((with_reducible refine gate_callee (f := 8) rfl ?_); refine gL (some 16) rfl rfl Tryd.func8 (by kernel_rfl) rfl #[.agg #[.int .i64 a0_0, .slice A0_1 l0_1.length c0_1, .slice A0_2 l0_2.length c0_2]] rfl ?_; (with_reducible refine (laws_toDir.calls k a0_0 _ _ l0_1 _ _ l0_2 t239 t240 t243 _ ?side1 ?side2 ?side3 ?side4 A9.out).mono ?_); (case side1 => exact cb HR0_1 HB); (case side2 => exact HC0_1.out); (case side3 => exact cb HR0_2 HB); (case side4 => exact HC0_2.out); rintro e w21 ⟨v241, v244, rfl, ho0, ho1, hb⟩; refine ⟨_, rfl, ?_⟩; have HO242 := Aside0.mk (Kd.R_lower (Kd.R_new' ho0 (Kd.R_lt (rr HO234.out))) (below_size (bs1 HB GE229))); replace HO234 := Aside0.mk (Kd.R_elder' (rr HO234.out) (Kd.R_base ho0) hb); have HO245 := Aside0.mk (Kd.S_lower (Kd.S_new' ho1 (Kd.S_lt (by (with_reducible repeat (first | apply Kd.S_alloc | apply Kd.S_drewN | apply Kd.S_drew)); exact HO237.out))) (below_size (bs1 HB GE229))); replace HO237 := Aside0.mk (Kd.S_elder' (by (with_reducible repeat (first | apply Kd.S_alloc | apply Kd.S_drewN | apply Kd.S_drew)); exact HO237.out) (Kd.S_base ho1) hb); replace BK229 := nb BK229 hb; replace HB := Aside0.mk (below_step (bs1 HB GE229) hb); (try clear hb); (try clear hb2); (try clear hk); (try clear hi); (try clear ho0); (try clear ho1)) | ((with_reducible refine gate_dst (N := 5) rfl ?_); refine box_event ?hg (N := 5) ?hd (cs := #[.int .i64 0, .slice none 0 0, .slice none 0 0]) (t := 30) ?hr ?_; (case hd => rfl); (case hg => rfl); (case hr => first | (go_simp; done) | (go_simp; rfl)); intro gb246 hg w22 hbox hb; replace HO234 := nr HO234 hb; replace HO237 := Aside0.mk (Kd.S_below (by (with_reducible repeat (first | apply Kd.S_alloc | apply Kd.S_drewN | apply Kd.S_drew)); exact HO237.out) hb); replace HO242 := nr HO242 hb; replace HO245 := Aside0.mk (Kd.S_below (by (with_reducible repeat (first | apply Kd.S_alloc | apply Kd.S_drewN | apply Kd.S_drew)); exact HO245.out) hb); have BK246 := Aside0.mk (hbox); have GW246 := Aside0.mk ((by rw [hg]; exact (below_size (bs1 HB GE229)) : w.heap.size ≤ gb246)); have GE246 := Aside0.mk ((by rw [hg]; exact (below_size (bs1 HB GE229)) : w.heap.size ≤ gb246)); replace HB := Aside0.mk (below_step (bs1 HB GE229) hb); have NB229_246 := Aside0.mk ((bn BK229 hg : gb229 ≠ gb246)); have NB246_229 := Aside0.mk ((bm BK229 hg : gb246 ≠ gb229)); replace BK229 := nb BK229 hb; clear hb hbox hg; have hnb23 := NB246_229.out; have hnc23 := NB229_246.out; obtain ⟨hcz24_0, hcz24_1, hcz24_2⟩ := cz3 BK246; obtain ⟨hfz24_0, hfz24_1, hfz24_2⟩ := fz3 BK246; obtain ⟨Ao25, co25, eo25⟩ := Kd.R_slice HO242.out; subst eo25; obtain ⟨Ao26, co26, eo26⟩ := Kd.S_slice HO245.out; subst eo26) | ((with_reducible refine gate_callee (f := 9) rfl ?_); refine gL (some 18) rfl rfl Tryd.func9 (by kernel_rfl) rfl #[.agg #[.int .i64 t239, .slice Ao25 t240.length co25, .slice Ao26 t243.length co26]] rfl ?_; (with_reducible refine (impl_GoodDir.calls k t239 _ _ t240 _ _ t243 t247 _ ?side1 ?side2 ?side3 ?side4 A10.out).mono ?_); (case side1 => exact rc HO242 BK246); (case side2 => exact (Kd.R_reads' HO242.out).2.1); (case side3 => refine (Kd.S_reads' (e := 43) (base := w.heap.size) (ok := fun k_ => (True ∧ some k_ ≠ (.slice Ao18 t235.length co18 : Value).ownBlock)) (n := t243.length) (c := co26) ?_).2.2; exact (by (with_reducible repeat (first | apply Kd.S_alloc | apply Kd.S_drewN | apply Kd.S_drew)); exact (Kd.S_mono (Kd.S_far (p := ⟨gb246, 2, none⟩) (Kd.S_far (p := ⟨gb246, 1, none⟩) (Kd.S_far (p := ⟨gb246, 0, none⟩) (Kd.S_types HO245.out BK246.out (by decide)) (fun _ hk => hk.2) (.int .i64 t239)) (fun _ hk => hk.2) (.slice Ao25 t240.length co25)) (fun _ hk => hk.2) (.slice Ao26 t243.length co26)) (fun _ h_ => h_.1)))); (case side4 => exact (Kd.S_reads' HO245.out).2.1); rintro e w27 ⟨rfl, hb⟩; refine ⟨_, rfl, ?_⟩; replace HO234 := nf HO234 BK246 hb; replace HO237 := Aside0.mk (Kd.S_below (by (with_reducible repeat (first | apply Kd.S_alloc | apply Kd.S_drewN | apply Kd.S_drew)); exact (Kd.S_mono (Kd.S_far (p := ⟨gb246, 2, none⟩) (Kd.S_far (p := ⟨gb246, 1, none⟩) (Kd.S_far (p := ⟨gb246, 0, none⟩) (Kd.S_types HO237.out BK246.out (by decide)) (fun _ hk => hk.2) (.int .i64 t239)) (fun _ hk => hk.2) (.slice Ao25 t240.length co25)) (fun _ hk => hk.2) (.slice Ao26 t243.length co26)) (fun _ h_ => h_.1))) hb); replace HO242 := nf HO242 BK246 hb; replace HO245 := Aside0.mk (Kd.S_below (by (with_reducible repeat (first | apply Kd.S_alloc | apply Kd.S_drewN | apply Kd.S_drew)); exact (Kd.S_mono (Kd.S_far (p := ⟨gb246, 2, none⟩) (Kd.S_far (p := ⟨gb246, 1, none⟩) (Kd.S_far (p := ⟨gb246, 0, none⟩) (Kd.S_types HO245.out BK246.out (by decide)) (fun _ hk => hk.2) (.int .i64 t239)) (fun _ hk => hk.2) (.slice Ao25 t240.length co25)) (fun _ hk => hk.2) (.slice Ao26 t243.length co26)) (fun _ h_ => h_.1))) hb); replace BK229 := Aside0.mk (blk_below (bf BK229 NB229_246) hb); replace BK246 := Aside0.mk (blk_below (g := gb246) (o := .cells #[.int .i64 t239, .slice Ao25 t240.length co25, .slice Ao26 t243.length co26] 30 (0, 0)) (by (with_reducible repeat (first | refine blk_drewN ?_ _ | refine blk_drew ?_ | refine blk_alloc ?_ _)); refine blk_put (cs := #[.int .i64 t239, .slice Ao25 t240.length co25, .slice none 0 0]) ?_ 2 _ rfl; (with_reducible repeat (first | refine blk_drewN ?_ _ | refine blk_drew ?_ | refine blk_alloc ?_ _)); refine blk_put (cs := #[.int .i64 t239, .slice none 0 0, .slice none 0 0]) ?_ 1 _ rfl; (with_reducible repeat (first | refine blk_drewN ?_ _ | refine blk_drew ?_ | refine blk_alloc ?_ _)); refine blk_put (cs := #[.int .i64 0, .slice none 0 0, .slice none 0 0]) ?_ 0 _ rfl; (with_reducible repeat (first | refine blk_drewN ?_ _ | refine blk_drew ?_ | refine blk_alloc ?_ _)); exact BK246.out) hb); replace HB := Aside0.mk (below_step (bs2 HB GE229 GE246) hb); (try clear hb); (try clear hb2); (try clear hk); (try clear hi)))
   go_ret
   exact ⟨by first | rfl | (simp [errW_none, errW_some] <;> rfl) | (simp [*, errW_none, errW_some] <;> rfl), bs2 HB GE229 GE246⟩
  ·
   rw [if_neg c11] at H
   have c11b0 : (t247 != t238) = false := by simpa using c11
   (try (have c11b1 : decide (t247 = t238) = true := by simpa using c11))
   (try (have c11b2 : (t247 == t238) = true := by simpa using c11))
   clear c11
   replace H := Option.bind_eq_some_iff.mp H
   obtain ⟨⟨t248, t249, t252⟩, A280, H⟩ := H
   replace H : ((laws_eqDir.f k t239 t240 t243 t248 t249 t252).bind fun t255 => (if t255 = true then (some true) else (some false))) = some r := H
   have A28 := Aside0.mk A280
   clear A280
   replace H := Option.bind_eq_some_iff.mp H
   obtain ⟨t255, A290, H⟩ := H
   replace H : (if t255 = true then (some true) else (some false)) = some r := H
   have A29 := Aside0.mk A290
   clear A290
   by_cases c30 : t255 = true
   ·
    subst c30
    rw [if_pos rfl] at H
    obtain rfl := Option.some.inj H
    go_enter Tryd.func3, Tryd.ntmps3
    try go_wp2_with (first | ((with_reducible refine gate_dst (N := 1) rfl ?_); refine box_event ?hg (N := 1) ?hd (cs := #[.int .i64 a0_0, .slice A0_1 l0_1.length c0_1, .slice A0_2 l0_2.length c0_2]) (t := 25) ?hr ?_; (case hd => rfl); (case hg => rfl); (case hr => first | (go_simp; done) | (go_simp; rfl)); intro gb229 hg w31 hbox hb; have BK229 := Aside0.mk (hbox); have GW229 := Aside0.mk ((by rw [hg]; exact (below_size (bs HB)) : w.heap.size ≤ gb229)); have GE229 := Aside0.mk ((by rw [hg]; exact (below_size (bs HB)) : w.heap.size ≤ gb229)); replace HB := Aside0.mk (below_step (bs HB) hb); clear hb hbox hg; obtain ⟨hcz32_0, hcz32_1, hcz32_2⟩ := cz3 BK229; obtain ⟨hfz32_0, hfz32_1, hfz32_2⟩ := fz3 BK229) | ((with_reducible refine gate_callee (f := 6) rfl ?_); refine gL (some 9) rfl rfl Tryd.func6 (by kernel_rfl) rfl #[.agg #[.int .i64 a0_0, .slice A0_1 l0_1.length c0_1, .slice A0_2 l0_2.length c0_2], .int .i64 1048576] rfl ?_; (with_reducible refine (laws_szDir.calls k a0_0 _ _ l0_1 _ _ l0_2 1048576 t230 _ ?side1 ?side2 ?side3 ?side4 A2.out).mono ?_); (case side1 => exact cb HR0_1 HB); (case side2 => exact HC0_1.out); (case side3 => exact cb HR0_2 HB); (case side4 => exact HC0_2.out); rintro e w33 ⟨rfl, hb⟩; refine ⟨_, rfl, ?_⟩; replace BK229 := nb BK229 hb; replace HB := Aside0.mk (below_step (bs1 HB GE229) hb); (try clear hb); (try clear hb2); (try clear hk); (try clear hi); obtain ⟨hcz34_0, hcz34_1, hcz34_2⟩ := cz3 BK229; obtain ⟨hfz34_0, hfz34_1, hfz34_2⟩ := fz3 BK229) | ((with_reducible refine gate_callee (f := 8) rfl ?_); refine gL (some 13) rfl rfl Tryd.func8 (by kernel_rfl) rfl #[.agg #[.int .i64 a0_0, .slice A0_1 l0_1.length c0_1, .slice A0_2 l0_2.length c0_2]] rfl ?_; (with_reducible refine (laws_toDir.calls k a0_0 _ _ l0_1 _ _ l0_2 t231 t232 t235 _ ?side1 ?side2 ?side3 ?side4 A7.out).mono ?_); (case side1 => exact cb HR0_1 HB); (case side2 => exact HC0_1.out); (case side3 => exact cb HR0_2 HB); (case side4 => exact HC0_2.out); rintro e w35 ⟨v233, v236, rfl, ho0, ho1, hb⟩; refine ⟨_, rfl, ?_⟩; have HO234 := Aside0.mk (Kd.R_lower ho0 (below_size (bs1 HB GE229))); have HO237 := Aside0.mk (Kd.S_lower ho1 (below_size (bs1 HB GE229))); replace BK229 := nb BK229 hb; replace HB := Aside0.mk (below_step (bs1 HB GE229) hb); (try clear hb); (try clear hb2); (try clear hk); (try clear hi); (try clear ho0); (try clear ho1); obtain ⟨Ao36, co36, eo36⟩ := Kd.R_slice HO234.out; subst eo36; obtain ⟨Ao37, co37, eo37⟩ := Kd.S_slice HO237.out; subst eo37) | ((with_reducible refine gate_callee (f := 7) rfl ?_); refine gL (some 14) rfl rfl Tryd.func7 (by kernel_rfl) rfl #[.agg #[.int .i64 t231, .slice Ao36 t232.length co36, .slice Ao37 t235.length co37]] rfl ?_; (with_reducible refine (spec_GoodDir.calls k t231 _ _ t232 _ _ t235 t238 _ ?side1 ?side2 ?side3 ?side4 A8.out).mono ?_); (case side1 => exact rc0 HO234); (case side2 => exact (Kd.R_reads' HO234.out).2.1); (case side3 => repeat (first | exact (Kd.S_reads' HO237.out).2.2 | (with_reducible refine Kd.C_alloc ?_ _) | (with_reducible refine Kd.C_drewN ?_ _) | (with_reducible refine Kd.C_drew ?_))); (case side4 => exact (Kd.S_reads' HO237.out).2.1); rintro e w38 ⟨rfl, hb⟩; refine ⟨_, rfl, ?_⟩; replace HO234 := nr HO234 hb; replace HO237 := Aside0.mk (Kd.S_below (by (with_reducible repeat (first | apply Kd.S_alloc | apply Kd.S_drewN | apply Kd.S_drew)); exact HO237.out) hb); replace BK229 := nb BK229 hb; replace HB := Aside0.mk (below_step (bs1 HB GE229) hb); (try clear hb); (try clear hb2); (try clear hk); (try clear hi); obtain ⟨hcz39_0, hcz39_1, hcz39_2⟩ := cz3 BK229; obtain ⟨hfz39_0, hfz39_1, hfz39_2⟩ := fz3 BK229) | ((with_reducible refine gate_callee (f := 8) rfl ?_); refine gL (some 16) rfl rfl Tryd.func8 (by kernel_rfl) rfl #[.agg #[.int .i64 a0_0, .slice A0_1 l0_1.length c0_1, .slice A0_2 l0_2.length c0_2]] rfl ?_; (with_reducible refine (laws_toDir.calls k a0_0 _ _ l0_1 _ _ l0_2 t239 t240 t243 _ ?side1 ?side2 ?side3 ?side4 A9.out).mono ?_); (case side1 => exact cb HR0_1 HB); (case side2 => exact HC0_1.out); (case side3 => exact cb HR0_2 HB); (case side4 => exact HC0_2.out); rintro e w40 ⟨v241, v244, rfl, ho0, ho1, hb⟩; refine ⟨_, rfl, ?_⟩; have HO242 := Aside0.mk (Kd.R_lower (Kd.R_new' ho0 (Kd.R_lt (rr HO234.out))) (below_size (bs1 HB GE229))); replace HO234 := Aside0.mk (Kd.R_elder' (rr HO234.out) (Kd.R_base ho0) hb); have HO245 := Aside0.mk (Kd.S_lower (Kd.S_new' ho1 (Kd.S_lt (by (with_reducible repeat (first | apply Kd.S_alloc | apply Kd.S_drewN | apply Kd.S_drew)); exact HO237.out))) (below_size (bs1 HB GE229))); replace HO237 := Aside0.mk (Kd.S_elder' (by (with_reducible repeat (first | apply Kd.S_alloc | apply Kd.S_drewN | apply Kd.S_drew)); exact HO237.out) (Kd.S_base ho1) hb); replace BK229 := nb BK229 hb; replace HB := Aside0.mk (below_step (bs1 HB GE229) hb); (try clear hb); (try clear hb2); (try clear hk); (try clear hi); (try clear ho0); (try clear ho1)) | ((with_reducible refine gate_dst (N := 5) rfl ?_); refine box_event ?hg (N := 5) ?hd (cs := #[.int .i64 0, .slice none 0 0, .slice none 0 0]) (t := 30) ?hr ?_; (case hd => rfl); (case hg => rfl); (case hr => first | (go_simp; done) | (go_simp; rfl)); intro gb246 hg w41 hbox hb; replace HO234 := nr HO234 hb; replace HO237 := Aside0.mk (Kd.S_below (by (with_reducible repeat (first | apply Kd.S_alloc | apply Kd.S_drewN | apply Kd.S_drew)); exact HO237.out) hb); replace HO242 := nr HO242 hb; replace HO245 := Aside0.mk (Kd.S_below (by (with_reducible repeat (first | apply Kd.S_alloc | apply Kd.S_drewN | apply Kd.S_drew)); exact HO245.out) hb); have BK246 := Aside0.mk (hbox); have GW246 := Aside0.mk ((by rw [hg]; exact (below_size (bs1 HB GE229)) : w.heap.size ≤ gb246)); have GE246 := Aside0.mk ((by rw [hg]; exact (below_size (bs1 HB GE229)) : w.heap.size ≤ gb246)); replace HB := Aside0.mk (below_step (bs1 HB GE229) hb); have NB229_246 := Aside0.mk ((bn BK229 hg : gb229 ≠ gb246)); have NB246_229 := Aside0.mk ((bm BK229 hg : gb246 ≠ gb229)); replace BK229 := nb BK229 hb; clear hb hbox hg; have hnb42 := NB246_229.out; have hnc42 := NB229_246.out; obtain ⟨hcz43_0, hcz43_1, hcz43_2⟩ := cz3 BK246; obtain ⟨hfz43_0, hfz43_1, hfz43_2⟩ := fz3 BK246; obtain ⟨Ao44, co44, eo44⟩ := Kd.R_slice HO242.out; subst eo44; obtain ⟨Ao45, co45, eo45⟩ := Kd.S_slice HO245.out; subst eo45) | ((with_reducible refine gate_callee (f := 9) rfl ?_); refine gL (some 18) rfl rfl Tryd.func9 (by kernel_rfl) rfl #[.agg #[.int .i64 t239, .slice Ao44 t240.length co44, .slice Ao45 t243.length co45]] rfl ?_; (with_reducible refine (impl_GoodDir.calls k t239 _ _ t240 _ _ t243 t247 _ ?side1 ?side2 ?side3 ?side4 A10.out).mono ?_); (case side1 => exact rc HO242 BK246); (case side2 => exact (Kd.R_reads' HO242.out).2.1); (case side3 => refine (Kd.S_reads' (e := 43) (base := w.heap.size) (ok := fun k_ => (True ∧ some k_ ≠ (.slice Ao37 t235.length co37 : Value).ownBlock)) (n := t243.length) (c := co45) ?_).2.2; exact (by (with_reducible repeat (first | apply Kd.S_alloc | apply Kd.S_drewN | apply Kd.S_drew)); exact (Kd.S_mono (Kd.S_far (p := ⟨gb246, 2, none⟩) (Kd.S_far (p := ⟨gb246, 1, none⟩) (Kd.S_far (p := ⟨gb246, 0, none⟩) (Kd.S_types HO245.out BK246.out (by decide)) (fun _ hk => hk.2) (.int .i64 t239)) (fun _ hk => hk.2) (.slice Ao44 t240.length co44)) (fun _ hk => hk.2) (.slice Ao45 t243.length co45)) (fun _ h_ => h_.1)))); (case side4 => exact (Kd.S_reads' HO245.out).2.1); rintro e w46 ⟨rfl, hb⟩; refine ⟨_, rfl, ?_⟩; replace HO234 := nf HO234 BK246 hb; replace HO237 := Aside0.mk (Kd.S_below (by (with_reducible repeat (first | apply Kd.S_alloc | apply Kd.S_drewN | apply Kd.S_drew)); exact (Kd.S_mono (Kd.S_far (p := ⟨gb246, 2, none⟩) (Kd.S_far (p := ⟨gb246, 1, none⟩) (Kd.S_far (p := ⟨gb246, 0, none⟩) (Kd.S_types HO237.out BK246.out (by decide)) (fun _ hk => hk.2) (.int .i64 t239)) (fun _ hk => hk.2) (.slice Ao44 t240.length co44)) (fun _ hk => hk.2) (.slice Ao45 t243.length co45)) (fun _ h_ => h_.1))) hb); replace HO242 := nf HO242 BK246 hb; replace HO245 := Aside0.mk (Kd.S_below (by (with_reducible repeat (first | apply Kd.S_alloc | apply Kd.S_drewN | apply Kd.S_drew)); exact (Kd.S_mono (Kd.S_far (p := ⟨gb246, 2, none⟩) (Kd.S_far (p := ⟨gb246, 1, none⟩) (Kd.S_far (p := ⟨gb246, 0, none⟩) (Kd.S_types HO245.out BK246.out (by decide)) (fun _ hk => hk.2) (.int .i64 t239)) (fun _ hk => hk.2) (.slice Ao44 t240.length co44)) (fun _ hk => hk.2) (.slice Ao45 t243.length co45)) (fun _ h_ => h_.1))) hb); replace BK229 := Aside0.mk (blk_below (bf BK229 NB229_246) hb); replace BK246 := Aside0.mk (blk_below (g := gb246) (o := .cells #[.int .i64 t239, .slice Ao44 t240.length co44, .slice Ao45 t243.length co45] 30 (0, 0)) (by (with_reducible repeat (first | refine blk_drewN ?_ _ | refine blk_drew ?_ | refine blk_alloc ?_ _)); refine blk_put (cs := #[.int .i64 t239, .slice Ao44 t240.length co44, .slice none 0 0]) ?_ 2 _ rfl; (with_reducible repeat (first | refine blk_drewN ?_ _ | refine blk_drew ?_ | refine blk_alloc ?_ _)); refine blk_put (cs := #[.int .i64 t239, .slice none 0 0, .slice none 0 0]) ?_ 1 _ rfl; (with_reducible repeat (first | refine blk_drewN ?_ _ | refine blk_drew ?_ | refine blk_alloc ?_ _)); refine blk_put (cs := #[.int .i64 0, .slice none 0 0, .slice none 0 0]) ?_ 0 _ rfl; (with_reducible repeat (first | refine blk_drewN ?_ _ | refine blk_drew ?_ | refine blk_alloc ?_ _)); exact BK246.out) hb); replace HB := Aside0.mk (below_step (bs2 HB GE229 GE246) hb); (try clear hb); (try clear hb2); (try clear hk); (try clear hi)))
    have n0_ := Aside0.mk (Kd.R_drew HO234.out)
    have n1_ := Aside0.mk (Kd.S_drew HO237.out)
    have n2_ := Aside0.mk (Kd.R_drew HO242.out)
    have n3_ := Aside0.mk (Kd.S_drew HO245.out)
    have n4_ := Aside0.mk (blk_drew BK229.out)
    have n5_ := Aside0.mk (blk_drew BK246.out)
    have n6_ := Aside0.mk (below_drew1 HB.out)
    clear HO234
    clear HO237
    clear HO242
    clear HO245
    clear BK229
    clear BK246
    clear HB
    have HO234 := n0_
    have HO237 := n1_
    have HO242 := n2_
    have HO245 := n3_
    have BK229 := n4_
    have BK246 := n5_
    have HB := n6_
    clear n0_ n1_ n2_ n3_ n4_ n5_ n6_
    refine start_ (n := 5) (S := fun w' => w'.cell? ⟨gb246, 0, none⟩ = some (.int .i64 t239) ∧ w'.cell? ⟨gb246, 1, none⟩ = some (.slice Ao44 t240.length co44) ∧ w'.cell? ⟨gb246, 2, none⟩ = some (.slice Ao45 t243.length co45) ∧ w'.cell? ⟨gb229, 0, none⟩ = some (.int .i64 a0_0) ∧ w'.cell? ⟨gb229, 1, none⟩ = some (.slice A0_1 l0_1.length c0_1) ∧ w'.cell? ⟨gb229, 2, none⟩ = some (.slice A0_2 l0_2.length c0_2)) (ds := []) #[false, false, false, false, false] (by kernel_rfl) rfl rfl ⟨(blk_cell BK246.out 0).trans rfl, (blk_cell BK246.out 1).trans rfl, (blk_cell BK246.out 2).trans rfl, (blk_cell BK229.out 0).trans rfl, (blk_cell BK229.out 1).trans rfl, (blk_cell BK229.out 2).trans rfl⟩ (fun hHeld => ?_)
    generalize w46.drew = w47 at HO234 HO237 HO242 HO245 BK229 BK246 HB hHeld ⊢
    refine take_ (i := 0) (N := some 22) (v := ?_) (a' := ?_) #[true, false, false, false, false] rfl rfl (by kernel_rfl) (fun _ _ _ h => h) (Or.inl ⟨by rfl, ?_⟩) hHeld ?_ ?_
    rotate_left
    ·
     rintro w' ⟨s0, s1, s2, s3, s4, s5⟩
     go_simp
     with_reducible rfl
    rotate_left
    ·
     simp only [Act.put, List.setIfInBounds_toArray, List.set_cons_zero, List.set_cons_succ, i64_w, i32_w]
     rfl
    refine take_ (i := 1) (N := some 23) (v := ?_) (a' := ?_) #[true, true, false, false, false] rfl rfl (by kernel_rfl) (fun _ _ _ h => h) (Or.inl ⟨by rfl, ?_⟩) hHeld ?_ ?_
    rotate_left
    ·
     rintro w' ⟨s0, s1, s2, s3, s4, s5⟩
     go_simp
     with_reducible rfl
    rotate_left
    ·
     simp only [Act.put, List.setIfInBounds_toArray, List.set_cons_zero, List.set_cons_succ, i64_w, i32_w]
     rfl
    refine one_ (i := 2) (N := some 24) #[true, true, true, false, false] rfl rfl (by kernel_rfl) (by decide) (fun K hK => ?_)
    refine goes_ Tryd.func8 (by kernel_rfl) rfl #[.agg #[.int .i64 a0_0, .slice A0_1 l0_1.length c0_1, .slice A0_2 l0_2.length c0_2]] (by rfl) rfl rfl (by (try simp only [List.map_toArray, List.map_cons, List.map_nil]); first | done | rfl | (simp only [List.length_drop, List.length_take]; rfl)) ?_
    with_reducible refine (laws_toDir.calls k a0_0 _ _ l0_1 _ _ l0_2 t248 t249 t252 _ ?side1 ?side2 ?side3 ?side4 A28.out).mono ?_
    (case side1 => exact cb HR0_1 HB)
    (case side2 => exact HC0_1.out)
    (case side3 => exact cb HR0_2 HB)
    (case side4 => exact HC0_2.out)
    rintro e w48 ⟨v250, v253, rfl, ho0, ho1, hb⟩
    refine ⟨_, rfl, ?_⟩
    have n0_ := Aside0.mk (Kd.R_elder' (rr HO234.out) (Kd.R_base ho0) hb)
    have n1_ := Aside0.mk (Kd.S_elder' (by (with_reducible repeat (first | apply Kd.S_alloc | apply Kd.S_drewN | apply Kd.S_drew)); exact HO237.out) (Kd.S_base ho1) hb)
    have n2_ := Aside0.mk (Kd.R_elder' (rr HO242.out) (Kd.R_base ho0) hb)
    have n3_ := Aside0.mk (Kd.S_elder' (by (with_reducible repeat (first | apply Kd.S_alloc | apply Kd.S_drewN | apply Kd.S_drew)); exact HO245.out) (Kd.S_base ho1) hb)
    have n4_ := Aside0.mk (Kd.R_lower (Kd.R_new' (Kd.R_new' ho0 (Kd.R_lt (rr HO234.out))) (Kd.R_lt (rr HO242.out))) (below_size (bs2 HB GE229 GE246)))
    have n5_ := Aside0.mk (Kd.S_lower (Kd.S_new' (Kd.S_new' ho1 (Kd.S_lt (by (with_reducible repeat (first | apply Kd.S_alloc | apply Kd.S_drewN | apply Kd.S_drew)); exact HO237.out))) (Kd.S_lt (by (with_reducible repeat (first | apply Kd.S_alloc | apply Kd.S_drewN | apply Kd.S_drew)); exact HO245.out))) (below_size (bs2 HB GE229 GE246)))
    have n6_ := Aside0.mk (bb BK229 hb)
    have n7_ := Aside0.mk (bb BK246 hb)
    have n8_ := Aside0.mk (below_step (bs2 HB GE229 GE246) hb)
    clear HO234
    clear HO237
    clear HO242
    clear HO245
    clear BK229
    clear BK246
    clear HB
    have HO234 := n0_
    have HO237 := n1_
    have HO242 := n2_
    have HO245 := n3_
    have HO251 := n4_
    have HO254 := n5_
    have BK229 := n6_
    have BK246 := n7_
    have HB := n8_
    clear n0_ n1_ n2_ n3_ n4_ n5_ n6_ n7_ n8_
    (try clear hb)
    (try clear hb2)
    (try clear hk)
    (try clear hi)
    (try clear ho0)
    (try clear ho1)
    obtain ⟨Ao49, co49, eo49⟩ := Kd.R_slice HO251.out
    (first | subst eo49 | (injection eo49 with f1_ f2_ f3_; have f4_ := f1_.symm; have f5_ := f3_.symm; clear f1_ f2_ f3_; subst f4_; subst f5_))
    obtain ⟨Ao50, co50, eo50⟩ := Kd.S_slice HO254.out
    (first | subst eo50 | (injection eo50 with f1_ f2_ f3_; have f4_ := f1_.symm; have f5_ := f3_.symm; clear f1_ f2_ f3_; subst f4_; subst f5_))
    refine hK.out _ _ ⟨(blk_cell BK246.out 0).trans rfl, (blk_cell BK246.out 1).trans rfl, (blk_cell BK246.out 2).trans rfl, (blk_cell BK229.out 0).trans rfl, (blk_cell BK229.out 1).trans rfl, (blk_cell BK229.out 2).trans rfl⟩ (fun hHeld => ?_)
    clear hK K
    refine norm_ (a' := ?_) ?_ ?_
    rotate_left
    ·
     show Act.put _ (some 24) _ = _
     simp only [Act.put, List.setIfInBounds_toArray, List.set_cons_zero, List.set_cons_succ, i64_w, i32_w]
     rfl
    refine one_ (i := 3) (N := some 25) #[true, true, true, true, false] rfl rfl (by kernel_rfl) (by decide) (fun K hK => ?_)
    refine goes_ Tryd.func10 (by kernel_rfl) rfl #[.agg #[.int .i64 t239, .slice Ao44 t240.length co44, .slice Ao45 t243.length co45], .agg #[.int .i64 t248, .slice Ao49 t249.length co49, .slice Ao50 t252.length co50]] (by rfl) rfl rfl (by (try simp only [List.map_toArray, List.map_cons, List.map_nil]); first | done | rfl | (simp only [List.length_drop, List.length_take]; rfl)) ?_
    with_reducible refine (laws_eqDir.calls k t239 _ _ t240 _ _ t243 t248 _ _ t249 _ _ t252 true _ ?side1 ?side2 ?side3 ?side4 ?side5 ?side6 ?side7 ?side8 A29.out).mono ?_
    (case side1 => exact rc0 HO242)
    (case side2 => exact (Kd.R_reads' HO242.out).2.1)
    (case side3 => repeat (first | exact (Kd.S_reads' HO245.out).2.2 | (with_reducible refine Kd.C_alloc ?_ _) | (with_reducible refine Kd.C_drewN ?_ _) | (with_reducible refine Kd.C_drew ?_)))
    (case side4 => exact (Kd.S_reads' HO245.out).2.1)
    (case side5 => exact rc0 HO251)
    (case side6 => exact (Kd.R_reads' HO251.out).2.1)
    (case side7 => repeat (first | exact (Kd.S_reads' HO254.out).2.2 | (with_reducible refine Kd.C_alloc ?_ _) | (with_reducible refine Kd.C_drewN ?_ _) | (with_reducible refine Kd.C_drew ?_)))
    (case side8 => exact (Kd.S_reads' HO254.out).2.1)
    rintro e w51 ⟨rfl, hb⟩
    refine ⟨_, rfl, ?_⟩
    have n0_ := Aside0.mk (Kd.R_below (rr HO234.out) hb)
    have n1_ := Aside0.mk (Kd.S_below (by (with_reducible repeat (first | apply Kd.S_alloc | apply Kd.S_drewN | apply Kd.S_drew)); exact HO237.out) hb)
    have n2_ := Aside0.mk (Kd.R_below (rr HO242.out) hb)
    have n3_ := Aside0.mk (Kd.S_below (by (with_reducible repeat (first | apply Kd.S_alloc | apply Kd.S_drewN | apply Kd.S_drew)); exact HO245.out) hb)
    have n4_ := Aside0.mk (Kd.R_below (rr HO251.out) hb)
    have n5_ := Aside0.mk (Kd.S_below (by (with_reducible repeat (first | apply Kd.S_alloc | apply Kd.S_drewN | apply Kd.S_drew)); exact HO254.out) hb)
    have n6_ := Aside0.mk (bb BK229 hb)
    have n7_ := Aside0.mk (bb BK246 hb)
    have n8_ := Aside0.mk (below_step (bs2 HB GE229 GE246) hb)
    clear HO234
    clear HO237
    clear HO242
    clear HO245
    clear HO251
    clear HO254
    clear BK229
    clear BK246
    clear HB
    have HO234 := n0_
    have HO237 := n1_
    have HO242 := n2_
    have HO245 := n3_
    have HO251 := n4_
    have HO254 := n5_
    have BK229 := n6_
    have BK246 := n7_
    have HB := n8_
    clear n0_ n1_ n2_ n3_ n4_ n5_ n6_ n7_ n8_
    (try clear hb)
    (try clear hb2)
    (try clear hk)
    (try clear hi)
    refine hK.out _ _ ⟨(blk_cell BK246.out 0).trans rfl, (blk_cell BK246.out 1).trans rfl, (blk_cell BK246.out 2).trans rfl, (blk_cell BK229.out 0).trans rfl, (blk_cell BK229.out 1).trans rfl, (blk_cell BK229.out 2).trans rfl⟩ (fun hHeld => ?_)
    clear hK K
    refine norm_ (a' := ?_) ?_ ?_
    rotate_left
    ·
     show Act.put _ (some 25) _ = _
     simp only [Act.put, List.setIfInBounds_toArray, List.set_cons_zero, List.set_cons_succ, i64_w, i32_w]
     rfl
    refine pure_ (i := 4) (N := some 26) (v := ?_) (a' := ?_) #[true, true, true, true, true] rfl rfl (by kernel_rfl) (fun _ _ _ h => h) (Or.inl ⟨by rfl, ?_⟩) ?_ ?_
    rotate_left
    ·
     intro w'
     go_simp
     with_reducible rfl
    rotate_left
    ·
     simp only [Act.put, List.setIfInBounds_toArray, List.set_cons_zero, List.set_cons_succ, i64_w, i32_w]
     rfl
    refine done_ (by kernel_rfl) ?_
    try go_wp2
    go_ret
    exact ⟨by first | rfl | (simp [errW_none, errW_some] <;> rfl) | (simp [*, errW_none, errW_some] <;> rfl), bs2 HB GE229 GE246⟩
   ·
    replace c30 := Bool.eq_false_iff.mpr c30
    subst c30
    rw [if_neg (show ¬ (false = true) by decide)] at H
    obtain rfl := Option.some.inj H
    go_enter Tryd.func3, Tryd.ntmps3
    try go_wp2_with (first | ((with_reducible refine gate_dst (N := 1) rfl ?_); refine box_event ?hg (N := 1) ?hd (cs := #[.int .i64 a0_0, .slice A0_1 l0_1.length c0_1, .slice A0_2 l0_2.length c0_2]) (t := 25) ?hr ?_; (case hd => rfl); (case hg => rfl); (case hr => first | (go_simp; done) | (go_simp; rfl)); intro gb229 hg w52 hbox hb; have BK229 := Aside0.mk (hbox); have GW229 := Aside0.mk ((by rw [hg]; exact (below_size (bs HB)) : w.heap.size ≤ gb229)); have GE229 := Aside0.mk ((by rw [hg]; exact (below_size (bs HB)) : w.heap.size ≤ gb229)); replace HB := Aside0.mk (below_step (bs HB) hb); clear hb hbox hg; obtain ⟨hcz53_0, hcz53_1, hcz53_2⟩ := cz3 BK229; obtain ⟨hfz53_0, hfz53_1, hfz53_2⟩ := fz3 BK229) | ((with_reducible refine gate_callee (f := 6) rfl ?_); refine gL (some 9) rfl rfl Tryd.func6 (by kernel_rfl) rfl #[.agg #[.int .i64 a0_0, .slice A0_1 l0_1.length c0_1, .slice A0_2 l0_2.length c0_2], .int .i64 1048576] rfl ?_; (with_reducible refine (laws_szDir.calls k a0_0 _ _ l0_1 _ _ l0_2 1048576 t230 _ ?side1 ?side2 ?side3 ?side4 A2.out).mono ?_); (case side1 => exact cb HR0_1 HB); (case side2 => exact HC0_1.out); (case side3 => exact cb HR0_2 HB); (case side4 => exact HC0_2.out); rintro e w54 ⟨rfl, hb⟩; refine ⟨_, rfl, ?_⟩; replace BK229 := nb BK229 hb; replace HB := Aside0.mk (below_step (bs1 HB GE229) hb); (try clear hb); (try clear hb2); (try clear hk); (try clear hi); obtain ⟨hcz55_0, hcz55_1, hcz55_2⟩ := cz3 BK229; obtain ⟨hfz55_0, hfz55_1, hfz55_2⟩ := fz3 BK229) | ((with_reducible refine gate_callee (f := 8) rfl ?_); refine gL (some 13) rfl rfl Tryd.func8 (by kernel_rfl) rfl #[.agg #[.int .i64 a0_0, .slice A0_1 l0_1.length c0_1, .slice A0_2 l0_2.length c0_2]] rfl ?_; (with_reducible refine (laws_toDir.calls k a0_0 _ _ l0_1 _ _ l0_2 t231 t232 t235 _ ?side1 ?side2 ?side3 ?side4 A7.out).mono ?_); (case side1 => exact cb HR0_1 HB); (case side2 => exact HC0_1.out); (case side3 => exact cb HR0_2 HB); (case side4 => exact HC0_2.out); rintro e w56 ⟨v233, v236, rfl, ho0, ho1, hb⟩; refine ⟨_, rfl, ?_⟩; have HO234 := Aside0.mk (Kd.R_lower ho0 (below_size (bs1 HB GE229))); have HO237 := Aside0.mk (Kd.S_lower ho1 (below_size (bs1 HB GE229))); replace BK229 := nb BK229 hb; replace HB := Aside0.mk (below_step (bs1 HB GE229) hb); (try clear hb); (try clear hb2); (try clear hk); (try clear hi); (try clear ho0); (try clear ho1); obtain ⟨Ao57, co57, eo57⟩ := Kd.R_slice HO234.out; subst eo57; obtain ⟨Ao58, co58, eo58⟩ := Kd.S_slice HO237.out; subst eo58) | ((with_reducible refine gate_callee (f := 7) rfl ?_); refine gL (some 14) rfl rfl Tryd.func7 (by kernel_rfl) rfl #[.agg #[.int .i64 t231, .slice Ao57 t232.length co57, .slice Ao58 t235.length co58]] rfl ?_; (with_reducible refine (spec_GoodDir.calls k t231 _ _ t232 _ _ t235 t238 _ ?side1 ?side2 ?side3 ?side4 A8.out).mono ?_); (case side1 => exact rc0 HO234); (case side2 => exact (Kd.R_reads' HO234.out).2.1); (case side3 => repeat (first | exact (Kd.S_reads' HO237.out).2.2 | (with_reducible refine Kd.C_alloc ?_ _) | (with_reducible refine Kd.C_drewN ?_ _) | (with_reducible refine Kd.C_drew ?_))); (case side4 => exact (Kd.S_reads' HO237.out).2.1); rintro e w59 ⟨rfl, hb⟩; refine ⟨_, rfl, ?_⟩; replace HO234 := nr HO234 hb; replace HO237 := Aside0.mk (Kd.S_below (by (with_reducible repeat (first | apply Kd.S_alloc | apply Kd.S_drewN | apply Kd.S_drew)); exact HO237.out) hb); replace BK229 := nb BK229 hb; replace HB := Aside0.mk (below_step (bs1 HB GE229) hb); (try clear hb); (try clear hb2); (try clear hk); (try clear hi); obtain ⟨hcz60_0, hcz60_1, hcz60_2⟩ := cz3 BK229; obtain ⟨hfz60_0, hfz60_1, hfz60_2⟩ := fz3 BK229) | ((with_reducible refine gate_callee (f := 8) rfl ?_); refine gL (some 16) rfl rfl Tryd.func8 (by kernel_rfl) rfl #[.agg #[.int .i64 a0_0, .slice A0_1 l0_1.length c0_1, .slice A0_2 l0_2.length c0_2]] rfl ?_; (with_reducible refine (laws_toDir.calls k a0_0 _ _ l0_1 _ _ l0_2 t239 t240 t243 _ ?side1 ?side2 ?side3 ?side4 A9.out).mono ?_); (case side1 => exact cb HR0_1 HB); (case side2 => exact HC0_1.out); (case side3 => exact cb HR0_2 HB); (case side4 => exact HC0_2.out); rintro e w61 ⟨v241, v244, rfl, ho0, ho1, hb⟩; refine ⟨_, rfl, ?_⟩; have HO242 := Aside0.mk (Kd.R_lower (Kd.R_new' ho0 (Kd.R_lt (rr HO234.out))) (below_size (bs1 HB GE229))); replace HO234 := Aside0.mk (Kd.R_elder' (rr HO234.out) (Kd.R_base ho0) hb); have HO245 := Aside0.mk (Kd.S_lower (Kd.S_new' ho1 (Kd.S_lt (by (with_reducible repeat (first | apply Kd.S_alloc | apply Kd.S_drewN | apply Kd.S_drew)); exact HO237.out))) (below_size (bs1 HB GE229))); replace HO237 := Aside0.mk (Kd.S_elder' (by (with_reducible repeat (first | apply Kd.S_alloc | apply Kd.S_drewN | apply Kd.S_drew)); exact HO237.out) (Kd.S_base ho1) hb); replace BK229 := nb BK229 hb; replace HB := Aside0.mk (below_step (bs1 HB GE229) hb); (try clear hb); (try clear hb2); (try clear hk); (try clear hi); (try clear ho0); (try clear ho1)) | ((with_reducible refine gate_dst (N := 5) rfl ?_); refine box_event ?hg (N := 5) ?hd (cs := #[.int .i64 0, .slice none 0 0, .slice none 0 0]) (t := 30) ?hr ?_; (case hd => rfl); (case hg => rfl); (case hr => first | (go_simp; done) | (go_simp; rfl)); intro gb246 hg w62 hbox hb; replace HO234 := nr HO234 hb; replace HO237 := Aside0.mk (Kd.S_below (by (with_reducible repeat (first | apply Kd.S_alloc | apply Kd.S_drewN | apply Kd.S_drew)); exact HO237.out) hb); replace HO242 := nr HO242 hb; replace HO245 := Aside0.mk (Kd.S_below (by (with_reducible repeat (first | apply Kd.S_alloc | apply Kd.S_drewN | apply Kd.S_drew)); exact HO245.out) hb); have BK246 := Aside0.mk (hbox); have GW246 := Aside0.mk ((by rw [hg]; exact (below_size (bs1 HB GE229)) : w.heap.size ≤ gb246)); have GE246 := Aside0.mk ((by rw [hg]; exact (below_size (bs1 HB GE229)) : w.heap.size ≤ gb246)); replace HB := Aside0.mk (below_step (bs1 HB GE229) hb); have NB229_246 := Aside0.mk ((bn BK229 hg : gb229 ≠ gb246)); have NB246_229 := Aside0.mk ((bm BK229 hg : gb246 ≠ gb229)); replace BK229 := nb BK229 hb; clear hb hbox hg; have hnb63 := NB246_229.out; have hnc63 := NB229_246.out; obtain ⟨hcz64_0, hcz64_1, hcz64_2⟩ := cz3 BK246; obtain ⟨hfz64_0, hfz64_1, hfz64_2⟩ := fz3 BK246; obtain ⟨Ao65, co65, eo65⟩ := Kd.R_slice HO242.out; subst eo65; obtain ⟨Ao66, co66, eo66⟩ := Kd.S_slice HO245.out; subst eo66) | ((with_reducible refine gate_callee (f := 9) rfl ?_); refine gL (some 18) rfl rfl Tryd.func9 (by kernel_rfl) rfl #[.agg #[.int .i64 t239, .slice Ao65 t240.length co65, .slice Ao66 t243.length co66]] rfl ?_; (with_reducible refine (impl_GoodDir.calls k t239 _ _ t240 _ _ t243 t247 _ ?side1 ?side2 ?side3 ?side4 A10.out).mono ?_); (case side1 => exact rc HO242 BK246); (case side2 => exact (Kd.R_reads' HO242.out).2.1); (case side3 => refine (Kd.S_reads' (e := 43) (base := w.heap.size) (ok := fun k_ => (True ∧ some k_ ≠ (.slice Ao58 t235.length co58 : Value).ownBlock)) (n := t243.length) (c := co66) ?_).2.2; exact (by (with_reducible repeat (first | apply Kd.S_alloc | apply Kd.S_drewN | apply Kd.S_drew)); exact (Kd.S_mono (Kd.S_far (p := ⟨gb246, 2, none⟩) (Kd.S_far (p := ⟨gb246, 1, none⟩) (Kd.S_far (p := ⟨gb246, 0, none⟩) (Kd.S_types HO245.out BK246.out (by decide)) (fun _ hk => hk.2) (.int .i64 t239)) (fun _ hk => hk.2) (.slice Ao65 t240.length co65)) (fun _ hk => hk.2) (.slice Ao66 t243.length co66)) (fun _ h_ => h_.1)))); (case side4 => exact (Kd.S_reads' HO245.out).2.1); rintro e w67 ⟨rfl, hb⟩; refine ⟨_, rfl, ?_⟩; replace HO234 := nf HO234 BK246 hb; replace HO237 := Aside0.mk (Kd.S_below (by (with_reducible repeat (first | apply Kd.S_alloc | apply Kd.S_drewN | apply Kd.S_drew)); exact (Kd.S_mono (Kd.S_far (p := ⟨gb246, 2, none⟩) (Kd.S_far (p := ⟨gb246, 1, none⟩) (Kd.S_far (p := ⟨gb246, 0, none⟩) (Kd.S_types HO237.out BK246.out (by decide)) (fun _ hk => hk.2) (.int .i64 t239)) (fun _ hk => hk.2) (.slice Ao65 t240.length co65)) (fun _ hk => hk.2) (.slice Ao66 t243.length co66)) (fun _ h_ => h_.1))) hb); replace HO242 := nf HO242 BK246 hb; replace HO245 := Aside0.mk (Kd.S_below (by (with_reducible repeat (first | apply Kd.S_alloc | apply Kd.S_drewN | apply Kd.S_drew)); exact (Kd.S_mono (Kd.S_far (p := ⟨gb246, 2, none⟩) (Kd.S_far (p := ⟨gb246, 1, none⟩) (Kd.S_far (p := ⟨gb246, 0, none⟩) (Kd.S_types HO245.out BK246.out (by decide)) (fun _ hk => hk.2) (.int .i64 t239)) (fun _ hk => hk.2) (.slice Ao65 t240.length co65)) (fun _ hk => hk.2) (.slice Ao66 t243.length co66)) (fun _ h_ => h_.1))) hb); replace BK229 := Aside0.mk (blk_below (bf BK229 NB229_246) hb); replace BK246 := Aside0.mk (blk_below (g := gb246) (o := .cells #[.int .i64 t239, .slice Ao65 t240.length co65, .slice Ao66 t243.length co66] 30 (0, 0)) (by (with_reducible repeat (first | refine blk_drewN ?_ _ | refine blk_drew ?_ | refine blk_alloc ?_ _)); refine blk_put (cs := #[.int .i64 t239, .slice Ao65 t240.length co65, .slice none 0 0]) ?_ 2 _ rfl; (with_reducible repeat (first | refine blk_drewN ?_ _ | refine blk_drew ?_ | refine blk_alloc ?_ _)); refine blk_put (cs := #[.int .i64 t239, .slice none 0 0, .slice none 0 0]) ?_ 1 _ rfl; (with_reducible repeat (first | refine blk_drewN ?_ _ | refine blk_drew ?_ | refine blk_alloc ?_ _)); refine blk_put (cs := #[.int .i64 0, .slice none 0 0, .slice none 0 0]) ?_ 0 _ rfl; (with_reducible repeat (first | refine blk_drewN ?_ _ | refine blk_drew ?_ | refine blk_alloc ?_ _)); exact BK246.out) hb); replace HB := Aside0.mk (below_step (bs2 HB GE229 GE246) hb); (try clear hb); (try clear hb2); (try clear hk); (try clear hi)))
    have n0_ := Aside0.mk (Kd.R_drew HO234.out)
    have n1_ := Aside0.mk (Kd.S_drew HO237.out)
    have n2_ := Aside0.mk (Kd.R_drew HO242.out)
    have n3_ := Aside0.mk (Kd.S_drew HO245.out)
    have n4_ := Aside0.mk (blk_drew BK229.out)
    have n5_ := Aside0.mk (blk_drew BK246.out)
    have n6_ := Aside0.mk (below_drew1 HB.out)
    clear HO234
    clear HO237
    clear HO242
    clear HO245
    clear BK229
    clear BK246
    clear HB
    have HO234 := n0_
    have HO237 := n1_
    have HO242 := n2_
    have HO245 := n3_
    have BK229 := n4_
    have BK246 := n5_
    have HB := n6_
    clear n0_ n1_ n2_ n3_ n4_ n5_ n6_
    refine start_ (n := 5) (S := fun w' => w'.cell? ⟨gb246, 0, none⟩ = some (.int .i64 t239) ∧ w'.cell? ⟨gb246, 1, none⟩ = some (.slice Ao65 t240.length co65) ∧ w'.cell? ⟨gb246, 2, none⟩ = some (.slice Ao66 t243.length co66) ∧ w'.cell? ⟨gb229, 0, none⟩ = some (.int .i64 a0_0) ∧ w'.cell? ⟨gb229, 1, none⟩ = some (.slice A0_1 l0_1.length c0_1) ∧ w'.cell? ⟨gb229, 2, none⟩ = some (.slice A0_2 l0_2.length c0_2)) (ds := []) #[false, false, false, false, false] (by kernel_rfl) rfl rfl ⟨(blk_cell BK246.out 0).trans rfl, (blk_cell BK246.out 1).trans rfl, (blk_cell BK246.out 2).trans rfl, (blk_cell BK229.out 0).trans rfl, (blk_cell BK229.out 1).trans rfl, (blk_cell BK229.out 2).trans rfl⟩ (fun hHeld => ?_)
    generalize w67.drew = w68 at HO234 HO237 HO242 HO245 BK229 BK246 HB hHeld ⊢
    refine take_ (i := 0) (N := some 22) (v := ?_) (a' := ?_) #[true, false, false, false, false] rfl rfl (by kernel_rfl) (fun _ _ _ h => h) (Or.inl ⟨by rfl, ?_⟩) hHeld ?_ ?_
    rotate_left
    ·
     rintro w' ⟨s0, s1, s2, s3, s4, s5⟩
     go_simp
     with_reducible rfl
    rotate_left
    ·
     simp only [Act.put, List.setIfInBounds_toArray, List.set_cons_zero, List.set_cons_succ, i64_w, i32_w]
     rfl
    refine take_ (i := 1) (N := some 23) (v := ?_) (a' := ?_) #[true, true, false, false, false] rfl rfl (by kernel_rfl) (fun _ _ _ h => h) (Or.inl ⟨by rfl, ?_⟩) hHeld ?_ ?_
    rotate_left
    ·
     rintro w' ⟨s0, s1, s2, s3, s4, s5⟩
     go_simp
     with_reducible rfl
    rotate_left
    ·
     simp only [Act.put, List.setIfInBounds_toArray, List.set_cons_zero, List.set_cons_succ, i64_w, i32_w]
     rfl
    refine one_ (i := 2) (N := some 24) #[true, true, true, false, false] rfl rfl (by kernel_rfl) (by decide) (fun K hK => ?_)
    refine goes_ Tryd.func8 (by kernel_rfl) rfl #[.agg #[.int .i64 a0_0, .slice A0_1 l0_1.length c0_1, .slice A0_2 l0_2.length c0_2]] (by rfl) rfl rfl (by (try simp only [List.map_toArray, List.map_cons, List.map_nil]); first | done | rfl | (simp only [List.length_drop, List.length_take]; rfl)) ?_
    with_reducible refine (laws_toDir.calls k a0_0 _ _ l0_1 _ _ l0_2 t248 t249 t252 _ ?side1 ?side2 ?side3 ?side4 A28.out).mono ?_
    (case side1 => exact cb HR0_1 HB)
    (case side2 => exact HC0_1.out)
    (case side3 => exact cb HR0_2 HB)
    (case side4 => exact HC0_2.out)
    rintro e w69 ⟨v250, v253, rfl, ho0, ho1, hb⟩
    refine ⟨_, rfl, ?_⟩
    have n0_ := Aside0.mk (Kd.R_elder' (rr HO234.out) (Kd.R_base ho0) hb)
    have n1_ := Aside0.mk (Kd.S_elder' (by (with_reducible repeat (first | apply Kd.S_alloc | apply Kd.S_drewN | apply Kd.S_drew)); exact HO237.out) (Kd.S_base ho1) hb)
    have n2_ := Aside0.mk (Kd.R_elder' (rr HO242.out) (Kd.R_base ho0) hb)
    have n3_ := Aside0.mk (Kd.S_elder' (by (with_reducible repeat (first | apply Kd.S_alloc | apply Kd.S_drewN | apply Kd.S_drew)); exact HO245.out) (Kd.S_base ho1) hb)
    have n4_ := Aside0.mk (Kd.R_lower (Kd.R_new' (Kd.R_new' ho0 (Kd.R_lt (rr HO234.out))) (Kd.R_lt (rr HO242.out))) (below_size (bs2 HB GE229 GE246)))
    have n5_ := Aside0.mk (Kd.S_lower (Kd.S_new' (Kd.S_new' ho1 (Kd.S_lt (by (with_reducible repeat (first | apply Kd.S_alloc | apply Kd.S_drewN | apply Kd.S_drew)); exact HO237.out))) (Kd.S_lt (by (with_reducible repeat (first | apply Kd.S_alloc | apply Kd.S_drewN | apply Kd.S_drew)); exact HO245.out))) (below_size (bs2 HB GE229 GE246)))
    have n6_ := Aside0.mk (bb BK229 hb)
    have n7_ := Aside0.mk (bb BK246 hb)
    have n8_ := Aside0.mk (below_step (bs2 HB GE229 GE246) hb)
    clear HO234
    clear HO237
    clear HO242
    clear HO245
    clear BK229
    clear BK246
    clear HB
    have HO234 := n0_
    have HO237 := n1_
    have HO242 := n2_
    have HO245 := n3_
    have HO251 := n4_
    have HO254 := n5_
    have BK229 := n6_
    have BK246 := n7_
    have HB := n8_
    clear n0_ n1_ n2_ n3_ n4_ n5_ n6_ n7_ n8_
    (try clear hb)
    (try clear hb2)
    (try clear hk)
    (try clear hi)
    (try clear ho0)
    (try clear ho1)
    obtain ⟨Ao70, co70, eo70⟩ := Kd.R_slice HO251.out
    (first | subst eo70 | (injection eo70 with f1_ f2_ f3_; have f4_ := f1_.symm; have f5_ := f3_.symm; clear f1_ f2_ f3_; subst f4_; subst f5_))
    obtain ⟨Ao71, co71, eo71⟩ := Kd.S_slice HO254.out
    (first | subst eo71 | (injection eo71 with f1_ f2_ f3_; have f4_ := f1_.symm; have f5_ := f3_.symm; clear f1_ f2_ f3_; subst f4_; subst f5_))
    refine hK.out _ _ ⟨(blk_cell BK246.out 0).trans rfl, (blk_cell BK246.out 1).trans rfl, (blk_cell BK246.out 2).trans rfl, (blk_cell BK229.out 0).trans rfl, (blk_cell BK229.out 1).trans rfl, (blk_cell BK229.out 2).trans rfl⟩ (fun hHeld => ?_)
    clear hK K
    refine norm_ (a' := ?_) ?_ ?_
    rotate_left
    ·
     show Act.put _ (some 24) _ = _
     simp only [Act.put, List.setIfInBounds_toArray, List.set_cons_zero, List.set_cons_succ, i64_w, i32_w]
     rfl
    refine one_ (i := 3) (N := some 25) #[true, true, true, true, false] rfl rfl (by kernel_rfl) (by decide) (fun K hK => ?_)
    refine goes_ Tryd.func10 (by kernel_rfl) rfl #[.agg #[.int .i64 t239, .slice Ao65 t240.length co65, .slice Ao66 t243.length co66], .agg #[.int .i64 t248, .slice Ao70 t249.length co70, .slice Ao71 t252.length co71]] (by rfl) rfl rfl (by (try simp only [List.map_toArray, List.map_cons, List.map_nil]); first | done | rfl | (simp only [List.length_drop, List.length_take]; rfl)) ?_
    with_reducible refine (laws_eqDir.calls k t239 _ _ t240 _ _ t243 t248 _ _ t249 _ _ t252 false _ ?side1 ?side2 ?side3 ?side4 ?side5 ?side6 ?side7 ?side8 A29.out).mono ?_
    (case side1 => exact rc0 HO242)
    (case side2 => exact (Kd.R_reads' HO242.out).2.1)
    (case side3 => repeat (first | exact (Kd.S_reads' HO245.out).2.2 | (with_reducible refine Kd.C_alloc ?_ _) | (with_reducible refine Kd.C_drewN ?_ _) | (with_reducible refine Kd.C_drew ?_)))
    (case side4 => exact (Kd.S_reads' HO245.out).2.1)
    (case side5 => exact rc0 HO251)
    (case side6 => exact (Kd.R_reads' HO251.out).2.1)
    (case side7 => repeat (first | exact (Kd.S_reads' HO254.out).2.2 | (with_reducible refine Kd.C_alloc ?_ _) | (with_reducible refine Kd.C_drewN ?_ _) | (with_reducible refine Kd.C_drew ?_)))
    (case side8 => exact (Kd.S_reads' HO254.out).2.1)
    rintro e w72 ⟨rfl, hb⟩
    refine ⟨_, rfl, ?_⟩
    have n0_ := Aside0.mk (Kd.R_below (rr HO234.out) hb)
    have n1_ := Aside0.mk (Kd.S_below (by (with_reducible repeat (first | apply Kd.S_alloc | apply Kd.S_drewN | apply Kd.S_drew)); exact HO237.out) hb)
    have n2_ := Aside0.mk (Kd.R_below (rr HO242.out) hb)
    have n3_ := Aside0.mk (Kd.S_below (by (with_reducible repeat (first | apply Kd.S_alloc | apply Kd.S_drewN | apply Kd.S_drew)); exact HO245.out) hb)
    have n4_ := Aside0.mk (Kd.R_below (rr HO251.out) hb)
    have n5_ := Aside0.mk (Kd.S_below (by (with_reducible repeat (first | apply Kd.S_alloc | apply Kd.S_drewN | apply Kd.S_drew)); exact HO254.out) hb)
    have n6_ := Aside0.mk (bb BK229 hb)
    have n7_ := Aside0.mk (bb BK246 hb)
    have n8_ := Aside0.mk (below_step (bs2 HB GE229 GE246) hb)
    clear HO234
    clear HO237
    clear HO242
    clear HO245
    clear HO251
    clear HO254
    clear BK229
    clear BK246
    clear HB
    have HO234 := n0_
    have HO237 := n1_
    have HO242 := n2_
    have HO245 := n3_
    have HO251 := n4_
    have HO254 := n5_
    have BK229 := n6_
    have BK246 := n7_
    have HB := n8_
    clear n0_ n1_ n2_ n3_ n4_ n5_ n6_ n7_ n8_
    (try clear hb)
    (try clear hb2)
    (try clear hk)
    (try clear hi)
    refine hK.out _ _ ⟨(blk_cell BK246.out 0).trans rfl, (blk_cell BK246.out 1).trans rfl, (blk_cell BK246.out 2).trans rfl, (blk_cell BK229.out 0).trans rfl, (blk_cell BK229.out 1).trans rfl, (blk_cell BK229.out 2).trans rfl⟩ (fun hHeld => ?_)
    clear hK K
    refine norm_ (a' := ?_) ?_ ?_
    rotate_left
    ·
     show Act.put _ (some 25) _ = _
     simp only [Act.put, List.setIfInBounds_toArray, List.set_cons_zero, List.set_cons_succ, i64_w, i32_w]
     rfl
    refine pure_ (i := 4) (N := some 26) (v := ?_) (a' := ?_) #[true, true, true, true, true] rfl rfl (by kernel_rfl) (fun _ _ _ h => h) (Or.inl ⟨by rfl, ?_⟩) ?_ ?_
    rotate_left
    ·
     intro w'
     go_simp
     with_reducible rfl
    rotate_left
    ·
     simp only [Act.put, List.setIfInBounds_toArray, List.set_cons_zero, List.set_cons_succ, i64_w, i32_w]
     rfl
    refine done_ (by kernel_rfl) ?_
    try go_wp2
    go_ret
    exact ⟨by first | rfl | (simp [errW_none, errW_some] <;> rfl) | (simp [*, errW_none, errW_some] <;> rfl), bs2 HB GE229 GE246⟩

/-- THE ONE PURE STATEMENT of laws_FnExactGoodDir. -/
def laws_FnExactGoodDir.Pure : Prop := ∀ (a0_0 : Int) (l0_1 : List Int) (l0_2 : List (S62)), ok25 (⟨a0_0, l0_1, l0_2⟩ : S25) → ∃ k, laws_FnExactGoodDir.f k a0_0 l0_1 l0_2 = some true

end Go.Proofs.YtnjnlocndalpjaaDoor.G
