-- Printed by a program of this session (drive.py, by way of the kit's print). Not trusted: Lean checks it.
import Derived.Test.YtcdkgenfggdpaaaG0
import Derived.Test.YtcdkgenfggdpaaaG6
import Derived.Test.YtcdkgenfggdpaaaG7
import Derived.Test.YtcdkgenfggdpaaaG9
import Derived.Test.YtcdkgenfggdpaaaG11
import Derived.Test.YtcdkgenfggdpaaaG13
namespace Go.Proofs.Ytcdkgenfggdpaaa.G
open Go.RowKit Go.Proofs.YtcdkgenfggdpaaaW.PrintWords Go.Proofs.YtcdkgenfggdpaaaW.PrintLast Go.Proofs.YtcdkgenfggdpaaaW.PrintMore
attribute [local go_sem] max2_int min2_int max_two min_two max_three min_three max_four min_four   -- for this text's walks alone
set_option linter.unusedVariables false
set_option linter.unusedSimpArgs false

/-! ### spec_ViewOf: function 34 -/
def spec_ViewOf.f (k : Nat) (l0_0 : List ByteArray) (l0_1 : List (S72)) (l0_2 : List ByteArray) (a0_3 : Int) : Option (List ByteArray × Bool) := (spec_GoodStore.f k l0_0 l0_1 l0_2 a0_3).bind fun t464 => (if t464 = true then ((spec_l11Writes.f k l0_2 (l0_0.length : Int)).bind fun bt465 => ((spec_l1Done.f k l0_0 l0_1).bind fun t469 => ((spec_l1Done.f k t469 bt465.1).bind fun t472 => (some (t472, true))))) else (some (([] : List ByteArray), false)))
theorem spec_ViewOf.mono : ∀ a0 a1 a2 a3 k, LeO (spec_ViewOf.f k a0 a1 a2 a3) (spec_ViewOf.f (k + 1) a0 a1 a2 a3) := by
 intro a0 a1 a2 a3 k
 unfold spec_ViewOf.f
 repeat' first
   | (with_reducible exact spec_GoodStore.mono _ _ _ _ _)
   | (with_reducible exact spec_l11Writes.mono _ _ _)
   | (with_reducible exact spec_l1Done.mono _ _ _)
   | (with_reducible exact LeO.refl _)
   | (with_reducible exact LeO.none _)
   | (with_reducible refine LeO.ite ?_ ?_)
   | (with_reducible refine LeO.bind ?_ (fun _ => ?_))
   | exact spec_GoodStore.mono _ _ _ _ _
   | exact spec_l11Writes.mono _ _ _
   | exact spec_l1Done.mono _ _ _
   | exact LeO.none _
   | refine LeO.ite ?_ ?_
   | refine LeO.bind ?_ (fun _ => ?_)
set_option maxHeartbeats 8000000 in
set_option maxRecDepth 100000 in
theorem spec_ViewOf.calls (k : Nat) (A0_0 : Option Addr) (c0_0 : Nat) (l0_0 : List ByteArray) (A0_1 : Option Addr) (c0_1 : Nat) (l0_1 : List (S72)) (A0_2 : Option Addr) (c0_2 : Nat) (l0_2 : List ByteArray) (a0_3 : Int) (r1 : List ByteArray) (r2 : Bool) (w : World) (hr0_0 : Kd.C Kd.string w A0_0 l0_0.length l0_0) (hc0_0 : l0_0.length ≤ c0_0) (hr0_1 : Kd.C k72 w A0_1 l0_1.length l0_1) (hc0_1 : l0_1.length ≤ c0_1) (hr0_2 : Kd.C Kd.string w A0_2 l0_2.length l0_2) (hc0_2 : l0_2.length ≤ c0_2) (h : spec_ViewOf.f k l0_0 l0_1 l0_2 a0_3 = some (r1, r2)) :
  Calls Try.prog 34 #[.agg #[.slice A0_0 l0_0.length c0_0, .slice A0_1 l0_1.length c0_1, .slice A0_2 l0_2.length c0_2, .int .i64 a0_3]] w fun e w' => ∃ v0_ : Value, e = .returned (.tuple #[v0_, .bool r2]) ∧ Kd.R Kd.string 9 w' w.heap.size (fun _ => True) v0_ r1 ∧ Below w.heap.size w w' := by
 have hu44 := Try.underlying44
 have HR0_0 := Aside0.mk hr0_0
 have HC0_0 := Aside0.mk hc0_0
 clear hr0_0 hc0_0
 have HR0_1 := Aside0.mk hr0_1
 have HC0_1 := Aside0.mk hc0_1
 clear hr0_1 hc0_1
 have HR0_2 := Aside0.mk hr0_2
 have HC0_2 := Aside0.mk hc0_2
 clear hr0_2 hc0_2
 have HB := Aside0.mk (Below.refl w.heap.size w)
 have H : ((spec_GoodStore.f k l0_0 l0_1 l0_2 a0_3).bind fun t464 => (if t464 = true then ((spec_l11Writes.f k l0_2 (l0_0.length : Int)).bind fun bt465 => ((spec_l1Done.f k l0_0 l0_1).bind fun t469 => ((spec_l1Done.f k t469 bt465.1).bind fun t472 => (some (t472, true))))) else (some (([] : List ByteArray), false)))) = some (r1, r2) := h
 clear h
 replace H := Option.bind_eq_some_iff.mp H
 obtain ⟨t464, A20, H⟩ := H
 replace H : (if t464 = true then ((spec_l11Writes.f k l0_2 (l0_0.length : Int)).bind fun bt465 => ((spec_l1Done.f k l0_0 l0_1).bind fun t469 => ((spec_l1Done.f k t469 bt465.1).bind fun t472 => (some (t472, true))))) else (some (([] : List ByteArray), false))) = some (r1, r2) := H
 have A2 := Aside0.mk A20
 clear A20
 by_cases c3 : t464 = true
 ·
  subst c3
  rw [if_pos rfl] at H
  replace H := Option.bind_eq_some_iff.mp H
  obtain ⟨⟨t465, t466⟩, A40, H⟩ := H
  replace H : ((spec_l1Done.f k l0_0 l0_1).bind fun t469 => ((spec_l1Done.f k t469 t465).bind fun t472 => (some (t472, true)))) = some (r1, r2) := H
  have A4 := Aside0.mk A40
  clear A40
  replace H := Option.bind_eq_some_iff.mp H
  obtain ⟨t469, A50, H⟩ := H
  replace H : ((spec_l1Done.f k t469 t465).bind fun t472 => (some (t472, true))) = some (r1, r2) := H
  have A5 := Aside0.mk A50
  clear A50
  replace H := Option.bind_eq_some_iff.mp H
  obtain ⟨t472, A60, H⟩ := H
  replace H : (some (t472, true)) = some (r1, r2) := H
  have A6 := Aside0.mk A60
  clear A60
  simp only [Option.some.injEq, Prod.mk.injEq] at H
  obtain ⟨rfl, rfl⟩ := H
  go_enter Try.func34, Try.ntmps34
  go_wp2_with (first | ((with_reducible refine gate_dst (N := 1) rfl ?_); refine box_event ?hg (N := 1) ?hd (cs := #[.slice A0_0 l0_0.length c0_0, .slice A0_1 l0_1.length c0_1, .slice A0_2 l0_2.length c0_2, .int .i64 a0_3]) (t := 44) ?hr ?_; (case hd => rfl); (case hg => rfl); (case hr => first | (go_simp; done) | (go_simp; rfl)); intro gb463 hg w7 hbox hb; have BK463 := Aside0.mk (hbox); have GW463 := Aside0.mk ((by rw [hg]; exact (below_size (bs HB)) : w.heap.size ≤ gb463)); have GE463 := Aside0.mk ((by rw [hg]; exact (below_size (bs HB)) : w.heap.size ≤ gb463)); replace HB := Aside0.mk (below_step (bs HB) hb); clear hb hbox hg; obtain ⟨hcz8_0, hcz8_1, hcz8_2, hcz8_3⟩ := cz4 BK463; obtain ⟨hfz8_0, hfz8_1, hfz8_2, hfz8_3⟩ := fz4 BK463) | ((with_reducible refine gate_callee (f := 26) rfl ?_); refine gL (some 7) rfl rfl Try.func26 (by kernel_rfl) rfl #[.agg #[.slice A0_0 l0_0.length c0_0, .slice A0_1 l0_1.length c0_1, .slice A0_2 l0_2.length c0_2, .int .i64 a0_3]] rfl ?_; (with_reducible refine (spec_GoodStore.calls k _ _ l0_0 _ _ l0_1 _ _ l0_2 a0_3 true _ ?side1 ?side2 ?side3 ?side4 ?side5 ?side6 A2.out).mono ?_); (case side1 => exact cb HR0_0 HB); (case side2 => exact HC0_0.out); (case side3 => exact cb HR0_1 HB); (case side4 => exact HC0_1.out); (case side5 => exact cb HR0_2 HB); (case side6 => exact HC0_2.out); rintro e w9 ⟨rfl, hb⟩; refine ⟨_, rfl, ?_⟩; replace BK463 := nb BK463 hb; replace HB := Aside0.mk (below_step (bs1 HB GE463) hb); (try clear hb); (try clear hb2); (try clear hk); (try clear hi); obtain ⟨hcz10_0, hcz10_1, hcz10_2, hcz10_3⟩ := cz4 BK463; obtain ⟨hfz10_0, hfz10_1, hfz10_2, hfz10_3⟩ := fz4 BK463) | ((with_reducible refine gate_callee (f := 73) rfl ?_); refine gL (some 16) rfl rfl Try.func73 (by kernel_rfl) rfl #[.slice A0_2 l0_2.length c0_2, .int .i64 (l0_0.length : Int)] rfl ?_; (with_reducible refine (spec_l11Writes.calls k _ _ l0_2 (l0_0.length : Int) t465 t466 _ ?side1 ?side2 A4.out).mono ?_); (case side1 => exact cb HR0_2 HB); (case side2 => exact HC0_2.out); rintro e w11 ⟨v467, rfl, ho0, hb⟩; refine ⟨_, rfl, ?_⟩; have HO468 := Aside0.mk (Kd.R_lower ho0 (below_size (bs1 HB GE463))); replace BK463 := nb BK463 hb; replace HB := Aside0.mk (below_step (bs1 HB GE463) hb); (try clear hb); (try clear hb2); (try clear hk); (try clear hi); (try clear ho0); obtain ⟨hcz12_0, hcz12_1, hcz12_2, hcz12_3⟩ := cz4 BK463; obtain ⟨hfz12_0, hfz12_1, hfz12_2, hfz12_3⟩ := fz4 BK463) | ((with_reducible refine gate_callee (f := 87) rfl ?_); refine gL (some 25) rfl rfl Try.func87 (by kernel_rfl) rfl #[.slice A0_0 l0_0.length c0_0, .slice A0_1 l0_1.length c0_1] rfl ?_; (with_reducible refine (spec_l1Done.calls k _ _ l0_0 _ _ l0_1 t469 _ ?side1 ?side2 ?side3 ?side4 A5.out).mono ?_); (case side1 => exact cb HR0_0 HB); (case side2 => exact HC0_0.out); (case side3 => exact cb HR0_1 HB); (case side4 => exact HC0_1.out); rintro e w13 ⟨v470, rfl, ho0, hb⟩; refine ⟨_, rfl, ?_⟩; replace HO468 := nr HO468 hb; have HO471 := Aside0.mk (Kd.R_lower ho0 (below_size (bs1 HB GE463))); replace BK463 := nb BK463 hb; replace HB := Aside0.mk (below_step (bs1 HB GE463) hb); (try clear hb); (try clear hb2); (try clear hk); (try clear hi); (try clear ho0); obtain ⟨Ao14, co14, eo14⟩ := Kd.R_slice HO471.out; subst eo14; obtain ⟨Ao15, co15, eo15⟩ := Kd.R_slice HO468.out; subst eo15) | ((with_reducible refine gate_callee (f := 87) rfl ?_); refine gL (some 27) rfl rfl Try.func87 (by kernel_rfl) rfl #[.slice Ao14 t469.length co14, .slice Ao15 t465.length co15] rfl ?_; (with_reducible refine (spec_l1Done.calls k _ _ t469 _ _ t465 t472 _ ?side1 ?side2 ?side3 ?side4 A6.out).mono ?_); (case side1 => exact rc0 HO471); (case side2 => exact (Kd.R_reads' HO471.out).2.1); (case side3 => exact rc0 HO468); (case side4 => exact (Kd.R_reads' HO468.out).2.1); rintro e w16 ⟨v473, rfl, ho0, hb⟩; refine ⟨_, rfl, ?_⟩; replace HO468 := nr HO468 hb; have HO474 := Aside0.mk (Kd.R_lower (Kd.R_new' ho0 (Kd.R_lt (rr HO471.out))) (below_size (bs1 HB GE463))); replace HO471 := Aside0.mk (Kd.R_elder' (rr HO471.out) (Kd.R_base ho0) hb); replace BK463 := nb BK463 hb; replace HB := Aside0.mk (below_step (bs1 HB GE463) hb); (try clear hb); (try clear hb2); (try clear hk); (try clear hi); (try clear ho0)))
  go_ret2
  exact ⟨_, by first | rfl | (simp [errW_none, errW_some] <;> rfl) | (simp [*, errW_none, errW_some] <;> rfl), by (with_reducible repeat (first | apply Kd.R_alloc | apply Kd.R_drewN | apply Kd.R_drew)); exact Kd.R_mono HO474.out (fun _ hk => trivial), bs1 HB GE463⟩
 ·
  replace c3 := Bool.eq_false_iff.mpr c3
  subst c3
  rw [if_neg (show ¬ (false = true) by decide)] at H
  simp only [Option.some.injEq, Prod.mk.injEq] at H
  obtain ⟨rfl, rfl⟩ := H
  go_enter Try.func34, Try.ntmps34
  go_wp2_with (first | ((with_reducible refine gate_dst (N := 1) rfl ?_); refine box_event ?hg (N := 1) ?hd (cs := #[.slice A0_0 l0_0.length c0_0, .slice A0_1 l0_1.length c0_1, .slice A0_2 l0_2.length c0_2, .int .i64 a0_3]) (t := 44) ?hr ?_; (case hd => rfl); (case hg => rfl); (case hr => first | (go_simp; done) | (go_simp; rfl)); intro gb463 hg w17 hbox hb; have BK463 := Aside0.mk (hbox); have GW463 := Aside0.mk ((by rw [hg]; exact (below_size (bs HB)) : w.heap.size ≤ gb463)); have GE463 := Aside0.mk ((by rw [hg]; exact (below_size (bs HB)) : w.heap.size ≤ gb463)); replace HB := Aside0.mk (below_step (bs HB) hb); clear hb hbox hg; obtain ⟨hcz18_0, hcz18_1, hcz18_2, hcz18_3⟩ := cz4 BK463; obtain ⟨hfz18_0, hfz18_1, hfz18_2, hfz18_3⟩ := fz4 BK463) | ((with_reducible refine gate_callee (f := 26) rfl ?_); refine gL (some 7) rfl rfl Try.func26 (by kernel_rfl) rfl #[.agg #[.slice A0_0 l0_0.length c0_0, .slice A0_1 l0_1.length c0_1, .slice A0_2 l0_2.length c0_2, .int .i64 a0_3]] rfl ?_; (with_reducible refine (spec_GoodStore.calls k _ _ l0_0 _ _ l0_1 _ _ l0_2 a0_3 false _ ?side1 ?side2 ?side3 ?side4 ?side5 ?side6 A2.out).mono ?_); (case side1 => exact cb HR0_0 HB); (case side2 => exact HC0_0.out); (case side3 => exact cb HR0_1 HB); (case side4 => exact HC0_1.out); (case side5 => exact cb HR0_2 HB); (case side6 => exact HC0_2.out); rintro e w19 ⟨rfl, hb⟩; refine ⟨_, rfl, ?_⟩; replace BK463 := nb BK463 hb; replace HB := Aside0.mk (below_step (bs1 HB GE463) hb); (try clear hb); (try clear hb2); (try clear hk); (try clear hi)))
  go_ret2
  exact ⟨_, by first | rfl | (simp [errW_none, errW_some] <;> rfl) | (simp [*, errW_none, errW_some] <;> rfl), by first | exact Kd.R_nil _ _ _ _ _ | exact Kd.N_nil _ _ _ _ _ | exact Kd.V_nil _ _ _ _ _ | exact Kd.Q_nil _ _ _ _ _ | exact Kd.S_nil _ _ _ _ _, bs1 HB GE463⟩

/-! ### laws_FnExactViewOf: function 7 -/
mutual
def laws_FnExactViewOf.j0 : Nat → List ByteArray → Bool → List ByteArray → Bool → Bool → List ByteArray → List (S76) → List ByteArray → Int → List ByteArray → List (S72) → List ByteArray → Int → Option (Bool)
 | 0, _, _, _, _, _, _, _, _, _, _, _, _, _ => none
 | k + 1, x4, x5, x7, x8, x40, x498000, x498001, x498002, x498003, x524000, x524001, x524002, x524003 => if x40 = true then (some false) else ((laws_toStore.f k x498000 x498001 x498002 x498003).bind fun bt529 => ((laws_eqStore.f k x524000 x524001 x524002 x524003 bt529.1 bt529.2.1 bt529.2.2.1 bt529.2.2.2).bind fun t539 => (if t539 = true then ((laws_markStore.f k x524000 x524001 x524002 x524003 1).bind fun bt540 => (if bt540.1 < 0 then (laws_FnExactViewOf.j1 k x4 x5 x7 true x498000 x498001 x498002 x498003) else ((laws_eqStringS.f k x7 x4).bind fun t544 => (if t544 = true then (laws_FnExactViewOf.j1 k x4 x5 x7 (x8 != x5) x498000 x498001 x498002 x498003) else (laws_FnExactViewOf.j1 k x4 x5 x7 true x498000 x498001 x498002 x498003))))) else (some false))))
def laws_FnExactViewOf.j1 : Nat → List ByteArray → Bool → List ByteArray → Bool → List ByteArray → List (S76) → List ByteArray → Int → Option (Bool)
 | 0, _, _, _, _, _, _, _, _ => none
 | k + 1, x4, x5, x7, x61, x498000, x498001, x498002, x498003 => if x61 = true then (some false) else ((laws_markStringS.f k x7 1).bind fun bt545 => ((laws_heldStringS.f k bt545.2 1).bind fun t547 => (if t547 < 0 then (some false) else (if t547 = bt545.1 then ((laws_toStore.f k x498000 x498001 x498002 x498003).bind fun bt548 => ((impl_ViewOf.f k bt548.1 bt548.2.1 bt548.2.2.1 bt548.2.2.2).bind fun bt558 => ((laws_eqStringS.f k bt558.1 x4).bind fun t562 => (if t562 = true then (laws_FnExactViewOf.j2 k bt545.2 bt545.1 (bt558.2 != x5)) else (laws_FnExactViewOf.j2 k bt545.2 bt545.1 true))))) else (some false)))))
def laws_FnExactViewOf.j2 : Nat → List ByteArray → Int → Bool → Option (Bool)
 | 0, _, _, _ => none
 | k + 1, x7, x10, x87 => if x87 = true then (some false) else ((laws_heldStringS.f k x7 1).bind fun t563 => (if t563 < 0 then (some false) else (if t563 = x10 then (some true) else (some false))))
end
def laws_FnExactViewOf.f (k : Nat) (l0_0 : List ByteArray) (l0_1 : List (S76)) (l0_2 : List ByteArray) (a0_3 : Int) : Option (Bool) := (laws_szStore.f k l0_0 l0_1 l0_2 a0_3 1048576).bind fun t498 => (if t498 < 0 then (some true) else ((laws_toStore.f k l0_0 l0_1 l0_2 a0_3).bind fun bt499 => ((spec_ViewOf.f k bt499.1 bt499.2.1 bt499.2.2.1 bt499.2.2.2).bind fun bt509 => ((laws_toStore.f k l0_0 l0_1 l0_2 a0_3).bind fun bt513 => ((impl_ViewOf.f k bt513.1 bt513.2.1 bt513.2.2.1 bt513.2.2.2).bind fun bt524 => ((laws_eqStringS.f k bt524.1 bt509.1).bind fun t528 => (if t528 = true then (laws_FnExactViewOf.j0 k bt509.1 bt509.2 bt524.1 bt524.2 (bt524.2 != bt509.2) l0_0 l0_1 l0_2 a0_3 bt513.1 bt513.2.1 bt513.2.2.1 bt513.2.2.2) else (laws_FnExactViewOf.j0 k bt509.1 bt509.2 bt524.1 bt524.2 true l0_0 l0_1 l0_2 a0_3 bt513.1 bt513.2.1 bt513.2.2.1 bt513.2.2.2))))))))
theorem laws_FnExactViewOf.mono_l : ∀ k, (∀ y0 y1 y2 y3 y4 y5 y6 y7 y8 y9 y10 y11 y12, LeO (laws_FnExactViewOf.j0 k y0 y1 y2 y3 y4 y5 y6 y7 y8 y9 y10 y11 y12) (laws_FnExactViewOf.j0 (k + 1) y0 y1 y2 y3 y4 y5 y6 y7 y8 y9 y10 y11 y12)) ∧ (∀ y0 y1 y2 y3 y4 y5 y6 y7, LeO (laws_FnExactViewOf.j1 k y0 y1 y2 y3 y4 y5 y6 y7) (laws_FnExactViewOf.j1 (k + 1) y0 y1 y2 y3 y4 y5 y6 y7)) ∧ (∀ y0 y1 y2, LeO (laws_FnExactViewOf.j2 k y0 y1 y2) (laws_FnExactViewOf.j2 (k + 1) y0 y1 y2))
 | 0 => ⟨fun _ _ _ _ _ _ _ _ _ _ _ _ _ r h => by simp [laws_FnExactViewOf.j0] at h, fun _ _ _ _ _ _ _ _ r h => by simp [laws_FnExactViewOf.j1] at h, fun _ _ _ r h => by simp [laws_FnExactViewOf.j2] at h⟩
 | k + 1 => by
  obtain ⟨ih0, ih1, ih2⟩ := laws_FnExactViewOf.mono_l k
  refine ⟨?_, ?_, ?_⟩
  ·
   intro y0 y1 y2 y3 y4 y5 y6 y7 y8 y9 y10 y11 y12
   unfold laws_FnExactViewOf.j0
   repeat' first
   | (with_reducible exact ih0 _ _ _ _ _ _ _ _ _ _ _ _ _)
   | (with_reducible exact ih1 _ _ _ _ _ _ _ _)
   | (with_reducible exact ih2 _ _ _)
   | (with_reducible exact impl_ViewOf.mono _ _ _ _ _)
   | (with_reducible exact laws_eqStore.mono _ _ _ _ _ _ _ _ _)
   | (with_reducible exact laws_eqStringS.mono _ _ _)
   | (with_reducible exact laws_heldStringS.mono _ _ _)
   | (with_reducible exact laws_markStore.mono _ _ _ _ _ _)
   | (with_reducible exact laws_markStringS.mono _ _ _)
   | (with_reducible exact laws_szStore.mono _ _ _ _ _ _)
   | (with_reducible exact laws_toStore.mono _ _ _ _ _)
   | (with_reducible exact spec_ViewOf.mono _ _ _ _ _)
   | (with_reducible exact LeO.refl _)
   | (with_reducible exact LeO.none _)
   | (with_reducible refine LeO.ite ?_ ?_)
   | (with_reducible refine LeO.bind ?_ (fun _ => ?_))
   | exact ih0 _ _ _ _ _ _ _ _ _ _ _ _ _
   | exact ih1 _ _ _ _ _ _ _ _
   | exact ih2 _ _ _
   | exact impl_ViewOf.mono _ _ _ _ _
   | exact laws_eqStore.mono _ _ _ _ _ _ _ _ _
   | exact laws_eqStringS.mono _ _ _
   | exact laws_heldStringS.mono _ _ _
   | exact laws_markStore.mono _ _ _ _ _ _
   | exact laws_markStringS.mono _ _ _
   | exact laws_szStore.mono _ _ _ _ _ _
   | exact laws_toStore.mono _ _ _ _ _
   | exact spec_ViewOf.mono _ _ _ _ _
   | exact LeO.none _
   | refine LeO.ite ?_ ?_
   | refine LeO.bind ?_ (fun _ => ?_)
  ·
   intro y0 y1 y2 y3 y4 y5 y6 y7
   unfold laws_FnExactViewOf.j1
   repeat' first
   | (with_reducible exact ih0 _ _ _ _ _ _ _ _ _ _ _ _ _)
   | (with_reducible exact ih1 _ _ _ _ _ _ _ _)
   | (with_reducible exact ih2 _ _ _)
   | (with_reducible exact impl_ViewOf.mono _ _ _ _ _)
   | (with_reducible exact laws_eqStore.mono _ _ _ _ _ _ _ _ _)
   | (with_reducible exact laws_eqStringS.mono _ _ _)
   | (with_reducible exact laws_heldStringS.mono _ _ _)
   | (with_reducible exact laws_markStore.mono _ _ _ _ _ _)
   | (with_reducible exact laws_markStringS.mono _ _ _)
   | (with_reducible exact laws_szStore.mono _ _ _ _ _ _)
   | (with_reducible exact laws_toStore.mono _ _ _ _ _)
   | (with_reducible exact spec_ViewOf.mono _ _ _ _ _)
   | (with_reducible exact LeO.refl _)
   | (with_reducible exact LeO.none _)
   | (with_reducible refine LeO.ite ?_ ?_)
   | (with_reducible refine LeO.bind ?_ (fun _ => ?_))
   | exact ih0 _ _ _ _ _ _ _ _ _ _ _ _ _
   | exact ih1 _ _ _ _ _ _ _ _
   | exact ih2 _ _ _
   | exact impl_ViewOf.mono _ _ _ _ _
   | exact laws_eqStore.mono _ _ _ _ _ _ _ _ _
   | exact laws_eqStringS.mono _ _ _
   | exact laws_heldStringS.mono _ _ _
   | exact laws_markStore.mono _ _ _ _ _ _
   | exact laws_markStringS.mono _ _ _
   | exact laws_szStore.mono _ _ _ _ _ _
   | exact laws_toStore.mono _ _ _ _ _
   | exact spec_ViewOf.mono _ _ _ _ _
   | exact LeO.none _
   | refine LeO.ite ?_ ?_
   | refine LeO.bind ?_ (fun _ => ?_)
  ·
   intro y0 y1 y2
   unfold laws_FnExactViewOf.j2
   repeat' first
   | (with_reducible exact ih0 _ _ _ _ _ _ _ _ _ _ _ _ _)
   | (with_reducible exact ih1 _ _ _ _ _ _ _ _)
   | (with_reducible exact ih2 _ _ _)
   | (with_reducible exact impl_ViewOf.mono _ _ _ _ _)
   | (with_reducible exact laws_eqStore.mono _ _ _ _ _ _ _ _ _)
   | (with_reducible exact laws_eqStringS.mono _ _ _)
   | (with_reducible exact laws_heldStringS.mono _ _ _)
   | (with_reducible exact laws_markStore.mono _ _ _ _ _ _)
   | (with_reducible exact laws_markStringS.mono _ _ _)
   | (with_reducible exact laws_szStore.mono _ _ _ _ _ _)
   | (with_reducible exact laws_toStore.mono _ _ _ _ _)
   | (with_reducible exact spec_ViewOf.mono _ _ _ _ _)
   | (with_reducible exact LeO.refl _)
   | (with_reducible exact LeO.none _)
   | (with_reducible refine LeO.ite ?_ ?_)
   | (with_reducible refine LeO.bind ?_ (fun _ => ?_))
   | exact ih0 _ _ _ _ _ _ _ _ _ _ _ _ _
   | exact ih1 _ _ _ _ _ _ _ _
   | exact ih2 _ _ _
   | exact impl_ViewOf.mono _ _ _ _ _
   | exact laws_eqStore.mono _ _ _ _ _ _ _ _ _
   | exact laws_eqStringS.mono _ _ _
   | exact laws_heldStringS.mono _ _ _
   | exact laws_markStore.mono _ _ _ _ _ _
   | exact laws_markStringS.mono _ _ _
   | exact laws_szStore.mono _ _ _ _ _ _
   | exact laws_toStore.mono _ _ _ _ _
   | exact spec_ViewOf.mono _ _ _ _ _
   | exact LeO.none _
   | refine LeO.ite ?_ ?_
   | refine LeO.bind ?_ (fun _ => ?_)
theorem laws_FnExactViewOf.mono : ∀ a0 a1 a2 a3 k, LeO (laws_FnExactViewOf.f k a0 a1 a2 a3) (laws_FnExactViewOf.f (k + 1) a0 a1 a2 a3) := by
 intro a0 a1 a2 a3 k
 obtain ⟨ih0, ih1, ih2⟩ := laws_FnExactViewOf.mono_l k
 unfold laws_FnExactViewOf.f
 repeat' first
   | (with_reducible exact ih0 _ _ _ _ _ _ _ _ _ _ _ _ _)
   | (with_reducible exact ih1 _ _ _ _ _ _ _ _)
   | (with_reducible exact ih2 _ _ _)
   | (with_reducible exact impl_ViewOf.mono _ _ _ _ _)
   | (with_reducible exact laws_eqStore.mono _ _ _ _ _ _ _ _ _)
   | (with_reducible exact laws_eqStringS.mono _ _ _)
   | (with_reducible exact laws_heldStringS.mono _ _ _)
   | (with_reducible exact laws_markStore.mono _ _ _ _ _ _)
   | (with_reducible exact laws_markStringS.mono _ _ _)
   | (with_reducible exact laws_szStore.mono _ _ _ _ _ _)
   | (with_reducible exact laws_toStore.mono _ _ _ _ _)
   | (with_reducible exact spec_ViewOf.mono _ _ _ _ _)
   | (with_reducible exact LeO.refl _)
   | (with_reducible exact LeO.none _)
   | (with_reducible refine LeO.ite ?_ ?_)
   | (with_reducible refine LeO.bind ?_ (fun _ => ?_))
   | exact ih0 _ _ _ _ _ _ _ _ _ _ _ _ _
   | exact ih1 _ _ _ _ _ _ _ _
   | exact ih2 _ _ _
   | exact impl_ViewOf.mono _ _ _ _ _
   | exact laws_eqStore.mono _ _ _ _ _ _ _ _ _
   | exact laws_eqStringS.mono _ _ _
   | exact laws_heldStringS.mono _ _ _
   | exact laws_markStore.mono _ _ _ _ _ _
   | exact laws_markStringS.mono _ _ _
   | exact laws_szStore.mono _ _ _ _ _ _
   | exact laws_toStore.mono _ _ _ _ _
   | exact spec_ViewOf.mono _ _ _ _ _
   | exact LeO.none _
   | refine LeO.ite ?_ ?_
   | refine LeO.bind ?_ (fun _ => ?_)
set_option maxHeartbeats 8000000 in
set_option maxRecDepth 100000 in
theorem laws_FnExactViewOf.calls (k : Nat) (A0_0 : Option Addr) (c0_0 : Nat) (l0_0 : List ByteArray) (A0_1 : Option Addr) (c0_1 : Nat) (l0_1 : List (S76)) (A0_2 : Option Addr) (c0_2 : Nat) (l0_2 : List ByteArray) (a0_3 : Int) (r : Bool) (w : World) (hr0_0 : Kd.C Kd.string w A0_0 l0_0.length l0_0) (hc0_0 : l0_0.length ≤ c0_0) (hr0_1 : Kd.C k76 w A0_1 l0_1.length l0_1) (hc0_1 : l0_1.length ≤ c0_1) (hr0_2 : Kd.C Kd.string w A0_2 l0_2.length l0_2) (hc0_2 : l0_2.length ≤ c0_2) (h : laws_FnExactViewOf.f k l0_0 l0_1 l0_2 a0_3 = some r) :
  Calls Try.prog 7 #[.agg #[.slice A0_0 l0_0.length c0_0, .slice A0_1 l0_1.length c0_1, .slice A0_2 l0_2.length c0_2, .int .i64 a0_3]] w fun e w' => e = .returned (.bool r) ∧ Below w.heap.size w w' := by
 have hu38 := Try.underlying38
 have hu44 := Try.underlying44
 have HR0_0 := Aside0.mk hr0_0
 have HC0_0 := Aside0.mk hc0_0
 clear hr0_0 hc0_0
 have HR0_1 := Aside0.mk hr0_1
 have HC0_1 := Aside0.mk hc0_1
 clear hr0_1 hc0_1
 have HR0_2 := Aside0.mk hr0_2
 have HC0_2 := Aside0.mk hc0_2
 clear hr0_2 hc0_2
 have HB := Aside0.mk (Below.refl w.heap.size w)
 have H : ((laws_szStore.f k l0_0 l0_1 l0_2 a0_3 1048576).bind fun t498 => (if t498 < 0 then (some true) else ((laws_toStore.f k l0_0 l0_1 l0_2 a0_3).bind fun bt499 => ((spec_ViewOf.f k bt499.1 bt499.2.1 bt499.2.2.1 bt499.2.2.2).bind fun bt509 => ((laws_toStore.f k l0_0 l0_1 l0_2 a0_3).bind fun bt513 => ((impl_ViewOf.f k bt513.1 bt513.2.1 bt513.2.2.1 bt513.2.2.2).bind fun bt524 => ((laws_eqStringS.f k bt524.1 bt509.1).bind fun t528 => (if t528 = true then (laws_FnExactViewOf.j0 k bt509.1 bt509.2 bt524.1 bt524.2 (bt524.2 != bt509.2) l0_0 l0_1 l0_2 a0_3 bt513.1 bt513.2.1 bt513.2.2.1 bt513.2.2.2) else (laws_FnExactViewOf.j0 k bt509.1 bt509.2 bt524.1 bt524.2 true l0_0 l0_1 l0_2 a0_3 bt513.1 bt513.2.1 bt513.2.2.1 bt513.2.2.2))))))))) = some r := h
 clear h
 replace H := Option.bind_eq_some_iff.mp H
 obtain ⟨t498, A20, H⟩ := H
 replace H : (if t498 < 0 then (some true) else ((laws_toStore.f k l0_0 l0_1 l0_2 a0_3).bind fun bt499 => ((spec_ViewOf.f k bt499.1 bt499.2.1 bt499.2.2.1 bt499.2.2.2).bind fun bt509 => ((laws_toStore.f k l0_0 l0_1 l0_2 a0_3).bind fun bt513 => ((impl_ViewOf.f k bt513.1 bt513.2.1 bt513.2.2.1 bt513.2.2.2).bind fun bt524 => ((laws_eqStringS.f k bt524.1 bt509.1).bind fun t528 => (if t528 = true then (laws_FnExactViewOf.j0 k bt509.1 bt509.2 bt524.1 bt524.2 (bt524.2 != bt509.2) l0_0 l0_1 l0_2 a0_3 bt513.1 bt513.2.1 bt513.2.2.1 bt513.2.2.2) else (laws_FnExactViewOf.j0 k bt509.1 bt509.2 bt524.1 bt524.2 true l0_0 l0_1 l0_2 a0_3 bt513.1 bt513.2.1 bt513.2.2.1 bt513.2.2.2)))))))) = some r := H
 have A2 := Aside0.mk A20
 clear A20
 by_cases c3 : t498 < 0
 ·
  rw [if_pos c3] at H
  have c3b0 : decide (t498 < 0) = true := decide_eq_true c3
  clear c3
  obtain rfl := Option.some.inj H
  go_enter Try.func7, Try.ntmps7
  go_wp2_with (first | ((with_reducible refine gate_dst (N := 1) rfl ?_); refine box_event ?hg (N := 1) ?hd (cs := #[.slice A0_0 l0_0.length c0_0, .slice A0_1 l0_1.length c0_1, .slice A0_2 l0_2.length c0_2, .int .i64 a0_3]) (t := 38) ?hr ?_; (case hd => rfl); (case hg => rfl); (case hr => first | (go_simp; done) | (go_simp; rfl)); intro gb497 hg w4 hbox hb; have BK497 := Aside0.mk (hbox); have GW497 := Aside0.mk ((by rw [hg]; exact (below_size (bs HB)) : w.heap.size ≤ gb497)); have GE497 := Aside0.mk ((by rw [hg]; exact (below_size (bs HB)) : w.heap.size ≤ gb497)); replace HB := Aside0.mk (below_step (bs HB) hb); clear hb hbox hg; obtain ⟨hcz5_0, hcz5_1, hcz5_2, hcz5_3⟩ := cz4 BK497; obtain ⟨hfz5_0, hfz5_1, hfz5_2, hfz5_3⟩ := fz4 BK497) | ((with_reducible refine gate_callee (f := 25) rfl ?_); refine gL (some 16) rfl rfl Try.func25 (by kernel_rfl) rfl #[.agg #[.slice A0_0 l0_0.length c0_0, .slice A0_1 l0_1.length c0_1, .slice A0_2 l0_2.length c0_2, .int .i64 a0_3], .int .i64 1048576] rfl ?_; (with_reducible refine (laws_szStore.calls k _ _ l0_0 _ _ l0_1 _ _ l0_2 a0_3 1048576 t498 _ ?side1 ?side2 ?side3 ?side4 ?side5 ?side6 A2.out).mono ?_); (case side1 => exact cb HR0_0 HB); (case side2 => exact HC0_0.out); (case side3 => exact cb HR0_1 HB); (case side4 => exact HC0_1.out); (case side5 => exact cb HR0_2 HB); (case side6 => exact HC0_2.out); rintro e w6 ⟨rfl, hb⟩; refine ⟨_, rfl, ?_⟩; replace BK497 := nb BK497 hb; replace HB := Aside0.mk (below_step (bs1 HB GE497) hb); (try clear hb); (try clear hb2); (try clear hk); (try clear hi)))
  go_ret
  exact ⟨by first | rfl | (simp [errW_none, errW_some] <;> rfl) | (simp [*, errW_none, errW_some] <;> rfl), bs1 HB GE497⟩
 ·
  rw [if_neg c3] at H
  have c3b0 : decide (t498 < 0) = false := decide_eq_false c3
  clear c3
  replace H := Option.bind_eq_some_iff.mp H
  obtain ⟨⟨t499, t502, t505, t508⟩, A70, H⟩ := H
  replace H : ((spec_ViewOf.f k t499 t502 t505 t508).bind fun bt509 => ((laws_toStore.f k l0_0 l0_1 l0_2 a0_3).bind fun bt513 => ((impl_ViewOf.f k bt513.1 bt513.2.1 bt513.2.2.1 bt513.2.2.2).bind fun bt524 => ((laws_eqStringS.f k bt524.1 bt509.1).bind fun t528 => (if t528 = true then (laws_FnExactViewOf.j0 k bt509.1 bt509.2 bt524.1 bt524.2 (bt524.2 != bt509.2) l0_0 l0_1 l0_2 a0_3 bt513.1 bt513.2.1 bt513.2.2.1 bt513.2.2.2) else (laws_FnExactViewOf.j0 k bt509.1 bt509.2 bt524.1 bt524.2 true l0_0 l0_1 l0_2 a0_3 bt513.1 bt513.2.1 bt513.2.2.1 bt513.2.2.2)))))) = some r := H
  have A7 := Aside0.mk A70
  clear A70
  replace H := Option.bind_eq_some_iff.mp H
  obtain ⟨⟨t509, t512⟩, A80, H⟩ := H
  replace H : ((laws_toStore.f k l0_0 l0_1 l0_2 a0_3).bind fun bt513 => ((impl_ViewOf.f k bt513.1 bt513.2.1 bt513.2.2.1 bt513.2.2.2).bind fun bt524 => ((laws_eqStringS.f k bt524.1 t509).bind fun t528 => (if t528 = true then (laws_FnExactViewOf.j0 k t509 t512 bt524.1 bt524.2 (bt524.2 != t512) l0_0 l0_1 l0_2 a0_3 bt513.1 bt513.2.1 bt513.2.2.1 bt513.2.2.2) else (laws_FnExactViewOf.j0 k t509 t512 bt524.1 bt524.2 true l0_0 l0_1 l0_2 a0_3 bt513.1 bt513.2.1 bt513.2.2.1 bt513.2.2.2))))) = some r := H
  have A8 := Aside0.mk A80
  clear A80
  replace H := Option.bind_eq_some_iff.mp H
  obtain ⟨⟨t513, t516, t519, t522⟩, A90, H⟩ := H
  replace H : ((impl_ViewOf.f k t513 t516 t519 t522).bind fun bt524 => ((laws_eqStringS.f k bt524.1 t509).bind fun t528 => (if t528 = true then (laws_FnExactViewOf.j0 k t509 t512 bt524.1 bt524.2 (bt524.2 != t512) l0_0 l0_1 l0_2 a0_3 t513 t516 t519 t522) else (laws_FnExactViewOf.j0 k t509 t512 bt524.1 bt524.2 true l0_0 l0_1 l0_2 a0_3 t513 t516 t519 t522)))) = some r := H
  have A9 := Aside0.mk A90
  clear A90
  replace H := Option.bind_eq_some_iff.mp H
  obtain ⟨⟨t524, t527⟩, A100, H⟩ := H
  replace H : ((laws_eqStringS.f k t524 t509).bind fun t528 => (if t528 = true then (laws_FnExactViewOf.j0 k t509 t512 t524 t527 (t527 != t512) l0_0 l0_1 l0_2 a0_3 t513 t516 t519 t522) else (laws_FnExactViewOf.j0 k t509 t512 t524 t527 true l0_0 l0_1 l0_2 a0_3 t513 t516 t519 t522))) = some r := H
  have A10 := Aside0.mk A100
  clear A100
  have HC11 := Aside0.mk H
  clear H
  go_enter Try.func7, Try.ntmps7
  go_upto_region 8 with (first | ((with_reducible refine gate_dst (N := 1) rfl ?_); refine box_event ?hg (N := 1) ?hd (cs := #[.slice A0_0 l0_0.length c0_0, .slice A0_1 l0_1.length c0_1, .slice A0_2 l0_2.length c0_2, .int .i64 a0_3]) (t := 38) ?hr ?_; (case hd => rfl); (case hg => rfl); (case hr => first | (go_simp; done) | (go_simp; rfl)); intro gb497 hg w12 hbox hb; have BK497 := Aside0.mk (hbox); have GW497 := Aside0.mk ((by rw [hg]; exact (below_size (bs HB)) : w.heap.size ≤ gb497)); have GE497 := Aside0.mk ((by rw [hg]; exact (below_size (bs HB)) : w.heap.size ≤ gb497)); replace HB := Aside0.mk (below_step (bs HB) hb); clear hb hbox hg; obtain ⟨hcz13_0, hcz13_1, hcz13_2, hcz13_3⟩ := cz4 BK497; obtain ⟨hfz13_0, hfz13_1, hfz13_2, hfz13_3⟩ := fz4 BK497) | ((with_reducible refine gate_callee (f := 25) rfl ?_); refine gL (some 16) rfl rfl Try.func25 (by kernel_rfl) rfl #[.agg #[.slice A0_0 l0_0.length c0_0, .slice A0_1 l0_1.length c0_1, .slice A0_2 l0_2.length c0_2, .int .i64 a0_3], .int .i64 1048576] rfl ?_; (with_reducible refine (laws_szStore.calls k _ _ l0_0 _ _ l0_1 _ _ l0_2 a0_3 1048576 t498 _ ?side1 ?side2 ?side3 ?side4 ?side5 ?side6 A2.out).mono ?_); (case side1 => exact cb HR0_0 HB); (case side2 => exact HC0_0.out); (case side3 => exact cb HR0_1 HB); (case side4 => exact HC0_1.out); (case side5 => exact cb HR0_2 HB); (case side6 => exact HC0_2.out); rintro e w14 ⟨rfl, hb⟩; refine ⟨_, rfl, ?_⟩; replace BK497 := nb BK497 hb; replace HB := Aside0.mk (below_step (bs1 HB GE497) hb); (try clear hb); (try clear hb2); (try clear hk); (try clear hi); obtain ⟨hcz15_0, hcz15_1, hcz15_2, hcz15_3⟩ := cz4 BK497; obtain ⟨hfz15_0, hfz15_1, hfz15_2, hfz15_3⟩ := fz4 BK497) | ((with_reducible refine gate_callee (f := 27) rfl ?_); refine gL (some 21) rfl rfl Try.func27 (by kernel_rfl) rfl #[.agg #[.slice A0_0 l0_0.length c0_0, .slice A0_1 l0_1.length c0_1, .slice A0_2 l0_2.length c0_2, .int .i64 a0_3]] rfl ?_; (with_reducible refine (laws_toStore.calls k _ _ l0_0 _ _ l0_1 _ _ l0_2 a0_3 t499 t502 t505 t508 _ ?side1 ?side2 ?side3 ?side4 ?side5 ?side6 A7.out).mono ?_); (case side1 => exact cb HR0_0 HB); (case side2 => exact HC0_0.out); (case side3 => exact cb HR0_1 HB); (case side4 => exact HC0_1.out); (case side5 => exact cb HR0_2 HB); (case side6 => exact HC0_2.out); rintro e w16 ⟨v500, v503, v506, rfl, ho0, ho1, ho2, hb⟩; refine ⟨_, rfl, ?_⟩; have HO501 := Aside0.mk (Kd.R_lower ho0 (below_size (bs1 HB GE497))); have HO504 := Aside0.mk (Kd.R_lower ho1 (below_size (bs1 HB GE497))); have HO507 := Aside0.mk (Kd.R_lower ho2 (below_size (bs1 HB GE497))); replace BK497 := nb BK497 hb; replace HB := Aside0.mk (below_step (bs1 HB GE497) hb); (try clear hb); (try clear hb2); (try clear hk); (try clear hi); (try clear ho0); (try clear ho1); (try clear ho2); obtain ⟨Ao17, co17, eo17⟩ := Kd.R_slice HO501.out; subst eo17; obtain ⟨Ao18, co18, eo18⟩ := Kd.R_slice HO504.out; subst eo18; obtain ⟨Ao19, co19, eo19⟩ := Kd.R_slice HO507.out; subst eo19) | ((with_reducible refine gate_callee (f := 34) rfl ?_); refine gL (some 22) rfl rfl Try.func34 (by kernel_rfl) rfl #[.agg #[.slice Ao17 t499.length co17, .slice Ao18 t502.length co18, .slice Ao19 t505.length co19, .int .i64 t508]] rfl ?_; (with_reducible refine (spec_ViewOf.calls k _ _ t499 _ _ t502 _ _ t505 t508 t509 t512 _ ?side1 ?side2 ?side3 ?side4 ?side5 ?side6 A8.out).mono ?_); (case side1 => exact rc0 HO501); (case side2 => exact (Kd.R_reads' HO501.out).2.1); (case side3 => exact rc0 HO504); (case side4 => exact (Kd.R_reads' HO504.out).2.1); (case side5 => exact rc0 HO507); (case side6 => exact (Kd.R_reads' HO507.out).2.1); rintro e w20 ⟨v510, rfl, ho0, hb⟩; refine ⟨_, rfl, ?_⟩; replace HO504 := nr HO504 hb; have HO511 := Aside0.mk (Kd.R_lower (Kd.R_new' (Kd.R_new' ho0 (Kd.R_lt (rr HO501.out))) (Kd.R_lt (rr HO507.out))) (below_size (bs1 HB GE497))); replace HO501 := Aside0.mk (Kd.R_elder' (rr HO501.out) (Kd.R_base ho0) hb); replace HO507 := Aside0.mk (Kd.R_elder' (rr HO507.out) (Kd.R_base ho0) hb); replace BK497 := nb BK497 hb; replace HB := Aside0.mk (below_step (bs1 HB GE497) hb); (try clear hb); (try clear hb2); (try clear hk); (try clear hi); (try clear ho0); obtain ⟨hcz21_0, hcz21_1, hcz21_2, hcz21_3⟩ := cz4 BK497; obtain ⟨hfz21_0, hfz21_1, hfz21_2, hfz21_3⟩ := fz4 BK497) | ((with_reducible refine gate_callee (f := 27) rfl ?_); refine gL (some 26) rfl rfl Try.func27 (by kernel_rfl) rfl #[.agg #[.slice A0_0 l0_0.length c0_0, .slice A0_1 l0_1.length c0_1, .slice A0_2 l0_2.length c0_2, .int .i64 a0_3]] rfl ?_; (with_reducible refine (laws_toStore.calls k _ _ l0_0 _ _ l0_1 _ _ l0_2 a0_3 t513 t516 t519 t522 _ ?side1 ?side2 ?side3 ?side4 ?side5 ?side6 A9.out).mono ?_); (case side1 => exact cb HR0_0 HB); (case side2 => exact HC0_0.out); (case side3 => exact cb HR0_1 HB); (case side4 => exact HC0_1.out); (case side5 => exact cb HR0_2 HB); (case side6 => exact HC0_2.out); rintro e w22 ⟨v514, v517, v520, rfl, ho0, ho1, ho2, hb⟩; refine ⟨_, rfl, ?_⟩; have HO515 := Aside0.mk (Kd.R_lower (Kd.R_new' (Kd.R_new' (Kd.R_new' ho0 (Kd.R_lt (rr HO501.out))) (Kd.R_lt (rr HO507.out))) (Kd.R_lt (rr HO511.out))) (below_size (bs1 HB GE497))); have HO518 := Aside0.mk (Kd.R_lower (Kd.R_new' ho1 (Kd.R_lt (rr HO504.out))) (below_size (bs1 HB GE497))); replace HO504 := Aside0.mk (Kd.R_elder' (rr HO504.out) (Kd.R_base ho1) hb); have HO521 := Aside0.mk (Kd.R_lower (Kd.R_new' (Kd.R_new' (Kd.R_new' ho2 (Kd.R_lt (rr HO501.out))) (Kd.R_lt (rr HO507.out))) (Kd.R_lt (rr HO511.out))) (below_size (bs1 HB GE497))); replace HO501 := Aside0.mk (Kd.R_mono (Kd.R_told (Kd.R_told (Kd.R_old (rr HO501.out) hb) (Kd.R_base ho0)) (Kd.R_base ho2)) (fun _ h_ => h_.1)); replace HO507 := Aside0.mk (Kd.R_mono (Kd.R_told (Kd.R_told (Kd.R_old (rr HO507.out) hb) (Kd.R_base ho0)) (Kd.R_base ho2)) (fun _ h_ => h_.1)); replace HO511 := Aside0.mk (Kd.R_mono (Kd.R_told (Kd.R_told (Kd.R_old (rr HO511.out) hb) (Kd.R_base ho0)) (Kd.R_base ho2)) (fun _ h_ => h_.1)); replace BK497 := nb BK497 hb; replace HB := Aside0.mk (below_step (bs1 HB GE497) hb); (try clear hb); (try clear hb2); (try clear hk); (try clear hi); (try clear ho0); (try clear ho1); (try clear ho2)) | ((with_reducible refine gate_dst (N := 6) rfl ?_); refine box_event ?hg (N := 6) ?hd (cs := #[.slice none 0 0, .slice none 0 0, .slice none 0 0, .int .i64 0]) (t := 44) ?hr ?_; (case hd => rfl); (case hg => rfl); (case hr => first | (go_simp; done) | (go_simp; rfl)); intro gb523 hg w23 hbox hb; replace HO501 := nr HO501 hb; replace HO504 := nr HO504 hb; replace HO507 := nr HO507 hb; replace HO511 := nr HO511 hb; replace HO515 := nr HO515 hb; replace HO518 := nr HO518 hb; replace HO521 := nr HO521 hb; have BK523 := Aside0.mk (hbox); have GW523 := Aside0.mk ((by rw [hg]; exact (below_size (bs1 HB GE497)) : w.heap.size ≤ gb523)); have GE523 := Aside0.mk ((by rw [hg]; exact (below_size (bs1 HB GE497)) : w.heap.size ≤ gb523)); replace HB := Aside0.mk (below_step (bs1 HB GE497) hb); have NB497_523 := Aside0.mk ((bn BK497 hg : gb497 ≠ gb523)); have NB523_497 := Aside0.mk ((bm BK497 hg : gb523 ≠ gb497)); replace BK497 := nb BK497 hb; clear hb hbox hg; obtain ⟨Ao24, co24, eo24⟩ := Kd.R_slice HO515.out; subst eo24; have hnb25 := NB523_497.out; have hnc25 := NB497_523.out; obtain ⟨hcz26_0, hcz26_1, hcz26_2, hcz26_3⟩ := cz4 BK523; obtain ⟨hfz26_0, hfz26_1, hfz26_2, hfz26_3⟩ := fz4 BK523; obtain ⟨Ao27, co27, eo27⟩ := Kd.R_slice HO518.out; subst eo27; obtain ⟨Ao28, co28, eo28⟩ := Kd.R_slice HO521.out; subst eo28) | ((with_reducible refine gate_callee (f := 35) rfl ?_); refine gL (some 29) rfl rfl Try.func35 (by kernel_rfl) rfl #[.agg #[.slice Ao24 t513.length co24, .slice Ao27 t516.length co27, .slice Ao28 t519.length co28, .int .i64 t522]] rfl ?_; (with_reducible refine (impl_ViewOf.calls k _ _ t513 _ _ t516 _ _ t519 t522 t524 t527 _ ?side1 ?side2 ?side3 ?side4 ?side5 ?side6 A10.out).mono ?_); (case side1 => exact rc HO515 BK523); (case side2 => exact (Kd.R_reads' HO515.out).2.1); (case side3 => exact rc HO518 BK523); (case side4 => exact (Kd.R_reads' HO518.out).2.1); (case side5 => exact rc HO521 BK523); (case side6 => exact (Kd.R_reads' HO521.out).2.1); rintro e w29 ⟨v525, rfl, ho0, hb⟩; refine ⟨_, rfl, ?_⟩; replace HO504 := nf HO504 BK523 hb; replace HO518 := nf HO518 BK523 hb; have HO526 := Aside0.mk (Kd.R_lower (Kd.R_new' (Kd.R_new' (Kd.R_new' (Kd.R_new' (Kd.R_new' ho0 (Kd.R_lt (rf HO501 BK523))) (Kd.R_lt (rf HO507 BK523))) (Kd.R_lt (rf HO511 BK523))) (Kd.R_lt (rf HO515 BK523))) (Kd.R_lt (rf HO521 BK523))) (below_size (bs2 HB GE497 GE523))); replace HO501 := Aside0.mk (Kd.R_elder' (rf HO501 BK523) (Kd.R_base ho0) hb); replace HO507 := Aside0.mk (Kd.R_elder' (rf HO507 BK523) (Kd.R_base ho0) hb); replace HO511 := Aside0.mk (Kd.R_elder' (rf HO511 BK523) (Kd.R_base ho0) hb); replace HO515 := Aside0.mk (Kd.R_elder' (rf HO515 BK523) (Kd.R_base ho0) hb); replace HO521 := Aside0.mk (Kd.R_elder' (rf HO521 BK523) (Kd.R_base ho0) hb); replace BK497 := Aside0.mk (blk_below (bf BK497 NB497_523) hb); replace BK523 := Aside0.mk (blk_below (g := gb523) (o := .cells #[.slice Ao24 t513.length co24, .slice Ao27 t516.length co27, .slice Ao28 t519.length co28, .int .i64 t522] 44 (0, 0)) (by (with_reducible repeat (first | refine blk_drewN ?_ _ | refine blk_drew ?_ | refine blk_alloc ?_ _)); refine blk_put (cs := #[.slice Ao24 t513.length co24, .slice Ao27 t516.length co27, .slice Ao28 t519.length co28, .int .i64 0]) ?_ 3 _ rfl; (with_reducible repeat (first | refine blk_drewN ?_ _ | refine blk_drew ?_ | refine blk_alloc ?_ _)); refine blk_put (cs := #[.slice Ao24 t513.length co24, .slice Ao27 t516.length co27, .slice none 0 0, .int .i64 0]) ?_ 2 _ rfl; (with_reducible repeat (first | refine blk_drewN ?_ _ | refine blk_drew ?_ | refine blk_alloc ?_ _)); refine blk_put (cs := #[.slice Ao24 t513.length co24, .slice none 0 0, .slice none 0 0, .int .i64 0]) ?_ 1 _ rfl; (with_reducible repeat (first | refine blk_drewN ?_ _ | refine blk_drew ?_ | refine blk_alloc ?_ _)); refine blk_put (cs := #[.slice none 0 0, .slice none 0 0, .slice none 0 0, .int .i64 0]) ?_ 0 _ rfl; (with_reducible repeat (first | refine blk_drewN ?_ _ | refine blk_drew ?_ | refine blk_alloc ?_ _)); exact BK523.out) hb); replace HB := Aside0.mk (below_step (bs2 HB GE497 GE523) hb); (try clear hb); (try clear hb2); (try clear hk); (try clear hi); (try clear ho0)))
  (try simp only [Act.put, List.setIfInBounds_toArray, List.set_cons_zero, List.set_cons_succ])
  go_cut [40] (fun v40 wc => ∃ (kq : Nat) (x40_10 : Bool), v40 = .bool x40_10 ∧ Aside0 (laws_FnExactViewOf.j0 kq t509 t512 t524 t527 x40_10 l0_0 l0_1 l0_2 a0_3 t513 t516 t519 t522 = some r) ∧ Aside0 (kq ≤ k) ∧ Aside0 (Kd.R Kd.string 9 wc w.heap.size (fun k_ => some k_ ≠ (v525 : Value).ownBlock ∧ some k_ ≠ ((.slice Ao24 t513.length co24) : Value).ownBlock ∧ some k_ ≠ ((.slice Ao28 t519.length co28) : Value).ownBlock) v510 t509) ∧ Aside0 (Kd.R Kd.string 9 wc w.heap.size (fun k_ => some k_ ≠ (v510 : Value).ownBlock ∧ some k_ ≠ ((.slice Ao24 t513.length co24) : Value).ownBlock ∧ some k_ ≠ ((.slice Ao28 t519.length co28) : Value).ownBlock) v525 t524) ∧ Aside0 (Kd.R Kd.string 9 wc w.heap.size (fun k_ => some k_ ≠ (v510 : Value).ownBlock ∧ some k_ ≠ (v525 : Value).ownBlock ∧ some k_ ≠ ((.slice Ao28 t519.length co28) : Value).ownBlock) (.slice Ao24 t513.length co24) t513) ∧ Aside0 (Kd.R k72 72 wc w.heap.size (fun _ => True) (.slice Ao27 t516.length co27) t516) ∧ Aside0 (Kd.R Kd.string 9 wc w.heap.size (fun k_ => some k_ ≠ (v510 : Value).ownBlock ∧ some k_ ≠ (v525 : Value).ownBlock ∧ some k_ ≠ ((.slice Ao24 t513.length co24) : Value).ownBlock) (.slice Ao28 t519.length co28) t519) ∧ Aside0 (wc.heap[gb497]? = some (.cells #[(.slice A0_0 l0_0.length c0_0), (.slice A0_1 l0_1.length c0_1), (.slice A0_2 l0_2.length c0_2), .int .i64 a0_3] 38 (0, 0))) ∧ Aside0 (wc.heap[gb523]? = some (.cells #[(.slice Ao24 t513.length co24), (.slice Ao27 t516.length co27), (.slice Ao28 t519.length co28), .int .i64 t522] 44 (0, 0))) ∧ Aside0 (Below w.heap.size w wc))
  case first =>
   have H := HC11.out
   clear HC11
   replace H := Option.bind_eq_some_iff.mp H
   obtain ⟨t528, A300, H⟩ := H
   replace H : (if t528 = true then (laws_FnExactViewOf.j0 k t509 t512 t524 t527 (t527 != t512) l0_0 l0_1 l0_2 a0_3 t513 t516 t519 t522) else (laws_FnExactViewOf.j0 k t509 t512 t524 t527 true l0_0 l0_1 l0_2 a0_3 t513 t516 t519 t522)) = some r := H
   have A30 := Aside0.mk A300
   clear A300
   by_cases c31 : t528 = true
   ·
    subst c31
    rw [if_pos rfl] at H
    have H' := Aside0.mk H
    clear H
    obtain ⟨Ao32, co32, eo32⟩ := Kd.R_slice HO526.out
    subst eo32
    obtain ⟨Ao33, co33, eo33⟩ := Kd.R_slice HO511.out
    subst eo33
    go_wp2_with (first | ((with_reducible refine gate_callee (f := 36) rfl ?_); refine gL (some 34) rfl rfl Try.func36 (by kernel_rfl) rfl #[.slice Ao32 t524.length co32, .slice Ao33 t509.length co33] rfl ?_; (with_reducible refine (laws_eqStringS.calls k _ _ t524 _ _ t509 true _ ?side1 ?side2 ?side3 ?side4 A30.out).mono ?_); (case side1 => exact rc0 HO526); (case side2 => exact (Kd.R_reads' HO526.out).2.1); (case side3 => exact rc0 HO511); (case side4 => exact (Kd.R_reads' HO511.out).2.1); rintro e w' ⟨rfl, ⟨nd, rfl⟩⟩; refine ⟨_, rfl, ?_⟩))
    go_meet
    case rel => exact ⟨_, ((t527 != t512)), (by first | rfl | (simp; done) | (simp [*]; done)), H', ⟨by first | omega | exact Nat.le_refl _⟩, rm HO511 (fun _ hk => ⟨hk.2, ⟨hk.1.1.2, hk.1.2⟩⟩), rm HO526 (fun _ hk => ⟨hk.1.1.2, ⟨hk.1.2, hk.2⟩⟩), rm HO515 (fun _ hk => ⟨hk.1.2, ⟨hk.2, hk.1.1.1.1⟩⟩), rm HO518 (fun _ hk => trivial), rm HO521 (fun _ hk => ⟨hk.1.2, ⟨hk.2, hk.1.1.1.1⟩⟩), ⟨bk BK497⟩, ⟨bk BK523⟩, ⟨bs2 HB GE497 GE523⟩⟩
   ·
    replace c31 := Bool.eq_false_iff.mpr c31
    subst c31
    rw [if_neg (show ¬ (false = true) by decide)] at H
    have H' := Aside0.mk H
    clear H
    obtain ⟨Ao34, co34, eo34⟩ := Kd.R_slice HO526.out
    subst eo34
    obtain ⟨Ao35, co35, eo35⟩ := Kd.R_slice HO511.out
    subst eo35
    go_wp2_with (first | ((with_reducible refine gate_callee (f := 36) rfl ?_); refine gL (some 34) rfl rfl Try.func36 (by kernel_rfl) rfl #[.slice Ao34 t524.length co34, .slice Ao35 t509.length co35] rfl ?_; (with_reducible refine (laws_eqStringS.calls k _ _ t524 _ _ t509 false _ ?side1 ?side2 ?side3 ?side4 A30.out).mono ?_); (case side1 => exact rc0 HO526); (case side2 => exact (Kd.R_reads' HO526.out).2.1); (case side3 => exact rc0 HO511); (case side4 => exact (Kd.R_reads' HO511.out).2.1); rintro e w' ⟨rfl, ⟨nd, rfl⟩⟩; refine ⟨_, rfl, ?_⟩))
    go_meet
    case rel => exact ⟨_, (true), (by first | rfl | (simp; done) | (simp [*]; done)), H', ⟨by first | omega | exact Nat.le_refl _⟩, rm HO511 (fun _ hk => ⟨hk.2, ⟨hk.1.1.2, hk.1.2⟩⟩), rm HO526 (fun _ hk => ⟨hk.1.1.2, ⟨hk.1.2, hk.2⟩⟩), rm HO515 (fun _ hk => ⟨hk.1.2, ⟨hk.2, hk.1.1.1.1⟩⟩), rm HO518 (fun _ hk => trivial), rm HO521 (fun _ hk => ⟨hk.1.2, ⟨hk.2, hk.1.1.1.1⟩⟩), ⟨bk BK497⟩, ⟨bk BK523⟩, ⟨bs2 HB GE497 GE523⟩⟩
  case rest =>
   clear HC11
   try clear c2
   try clear p2
   try clear c3
   try clear c3b0
   try clear c7
   try clear c25
   try clear c27
   try clear c31
   try clear c34
   try clear c35
   try clear hcz13_0 hcz13_1 hcz13_2 hcz13_3
   try clear hcz15_0 hcz15_1 hcz15_2 hcz15_3
   try clear hcz21_0 hcz21_1 hcz21_2 hcz21_3
   try clear hcz26_0 hcz26_1 hcz26_2 hcz26_3
   try clear hcz5_0 hcz5_1 hcz5_2 hcz5_3
   try clear hfz13_0 hfz13_1 hfz13_2 hfz13_3
   try clear hfz15_0 hfz15_1 hfz15_2 hfz15_3
   try clear hfz21_0 hfz21_1 hfz21_2 hfz21_3
   try clear hfz26_0 hfz26_1 hfz26_2 hfz26_3
   try clear hfz5_0 hfz5_1 hfz5_2 hfz5_3
   obtain ⟨kq, x40_10, rfl, HA, HJ10, HO_4, HO_7, HO_524000, HO_524001, HO_524002, BK497, BK523, HB⟩ := hcut
   cases kq with
   | zero => exact absurd HA.out (by simp [laws_FnExactViewOf.j0])
   | succ kj10 =>
    have H := HA.out
    clear HA
    simp only [laws_FnExactViewOf.j0] at H
    by_cases c36 : x40_10 = true
    ·
     subst c36
     rw [if_pos rfl] at H
     obtain rfl := Option.some.inj H
     go_wp2
     go_ret
     exact ⟨by first | rfl | (simp [errW_none, errW_some] <;> rfl) | (simp [*, errW_none, errW_some] <;> rfl), bs2 HB GE497 GE523⟩
    ·
     replace c36 := Bool.eq_false_iff.mpr c36
     subst c36
     rw [if_neg (show ¬ (false = true) by decide)] at H
     replace H := Option.bind_eq_some_iff.mp H
     obtain ⟨⟨t529, t532, t535, t538⟩, A370, H⟩ := H
     replace H : ((laws_eqStore.f kj10 t513 t516 t519 t522 t529 t532 t535 t538).bind fun t539 => (if t539 = true then ((laws_markStore.f kj10 t513 t516 t519 t522 1).bind fun bt540 => (if bt540.1 < 0 then (laws_FnExactViewOf.j1 kj10 t509 t512 t524 true l0_0 l0_1 l0_2 a0_3) else ((laws_eqStringS.f kj10 t524 t509).bind fun t544 => (if t544 = true then (laws_FnExactViewOf.j1 kj10 t509 t512 t524 (t527 != t512) l0_0 l0_1 l0_2 a0_3) else (laws_FnExactViewOf.j1 kj10 t509 t512 t524 true l0_0 l0_1 l0_2 a0_3))))) else (some false))) = some r := H
     have A37 := Aside0.mk A370
     clear A370
     replace H := Option.bind_eq_some_iff.mp H
     obtain ⟨t539, A380, H⟩ := H
     replace H : (if t539 = true then ((laws_markStore.f kj10 t513 t516 t519 t522 1).bind fun bt540 => (if bt540.1 < 0 then (laws_FnExactViewOf.j1 kj10 t509 t512 t524 true l0_0 l0_1 l0_2 a0_3) else ((laws_eqStringS.f kj10 t524 t509).bind fun t544 => (if t544 = true then (laws_FnExactViewOf.j1 kj10 t509 t512 t524 (t527 != t512) l0_0 l0_1 l0_2 a0_3) else (laws_FnExactViewOf.j1 kj10 t509 t512 t524 true l0_0 l0_1 l0_2 a0_3))))) else (some false)) = some r := H
     have A38 := Aside0.mk A380
     clear A380
     by_cases c39 : t539 = true
     ·
      subst c39
      rw [if_pos rfl] at H
      replace H := Option.bind_eq_some_iff.mp H
      obtain ⟨⟨t540, t541, t542, t543⟩, A400, H⟩ := H
      replace H : (if t540 < 0 then (laws_FnExactViewOf.j1 kj10 t509 t512 t524 true l0_0 l0_1 l0_2 a0_3) else ((laws_eqStringS.f kj10 t524 t509).bind fun t544 => (if t544 = true then (laws_FnExactViewOf.j1 kj10 t509 t512 t524 (t527 != t512) l0_0 l0_1 l0_2 a0_3) else (laws_FnExactViewOf.j1 kj10 t509 t512 t524 true l0_0 l0_1 l0_2 a0_3)))) = some r := H
      have A40 := Aside0.mk A400
      clear A400
      have HC41 := Aside0.mk H
      clear H
      try go_wp2
      have n0_ := Aside0.mk (Kd.R_drew HO_4.out)
      have n1_ := Aside0.mk (Kd.R_drew HO_7.out)
      have n2_ := Aside0.mk (Kd.R_drew HO_524000.out)
      have n3_ := Aside0.mk (Kd.R_drew HO_524001.out)
      have n4_ := Aside0.mk (Kd.R_drew HO_524002.out)
      have n5_ := Aside0.mk (blk_drew BK497.out)
      have n6_ := Aside0.mk (blk_drew BK523.out)
      have n7_ := Aside0.mk (below_drew1 HB.out)
      clear HO_4
      clear HO_7
      clear HO_524000
      clear HO_524001
      clear HO_524002
      clear BK497
      clear BK523
      clear HB
      have HO_4 := n0_
      have HO_7 := n1_
      have HO_524000 := n2_
      have HO_524001 := n3_
      have HO_524002 := n4_
      have BK497 := n5_
      have BK523 := n6_
      have HB := n7_
      clear n0_ n1_ n2_ n3_ n4_ n5_ n6_ n7_
      refine start_ (n := 5) (S := fun w' => w'.cell? ⟨gb523, 0, none⟩ = some (.slice Ao24 t513.length co24) ∧ w'.cell? ⟨gb523, 1, none⟩ = some (.slice Ao27 t516.length co27) ∧ w'.cell? ⟨gb523, 2, none⟩ = some (.slice Ao28 t519.length co28) ∧ w'.cell? ⟨gb523, 3, none⟩ = some (.int .i64 t522) ∧ w'.cell? ⟨gb497, 0, none⟩ = some (.slice A0_0 l0_0.length c0_0) ∧ w'.cell? ⟨gb497, 1, none⟩ = some (.slice A0_1 l0_1.length c0_1) ∧ w'.cell? ⟨gb497, 2, none⟩ = some (.slice A0_2 l0_2.length c0_2) ∧ w'.cell? ⟨gb497, 3, none⟩ = some (.int .i64 a0_3)) (ds := []) #[false, false, false, false, false] (by kernel_rfl) rfl rfl ⟨(blk_cell BK523.out 0).trans rfl, (blk_cell BK523.out 1).trans rfl, (blk_cell BK523.out 2).trans rfl, (blk_cell BK523.out 3).trans rfl, (blk_cell BK497.out 0).trans rfl, (blk_cell BK497.out 1).trans rfl, (blk_cell BK497.out 2).trans rfl, (blk_cell BK497.out 3).trans rfl⟩ (fun hHeld => ?_)
      generalize wc.drew = w42 at HO_4 HO_7 HO_524000 HO_524001 HO_524002 BK497 BK523 HB hHeld ⊢
      refine take_ (i := 0) (N := some 41) (v := ?_) (a' := ?_) #[true, false, false, false, false] rfl rfl (by kernel_rfl) (fun _ _ _ h => h) (Or.inl ⟨by rfl, ?_⟩) hHeld ?_ ?_
      rotate_left
      ·
       rintro w' ⟨s0, s1, s2, s3, s4, s5, s6, s7⟩
       go_simp
       with_reducible rfl
      rotate_left
      ·
       simp only [Act.put, List.setIfInBounds_toArray, List.set_cons_zero, List.set_cons_succ, i64_w, i32_w]
       rfl
      refine take_ (i := 1) (N := some 42) (v := ?_) (a' := ?_) #[true, true, false, false, false] rfl rfl (by kernel_rfl) (fun _ _ _ h => h) (Or.inl ⟨by rfl, ?_⟩) hHeld ?_ ?_
      rotate_left
      ·
       rintro w' ⟨s0, s1, s2, s3, s4, s5, s6, s7⟩
       go_simp
       with_reducible rfl
      rotate_left
      ·
       simp only [Act.put, List.setIfInBounds_toArray, List.set_cons_zero, List.set_cons_succ, i64_w, i32_w]
       rfl
      refine one_ (i := 2) (N := some 43) #[true, true, true, false, false] rfl rfl (by kernel_rfl) (by decide) (fun K hK => ?_)
      refine goes_ Try.func27 (by kernel_rfl) rfl #[.agg #[.slice A0_0 l0_0.length c0_0, .slice A0_1 l0_1.length c0_1, .slice A0_2 l0_2.length c0_2, .int .i64 a0_3]] (by rfl) rfl rfl (by (try simp only [List.map_toArray, List.map_cons, List.map_nil]); first | done | rfl | (simp only [List.length_drop, List.length_take]; rfl)) ?_
      with_reducible refine (laws_toStore.calls kj10 _ _ l0_0 _ _ l0_1 _ _ l0_2 a0_3 t529 t532 t535 t538 _ ?side1 ?side2 ?side3 ?side4 ?side5 ?side6 A37.out).mono ?_
      (case side1 => exact cb HR0_0 HB)
      (case side2 => exact HC0_0.out)
      (case side3 => exact cb HR0_1 HB)
      (case side4 => exact HC0_1.out)
      (case side5 => exact cb HR0_2 HB)
      (case side6 => exact HC0_2.out)
      rintro e w43 ⟨v530, v533, v536, rfl, ho0, ho1, ho2, hb⟩
      refine ⟨_, rfl, ?_⟩
      have n0_ := Aside0.mk (Kd.R_mono (Kd.R_told (Kd.R_told (Kd.R_old (rr HO_4.out) hb) (Kd.R_base ho0)) (Kd.R_base ho2)) (fun _ h_ => h_.1))
      have n1_ := Aside0.mk (Kd.R_mono (Kd.R_told (Kd.R_told (Kd.R_old (rr HO_7.out) hb) (Kd.R_base ho0)) (Kd.R_base ho2)) (fun _ h_ => h_.1))
      have n2_ := Aside0.mk (Kd.R_mono (Kd.R_told (Kd.R_told (Kd.R_old (rr HO_524000.out) hb) (Kd.R_base ho0)) (Kd.R_base ho2)) (fun _ h_ => h_.1))
      have n3_ := Aside0.mk (Kd.R_elder' (rr HO_524001.out) (Kd.R_base ho1) hb)
      have n4_ := Aside0.mk (Kd.R_mono (Kd.R_told (Kd.R_told (Kd.R_old (rr HO_524002.out) hb) (Kd.R_base ho0)) (Kd.R_base ho2)) (fun _ h_ => h_.1))
      have n5_ := Aside0.mk (Kd.R_lower (Kd.R_new' (Kd.R_new' (Kd.R_new' (Kd.R_new' ho0 (Kd.R_lt (rr HO_4.out))) (Kd.R_lt (rr HO_7.out))) (Kd.R_lt (rr HO_524000.out))) (Kd.R_lt (rr HO_524002.out))) (below_size (bs2 HB GE497 GE523)))
      have n6_ := Aside0.mk (Kd.R_lower (Kd.R_new' ho1 (Kd.R_lt (rr HO_524001.out))) (below_size (bs2 HB GE497 GE523)))
      have n7_ := Aside0.mk (Kd.R_lower (Kd.R_new' (Kd.R_new' (Kd.R_new' (Kd.R_new' ho2 (Kd.R_lt (rr HO_4.out))) (Kd.R_lt (rr HO_7.out))) (Kd.R_lt (rr HO_524000.out))) (Kd.R_lt (rr HO_524002.out))) (below_size (bs2 HB GE497 GE523)))
      have n8_ := Aside0.mk (bb BK497 hb)
      have n9_ := Aside0.mk (bb BK523 hb)
      have n10_ := Aside0.mk (below_step (bs2 HB GE497 GE523) hb)
      clear HO_4
      clear HO_7
      clear HO_524000
      clear HO_524001
      clear HO_524002
      clear BK497
      clear BK523
      clear HB
      have HO_4 := n0_
      have HO_7 := n1_
      have HO_524000 := n2_
      have HO_524001 := n3_
      have HO_524002 := n4_
      have HO531 := n5_
      have HO534 := n6_
      have HO537 := n7_
      have BK497 := n8_
      have BK523 := n9_
      have HB := n10_
      clear n0_ n1_ n2_ n3_ n4_ n5_ n6_ n7_ n8_ n9_ n10_
      (try clear hb)
      (try clear hb2)
      (try clear hk)
      (try clear hi)
      (try clear ho0)
      (try clear ho1)
      (try clear ho2)
      obtain ⟨Ao44, co44, eo44⟩ := Kd.R_slice HO531.out
      (first | subst eo44 | (injection eo44 with f1_ f2_ f3_; have f4_ := f1_.symm; have f5_ := f3_.symm; clear f1_ f2_ f3_; subst f4_; subst f5_))
      obtain ⟨Ao45, co45, eo45⟩ := Kd.R_slice HO534.out
      (first | subst eo45 | (injection eo45 with f1_ f2_ f3_; have f4_ := f1_.symm; have f5_ := f3_.symm; clear f1_ f2_ f3_; subst f4_; subst f5_))
      obtain ⟨Ao46, co46, eo46⟩ := Kd.R_slice HO537.out
      (first | subst eo46 | (injection eo46 with f1_ f2_ f3_; have f4_ := f1_.symm; have f5_ := f3_.symm; clear f1_ f2_ f3_; subst f4_; subst f5_))
      refine hK.out _ _ ⟨(blk_cell BK523.out 0).trans rfl, (blk_cell BK523.out 1).trans rfl, (blk_cell BK523.out 2).trans rfl, (blk_cell BK523.out 3).trans rfl, (blk_cell BK497.out 0).trans rfl, (blk_cell BK497.out 1).trans rfl, (blk_cell BK497.out 2).trans rfl, (blk_cell BK497.out 3).trans rfl⟩ (fun hHeld => ?_)
      clear hK K
      refine norm_ (a' := ?_) ?_ ?_
      rotate_left
      ·
       show Act.put _ (some 43) _ = _
       simp only [Act.put, List.setIfInBounds_toArray, List.set_cons_zero, List.set_cons_succ, i64_w, i32_w]
       rfl
      refine one_ (i := 3) (N := some 44) #[true, true, true, true, false] rfl rfl (by kernel_rfl) (by decide) (fun K hK => ?_)
      refine goes_ Try.func29 (by kernel_rfl) rfl #[.agg #[.slice Ao24 t513.length co24, .slice Ao27 t516.length co27, .slice Ao28 t519.length co28, .int .i64 t522], .agg #[.slice Ao44 t529.length co44, .slice Ao45 t532.length co45, .slice Ao46 t535.length co46, .int .i64 t538]] (by rfl) rfl rfl (by (try simp only [List.map_toArray, List.map_cons, List.map_nil]); first | done | rfl | (simp only [List.length_drop, List.length_take]; rfl)) ?_
      with_reducible refine (laws_eqStore.calls kj10 _ _ t513 _ _ t516 _ _ t519 t522 _ _ t529 _ _ t532 _ _ t535 t538 true _ ?side1 ?side2 ?side3 ?side4 ?side5 ?side6 ?side7 ?side8 ?side9 ?side10 ?side11 ?side12 A38.out).mono ?_
      (case side1 => exact rc0 HO_524000)
      (case side2 => exact (Kd.R_reads' HO_524000.out).2.1)
      (case side3 => exact rc0 HO_524001)
      (case side4 => exact (Kd.R_reads' HO_524001.out).2.1)
      (case side5 => exact rc0 HO_524002)
      (case side6 => exact (Kd.R_reads' HO_524002.out).2.1)
      (case side7 => exact rc0 HO531)
      (case side8 => exact (Kd.R_reads' HO531.out).2.1)
      (case side9 => exact rc0 HO534)
      (case side10 => exact (Kd.R_reads' HO534.out).2.1)
      (case side11 => exact rc0 HO537)
      (case side12 => exact (Kd.R_reads' HO537.out).2.1)
      rintro e w47 ⟨rfl, hb⟩
      refine ⟨_, rfl, ?_⟩
      have n0_ := Aside0.mk (Kd.R_below (rr HO_4.out) hb)
      have n1_ := Aside0.mk (Kd.R_below (rr HO_7.out) hb)
      have n2_ := Aside0.mk (Kd.R_below (rr HO_524000.out) hb)
      have n3_ := Aside0.mk (Kd.R_below (rr HO_524001.out) hb)
      have n4_ := Aside0.mk (Kd.R_below (rr HO_524002.out) hb)
      have n5_ := Aside0.mk (Kd.R_below (rr HO531.out) hb)
      have n6_ := Aside0.mk (Kd.R_below (rr HO534.out) hb)
      have n7_ := Aside0.mk (Kd.R_below (rr HO537.out) hb)
      have n8_ := Aside0.mk (bb BK497 hb)
      have n9_ := Aside0.mk (bb BK523 hb)
      have n10_ := Aside0.mk (below_step (bs2 HB GE497 GE523) hb)
      clear HO_4
      clear HO_7
      clear HO_524000
      clear HO_524001
      clear HO_524002
      clear HO531
      clear HO534
      clear HO537
      clear BK497
      clear BK523
      clear HB
      have HO_4 := n0_
      have HO_7 := n1_
      have HO_524000 := n2_
      have HO_524001 := n3_
      have HO_524002 := n4_
      have HO531 := n5_
      have HO534 := n6_
      have HO537 := n7_
      have BK497 := n8_
      have BK523 := n9_
      have HB := n10_
      clear n0_ n1_ n2_ n3_ n4_ n5_ n6_ n7_ n8_ n9_ n10_
      (try clear hb)
      (try clear hb2)
      (try clear hk)
      (try clear hi)
      refine hK.out _ _ ⟨(blk_cell BK523.out 0).trans rfl, (blk_cell BK523.out 1).trans rfl, (blk_cell BK523.out 2).trans rfl, (blk_cell BK523.out 3).trans rfl, (blk_cell BK497.out 0).trans rfl, (blk_cell BK497.out 1).trans rfl, (blk_cell BK497.out 2).trans rfl, (blk_cell BK497.out 3).trans rfl⟩ (fun hHeld => ?_)
      clear hK K
      refine norm_ (a' := ?_) ?_ ?_
      rotate_left
      ·
       show Act.put _ (some 44) _ = _
       simp only [Act.put, List.setIfInBounds_toArray, List.set_cons_zero, List.set_cons_succ, i64_w, i32_w]
       rfl
      refine pure_ (i := 4) (N := some 45) (v := ?_) (a' := ?_) #[true, true, true, true, true] rfl rfl (by kernel_rfl) (fun _ _ _ h => h) (Or.inl ⟨by rfl, ?_⟩) ?_ ?_
      rotate_left
      ·
       intro w'
       go_simp
       with_reducible rfl
      rotate_left
      ·
       simp only [Act.put, List.setIfInBounds_toArray, List.set_cons_zero, List.set_cons_succ, i64_w, i32_w]
       rfl
      refine done_ (by kernel_rfl) ?_
      have hnb48 := NB523_497.out
      have hnc48 := NB497_523.out
      obtain ⟨hcz49_0, hcz49_1, hcz49_2, hcz49_3⟩ := cz4 BK523
      obtain ⟨hfz49_0, hfz49_1, hfz49_2, hfz49_3⟩ := fz4 BK523
      go_upto_region 14 with (first | ((with_reducible refine gate_callee (f := 32) rfl ?_); refine gL (some 48) rfl rfl Try.func32 (by kernel_rfl) rfl #[.agg #[.slice Ao24 t513.length co24, .slice Ao27 t516.length co27, .slice Ao28 t519.length co28, .int .i64 t522], .int .i64 1] rfl ?_; (with_reducible refine (laws_markStore.calls kj10 (fun k_ => some k_ = (.slice Ao24 t513.length co24 : Value).ownBlock) (.slice Ao24 t513.length co24) t513 (fun k_ => some k_ = (.slice Ao27 t516.length co27 : Value).ownBlock) (.slice Ao27 t516.length co27) t516 (fun k_ => some k_ = (.slice Ao28 t519.length co28 : Value).ownBlock) (.slice Ao28 t519.length co28) t519 t522 1 t540 t541 t542 t543 w _ ?side1 ?side2 ?side3 ?side4 ?side5 ?side6 A40.out).mono ?_); (case side1 => repeat (first | (with_reducible first | exact HB.out | apply below_alloc | apply pw_below_drewN | apply below_drew1 | refine below_set ?_ GE497.out | refine below_set ?_ GE523.out) | exact HB.out)); (case side2 => exact Kd.R_tight rfl HO_524000.out); (case side3 => exact fun k_ e_ => (HO_524000.out.1 k_ e_.symm).1.1.2.2); (case side4 => exact Kd.R_tight rfl HO_524001.out); (case side5 => exact Kd.R_tight rfl HO_524002.out); (case side6 => exact fun k_ e_ => (HO_524002.out.1 k_ e_.symm).1.1.2.2); rintro e w50 ⟨rfl, hy0, hy1, hy2, hb, hkp⟩; refine ⟨_, rfl, ?_⟩; replace HO_4 := Aside0.mk (Kd.R_mono (ok' := fun k_ => some k_ ≠ (v525 : Value).ownBlock ∧ some k_ ≠ (.slice Ao24 t513.length co24 : Value).ownBlock ∧ some k_ ≠ (.slice Ao28 t519.length co28 : Value).ownBlock ∧ some k_ ≠ (.slice Ao44 t529.length co44 : Value).ownBlock ∧ some k_ ≠ (.slice Ao46 t535.length co46 : Value).ownBlock) (Kd.R_keptB ((Kd.R_apart' HO_4.out (Kd.R_typed HO_524001.out) (by decide))) hkp (fun k_ hk_ hs_ => Or.elim hs_ (fun e_ => (hk_.1.1.1.2.1) e_) (fun e_ => Or.elim e_ (fun e_ => (hk_.2) e_) (fun e_ => (hk_.1.1.1.2.2) e_)))) (fun k_ hk_ => ⟨hk_.1.1.1.1.1, hk_.1.1.1.1.2.1, hk_.1.1.1.1.2.2, hk_.1.1.1.2, hk_.1.1.2⟩)); replace HO_7 := Aside0.mk (Kd.R_mono (ok' := fun k_ => some k_ ≠ (v510 : Value).ownBlock ∧ some k_ ≠ (.slice Ao24 t513.length co24 : Value).ownBlock ∧ some k_ ≠ (.slice Ao28 t519.length co28 : Value).ownBlock ∧ some k_ ≠ (.slice Ao44 t529.length co44 : Value).ownBlock ∧ some k_ ≠ (.slice Ao46 t535.length co46 : Value).ownBlock) (Kd.R_keptB ((Kd.R_apart' HO_7.out (Kd.R_typed HO_524001.out) (by decide))) hkp (fun k_ hk_ hs_ => Or.elim hs_ (fun e_ => (hk_.1.1.1.2.1) e_) (fun e_ => Or.elim e_ (fun e_ => (hk_.2) e_) (fun e_ => (hk_.1.1.1.2.2) e_)))) (fun k_ hk_ => ⟨hk_.1.1.1.1.1, hk_.1.1.1.1.2.1, hk_.1.1.1.1.2.2, hk_.1.1.1.2, hk_.1.1.2⟩)); replace BK497 := Aside0.mk (blk_kept (bk BK497) hkp (fun hs_ => Or.elim hs_ (fun e_ => (fun e_ => (Kd.R_ne HO_524000.out BK497.out (by decide)) e_) e_) (fun e_ => Or.elim e_ (fun e_ => (fun e_ => (Kd.R_ne HO_524001.out BK497.out (by decide)) e_) e_) (fun e_ => (fun e_ => (Kd.R_ne HO_524002.out BK497.out (by decide)) e_) e_)))); replace BK523 := Aside0.mk (blk_kept (bk BK523) hkp (fun hs_ => Or.elim hs_ (fun e_ => (fun e_ => (Kd.R_ne HO_524000.out BK523.out (by decide)) e_) e_) (fun e_ => Or.elim e_ (fun e_ => (fun e_ => (Kd.R_ne HO_524001.out BK523.out (by decide)) e_) e_) (fun e_ => (fun e_ => (Kd.R_ne HO_524002.out BK523.out (by decide)) e_) e_)))); replace HO531 := Aside0.mk (Kd.R_mono (ok' := fun k_ => some k_ ≠ (v510 : Value).ownBlock ∧ some k_ ≠ (v525 : Value).ownBlock ∧ some k_ ≠ (.slice Ao24 t513.length co24 : Value).ownBlock ∧ some k_ ≠ (.slice Ao28 t519.length co28 : Value).ownBlock ∧ some k_ ≠ (.slice Ao46 t535.length co46 : Value).ownBlock) (Kd.R_keptB ((Kd.R_apart' HO531.out (Kd.R_typed HO_524001.out) (by decide))) hkp (fun k_ hk_ hs_ => Or.elim hs_ (fun e_ => (hk_.1.1.2) e_) (fun e_ => Or.elim e_ (fun e_ => (hk_.2) e_) (fun e_ => (hk_.1.2) e_)))) (fun k_ hk_ => ⟨hk_.1.1.1.1.1.2, hk_.1.1.1.1.2, hk_.1.1.1.2, hk_.1.1.2, hk_.1.1.1.1.1.1⟩)); replace HO534 := Aside0.mk (Kd.R_mono (ok' := fun k_ => some k_ ≠ (.slice Ao27 t516.length co27 : Value).ownBlock) (Kd.R_keptB ((Kd.R_apart' (Kd.R_apart' HO534.out (Kd.R_typed HO_524000.out) (by decide)) (Kd.R_typed HO_524002.out) (by decide))) hkp (fun k_ hk_ hs_ => Or.elim hs_ (fun e_ => (hk_.1.2) e_) (fun e_ => Or.elim e_ (fun e_ => (hk_.1.1.2) e_) (fun e_ => (hk_.2) e_)))) (fun k_ hk_ => hk_.1.1.1.2)); replace HO_524000 := Aside0.mk (Kd.R_reok rfl hy0 (fun k_ e_ => HO_524000.out.1 k_ e_)); replace HO_524002 := Aside0.mk (Kd.R_reok rfl hy2 (fun k_ e_ => HO_524002.out.1 k_ e_)); replace HO537 := Aside0.mk (Kd.R_mono (ok' := fun k_ => some k_ ≠ (v510 : Value).ownBlock ∧ some k_ ≠ (v525 : Value).ownBlock ∧ some k_ ≠ (.slice Ao24 t513.length co24 : Value).ownBlock ∧ some k_ ≠ (.slice Ao28 t519.length co28 : Value).ownBlock ∧ some k_ ≠ (.slice Ao44 t529.length co44 : Value).ownBlock) (Kd.R_keptB ((Kd.R_apart' HO537.out (Kd.R_typed HO_524001.out) (by decide))) hkp (fun k_ hk_ hs_ => Or.elim hs_ (fun e_ => (hk_.1.1.2) e_) (fun e_ => Or.elim e_ (fun e_ => (hk_.2) e_) (fun e_ => (hk_.1.2) e_)))) (fun k_ hk_ => ⟨hk_.1.1.1.1.1.2, hk_.1.1.1.1.2, hk_.1.1.1.2, hk_.1.1.2, hk_.1.1.1.1.1.1⟩)); replace HO_524001 := Aside0.mk (Kd.R_reok rfl hy1 (fun k_ e_ => HO_524001.out.1 k_ e_)); replace HB := Aside0.mk (hb); (try clear hb); (try clear hkp); (try clear hy0); (try clear hy1); (try clear hy2)))
      (try simp only [Act.put, List.setIfInBounds_toArray, List.set_cons_zero, List.set_cons_succ])
      go_cut [61] (fun v61 wc => ∃ (kq : Nat) (x61_40 : Bool), v61 = .bool x61_40 ∧ Aside0 (laws_FnExactViewOf.j1 kq t509 t512 t524 x61_40 l0_0 l0_1 l0_2 a0_3 = some r) ∧ Aside0 (kq ≤ kj10) ∧ Aside0 (Kd.R Kd.string 9 wc w.heap.size (fun k_ => some k_ ≠ (v525 : Value).ownBlock ∧ some k_ ≠ ((.slice Ao24 t513.length co24) : Value).ownBlock ∧ some k_ ≠ ((.slice Ao28 t519.length co28) : Value).ownBlock) v510 t509) ∧ Aside0 (Kd.R Kd.string 9 wc w.heap.size (fun k_ => some k_ ≠ (v510 : Value).ownBlock ∧ some k_ ≠ ((.slice Ao24 t513.length co24) : Value).ownBlock ∧ some k_ ≠ ((.slice Ao28 t519.length co28) : Value).ownBlock) v525 t524) ∧ Aside0 (Kd.R Kd.string 9 wc w.heap.size (fun k_ => some k_ ≠ (v510 : Value).ownBlock ∧ some k_ ≠ (v525 : Value).ownBlock ∧ some k_ ≠ ((.slice Ao28 t519.length co28) : Value).ownBlock) (.slice Ao24 t513.length co24) t541) ∧ Aside0 (Kd.R k72 72 wc w.heap.size (fun _ => True) (.slice Ao27 t516.length co27) t542) ∧ Aside0 (Kd.R Kd.string 9 wc w.heap.size (fun k_ => some k_ ≠ (v510 : Value).ownBlock ∧ some k_ ≠ (v525 : Value).ownBlock ∧ some k_ ≠ ((.slice Ao24 t513.length co24) : Value).ownBlock) (.slice Ao28 t519.length co28) t543) ∧ Aside0 (wc.heap[gb497]? = some (.cells #[(.slice A0_0 l0_0.length c0_0), (.slice A0_1 l0_1.length c0_1), (.slice A0_2 l0_2.length c0_2), .int .i64 a0_3] 38 (0, 0))) ∧ Aside0 (wc.heap[gb523]? = some (.cells #[(.slice Ao24 t513.length co24), (.slice Ao27 t516.length co27), (.slice Ao28 t519.length co28), .int .i64 t522] 44 (0, 0))) ∧ Aside0 (Below w.heap.size w wc))
      case first =>
       have H := HC41.out
       clear HC41
       by_cases c51 : t540 < 0
       ·
        rw [if_pos c51] at H
        have c51b0 : decide (t540 < 0) = true := decide_eq_true c51
        clear c51
        (first | rw [c51b0] | (simp only [i64_w, i32_w]; rw [c51b0]) | (simp only [c51b2, Bool.not_false, Bool.not_true]) | skip)
        have H' := Aside0.mk H
        clear H
        go_wp2
        go_meet
        case rel => exact ⟨_, (true), (by first | rfl | (simp; done) | (simp [*]; done)), H', ⟨by have := HJ10.out; first | omega | exact Nat.le_refl _⟩, rm HO_4 (fun _ hk => ⟨hk.1, ⟨hk.2.1, hk.2.2.1⟩⟩), rm HO_7 (fun _ hk => ⟨hk.1, ⟨hk.2.1, hk.2.2.1⟩⟩), rm HO_524000 (fun _ hk => ⟨hk.1.1.1, ⟨hk.1.1.2.1, hk.1.1.2.2⟩⟩), rm HO_524001 (fun _ hk => trivial), rm HO_524002 (fun _ hk => ⟨hk.1.1.1, ⟨hk.1.1.2.1, hk.1.1.2.2⟩⟩), ⟨bk BK497⟩, ⟨bk BK523⟩, ⟨bs2 HB GE497 GE523⟩⟩
       ·
        rw [if_neg c51] at H
        have c51b0 : decide (t540 < 0) = false := decide_eq_false c51
        clear c51
        (first | rw [c51b0] | (simp only [i64_w, i32_w]; rw [c51b0]) | (simp only [c51b2, Bool.not_false, Bool.not_true]) | skip)
        replace H := Option.bind_eq_some_iff.mp H
        obtain ⟨t544, A520, H⟩ := H
        replace H : (if t544 = true then (laws_FnExactViewOf.j1 kj10 t509 t512 t524 (t527 != t512) l0_0 l0_1 l0_2 a0_3) else (laws_FnExactViewOf.j1 kj10 t509 t512 t524 true l0_0 l0_1 l0_2 a0_3)) = some r := H
        have A52 := Aside0.mk A520
        clear A520
        by_cases c53 : t544 = true
        ·
         subst c53
         rw [if_pos rfl] at H
         have H' := Aside0.mk H
         clear H
         obtain ⟨Ao54, co54, eo54⟩ := Kd.R_slice HO_7.out
         subst eo54
         obtain ⟨Ao55, co55, eo55⟩ := Kd.R_slice HO_4.out
         subst eo55
         go_wp2_with (first | (go_at_call 36; (with_reducible refine (laws_eqStringS.calls kj10 _ _ t524 _ _ t509 true _ ?side1 ?side2 ?side3 ?side4 A52.out).mono ?_); (case side1 => exact rc0 HO_7); (case side2 => exact (Kd.R_reads' HO_7.out).2.1); (case side3 => exact rc0 HO_4); (case side4 => exact (Kd.R_reads' HO_4.out).2.1); rintro e w' ⟨rfl, ⟨nd, rfl⟩⟩))
         go_meet
         case rel => exact ⟨_, ((t527 != t512)), (by first | rfl | (simp; done) | (simp [*]; done)), H', ⟨by have := HJ10.out; first | omega | exact Nat.le_refl _⟩, rm HO_4 (fun _ hk => ⟨hk.1, ⟨hk.2.1, hk.2.2.1⟩⟩), rm HO_7 (fun _ hk => ⟨hk.1, ⟨hk.2.1, hk.2.2.1⟩⟩), rm HO_524000 (fun _ hk => ⟨hk.1.1.1, ⟨hk.1.1.2.1, hk.1.1.2.2⟩⟩), rm HO_524001 (fun _ hk => trivial), rm HO_524002 (fun _ hk => ⟨hk.1.1.1, ⟨hk.1.1.2.1, hk.1.1.2.2⟩⟩), ⟨bk BK497⟩, ⟨bk BK523⟩, ⟨bs2 HB GE497 GE523⟩⟩
        ·
         replace c53 := Bool.eq_false_iff.mpr c53
         subst c53
         rw [if_neg (show ¬ (false = true) by decide)] at H
         have H' := Aside0.mk H
         clear H
         obtain ⟨Ao56, co56, eo56⟩ := Kd.R_slice HO_7.out
         subst eo56
         obtain ⟨Ao57, co57, eo57⟩ := Kd.R_slice HO_4.out
         subst eo57
         go_wp2_with (first | (go_at_call 36; (with_reducible refine (laws_eqStringS.calls kj10 _ _ t524 _ _ t509 false _ ?side1 ?side2 ?side3 ?side4 A52.out).mono ?_); (case side1 => exact rc0 HO_7); (case side2 => exact (Kd.R_reads' HO_7.out).2.1); (case side3 => exact rc0 HO_4); (case side4 => exact (Kd.R_reads' HO_4.out).2.1); rintro e w' ⟨rfl, ⟨nd, rfl⟩⟩))
         go_meet
         case rel => exact ⟨_, (true), (by first | rfl | (simp; done) | (simp [*]; done)), H', ⟨by have := HJ10.out; first | omega | exact Nat.le_refl _⟩, rm HO_4 (fun _ hk => ⟨hk.1, ⟨hk.2.1, hk.2.2.1⟩⟩), rm HO_7 (fun _ hk => ⟨hk.1, ⟨hk.2.1, hk.2.2.1⟩⟩), rm HO_524000 (fun _ hk => ⟨hk.1.1.1, ⟨hk.1.1.2.1, hk.1.1.2.2⟩⟩), rm HO_524001 (fun _ hk => trivial), rm HO_524002 (fun _ hk => ⟨hk.1.1.1, ⟨hk.1.1.2.1, hk.1.1.2.2⟩⟩), ⟨bk BK497⟩, ⟨bk BK523⟩, ⟨bs2 HB GE497 GE523⟩⟩
      case rest =>
       clear HC41
       try clear c2
       try clear p2
       try clear c3
       try clear c3b0
       try clear c4
       try clear c5
       try clear c7
       try clear c25
       try clear c27
       try clear c29
       try clear c31
       try clear c32
       try clear c34
       try clear c35
       try clear c36
       try clear c39
       try clear c48
       try clear c51
       try clear c51b0
       try clear c53
       try clear hcz13_0 hcz13_1 hcz13_2 hcz13_3
       try clear hcz15_0 hcz15_1 hcz15_2 hcz15_3
       try clear hcz21_0 hcz21_1 hcz21_2 hcz21_3
       try clear hcz26_0 hcz26_1 hcz26_2 hcz26_3
       try clear hcz49_0 hcz49_1 hcz49_2 hcz49_3
       try clear hcz5_0 hcz5_1 hcz5_2 hcz5_3
       try clear hfz13_0 hfz13_1 hfz13_2 hfz13_3
       try clear hfz15_0 hfz15_1 hfz15_2 hfz15_3
       try clear hfz21_0 hfz21_1 hfz21_2 hfz21_3
       try clear hfz26_0 hfz26_1 hfz26_2 hfz26_3
       try clear hfz49_0 hfz49_1 hfz49_2 hfz49_3
       try clear hfz5_0 hfz5_1 hfz5_2 hfz5_3
       try clear p2
       obtain ⟨kq, x61_40, rfl, HA, HJ40, HO_4, HO_7, HO_524000, HO_524001, HO_524002, BK497, BK523, HB⟩ := hcut
       have hl524000_40 := (Kd.R_reads' HO_524000.out).1
       rw [hl524000_40] at HO_524000
       (try simp only [hl524000_40])
       (try simp only [hl524000_40] at BK497)
       (try simp only [hl524000_40] at BK523)
       (try simp only [hl524000_40] at HO_4)
       (try simp only [hl524000_40] at HO_7)
       (try simp only [hl524000_40] at HO_524001)
       (try simp only [hl524000_40] at HO_524002)
       have hl524001_40 := (Kd.R_reads' HO_524001.out).1
       rw [hl524001_40] at HO_524001
       (try simp only [hl524001_40])
       (try simp only [hl524001_40] at BK497)
       (try simp only [hl524001_40] at BK523)
       (try simp only [hl524001_40] at HO_4)
       (try simp only [hl524001_40] at HO_7)
       (try simp only [hl524001_40] at HO_524000)
       (try simp only [hl524001_40] at HO_524002)
       have hl524002_40 := (Kd.R_reads' HO_524002.out).1
       rw [hl524002_40] at HO_524002
       (try simp only [hl524002_40])
       (try simp only [hl524002_40] at BK497)
       (try simp only [hl524002_40] at BK523)
       (try simp only [hl524002_40] at HO_4)
       (try simp only [hl524002_40] at HO_7)
       (try simp only [hl524002_40] at HO_524000)
       (try simp only [hl524002_40] at HO_524001)
       cases kq with
       | zero => exact absurd HA.out (by simp [laws_FnExactViewOf.j1])
       | succ kj40 =>
        have H := HA.out
        clear HA
        simp only [laws_FnExactViewOf.j1] at H
        by_cases c58 : x61_40 = true
        ·
         subst c58
         rw [if_pos rfl] at H
         obtain rfl := Option.some.inj H
         go_wp2
         go_ret
         exact ⟨by first | rfl | (simp [errW_none, errW_some] <;> rfl) | (simp [*, errW_none, errW_some] <;> rfl), bs2 HB GE497 GE523⟩
        ·
         replace c58 := Bool.eq_false_iff.mpr c58
         subst c58
         rw [if_neg (show ¬ (false = true) by decide)] at H
         replace H := Option.bind_eq_some_iff.mp H
         obtain ⟨⟨t545, t546⟩, A590, H⟩ := H
         replace H : ((laws_heldStringS.f kj40 t546 1).bind fun t547 => (if t547 < 0 then (some false) else (if t547 = t545 then ((laws_toStore.f kj40 l0_0 l0_1 l0_2 a0_3).bind fun bt548 => ((impl_ViewOf.f kj40 bt548.1 bt548.2.1 bt548.2.2.1 bt548.2.2.2).bind fun bt558 => ((laws_eqStringS.f kj40 bt558.1 t509).bind fun t562 => (if t562 = true then (laws_FnExactViewOf.j2 kj40 t546 t545 (bt558.2 != t512)) else (laws_FnExactViewOf.j2 kj40 t546 t545 true))))) else (some false)))) = some r := H
         have A59 := Aside0.mk A590
         clear A590
         replace H := Option.bind_eq_some_iff.mp H
         obtain ⟨t547, A600, H⟩ := H
         replace H : (if t547 < 0 then (some false) else (if t547 = t545 then ((laws_toStore.f kj40 l0_0 l0_1 l0_2 a0_3).bind fun bt548 => ((impl_ViewOf.f kj40 bt548.1 bt548.2.1 bt548.2.2.1 bt548.2.2.2).bind fun bt558 => ((laws_eqStringS.f kj40 bt558.1 t509).bind fun t562 => (if t562 = true then (laws_FnExactViewOf.j2 kj40 t546 t545 (bt558.2 != t512)) else (laws_FnExactViewOf.j2 kj40 t546 t545 true))))) else (some false))) = some r := H
         have A60 := Aside0.mk A600
         clear A600
         by_cases c61 : t547 < 0
         ·
          rw [if_pos c61] at H
          have c61b0 : decide (t547 < 0) = true := decide_eq_true c61
          clear c61
          obtain rfl := Option.some.inj H
          obtain ⟨Ao62, co62, eo62⟩ := Kd.R_slice HO_7.out
          subst eo62
          go_wp2_with (first | ((with_reducible refine gate_callee (f := 37) rfl ?_); refine gL (some 64) rfl rfl Try.func37 (by kernel_rfl) rfl #[.slice Ao62 t524.length co62, .int .i64 1] rfl ?_; (with_reducible refine (laws_markStringS.calls kj40 (fun k_ => some k_ = (.slice Ao62 t524.length co62 : Value).ownBlock) (.slice Ao62 t524.length co62) t524 1 t545 t546 w _ ?side1 ?side2 A59.out).mono ?_); (case side1 => repeat (first | (with_reducible first | exact HB.out | apply below_alloc | apply pw_below_drewN | apply below_drew1 | refine below_set ?_ GE497.out | refine below_set ?_ GE523.out) | exact HB.out)); (case side2 => exact Kd.R_tight rfl HO_7.out); rintro e w63 ⟨rfl, hy0, hb, hkp⟩; refine ⟨_, rfl, ?_⟩; replace HO_4 := Aside0.mk (Kd.R_mono (ok' := fun k_ => some k_ ≠ (.slice Ao62 t524.length co62 : Value).ownBlock ∧ some k_ ≠ (.slice Ao24 t541.length co24 : Value).ownBlock ∧ some k_ ≠ (.slice Ao28 t543.length co28 : Value).ownBlock) (Kd.R_keptB (HO_4.out) hkp (fun k_ hk_ hs_ => (hk_.1) hs_)) (fun k_ hk_ => ⟨hk_.1.1, hk_.1.2.1, hk_.1.2.2⟩)); replace HO_524000 := Aside0.mk (Kd.R_mono (ok' := fun k_ => some k_ ≠ (v510 : Value).ownBlock ∧ some k_ ≠ (.slice Ao62 t524.length co62 : Value).ownBlock ∧ some k_ ≠ (.slice Ao28 t543.length co28 : Value).ownBlock) (Kd.R_keptB (HO_524000.out) hkp (fun k_ hk_ hs_ => (hk_.2.1) hs_)) (fun k_ hk_ => ⟨hk_.1.1, hk_.1.2.1, hk_.1.2.2⟩)); replace HO_524001 := Aside0.mk (Kd.R_mono (ok' := fun k_ => True) (Kd.R_keptB ((Kd.R_apart' HO_524001.out (Kd.R_typed HO_7.out) (by decide))) hkp (fun k_ hk_ hs_ => (hk_.2) hs_)) (fun k_ hk_ => trivial)); replace HO_524002 := Aside0.mk (Kd.R_mono (ok' := fun k_ => some k_ ≠ (v510 : Value).ownBlock ∧ some k_ ≠ (.slice Ao62 t524.length co62 : Value).ownBlock ∧ some k_ ≠ (.slice Ao24 t541.length co24 : Value).ownBlock) (Kd.R_keptB (HO_524002.out) hkp (fun k_ hk_ hs_ => (hk_.2.1) hs_)) (fun k_ hk_ => ⟨hk_.1.1, hk_.1.2.1, hk_.1.2.2⟩)); replace BK497 := Aside0.mk (blk_kept (bk BK497) hkp (fun hs_ => (fun e_ => (Kd.R_ne HO_7.out BK497.out (by decide)) e_) hs_)); replace BK523 := Aside0.mk (blk_kept (bk BK523) hkp (fun hs_ => (fun e_ => (Kd.R_ne HO_7.out BK523.out (by decide)) e_) hs_)); replace HO_7 := Aside0.mk (Kd.R_reok rfl hy0 (fun k_ e_ => HO_7.out.1 k_ e_)); replace HB := Aside0.mk (hb); (try clear hb); (try clear hkp); (try clear hy0)) | ((with_reducible refine gate_callee (f := 38) rfl ?_); refine goesL_ (some 67) rfl rfl Try.func38 (by kernel_rfl) rfl #[.slice Ao62 t546.length co62, .int .i64 1] rfl (by (try simp only [List.map_toArray, List.map_cons, List.map_nil]); first | done | (rw [show t546.length = t524.length from (Kd.R_reads' HO_7.out).1.symm] <;> rfl) | rfl | (simp only [List.length_drop, List.length_take]; rfl)) ?_; (with_reducible refine (laws_heldStringS.calls kj40 _ _ t546 1 t547 _ ?side1 ?side2 A60.out).mono ?_); (case side1 => exact rc0 HO_7); (case side2 => rw [show t546.length = t524.length from (Kd.R_reads' HO_7.out).1.symm]; exact (Kd.R_reads' HO_7.out).2.1); rintro e w64 ⟨rfl, hb⟩; refine ⟨_, rfl, ?_⟩; replace HO_4 := nr HO_4 hb; replace HO_7 := nr HO_7 hb; replace HO_524000 := nr HO_524000 hb; replace HO_524001 := nr HO_524001 hb; replace HO_524002 := nr HO_524002 hb; replace BK497 := nb BK497 hb; replace BK523 := nb BK523 hb; replace HB := Aside0.mk (below_step (bs2 HB GE497 GE523) hb); (try clear hb); (try clear hb2); (try clear hk); (try clear hi)))
          go_ret
          exact ⟨by first | rfl | (simp [errW_none, errW_some] <;> rfl) | (simp [*, errW_none, errW_some] <;> rfl), bs2 HB GE497 GE523⟩
         ·
          rw [if_neg c61] at H
          have c61b0 : decide (t547 < 0) = false := decide_eq_false c61
          clear c61
          by_cases c65 : t547 = t545
          ·
           rw [if_pos c65] at H
           have c65b0 : (t547 == t545) = true := beq_iff_eq.mpr c65
           have c65b1 : (t547 != t545) = false := bne_eq_false_iff_eq.mpr c65
           clear c65
           replace H := Option.bind_eq_some_iff.mp H
           obtain ⟨⟨t548, t551, t554, t557⟩, A660, H⟩ := H
           replace H : ((impl_ViewOf.f kj40 t548 t551 t554 t557).bind fun bt558 => ((laws_eqStringS.f kj40 bt558.1 t509).bind fun t562 => (if t562 = true then (laws_FnExactViewOf.j2 kj40 t546 t545 (bt558.2 != t512)) else (laws_FnExactViewOf.j2 kj40 t546 t545 true)))) = some r := H
           have A66 := Aside0.mk A660
           clear A660
           replace H := Option.bind_eq_some_iff.mp H
           obtain ⟨⟨t558, t561⟩, A670, H⟩ := H
           replace H : ((laws_eqStringS.f kj40 t558 t509).bind fun t562 => (if t562 = true then (laws_FnExactViewOf.j2 kj40 t546 t545 (t561 != t512)) else (laws_FnExactViewOf.j2 kj40 t546 t545 true))) = some r := H
           have A67 := Aside0.mk A670
           clear A670
           have HC68 := Aside0.mk H
           clear H
           obtain ⟨Ao69, co69, eo69⟩ := Kd.R_slice HO_7.out
           subst eo69
           go_upto_region 25 with (first | ((with_reducible refine gate_callee (f := 37) rfl ?_); refine gL (some 64) rfl rfl Try.func37 (by kernel_rfl) rfl #[.slice Ao69 t524.length co69, .int .i64 1] rfl ?_; (with_reducible refine (laws_markStringS.calls kj40 (fun k_ => some k_ = (.slice Ao69 t524.length co69 : Value).ownBlock) (.slice Ao69 t524.length co69) t524 1 t545 t546 w _ ?side1 ?side2 A59.out).mono ?_); (case side1 => repeat (first | (with_reducible first | exact HB.out | apply below_alloc | apply pw_below_drewN | apply below_drew1 | refine below_set ?_ GE497.out | refine below_set ?_ GE523.out) | exact HB.out)); (case side2 => exact Kd.R_tight rfl HO_7.out); rintro e w70 ⟨rfl, hy0, hb, hkp⟩; refine ⟨_, rfl, ?_⟩; replace HO_4 := Aside0.mk (Kd.R_mono (ok' := fun k_ => some k_ ≠ (.slice Ao69 t524.length co69 : Value).ownBlock ∧ some k_ ≠ (.slice Ao24 t541.length co24 : Value).ownBlock ∧ some k_ ≠ (.slice Ao28 t543.length co28 : Value).ownBlock) (Kd.R_keptB (HO_4.out) hkp (fun k_ hk_ hs_ => (hk_.1) hs_)) (fun k_ hk_ => ⟨hk_.1.1, hk_.1.2.1, hk_.1.2.2⟩)); replace HO_524000 := Aside0.mk (Kd.R_mono (ok' := fun k_ => some k_ ≠ (v510 : Value).ownBlock ∧ some k_ ≠ (.slice Ao69 t524.length co69 : Value).ownBlock ∧ some k_ ≠ (.slice Ao28 t543.length co28 : Value).ownBlock) (Kd.R_keptB (HO_524000.out) hkp (fun k_ hk_ hs_ => (hk_.2.1) hs_)) (fun k_ hk_ => ⟨hk_.1.1, hk_.1.2.1, hk_.1.2.2⟩)); replace HO_524001 := Aside0.mk (Kd.R_mono (ok' := fun k_ => True) (Kd.R_keptB ((Kd.R_apart' HO_524001.out (Kd.R_typed HO_7.out) (by decide))) hkp (fun k_ hk_ hs_ => (hk_.2) hs_)) (fun k_ hk_ => trivial)); replace HO_524002 := Aside0.mk (Kd.R_mono (ok' := fun k_ => some k_ ≠ (v510 : Value).ownBlock ∧ some k_ ≠ (.slice Ao69 t524.length co69 : Value).ownBlock ∧ some k_ ≠ (.slice Ao24 t541.length co24 : Value).ownBlock) (Kd.R_keptB (HO_524002.out) hkp (fun k_ hk_ hs_ => (hk_.2.1) hs_)) (fun k_ hk_ => ⟨hk_.1.1, hk_.1.2.1, hk_.1.2.2⟩)); replace BK497 := Aside0.mk (blk_kept (bk BK497) hkp (fun hs_ => (fun e_ => (Kd.R_ne HO_7.out BK497.out (by decide)) e_) hs_)); replace BK523 := Aside0.mk (blk_kept (bk BK523) hkp (fun hs_ => (fun e_ => (Kd.R_ne HO_7.out BK523.out (by decide)) e_) hs_)); replace HO_7 := Aside0.mk (Kd.R_reok rfl hy0 (fun k_ e_ => HO_7.out.1 k_ e_)); replace HB := Aside0.mk (hb); (try clear hb); (try clear hkp); (try clear hy0)) | ((with_reducible refine gate_callee (f := 38) rfl ?_); refine goesL_ (some 67) rfl rfl Try.func38 (by kernel_rfl) rfl #[.slice Ao69 t546.length co69, .int .i64 1] rfl (by (try simp only [List.map_toArray, List.map_cons, List.map_nil]); first | done | (rw [show t546.length = t524.length from (Kd.R_reads' HO_7.out).1.symm] <;> rfl) | rfl | (simp only [List.length_drop, List.length_take]; rfl)) ?_; (with_reducible refine (laws_heldStringS.calls kj40 _ _ t546 1 t547 _ ?side1 ?side2 A60.out).mono ?_); (case side1 => exact rc0 HO_7); (case side2 => rw [show t546.length = t524.length from (Kd.R_reads' HO_7.out).1.symm]; exact (Kd.R_reads' HO_7.out).2.1); rintro e w71 ⟨rfl, hb⟩; refine ⟨_, rfl, ?_⟩; replace HO_4 := nr HO_4 hb; replace HO_7 := nr HO_7 hb; replace HO_524000 := nr HO_524000 hb; replace HO_524001 := nr HO_524001 hb; replace HO_524002 := nr HO_524002 hb; replace BK497 := nb BK497 hb; replace BK523 := nb BK523 hb; replace HB := Aside0.mk (below_step (bs2 HB GE497 GE523) hb); (try clear hb); (try clear hb2); (try clear hk); (try clear hi); have hnb72 := NB497_523.out; have hnc72 := NB523_497.out; obtain ⟨hcz73_0, hcz73_1, hcz73_2, hcz73_3⟩ := cz4 BK497; obtain ⟨hfz73_0, hfz73_1, hfz73_2, hfz73_3⟩ := fz4 BK497) | ((with_reducible refine gate_callee (f := 27) rfl ?_); refine gL (some 75) rfl rfl Try.func27 (by kernel_rfl) rfl #[.agg #[.slice A0_0 l0_0.length c0_0, .slice A0_1 l0_1.length c0_1, .slice A0_2 l0_2.length c0_2, .int .i64 a0_3]] rfl ?_; (with_reducible refine (laws_toStore.calls kj40 _ _ l0_0 _ _ l0_1 _ _ l0_2 a0_3 t548 t551 t554 t557 _ ?side1 ?side2 ?side3 ?side4 ?side5 ?side6 A66.out).mono ?_); (case side1 => exact cb HR0_0 HB); (case side2 => exact HC0_0.out); (case side3 => exact cb HR0_1 HB); (case side4 => exact HC0_1.out); (case side5 => exact cb HR0_2 HB); (case side6 => exact HC0_2.out); rintro e w74 ⟨v549, v552, v555, rfl, ho0, ho1, ho2, hb⟩; refine ⟨_, rfl, ?_⟩; have HO550 := Aside0.mk (Kd.R_lower (Kd.R_new' (Kd.R_new' (Kd.R_new' (Kd.R_new' ho0 (Kd.R_lt (rr HO_4.out))) (Kd.R_lt (rr HO_7.out))) (Kd.R_lt (rr HO_524000.out))) (Kd.R_lt (rr HO_524002.out))) (below_size (bs2 HB GE497 GE523))); have HO553 := Aside0.mk (Kd.R_lower (Kd.R_new' ho1 (Kd.R_lt (rr HO_524001.out))) (below_size (bs2 HB GE497 GE523))); replace HO_524001 := Aside0.mk (Kd.R_elder' (rr HO_524001.out) (Kd.R_base ho1) hb); have HO556 := Aside0.mk (Kd.R_lower (Kd.R_new' (Kd.R_new' (Kd.R_new' (Kd.R_new' ho2 (Kd.R_lt (rr HO_4.out))) (Kd.R_lt (rr HO_7.out))) (Kd.R_lt (rr HO_524000.out))) (Kd.R_lt (rr HO_524002.out))) (below_size (bs2 HB GE497 GE523))); replace HO_4 := Aside0.mk (Kd.R_mono (Kd.R_told (Kd.R_told (Kd.R_old (rr HO_4.out) hb) (Kd.R_base ho0)) (Kd.R_base ho2)) (fun _ h_ => h_.1)); replace HO_7 := Aside0.mk (Kd.R_mono (Kd.R_told (Kd.R_told (Kd.R_old (rr HO_7.out) hb) (Kd.R_base ho0)) (Kd.R_base ho2)) (fun _ h_ => h_.1)); replace HO_524000 := Aside0.mk (Kd.R_mono (Kd.R_told (Kd.R_told (Kd.R_old (rr HO_524000.out) hb) (Kd.R_base ho0)) (Kd.R_base ho2)) (fun _ h_ => h_.1)); replace HO_524002 := Aside0.mk (Kd.R_mono (Kd.R_told (Kd.R_told (Kd.R_old (rr HO_524002.out) hb) (Kd.R_base ho0)) (Kd.R_base ho2)) (fun _ h_ => h_.1)); replace BK497 := nb BK497 hb; replace BK523 := nb BK523 hb; replace HB := Aside0.mk (below_step (bs2 HB GE497 GE523) hb); (try clear hb); (try clear hb2); (try clear hk); (try clear hi); (try clear ho0); (try clear ho1); (try clear ho2); obtain ⟨Ao75, co75, eo75⟩ := Kd.R_slice HO550.out; subst eo75; obtain ⟨Ao76, co76, eo76⟩ := Kd.R_slice HO553.out; subst eo76; obtain ⟨Ao77, co77, eo77⟩ := Kd.R_slice HO556.out; subst eo77) | ((with_reducible refine gate_callee (f := 35) rfl ?_); refine gL (some 76) rfl rfl Try.func35 (by kernel_rfl) rfl #[.agg #[.slice Ao75 t548.length co75, .slice Ao76 t551.length co76, .slice Ao77 t554.length co77, .int .i64 t557]] rfl ?_; (with_reducible refine (impl_ViewOf.calls kj40 _ _ t548 _ _ t551 _ _ t554 t557 t558 t561 _ ?side1 ?side2 ?side3 ?side4 ?side5 ?side6 A67.out).mono ?_); (case side1 => exact rc0 HO550); (case side2 => exact (Kd.R_reads' HO550.out).2.1); (case side3 => exact rc0 HO553); (case side4 => exact (Kd.R_reads' HO553.out).2.1); (case side5 => exact rc0 HO556); (case side6 => exact (Kd.R_reads' HO556.out).2.1); rintro e w78 ⟨v559, rfl, ho0, hb⟩; refine ⟨_, rfl, ?_⟩; replace HO_524001 := nr HO_524001 hb; replace HO553 := nr HO553 hb; have HO560 := Aside0.mk (Kd.R_lower (Kd.R_new' (Kd.R_new' (Kd.R_new' (Kd.R_new' (Kd.R_new' (Kd.R_new' ho0 (Kd.R_lt (rr HO_4.out))) (Kd.R_lt (rr HO_7.out))) (Kd.R_lt (rr HO_524000.out))) (Kd.R_lt (rr HO_524002.out))) (Kd.R_lt (rr HO550.out))) (Kd.R_lt (rr HO556.out))) (below_size (bs2 HB GE497 GE523))); replace HO_4 := Aside0.mk (Kd.R_elder' (rr HO_4.out) (Kd.R_base ho0) hb); replace HO_7 := Aside0.mk (Kd.R_elder' (rr HO_7.out) (Kd.R_base ho0) hb); replace HO_524000 := Aside0.mk (Kd.R_elder' (rr HO_524000.out) (Kd.R_base ho0) hb); replace HO_524002 := Aside0.mk (Kd.R_elder' (rr HO_524002.out) (Kd.R_base ho0) hb); replace HO550 := Aside0.mk (Kd.R_elder' (rr HO550.out) (Kd.R_base ho0) hb); replace HO556 := Aside0.mk (Kd.R_elder' (rr HO556.out) (Kd.R_base ho0) hb); replace BK497 := nb BK497 hb; replace BK523 := nb BK523 hb; replace HB := Aside0.mk (below_step (bs2 HB GE497 GE523) hb); (try clear hb); (try clear hb2); (try clear hk); (try clear hi); (try clear ho0)))
           (try simp only [Act.put, List.setIfInBounds_toArray, List.set_cons_zero, List.set_cons_succ])
           go_cut [87] (fun v87 wc => ∃ (kq : Nat) (x87_67 : Bool), v87 = .bool x87_67 ∧ Aside0 (laws_FnExactViewOf.j2 kq t546 t545 x87_67 = some r) ∧ Aside0 (kq ≤ kj40) ∧ Aside0 (Kd.R Kd.string 9 wc w.heap.size (fun k_ => some k_ ≠ ((.slice Ao24 t541.length co24) : Value).ownBlock ∧ some k_ ≠ ((.slice Ao28 t543.length co28) : Value).ownBlock) (.slice Ao69 t524.length co69) t546) ∧ Aside0 (Kd.R Kd.string 9 wc w.heap.size (fun k_ => some k_ ≠ ((.slice Ao69 t524.length co69) : Value).ownBlock ∧ some k_ ≠ ((.slice Ao28 t543.length co28) : Value).ownBlock) (.slice Ao24 t541.length co24) t541) ∧ Aside0 (Kd.R k72 72 wc w.heap.size (fun _ => True) (.slice Ao27 t542.length co27) t542) ∧ Aside0 (Kd.R Kd.string 9 wc w.heap.size (fun k_ => some k_ ≠ ((.slice Ao69 t524.length co69) : Value).ownBlock ∧ some k_ ≠ ((.slice Ao24 t541.length co24) : Value).ownBlock) (.slice Ao28 t543.length co28) t543) ∧ Aside0 (wc.heap[gb497]? = some (.cells #[(.slice A0_0 l0_0.length c0_0), (.slice A0_1 l0_1.length c0_1), (.slice A0_2 l0_2.length c0_2), .int .i64 a0_3] 38 (0, 0))) ∧ Aside0 (wc.heap[gb523]? = some (.cells #[(.slice Ao24 t541.length co24), (.slice Ao27 t542.length co27), (.slice Ao28 t543.length co28), .int .i64 t522] 44 (0, 0))) ∧ Aside0 (Below w.heap.size w wc))
           case first =>
            have H := HC68.out
            clear HC68
            replace H := Option.bind_eq_some_iff.mp H
            obtain ⟨t562, A790, H⟩ := H
            replace H : (if t562 = true then (laws_FnExactViewOf.j2 kj40 t546 t545 (t561 != t512)) else (laws_FnExactViewOf.j2 kj40 t546 t545 true)) = some r := H
            have A79 := Aside0.mk A790
            clear A790
            by_cases c80 : t562 = true
            ·
             subst c80
             rw [if_pos rfl] at H
             have H' := Aside0.mk H
             clear H
             obtain ⟨Ao81, co81, eo81⟩ := Kd.R_slice HO560.out
             subst eo81
             obtain ⟨Ao82, co82, eo82⟩ := Kd.R_slice HO_4.out
             subst eo82
             go_wp2_with (first | ((with_reducible refine gate_callee (f := 36) rfl ?_); refine gL (some 81) rfl rfl Try.func36 (by kernel_rfl) rfl #[.slice Ao81 t558.length co81, .slice Ao82 t509.length co82] rfl ?_; (with_reducible refine (laws_eqStringS.calls kj40 _ _ t558 _ _ t509 true _ ?side1 ?side2 ?side3 ?side4 A79.out).mono ?_); (case side1 => exact rc0 HO560); (case side2 => exact (Kd.R_reads' HO560.out).2.1); (case side3 => exact rc0 HO_4); (case side4 => exact (Kd.R_reads' HO_4.out).2.1); rintro e w' ⟨rfl, ⟨nd, rfl⟩⟩; refine ⟨_, rfl, ?_⟩))
             go_meet
             case rel => exact ⟨_, ((t561 != t512)), (by first | rfl | (simp; done) | (simp [*]; done)), H', ⟨by have := HJ10.out; have := HJ40.out; first | omega | exact Nat.le_refl _⟩, ⟨by (try simp only [hl524000_40]); (try simp only [hl524001_40]); (try simp only [hl524002_40]); (with_reducible repeat (first | apply Kd.R_alloc | apply Kd.R_drewN | apply Kd.R_drew)); exact Kd.R_mono HO_7.out (fun _ hk => ⟨hk.1.1.1.2.1, hk.1.1.1.2.2⟩)⟩, ⟨by (try simp only [hl524000_40]); (try simp only [hl524001_40]); (try simp only [hl524002_40]); (with_reducible repeat (first | apply Kd.R_alloc | apply Kd.R_drewN | apply Kd.R_drew)); exact Kd.R_mono HO_524000.out (fun _ hk => ⟨hk.1.1.1.2.1, hk.1.1.1.2.2⟩)⟩, ⟨by (try simp only [hl524000_40]); (try simp only [hl524001_40]); (try simp only [hl524002_40]); (with_reducible repeat (first | apply Kd.R_alloc | apply Kd.R_drewN | apply Kd.R_drew)); exact Kd.R_mono HO_524001.out (fun _ hk => trivial)⟩, ⟨by (try simp only [hl524000_40]); (try simp only [hl524001_40]); (try simp only [hl524002_40]); (with_reducible repeat (first | apply Kd.R_alloc | apply Kd.R_drewN | apply Kd.R_drew)); exact Kd.R_mono HO_524002.out (fun _ hk => ⟨hk.1.1.1.2.1, hk.1.1.1.2.2⟩)⟩, ⟨by (try simp only [hl524000_40]); (try simp only [hl524001_40]); (try simp only [hl524002_40]); (with_reducible repeat (first | refine blk_drewN ?_ _ | refine blk_drew ?_ | refine blk_alloc ?_ _)); exact BK497.out⟩, ⟨by (try simp only [hl524000_40]); (try simp only [hl524001_40]); (try simp only [hl524002_40]); (with_reducible repeat (first | refine blk_drewN ?_ _ | refine blk_drew ?_ | refine blk_alloc ?_ _)); exact BK523.out⟩, ⟨bs2 HB GE497 GE523⟩⟩
            ·
             replace c80 := Bool.eq_false_iff.mpr c80
             subst c80
             rw [if_neg (show ¬ (false = true) by decide)] at H
             have H' := Aside0.mk H
             clear H
             obtain ⟨Ao83, co83, eo83⟩ := Kd.R_slice HO560.out
             subst eo83
             obtain ⟨Ao84, co84, eo84⟩ := Kd.R_slice HO_4.out
             subst eo84
             go_wp2_with (first | ((with_reducible refine gate_callee (f := 36) rfl ?_); refine gL (some 81) rfl rfl Try.func36 (by kernel_rfl) rfl #[.slice Ao83 t558.length co83, .slice Ao84 t509.length co84] rfl ?_; (with_reducible refine (laws_eqStringS.calls kj40 _ _ t558 _ _ t509 false _ ?side1 ?side2 ?side3 ?side4 A79.out).mono ?_); (case side1 => exact rc0 HO560); (case side2 => exact (Kd.R_reads' HO560.out).2.1); (case side3 => exact rc0 HO_4); (case side4 => exact (Kd.R_reads' HO_4.out).2.1); rintro e w' ⟨rfl, ⟨nd, rfl⟩⟩; refine ⟨_, rfl, ?_⟩))
             go_meet
             case rel => exact ⟨_, (true), (by first | rfl | (simp; done) | (simp [*]; done)), H', ⟨by have := HJ10.out; have := HJ40.out; first | omega | exact Nat.le_refl _⟩, ⟨by (try simp only [hl524000_40]); (try simp only [hl524001_40]); (try simp only [hl524002_40]); (with_reducible repeat (first | apply Kd.R_alloc | apply Kd.R_drewN | apply Kd.R_drew)); exact Kd.R_mono HO_7.out (fun _ hk => ⟨hk.1.1.1.2.1, hk.1.1.1.2.2⟩)⟩, ⟨by (try simp only [hl524000_40]); (try simp only [hl524001_40]); (try simp only [hl524002_40]); (with_reducible repeat (first | apply Kd.R_alloc | apply Kd.R_drewN | apply Kd.R_drew)); exact Kd.R_mono HO_524000.out (fun _ hk => ⟨hk.1.1.1.2.1, hk.1.1.1.2.2⟩)⟩, ⟨by (try simp only [hl524000_40]); (try simp only [hl524001_40]); (try simp only [hl524002_40]); (with_reducible repeat (first | apply Kd.R_alloc | apply Kd.R_drewN | apply Kd.R_drew)); exact Kd.R_mono HO_524001.out (fun _ hk => trivial)⟩, ⟨by (try simp only [hl524000_40]); (try simp only [hl524001_40]); (try simp only [hl524002_40]); (with_reducible repeat (first | apply Kd.R_alloc | apply Kd.R_drewN | apply Kd.R_drew)); exact Kd.R_mono HO_524002.out (fun _ hk => ⟨hk.1.1.1.2.1, hk.1.1.1.2.2⟩)⟩, ⟨by (try simp only [hl524000_40]); (try simp only [hl524001_40]); (try simp only [hl524002_40]); (with_reducible repeat (first | refine blk_drewN ?_ _ | refine blk_drew ?_ | refine blk_alloc ?_ _)); exact BK497.out⟩, ⟨by (try simp only [hl524000_40]); (try simp only [hl524001_40]); (try simp only [hl524002_40]); (with_reducible repeat (first | refine blk_drewN ?_ _ | refine blk_drew ?_ | refine blk_alloc ?_ _)); exact BK523.out⟩, ⟨bs2 HB GE497 GE523⟩⟩
           case rest =>
            clear HC68
            try clear c2
            try clear p2
            try clear c3
            try clear c3b0
            try clear c4
            try clear c5
            try clear c6
            try clear c7
            try clear c8
            try clear c25
            try clear c27
            try clear c29
            try clear c31
            try clear c32
            try clear c34
            try clear c35
            try clear c36
            try clear c37
            try clear c38
            try clear c39
            try clear c48
            try clear c51
            try clear c51b0
            try clear c53
            try clear c58
            try clear c61
            try clear c61b0
            try clear c65
            try clear c65b0
            try clear c65b1
            try clear c72
            try clear c80
            try clear hcz13_0 hcz13_1 hcz13_2 hcz13_3
            try clear hcz15_0 hcz15_1 hcz15_2 hcz15_3
            try clear hcz21_0 hcz21_1 hcz21_2 hcz21_3
            try clear hcz26_0 hcz26_1 hcz26_2 hcz26_3
            try clear hcz49_0 hcz49_1 hcz49_2 hcz49_3
            try clear hcz5_0 hcz5_1 hcz5_2 hcz5_3
            try clear hcz73_0 hcz73_1 hcz73_2 hcz73_3
            try clear hfz13_0 hfz13_1 hfz13_2 hfz13_3
            try clear hfz15_0 hfz15_1 hfz15_2 hfz15_3
            try clear hfz21_0 hfz21_1 hfz21_2 hfz21_3
            try clear hfz26_0 hfz26_1 hfz26_2 hfz26_3
            try clear hfz49_0 hfz49_1 hfz49_2 hfz49_3
            try clear hfz5_0 hfz5_1 hfz5_2 hfz5_3
            try clear hfz73_0 hfz73_1 hfz73_2 hfz73_3
            try clear p2
            obtain ⟨kq, x87_67, rfl, HA, HJ67, HO_7, HO_524000, HO_524001, HO_524002, BK497, BK523, HB⟩ := hcut
            have hl7_67 := (Kd.R_reads' HO_7.out).1
            rw [hl7_67] at HO_7
            (try simp only [hl7_67])
            (try simp only [hl7_67] at BK497)
            (try simp only [hl7_67] at BK523)
            (try simp only [hl7_67] at HO_524000)
            (try simp only [hl7_67] at HO_524001)
            (try simp only [hl7_67] at HO_524002)
            cases kq with
            | zero => exact absurd HA.out (by simp [laws_FnExactViewOf.j2])
            | succ kj67 =>
             have H := HA.out
             clear HA
             simp only [laws_FnExactViewOf.j2] at H
             by_cases c85 : x87_67 = true
             ·
              subst c85
              rw [if_pos rfl] at H
              obtain rfl := Option.some.inj H
              go_wp2
              go_ret
              exact ⟨by first | rfl | (simp [errW_none, errW_some] <;> rfl) | (simp [*, errW_none, errW_some] <;> rfl), bs2 HB GE497 GE523⟩
             ·
              replace c85 := Bool.eq_false_iff.mpr c85
              subst c85
              rw [if_neg (show ¬ (false = true) by decide)] at H
              replace H := Option.bind_eq_some_iff.mp H
              obtain ⟨t563, A860, H⟩ := H
              replace H : (if t563 < 0 then (some false) else (if t563 = t545 then (some true) else (some false))) = some r := H
              have A86 := Aside0.mk A860
              clear A860
              by_cases c87 : t563 < 0
              ·
               rw [if_pos c87] at H
               have c87b0 : decide (t563 < 0) = true := decide_eq_true c87
               clear c87
               obtain rfl := Option.some.inj H
               go_wp2_with (first | ((with_reducible refine gate_callee (f := 38) rfl ?_); refine gL (some 90) rfl rfl Try.func38 (by kernel_rfl) rfl #[.slice Ao69 t546.length co69, .int .i64 1] rfl ?_; (with_reducible refine (laws_heldStringS.calls kj67 _ _ t546 1 t563 _ ?side1 ?side2 A86.out).mono ?_); (case side1 => exact rc0 HO_7); (case side2 => exact (Kd.R_reads' HO_7.out).2.1); rintro e w88 ⟨rfl, hb⟩; refine ⟨_, rfl, ?_⟩; replace HO_7 := nr HO_7 hb; replace HO_524000 := nr HO_524000 hb; replace HO_524001 := nr HO_524001 hb; replace HO_524002 := nr HO_524002 hb; replace BK497 := nb BK497 hb; replace BK523 := nb BK523 hb; replace HB := Aside0.mk (below_step (bs2 HB GE497 GE523) hb); (try clear hb); (try clear hb2); (try clear hk); (try clear hi)))
               go_ret
               exact ⟨by first | rfl | (simp [errW_none, errW_some] <;> rfl) | (simp [*, errW_none, errW_some] <;> rfl), bs2 HB GE497 GE523⟩
              ·
               rw [if_neg c87] at H
               have c87b0 : decide (t563 < 0) = false := decide_eq_false c87
               clear c87
               by_cases c89 : t563 = t545
               ·
                rw [if_pos c89] at H
                have c89b0 : (t563 == t545) = true := beq_iff_eq.mpr c89
                have c89b1 : (t563 != t545) = false := bne_eq_false_iff_eq.mpr c89
                clear c89
                obtain rfl := Option.some.inj H
                go_wp2_with (first | ((with_reducible refine gate_callee (f := 38) rfl ?_); refine gL (some 90) rfl rfl Try.func38 (by kernel_rfl) rfl #[.slice Ao69 t546.length co69, .int .i64 1] rfl ?_; (with_reducible refine (laws_heldStringS.calls kj67 _ _ t546 1 t563 _ ?side1 ?side2 A86.out).mono ?_); (case side1 => exact rc0 HO_7); (case side2 => exact (Kd.R_reads' HO_7.out).2.1); rintro e w90 ⟨rfl, hb⟩; refine ⟨_, rfl, ?_⟩; replace HO_7 := nr HO_7 hb; replace HO_524000 := nr HO_524000 hb; replace HO_524001 := nr HO_524001 hb; replace HO_524002 := nr HO_524002 hb; replace BK497 := nb BK497 hb; replace BK523 := nb BK523 hb; replace HB := Aside0.mk (below_step (bs2 HB GE497 GE523) hb); (try clear hb); (try clear hb2); (try clear hk); (try clear hi)))
                go_ret
                exact ⟨by first | rfl | (simp [errW_none, errW_some] <;> rfl) | (simp [*, errW_none, errW_some] <;> rfl), bs2 HB GE497 GE523⟩
               ·
                rw [if_neg c89] at H
                have c89b0 : (t563 == t545) = false := beq_eq_false_iff_ne.mpr c89
                have c89b1 : (t563 != t545) = true := bne_iff_ne.mpr c89
                obtain rfl := Option.some.inj H
                go_wp2_with (first | ((with_reducible refine gate_callee (f := 38) rfl ?_); refine gL (some 90) rfl rfl Try.func38 (by kernel_rfl) rfl #[.slice Ao69 t546.length co69, .int .i64 1] rfl ?_; (with_reducible refine (laws_heldStringS.calls kj67 _ _ t546 1 t563 _ ?side1 ?side2 A86.out).mono ?_); (case side1 => exact rc0 HO_7); (case side2 => exact (Kd.R_reads' HO_7.out).2.1); rintro e w91 ⟨rfl, hb⟩; refine ⟨_, rfl, ?_⟩; replace HO_7 := nr HO_7 hb; replace HO_524000 := nr HO_524000 hb; replace HO_524001 := nr HO_524001 hb; replace HO_524002 := nr HO_524002 hb; replace BK497 := nb BK497 hb; replace BK523 := nb BK523 hb; replace HB := Aside0.mk (below_step (bs2 HB GE497 GE523) hb); (try clear hb); (try clear hb2); (try clear hk); (try clear hi)))
                go_ret
                exact ⟨by first | rfl | (simp [errW_none, errW_some] <;> rfl) | (simp [*, errW_none, errW_some] <;> rfl), bs2 HB GE497 GE523⟩
          ·
           rw [if_neg c65] at H
           have c65b0 : (t547 == t545) = false := beq_eq_false_iff_ne.mpr c65
           have c65b1 : (t547 != t545) = true := bne_iff_ne.mpr c65
           obtain rfl := Option.some.inj H
           obtain ⟨Ao92, co92, eo92⟩ := Kd.R_slice HO_7.out
           subst eo92
           go_wp2_with (first | ((with_reducible refine gate_callee (f := 37) rfl ?_); refine gL (some 64) rfl rfl Try.func37 (by kernel_rfl) rfl #[.slice Ao92 t524.length co92, .int .i64 1] rfl ?_; (with_reducible refine (laws_markStringS.calls kj40 (fun k_ => some k_ = (.slice Ao92 t524.length co92 : Value).ownBlock) (.slice Ao92 t524.length co92) t524 1 t545 t546 w _ ?side1 ?side2 A59.out).mono ?_); (case side1 => repeat (first | (with_reducible first | exact HB.out | apply below_alloc | apply pw_below_drewN | apply below_drew1 | refine below_set ?_ GE497.out | refine below_set ?_ GE523.out) | exact HB.out)); (case side2 => exact Kd.R_tight rfl HO_7.out); rintro e w93 ⟨rfl, hy0, hb, hkp⟩; refine ⟨_, rfl, ?_⟩; replace HO_4 := Aside0.mk (Kd.R_mono (ok' := fun k_ => some k_ ≠ (.slice Ao92 t524.length co92 : Value).ownBlock ∧ some k_ ≠ (.slice Ao24 t541.length co24 : Value).ownBlock ∧ some k_ ≠ (.slice Ao28 t543.length co28 : Value).ownBlock) (Kd.R_keptB (HO_4.out) hkp (fun k_ hk_ hs_ => (hk_.1) hs_)) (fun k_ hk_ => ⟨hk_.1.1, hk_.1.2.1, hk_.1.2.2⟩)); replace HO_524000 := Aside0.mk (Kd.R_mono (ok' := fun k_ => some k_ ≠ (v510 : Value).ownBlock ∧ some k_ ≠ (.slice Ao92 t524.length co92 : Value).ownBlock ∧ some k_ ≠ (.slice Ao28 t543.length co28 : Value).ownBlock) (Kd.R_keptB (HO_524000.out) hkp (fun k_ hk_ hs_ => (hk_.2.1) hs_)) (fun k_ hk_ => ⟨hk_.1.1, hk_.1.2.1, hk_.1.2.2⟩)); replace HO_524001 := Aside0.mk (Kd.R_mono (ok' := fun k_ => True) (Kd.R_keptB ((Kd.R_apart' HO_524001.out (Kd.R_typed HO_7.out) (by decide))) hkp (fun k_ hk_ hs_ => (hk_.2) hs_)) (fun k_ hk_ => trivial)); replace HO_524002 := Aside0.mk (Kd.R_mono (ok' := fun k_ => some k_ ≠ (v510 : Value).ownBlock ∧ some k_ ≠ (.slice Ao92 t524.length co92 : Value).ownBlock ∧ some k_ ≠ (.slice Ao24 t541.length co24 : Value).ownBlock) (Kd.R_keptB (HO_524002.out) hkp (fun k_ hk_ hs_ => (hk_.2.1) hs_)) (fun k_ hk_ => ⟨hk_.1.1, hk_.1.2.1, hk_.1.2.2⟩)); replace BK497 := Aside0.mk (blk_kept (bk BK497) hkp (fun hs_ => (fun e_ => (Kd.R_ne HO_7.out BK497.out (by decide)) e_) hs_)); replace BK523 := Aside0.mk (blk_kept (bk BK523) hkp (fun hs_ => (fun e_ => (Kd.R_ne HO_7.out BK523.out (by decide)) e_) hs_)); replace HO_7 := Aside0.mk (Kd.R_reok rfl hy0 (fun k_ e_ => HO_7.out.1 k_ e_)); replace HB := Aside0.mk (hb); (try clear hb); (try clear hkp); (try clear hy0)) | ((with_reducible refine gate_callee (f := 38) rfl ?_); refine goesL_ (some 67) rfl rfl Try.func38 (by kernel_rfl) rfl #[.slice Ao92 t546.length co92, .int .i64 1] rfl (by (try simp only [List.map_toArray, List.map_cons, List.map_nil]); first | done | (rw [show t546.length = t524.length from (Kd.R_reads' HO_7.out).1.symm] <;> rfl) | rfl | (simp only [List.length_drop, List.length_take]; rfl)) ?_; (with_reducible refine (laws_heldStringS.calls kj40 _ _ t546 1 t547 _ ?side1 ?side2 A60.out).mono ?_); (case side1 => exact rc0 HO_7); (case side2 => rw [show t546.length = t524.length from (Kd.R_reads' HO_7.out).1.symm]; exact (Kd.R_reads' HO_7.out).2.1); rintro e w94 ⟨rfl, hb⟩; refine ⟨_, rfl, ?_⟩; replace HO_4 := nr HO_4 hb; replace HO_7 := nr HO_7 hb; replace HO_524000 := nr HO_524000 hb; replace HO_524001 := nr HO_524001 hb; replace HO_524002 := nr HO_524002 hb; replace BK497 := nb BK497 hb; replace BK523 := nb BK523 hb; replace HB := Aside0.mk (below_step (bs2 HB GE497 GE523) hb); (try clear hb); (try clear hb2); (try clear hk); (try clear hi)))
           go_ret
           exact ⟨by first | rfl | (simp [errW_none, errW_some] <;> rfl) | (simp [*, errW_none, errW_some] <;> rfl), bs2 HB GE497 GE523⟩
     ·
      replace c39 := Bool.eq_false_iff.mpr c39
      subst c39
      rw [if_neg (show ¬ (false = true) by decide)] at H
      obtain rfl := Option.some.inj H
      try go_wp2
      have n0_ := Aside0.mk (Kd.R_drew HO_4.out)
      have n1_ := Aside0.mk (Kd.R_drew HO_7.out)
      have n2_ := Aside0.mk (Kd.R_drew HO_524000.out)
      have n3_ := Aside0.mk (Kd.R_drew HO_524001.out)
      have n4_ := Aside0.mk (Kd.R_drew HO_524002.out)
      have n5_ := Aside0.mk (blk_drew BK497.out)
      have n6_ := Aside0.mk (blk_drew BK523.out)
      have n7_ := Aside0.mk (below_drew1 HB.out)
      clear HO_4
      clear HO_7
      clear HO_524000
      clear HO_524001
      clear HO_524002
      clear BK497
      clear BK523
      clear HB
      have HO_4 := n0_
      have HO_7 := n1_
      have HO_524000 := n2_
      have HO_524001 := n3_
      have HO_524002 := n4_
      have BK497 := n5_
      have BK523 := n6_
      have HB := n7_
      clear n0_ n1_ n2_ n3_ n4_ n5_ n6_ n7_
      refine start_ (n := 5) (S := fun w' => w'.cell? ⟨gb523, 0, none⟩ = some (.slice Ao24 t513.length co24) ∧ w'.cell? ⟨gb523, 1, none⟩ = some (.slice Ao27 t516.length co27) ∧ w'.cell? ⟨gb523, 2, none⟩ = some (.slice Ao28 t519.length co28) ∧ w'.cell? ⟨gb523, 3, none⟩ = some (.int .i64 t522) ∧ w'.cell? ⟨gb497, 0, none⟩ = some (.slice A0_0 l0_0.length c0_0) ∧ w'.cell? ⟨gb497, 1, none⟩ = some (.slice A0_1 l0_1.length c0_1) ∧ w'.cell? ⟨gb497, 2, none⟩ = some (.slice A0_2 l0_2.length c0_2) ∧ w'.cell? ⟨gb497, 3, none⟩ = some (.int .i64 a0_3)) (ds := []) #[false, false, false, false, false] (by kernel_rfl) rfl rfl ⟨(blk_cell BK523.out 0).trans rfl, (blk_cell BK523.out 1).trans rfl, (blk_cell BK523.out 2).trans rfl, (blk_cell BK523.out 3).trans rfl, (blk_cell BK497.out 0).trans rfl, (blk_cell BK497.out 1).trans rfl, (blk_cell BK497.out 2).trans rfl, (blk_cell BK497.out 3).trans rfl⟩ (fun hHeld => ?_)
      generalize wc.drew = w95 at HO_4 HO_7 HO_524000 HO_524001 HO_524002 BK497 BK523 HB hHeld ⊢
      refine take_ (i := 0) (N := some 41) (v := ?_) (a' := ?_) #[true, false, false, false, false] rfl rfl (by kernel_rfl) (fun _ _ _ h => h) (Or.inl ⟨by rfl, ?_⟩) hHeld ?_ ?_
      rotate_left
      ·
       rintro w' ⟨s0, s1, s2, s3, s4, s5, s6, s7⟩
       go_simp
       with_reducible rfl
      rotate_left
      ·
       simp only [Act.put, List.setIfInBounds_toArray, List.set_cons_zero, List.set_cons_succ, i64_w, i32_w]
       rfl
      refine take_ (i := 1) (N := some 42) (v := ?_) (a' := ?_) #[true, true, false, false, false] rfl rfl (by kernel_rfl) (fun _ _ _ h => h) (Or.inl ⟨by rfl, ?_⟩) hHeld ?_ ?_
      rotate_left
      ·
       rintro w' ⟨s0, s1, s2, s3, s4, s5, s6, s7⟩
       go_simp
       with_reducible rfl
      rotate_left
      ·
       simp only [Act.put, List.setIfInBounds_toArray, List.set_cons_zero, List.set_cons_succ, i64_w, i32_w]
       rfl
      refine one_ (i := 2) (N := some 43) #[true, true, true, false, false] rfl rfl (by kernel_rfl) (by decide) (fun K hK => ?_)
      refine goes_ Try.func27 (by kernel_rfl) rfl #[.agg #[.slice A0_0 l0_0.length c0_0, .slice A0_1 l0_1.length c0_1, .slice A0_2 l0_2.length c0_2, .int .i64 a0_3]] (by rfl) rfl rfl (by (try simp only [List.map_toArray, List.map_cons, List.map_nil]); first | done | rfl | (simp only [List.length_drop, List.length_take]; rfl)) ?_
      with_reducible refine (laws_toStore.calls kj10 _ _ l0_0 _ _ l0_1 _ _ l0_2 a0_3 t529 t532 t535 t538 _ ?side1 ?side2 ?side3 ?side4 ?side5 ?side6 A37.out).mono ?_
      (case side1 => exact cb HR0_0 HB)
      (case side2 => exact HC0_0.out)
      (case side3 => exact cb HR0_1 HB)
      (case side4 => exact HC0_1.out)
      (case side5 => exact cb HR0_2 HB)
      (case side6 => exact HC0_2.out)
      rintro e w96 ⟨v530, v533, v536, rfl, ho0, ho1, ho2, hb⟩
      refine ⟨_, rfl, ?_⟩
      have n0_ := Aside0.mk (Kd.R_mono (Kd.R_told (Kd.R_told (Kd.R_old (rr HO_4.out) hb) (Kd.R_base ho0)) (Kd.R_base ho2)) (fun _ h_ => h_.1))
      have n1_ := Aside0.mk (Kd.R_mono (Kd.R_told (Kd.R_told (Kd.R_old (rr HO_7.out) hb) (Kd.R_base ho0)) (Kd.R_base ho2)) (fun _ h_ => h_.1))
      have n2_ := Aside0.mk (Kd.R_mono (Kd.R_told (Kd.R_told (Kd.R_old (rr HO_524000.out) hb) (Kd.R_base ho0)) (Kd.R_base ho2)) (fun _ h_ => h_.1))
      have n3_ := Aside0.mk (Kd.R_elder' (rr HO_524001.out) (Kd.R_base ho1) hb)
      have n4_ := Aside0.mk (Kd.R_mono (Kd.R_told (Kd.R_told (Kd.R_old (rr HO_524002.out) hb) (Kd.R_base ho0)) (Kd.R_base ho2)) (fun _ h_ => h_.1))
      have n5_ := Aside0.mk (Kd.R_lower (Kd.R_new' (Kd.R_new' (Kd.R_new' (Kd.R_new' ho0 (Kd.R_lt (rr HO_4.out))) (Kd.R_lt (rr HO_7.out))) (Kd.R_lt (rr HO_524000.out))) (Kd.R_lt (rr HO_524002.out))) (below_size (bs2 HB GE497 GE523)))
      have n6_ := Aside0.mk (Kd.R_lower (Kd.R_new' ho1 (Kd.R_lt (rr HO_524001.out))) (below_size (bs2 HB GE497 GE523)))
      have n7_ := Aside0.mk (Kd.R_lower (Kd.R_new' (Kd.R_new' (Kd.R_new' (Kd.R_new' ho2 (Kd.R_lt (rr HO_4.out))) (Kd.R_lt (rr HO_7.out))) (Kd.R_lt (rr HO_524000.out))) (Kd.R_lt (rr HO_524002.out))) (below_size (bs2 HB GE497 GE523)))
      have n8_ := Aside0.mk (bb BK497 hb)
      have n9_ := Aside0.mk (bb BK523 hb)
      have n10_ := Aside0.mk (below_step (bs2 HB GE497 GE523) hb)
      clear HO_4
      clear HO_7
      clear HO_524000
      clear HO_524001
      clear HO_524002
      clear BK497
      clear BK523
      clear HB
      have HO_4 := n0_
      have HO_7 := n1_
      have HO_524000 := n2_
      have HO_524001 := n3_
      have HO_524002 := n4_
      have HO531 := n5_
      have HO534 := n6_
      have HO537 := n7_
      have BK497 := n8_
      have BK523 := n9_
      have HB := n10_
      clear n0_ n1_ n2_ n3_ n4_ n5_ n6_ n7_ n8_ n9_ n10_
      (try clear hb)
      (try clear hb2)
      (try clear hk)
      (try clear hi)
      (try clear ho0)
      (try clear ho1)
      (try clear ho2)
      obtain ⟨Ao97, co97, eo97⟩ := Kd.R_slice HO531.out
      (first | subst eo97 | (injection eo97 with f1_ f2_ f3_; have f4_ := f1_.symm; have f5_ := f3_.symm; clear f1_ f2_ f3_; subst f4_; subst f5_))
      obtain ⟨Ao98, co98, eo98⟩ := Kd.R_slice HO534.out
      (first | subst eo98 | (injection eo98 with f1_ f2_ f3_; have f4_ := f1_.symm; have f5_ := f3_.symm; clear f1_ f2_ f3_; subst f4_; subst f5_))
      obtain ⟨Ao99, co99, eo99⟩ := Kd.R_slice HO537.out
      (first | subst eo99 | (injection eo99 with f1_ f2_ f3_; have f4_ := f1_.symm; have f5_ := f3_.symm; clear f1_ f2_ f3_; subst f4_; subst f5_))
      refine hK.out _ _ ⟨(blk_cell BK523.out 0).trans rfl, (blk_cell BK523.out 1).trans rfl, (blk_cell BK523.out 2).trans rfl, (blk_cell BK523.out 3).trans rfl, (blk_cell BK497.out 0).trans rfl, (blk_cell BK497.out 1).trans rfl, (blk_cell BK497.out 2).trans rfl, (blk_cell BK497.out 3).trans rfl⟩ (fun hHeld => ?_)
      clear hK K
      refine norm_ (a' := ?_) ?_ ?_
      rotate_left
      ·
       show Act.put _ (some 43) _ = _
       simp only [Act.put, List.setIfInBounds_toArray, List.set_cons_zero, List.set_cons_succ, i64_w, i32_w]
       rfl
      refine one_ (i := 3) (N := some 44) #[true, true, true, true, false] rfl rfl (by kernel_rfl) (by decide) (fun K hK => ?_)
      refine goes_ Try.func29 (by kernel_rfl) rfl #[.agg #[.slice Ao24 t513.length co24, .slice Ao27 t516.length co27, .slice Ao28 t519.length co28, .int .i64 t522], .agg #[.slice Ao97 t529.length co97, .slice Ao98 t532.length co98, .slice Ao99 t535.length co99, .int .i64 t538]] (by rfl) rfl rfl (by (try simp only [List.map_toArray, List.map_cons, List.map_nil]); first | done | rfl | (simp only [List.length_drop, List.length_take]; rfl)) ?_
      with_reducible refine (laws_eqStore.calls kj10 _ _ t513 _ _ t516 _ _ t519 t522 _ _ t529 _ _ t532 _ _ t535 t538 false _ ?side1 ?side2 ?side3 ?side4 ?side5 ?side6 ?side7 ?side8 ?side9 ?side10 ?side11 ?side12 A38.out).mono ?_
      (case side1 => exact rc0 HO_524000)
      (case side2 => exact (Kd.R_reads' HO_524000.out).2.1)
      (case side3 => exact rc0 HO_524001)
      (case side4 => exact (Kd.R_reads' HO_524001.out).2.1)
      (case side5 => exact rc0 HO_524002)
      (case side6 => exact (Kd.R_reads' HO_524002.out).2.1)
      (case side7 => exact rc0 HO531)
      (case side8 => exact (Kd.R_reads' HO531.out).2.1)
      (case side9 => exact rc0 HO534)
      (case side10 => exact (Kd.R_reads' HO534.out).2.1)
      (case side11 => exact rc0 HO537)
      (case side12 => exact (Kd.R_reads' HO537.out).2.1)
      rintro e w100 ⟨rfl, hb⟩
      refine ⟨_, rfl, ?_⟩
      have n0_ := Aside0.mk (Kd.R_below (rr HO_4.out) hb)
      have n1_ := Aside0.mk (Kd.R_below (rr HO_7.out) hb)
      have n2_ := Aside0.mk (Kd.R_below (rr HO_524000.out) hb)
      have n3_ := Aside0.mk (Kd.R_below (rr HO_524001.out) hb)
      have n4_ := Aside0.mk (Kd.R_below (rr HO_524002.out) hb)
      have n5_ := Aside0.mk (Kd.R_below (rr HO531.out) hb)
      have n6_ := Aside0.mk (Kd.R_below (rr HO534.out) hb)
      have n7_ := Aside0.mk (Kd.R_below (rr HO537.out) hb)
      have n8_ := Aside0.mk (bb BK497 hb)
      have n9_ := Aside0.mk (bb BK523 hb)
      have n10_ := Aside0.mk (below_step (bs2 HB GE497 GE523) hb)
      clear HO_4
      clear HO_7
      clear HO_524000
      clear HO_524001
      clear HO_524002
      clear HO531
      clear HO534
      clear HO537
      clear BK497
      clear BK523
      clear HB
      have HO_4 := n0_
      have HO_7 := n1_
      have HO_524000 := n2_
      have HO_524001 := n3_
      have HO_524002 := n4_
      have HO531 := n5_
      have HO534 := n6_
      have HO537 := n7_
      have BK497 := n8_
      have BK523 := n9_
      have HB := n10_
      clear n0_ n1_ n2_ n3_ n4_ n5_ n6_ n7_ n8_ n9_ n10_
      (try clear hb)
      (try clear hb2)
      (try clear hk)
      (try clear hi)
      refine hK.out _ _ ⟨(blk_cell BK523.out 0).trans rfl, (blk_cell BK523.out 1).trans rfl, (blk_cell BK523.out 2).trans rfl, (blk_cell BK523.out 3).trans rfl, (blk_cell BK497.out 0).trans rfl, (blk_cell BK497.out 1).trans rfl, (blk_cell BK497.out 2).trans rfl, (blk_cell BK497.out 3).trans rfl⟩ (fun hHeld => ?_)
      clear hK K
      refine norm_ (a' := ?_) ?_ ?_
      rotate_left
      ·
       show Act.put _ (some 44) _ = _
       simp only [Act.put, List.setIfInBounds_toArray, List.set_cons_zero, List.set_cons_succ, i64_w, i32_w]
       rfl
      refine pure_ (i := 4) (N := some 45) (v := ?_) (a' := ?_) #[true, true, true, true, true] rfl rfl (by kernel_rfl) (fun _ _ _ h => h) (Or.inl ⟨by rfl, ?_⟩) ?_ ?_
      rotate_left
      ·
       intro w'
       go_simp
       with_reducible rfl
      rotate_left
      ·
       simp only [Act.put, List.setIfInBounds_toArray, List.set_cons_zero, List.set_cons_succ, i64_w, i32_w]
       rfl
      refine done_ (by kernel_rfl) ?_
      try go_wp2
      go_ret
      exact ⟨by first | rfl | (simp [errW_none, errW_some] <;> rfl) | (simp [*, errW_none, errW_some] <;> rfl), bs2 HB GE497 GE523⟩

/-- THE ONE PURE STATEMENT of laws_FnExactViewOf. -/
def laws_FnExactViewOf.Pure : Prop := ∀ (l0_0 : List ByteArray) (l0_1 : List (S76)) (l0_2 : List ByteArray) (a0_3 : Int), ok38 (⟨(⟨l0_0, l0_1⟩ : S36), l0_2, a0_3⟩ : S38) → ∃ k, laws_FnExactViewOf.f k l0_0 l0_1 l0_2 a0_3 = some true

end Go.Proofs.Ytcdkgenfggdpaaa.G
