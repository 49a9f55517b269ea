-- Printed by a program of this session (drive.py, by way of the kit's print). Not trusted: Lean checks it.
import Derived.Test.YthlifcbkpafofaaDoorG0
import Derived.Test.YthlifcbkpafofaaDoorG2
import Derived.Test.YthlifcbkpafofaaDoorG3
namespace Go.Proofs.YthlifcbkpafofaaDoor.G
open Go.RowKit Go.Proofs.YthlifcbkpafofaaDoorW.PrintWords Go.Proofs.YthlifcbkpafofaaDoorW.PrintLast Go.Proofs.YthlifcbkpafofaaDoorW.PrintMore
attribute [local go_sem] max2_int min2_int max_two min_two max_three min_three max_four min_four   -- for this text's walks alone
set_option linter.unusedVariables false
set_option linter.unusedSimpArgs false

/-! ### laws_FnExactSlotSum: function 3 -/
def laws_FnExactSlotSum.f (k : Nat) (a0_0 : Int) (a0_1 : Int) (a0_2 : ByteArray) (a0_3 : Int) : Option (Bool) := (laws_szSlot.f a0_0 a0_1 a0_2 a0_3 1048576).bind fun t151 => (if t151 < 0 then (some true) else ((laws_toSlot.f a0_0 a0_1 a0_2 a0_3).bind fun bt152 => ((spec_SlotSum.f k bt152.1 bt152.2.1 bt152.2.2.1 bt152.2.2.2).bind fun t156 => ((laws_toSlot.f a0_0 a0_1 a0_2 a0_3).bind fun bt157 => ((impl_SlotSum.f k bt157.1 bt157.2.1 bt157.2.2.1 bt157.2.2.2).bind fun t161 => (if t161 = t156 then (some true) else (some false)))))))
theorem laws_FnExactSlotSum.mono : ∀ a0 a1 a2 a3 k, LeO (laws_FnExactSlotSum.f k a0 a1 a2 a3) (laws_FnExactSlotSum.f (k + 1) a0 a1 a2 a3) := by
 intro a0 a1 a2 a3 k
 unfold laws_FnExactSlotSum.f
 repeat' first
   | (with_reducible exact impl_SlotSum.mono _ _ _ _ _)
   | (with_reducible exact spec_SlotSum.mono _ _ _ _ _)
   | (with_reducible exact LeO.refl _)
   | (with_reducible exact LeO.none _)
   | (with_reducible refine LeO.ite ?_ ?_)
   | (with_reducible refine LeO.bind ?_ (fun _ => ?_))
   | exact impl_SlotSum.mono _ _ _ _ _
   | exact spec_SlotSum.mono _ _ _ _ _
   | exact LeO.none _
   | refine LeO.ite ?_ ?_
   | refine LeO.bind ?_ (fun _ => ?_)
set_option maxHeartbeats 8000000 in
set_option maxRecDepth 100000 in
theorem laws_FnExactSlotSum.calls (k : Nat) (a0_0 : Int) (a0_1 : Int) (a0_2 : ByteArray) (a0_3 : Int) (r : Bool) (w : World) (hTab_ : Aside0 (Ito.TabW w)) (h : laws_FnExactSlotSum.f k a0_0 a0_1 a0_2 a0_3 = some r) :
  Calls Tryd.prog 3 #[.agg #[.int .i64 a0_0, .int .i64 a0_1, .string a0_2, .int .i64 a0_3]] w fun e w' => e = .returned (.bool r) ∧ Below w.heap.size w w' := by
 have hu23 := Tryd.underlying23
 have HB := Aside0.mk (Below.refl w.heap.size w)
 have H : ((laws_szSlot.f a0_0 a0_1 a0_2 a0_3 1048576).bind fun t151 => (if t151 < 0 then (some true) else ((laws_toSlot.f a0_0 a0_1 a0_2 a0_3).bind fun bt152 => ((spec_SlotSum.f k bt152.1 bt152.2.1 bt152.2.2.1 bt152.2.2.2).bind fun t156 => ((laws_toSlot.f a0_0 a0_1 a0_2 a0_3).bind fun bt157 => ((impl_SlotSum.f k bt157.1 bt157.2.1 bt157.2.2.1 bt157.2.2.2).bind fun t161 => (if t161 = t156 then (some true) else (some false)))))))) = some r := h
 clear h
 replace H := Option.bind_eq_some_iff.mp H
 obtain ⟨t151, A20, H⟩ := H
 replace H : (if t151 < 0 then (some true) else ((laws_toSlot.f a0_0 a0_1 a0_2 a0_3).bind fun bt152 => ((spec_SlotSum.f k bt152.1 bt152.2.1 bt152.2.2.1 bt152.2.2.2).bind fun t156 => ((laws_toSlot.f a0_0 a0_1 a0_2 a0_3).bind fun bt157 => ((impl_SlotSum.f k bt157.1 bt157.2.1 bt157.2.2.1 bt157.2.2.2).bind fun t161 => (if t161 = t156 then (some true) else (some false))))))) = some r := H
 have A2 := Aside0.mk A20
 clear A20
 by_cases c3 : t151 < 0
 ·
  rw [if_pos c3] at H
  have c3b0 : decide (t151 < 0) = true := decide_eq_true c3
  clear c3
  obtain rfl := Option.some.inj H
  go_enter Tryd.func3, Tryd.ntmps3
  go_wp2_with (first | ((with_reducible refine gate_dst (N := 1) rfl ?_); refine box_event ?hg (N := 1) ?hd (cs := #[.int .i64 a0_0, .int .i64 a0_1, .string a0_2, .int .i64 a0_3]) (t := 23) ?hr ?_; (case hd => rfl); (case hg => rfl); (case hr => first | (go_simp; done) | (go_simp; rfl)); intro gb150 hg w4 hbox hb; have BK150 := Aside0.mk (hbox); have GW150 := Aside0.mk ((by rw [hg]; exact (below_size (bs HB)) : w.heap.size ≤ gb150)); have GE150 := Aside0.mk ((by rw [hg]; exact (below_size (bs HB)) : w.heap.size ≤ gb150)); replace HB := Aside0.mk (below_step (bs HB) hb); clear hb hbox hg; obtain ⟨hcz5_0, hcz5_1, hcz5_2, hcz5_3⟩ := cz4 BK150; obtain ⟨hfz5_0, hfz5_1, hfz5_2, hfz5_3⟩ := fz4 BK150) | ((with_reducible refine gate_callee (f := 13) rfl ?_); refine gL (some 8) rfl rfl Tryd.func13 (by kernel_rfl) rfl #[.agg #[.int .i64 a0_0, .int .i64 a0_1, .string a0_2, .int .i64 a0_3], .int .i64 1048576] rfl ?_; (with_reducible refine (laws_szSlot.calls a0_0 a0_1 a0_2 a0_3 1048576 t151 _ A2.out).mono ?_); rintro e w6 ⟨rfl, hb⟩; refine ⟨_, rfl, ?_⟩; replace BK150 := nb BK150 hb; replace HB := Aside0.mk (below_step (bs1 HB GE150) hb); (try clear hb); (try clear hb2); (try clear hk); (try clear hi)))
  go_ret
  exact ⟨by first | rfl | (simp [errW_none, errW_some] <;> rfl) | (simp [*, errW_none, errW_some] <;> rfl), bs1 HB GE150⟩
 ·
  rw [if_neg c3] at H
  have c3b0 : decide (t151 < 0) = false := decide_eq_false c3
  clear c3
  replace H := Option.bind_eq_some_iff.mp H
  obtain ⟨⟨t152, t153, t154, t155⟩, A70, H⟩ := H
  replace H : ((spec_SlotSum.f k t152 t153 t154 t155).bind fun t156 => ((laws_toSlot.f a0_0 a0_1 a0_2 a0_3).bind fun bt157 => ((impl_SlotSum.f k bt157.1 bt157.2.1 bt157.2.2.1 bt157.2.2.2).bind fun t161 => (if t161 = t156 then (some true) else (some false))))) = some r := H
  have A7 := Aside0.mk A70
  clear A70
  replace H := Option.bind_eq_some_iff.mp H
  obtain ⟨t156, A80, H⟩ := H
  replace H : ((laws_toSlot.f a0_0 a0_1 a0_2 a0_3).bind fun bt157 => ((impl_SlotSum.f k bt157.1 bt157.2.1 bt157.2.2.1 bt157.2.2.2).bind fun t161 => (if t161 = t156 then (some true) else (some false)))) = some r := H
  have A8 := Aside0.mk A80
  clear A80
  replace H := Option.bind_eq_some_iff.mp H
  obtain ⟨⟨t157, t158, t159, t160⟩, A90, H⟩ := H
  replace H : ((impl_SlotSum.f k t157 t158 t159 t160).bind fun t161 => (if t161 = t156 then (some true) else (some false))) = some r := H
  have A9 := Aside0.mk A90
  clear A90
  replace H := Option.bind_eq_some_iff.mp H
  obtain ⟨t161, A100, H⟩ := H
  replace H : (if t161 = t156 then (some true) else (some false)) = some r := H
  have A10 := Aside0.mk A100
  clear A100
  by_cases c11 : t161 = t156
  ·
   rw [if_pos c11] at H
   have c11b0 : (t161 == t156) = true := beq_iff_eq.mpr c11
   have c11b1 : (t161 != t156) = false := bne_eq_false_iff_eq.mpr c11
   clear c11
   obtain rfl := Option.some.inj H
   go_enter Tryd.func3, Tryd.ntmps3
   go_wp2_with (first | ((with_reducible refine gate_dst (N := 1) rfl ?_); refine box_event ?hg (N := 1) ?hd (cs := #[.int .i64 a0_0, .int .i64 a0_1, .string a0_2, .int .i64 a0_3]) (t := 23) ?hr ?_; (case hd => rfl); (case hg => rfl); (case hr => first | (go_simp; done) | (go_simp; rfl)); intro gb150 hg w12 hbox hb; have BK150 := Aside0.mk (hbox); have GW150 := Aside0.mk ((by rw [hg]; exact (below_size (bs HB)) : w.heap.size ≤ gb150)); have GE150 := Aside0.mk ((by rw [hg]; exact (below_size (bs HB)) : w.heap.size ≤ gb150)); replace HB := Aside0.mk (below_step (bs HB) hb); clear hb hbox hg; obtain ⟨hcz13_0, hcz13_1, hcz13_2, hcz13_3⟩ := cz4 BK150; obtain ⟨hfz13_0, hfz13_1, hfz13_2, hfz13_3⟩ := fz4 BK150) | ((with_reducible refine gate_callee (f := 13) rfl ?_); refine gL (some 8) rfl rfl Tryd.func13 (by kernel_rfl) rfl #[.agg #[.int .i64 a0_0, .int .i64 a0_1, .string a0_2, .int .i64 a0_3], .int .i64 1048576] rfl ?_; (with_reducible refine (laws_szSlot.calls a0_0 a0_1 a0_2 a0_3 1048576 t151 _ A2.out).mono ?_); rintro e w14 ⟨rfl, hb⟩; refine ⟨_, rfl, ?_⟩; replace BK150 := nb BK150 hb; replace HB := Aside0.mk (below_step (bs1 HB GE150) hb); (try clear hb); (try clear hb2); (try clear hk); (try clear hi); obtain ⟨hcz15_0, hcz15_1, hcz15_2, hcz15_3⟩ := cz4 BK150; obtain ⟨hfz15_0, hfz15_1, hfz15_2, hfz15_3⟩ := fz4 BK150) | ((with_reducible refine gate_callee (f := 15) rfl ?_); refine gL (some 12) rfl rfl Tryd.func15 (by kernel_rfl) rfl #[.agg #[.int .i64 a0_0, .int .i64 a0_1, .string a0_2, .int .i64 a0_3]] rfl ?_; (with_reducible refine (laws_toSlot.calls a0_0 a0_1 a0_2 a0_3 t152 t153 t154 t155 _ A7.out).mono ?_); rintro e w16 ⟨rfl, hb⟩; refine ⟨_, rfl, ?_⟩; replace BK150 := nb BK150 hb; replace HB := Aside0.mk (below_step (bs1 HB GE150) hb); (try clear hb); (try clear hb2); (try clear hk); (try clear hi)) | ((with_reducible refine gate_callee (f := 14) rfl ?_); refine gL (some 13) rfl rfl Tryd.func14 (by kernel_rfl) rfl #[.agg #[.int .i64 t152, .int .i64 t153, .string t154, .int .i64 t155]] rfl ?_; (with_reducible refine (spec_SlotSum.calls k t152 t153 t154 t155 t156 _ A8.out).mono ?_); rintro e w17 ⟨rfl, hb⟩; refine ⟨_, rfl, ?_⟩; replace BK150 := nb BK150 hb; replace HB := Aside0.mk (below_step (bs1 HB GE150) hb); (try clear hb); (try clear hb2); (try clear hk); (try clear hi); obtain ⟨hcz18_0, hcz18_1, hcz18_2, hcz18_3⟩ := cz4 BK150; obtain ⟨hfz18_0, hfz18_1, hfz18_2, hfz18_3⟩ := fz4 BK150) | ((with_reducible refine gate_callee (f := 15) rfl ?_); refine gL (some 15) rfl rfl Tryd.func15 (by kernel_rfl) rfl #[.agg #[.int .i64 a0_0, .int .i64 a0_1, .string a0_2, .int .i64 a0_3]] rfl ?_; (with_reducible refine (laws_toSlot.calls a0_0 a0_1 a0_2 a0_3 t157 t158 t159 t160 _ A9.out).mono ?_); rintro e w19 ⟨rfl, hb⟩; refine ⟨_, rfl, ?_⟩; replace BK150 := nb BK150 hb; replace HB := Aside0.mk (below_step (bs1 HB GE150) hb); (try clear hb); (try clear hb2); (try clear hk); (try clear hi)) | ((with_reducible refine gate_callee (f := 16) rfl ?_); refine gL (some 16) rfl rfl Tryd.func16 (by kernel_rfl) rfl #[.agg #[.int .i64 t157, .int .i64 t158, .string t159, .int .i64 t160]] rfl ?_; (with_reducible refine (impl_SlotSum.calls k t157 t158 t159 t160 t161 _ ?sideT A10.out).mono ?_); (case sideT => refine ⟨Ito.tabB hTab_.out ?_⟩; first | exact bs HB | exact st_below | (repeat (first | (with_reducible first | exact HB.out | apply below_alloc | apply pw_below_drewN | apply below_drew1 | refine below_set ?_ (Aside0.out (by assumption))) | exact HB.out))); rintro e w20 ⟨rfl, hb⟩; refine ⟨_, rfl, ?_⟩; replace BK150 := nb BK150 hb; replace HB := Aside0.mk (below_step (bs1 HB GE150) hb); (try clear hb); (try clear hb2); (try clear hk); (try clear hi)))
   go_ret
   exact ⟨by first | rfl | (simp [errW_none, errW_some] <;> rfl) | (simp [*, errW_none, errW_some] <;> rfl), bs1 HB GE150⟩
  ·
   rw [if_neg c11] at H
   have c11b0 : (t161 == t156) = false := beq_eq_false_iff_ne.mpr c11
   have c11b1 : (t161 != t156) = true := bne_iff_ne.mpr c11
   obtain rfl := Option.some.inj H
   go_enter Tryd.func3, Tryd.ntmps3
   go_wp2_with (first | ((with_reducible refine gate_dst (N := 1) rfl ?_); refine box_event ?hg (N := 1) ?hd (cs := #[.int .i64 a0_0, .int .i64 a0_1, .string a0_2, .int .i64 a0_3]) (t := 23) ?hr ?_; (case hd => rfl); (case hg => rfl); (case hr => first | (go_simp; done) | (go_simp; rfl)); intro gb150 hg w21 hbox hb; have BK150 := Aside0.mk (hbox); have GW150 := Aside0.mk ((by rw [hg]; exact (below_size (bs HB)) : w.heap.size ≤ gb150)); have GE150 := Aside0.mk ((by rw [hg]; exact (below_size (bs HB)) : w.heap.size ≤ gb150)); replace HB := Aside0.mk (below_step (bs HB) hb); clear hb hbox hg; obtain ⟨hcz22_0, hcz22_1, hcz22_2, hcz22_3⟩ := cz4 BK150; obtain ⟨hfz22_0, hfz22_1, hfz22_2, hfz22_3⟩ := fz4 BK150) | ((with_reducible refine gate_callee (f := 13) rfl ?_); refine gL (some 8) rfl rfl Tryd.func13 (by kernel_rfl) rfl #[.agg #[.int .i64 a0_0, .int .i64 a0_1, .string a0_2, .int .i64 a0_3], .int .i64 1048576] rfl ?_; (with_reducible refine (laws_szSlot.calls a0_0 a0_1 a0_2 a0_3 1048576 t151 _ A2.out).mono ?_); rintro e w23 ⟨rfl, hb⟩; refine ⟨_, rfl, ?_⟩; replace BK150 := nb BK150 hb; replace HB := Aside0.mk (below_step (bs1 HB GE150) hb); (try clear hb); (try clear hb2); (try clear hk); (try clear hi); obtain ⟨hcz24_0, hcz24_1, hcz24_2, hcz24_3⟩ := cz4 BK150; obtain ⟨hfz24_0, hfz24_1, hfz24_2, hfz24_3⟩ := fz4 BK150) | ((with_reducible refine gate_callee (f := 15) rfl ?_); refine gL (some 12) rfl rfl Tryd.func15 (by kernel_rfl) rfl #[.agg #[.int .i64 a0_0, .int .i64 a0_1, .string a0_2, .int .i64 a0_3]] rfl ?_; (with_reducible refine (laws_toSlot.calls a0_0 a0_1 a0_2 a0_3 t152 t153 t154 t155 _ A7.out).mono ?_); rintro e w25 ⟨rfl, hb⟩; refine ⟨_, rfl, ?_⟩; replace BK150 := nb BK150 hb; replace HB := Aside0.mk (below_step (bs1 HB GE150) hb); (try clear hb); (try clear hb2); (try clear hk); (try clear hi)) | ((with_reducible refine gate_callee (f := 14) rfl ?_); refine gL (some 13) rfl rfl Tryd.func14 (by kernel_rfl) rfl #[.agg #[.int .i64 t152, .int .i64 t153, .string t154, .int .i64 t155]] rfl ?_; (with_reducible refine (spec_SlotSum.calls k t152 t153 t154 t155 t156 _ A8.out).mono ?_); rintro e w26 ⟨rfl, hb⟩; refine ⟨_, rfl, ?_⟩; replace BK150 := nb BK150 hb; replace HB := Aside0.mk (below_step (bs1 HB GE150) hb); (try clear hb); (try clear hb2); (try clear hk); (try clear hi); obtain ⟨hcz27_0, hcz27_1, hcz27_2, hcz27_3⟩ := cz4 BK150; obtain ⟨hfz27_0, hfz27_1, hfz27_2, hfz27_3⟩ := fz4 BK150) | ((with_reducible refine gate_callee (f := 15) rfl ?_); refine gL (some 15) rfl rfl Tryd.func15 (by kernel_rfl) rfl #[.agg #[.int .i64 a0_0, .int .i64 a0_1, .string a0_2, .int .i64 a0_3]] rfl ?_; (with_reducible refine (laws_toSlot.calls a0_0 a0_1 a0_2 a0_3 t157 t158 t159 t160 _ A9.out).mono ?_); rintro e w28 ⟨rfl, hb⟩; refine ⟨_, rfl, ?_⟩; replace BK150 := nb BK150 hb; replace HB := Aside0.mk (below_step (bs1 HB GE150) hb); (try clear hb); (try clear hb2); (try clear hk); (try clear hi)) | ((with_reducible refine gate_callee (f := 16) rfl ?_); refine gL (some 16) rfl rfl Tryd.func16 (by kernel_rfl) rfl #[.agg #[.int .i64 t157, .int .i64 t158, .string t159, .int .i64 t160]] rfl ?_; (with_reducible refine (impl_SlotSum.calls k t157 t158 t159 t160 t161 _ ?sideT A10.out).mono ?_); (case sideT => refine ⟨Ito.tabB hTab_.out ?_⟩; first | exact bs HB | exact st_below | (repeat (first | (with_reducible first | exact HB.out | apply below_alloc | apply pw_below_drewN | apply below_drew1 | refine below_set ?_ (Aside0.out (by assumption))) | exact HB.out))); rintro e w29 ⟨rfl, hb⟩; refine ⟨_, rfl, ?_⟩; replace BK150 := nb BK150 hb; replace HB := Aside0.mk (below_step (bs1 HB GE150) hb); (try clear hb); (try clear hb2); (try clear hk); (try clear hi)))
   go_ret
   exact ⟨by first | rfl | (simp [errW_none, errW_some] <;> rfl) | (simp [*, errW_none, errW_some] <;> rfl), bs1 HB GE150⟩

/-- THE ONE PURE STATEMENT of laws_FnExactSlotSum. -/
def laws_FnExactSlotSum.Pure : Prop := ∀ (a0_0 : Int) (a0_1 : Int) (a0_2 : ByteArray) (a0_3 : Int), ok23 (⟨a0_0, a0_1, a0_2, a0_3⟩ : S23) → ∃ k, laws_FnExactSlotSum.f k a0_0 a0_1 a0_2 a0_3 = some true

end Go.Proofs.YthlifcbkpafofaaDoor.G
