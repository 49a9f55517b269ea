-- Printed by a program of this session (drive.py, by way of the kit's print). Not trusted: Lean checks it.
import Derived.Test.YtakgjdckolllaaaG0
import Derived.Test.YtakgjdckolllaaaG2
import Derived.Test.YtakgjdckolllaaaG3
import Derived.Test.YtakgjdckolllaaaG4
namespace Go.Proofs.Ytakgjdckolllaaa.G
open Go.RowKit Go.Proofs.YtakgjdckolllaaaW.PrintWords Go.Proofs.YtakgjdckolllaaaW.PrintLast Go.Proofs.YtakgjdckolllaaaW.PrintMore
attribute [local go_sem] max2_int min2_int max_two min_two max_three min_three max_four min_four   -- for this text's walks alone
set_option linter.unusedVariables false
set_option linter.unusedSimpArgs false

/-! ### impl_GoodWork: function 17 -/
def impl_GoodWork.f (k : Nat) (a0_0 : Int) (l0_1 : List (S53)) (l0_2 : List (S53)) (a0_3 : Int) (l0_4 : List (S71)) : Option (Bool) := (impl_goodIntents.f k a0_0 l0_1 l0_2 a0_3 l0_4).bind fun bt319 => (some bt319.2)
theorem impl_GoodWork.mono : ∀ a0 a1 a2 a3 a4 k, LeO (impl_GoodWork.f k a0 a1 a2 a3 a4) (impl_GoodWork.f (k + 1) a0 a1 a2 a3 a4) := by
 intro a0 a1 a2 a3 a4 k
 unfold impl_GoodWork.f
 repeat' first
   | (with_reducible exact impl_goodIntents.mono _ _ _ _ _ _)
   | (with_reducible exact LeO.refl _)
   | (with_reducible exact LeO.none _)
   | (with_reducible refine LeO.ite ?_ ?_)
   | (with_reducible refine LeO.bind ?_ (fun _ => ?_))
   | exact impl_goodIntents.mono _ _ _ _ _ _
   | exact LeO.none _
   | refine LeO.ite ?_ ?_
   | refine LeO.bind ?_ (fun _ => ?_)
set_option maxHeartbeats 8000000 in
set_option maxRecDepth 100000 in
theorem impl_GoodWork.calls (k : Nat) (a0_0 : Int) (A0_1 : Option Addr) (c0_1 : Nat) (l0_1 : List (S53)) (A0_2 : Option Addr) (c0_2 : Nat) (l0_2 : List (S53)) (a0_3 : Int) (A0_4 : Option Addr) (c0_4 : Nat) (l0_4 : List (S71)) (r : Bool) (w : World) (hr0_1 : Kd.C k53 w A0_1 l0_1.length l0_1) (hc0_1 : l0_1.length ≤ c0_1) (hr0_2 : Kd.C k53 w A0_2 l0_2.length l0_2) (hc0_2 : l0_2.length ≤ c0_2) (hr0_4 : Kd.C k71 w A0_4 l0_4.length l0_4) (hc0_4 : l0_4.length ≤ c0_4) (h : impl_GoodWork.f k a0_0 l0_1 l0_2 a0_3 l0_4 = some r) :
  Calls Try.prog 17 #[.agg #[.int .i64 a0_0, .slice A0_1 l0_1.length c0_1, .slice A0_2 l0_2.length c0_2, .int .i64 a0_3, .slice A0_4 l0_4.length c0_4]] w fun e w' => e = .returned (.bool r) ∧ Below w.heap.size w w' := by
 have hu27 := Try.underlying27
 have HR0_1 := Aside0.mk hr0_1
 have HC0_1 := Aside0.mk hc0_1
 clear hr0_1 hc0_1
 have HR0_2 := Aside0.mk hr0_2
 have HC0_2 := Aside0.mk hc0_2
 clear hr0_2 hc0_2
 have HR0_4 := Aside0.mk hr0_4
 have HC0_4 := Aside0.mk hc0_4
 clear hr0_4 hc0_4
 have HB := Aside0.mk (Below.refl w.heap.size w)
 have H : ((impl_goodIntents.f k a0_0 l0_1 l0_2 a0_3 l0_4).bind fun bt319 => (some bt319.2)) = some r := h
 clear h
 replace H := Option.bind_eq_some_iff.mp H
 obtain ⟨⟨t319, t322⟩, A20, H⟩ := H
 replace H : (some t322) = some r := H
 have A2 := Aside0.mk A20
 clear A20
 obtain rfl := Option.some.inj H
 go_enter Try.func17, Try.ntmps17
 go_wp2_with (first | ((with_reducible refine gate_dst (N := 1) rfl ?_); refine box_event ?hg (N := 1) ?hd (cs := #[.int .i64 a0_0, .slice A0_1 l0_1.length c0_1, .slice A0_2 l0_2.length c0_2, .int .i64 a0_3, .slice A0_4 l0_4.length c0_4]) (t := 27) ?hr ?_; (case hd => rfl); (case hg => rfl); (case hr => first | (go_simp; done) | (go_simp; rfl)); intro gb318 hg w3 hbox hb; have BK318 := Aside0.mk (hbox); have GW318 := Aside0.mk ((by rw [hg]; exact (below_size (bs HB)) : w.heap.size ≤ gb318)); have GE318 := Aside0.mk ((by rw [hg]; exact (below_size (bs HB)) : w.heap.size ≤ gb318)); replace HB := Aside0.mk (below_step (bs HB) hb); clear hb hbox hg; obtain ⟨hcz4_0, hcz4_1, hcz4_2, hcz4_3, hcz4_4⟩ := cz5 BK318; obtain ⟨hfz4_0, hfz4_1, hfz4_2, hfz4_3, hfz4_4⟩ := fz5 BK318) | ((with_reducible refine gate_callee (f := 43) rfl ?_); refine gL (some 7) rfl rfl Try.func43 (by kernel_rfl) rfl #[.agg #[.int .i64 a0_0, .slice A0_1 l0_1.length c0_1, .slice A0_2 l0_2.length c0_2, .int .i64 a0_3, .slice A0_4 l0_4.length c0_4]] rfl ?_; (with_reducible refine (impl_goodIntents.calls k a0_0 _ _ l0_1 _ _ l0_2 a0_3 _ _ l0_4 t319 t322 _ ?side1 ?side2 ?side3 ?side4 ?side5 ?side6 A2.out).mono ?_); (case side1 => exact cb HR0_1 HB); (case side2 => exact HC0_1.out); (case side3 => exact cb HR0_2 HB); (case side4 => exact HC0_2.out); (case side5 => exact cb HR0_4 HB); (case side6 => exact HC0_4.out); rintro e w5 ⟨v320, rfl, ho0, hb⟩; refine ⟨_, rfl, ?_⟩; have HO321 := Aside0.mk (Kd.R_lower ho0 (below_size (bs1 HB GE318))); replace BK318 := nb BK318 hb; replace HB := Aside0.mk (below_step (bs1 HB GE318) hb); (try clear hb); (try clear hb2); (try clear hk); (try clear hi); (try clear ho0)))
 go_ret
 exact ⟨by first | rfl | (simp [errW_none, errW_some] <;> rfl) | (simp [*, errW_none, errW_some] <;> rfl), bs1 HB GE318⟩

/-! ### laws_FnExactGoodWork: function 4 -/
mutual
def laws_FnExactGoodWork.j0 : Nat → Int → List (S50) → List (S50) → Int → List (S88) → Option (Bool)
 | 0, _, _, _, _, _ => none
 | k + 1, x324000, x324001, x324002, x324003, x324004 => (laws_toWork.f k x324000 x324001 x324002 x324003 x324004).bind fun bt325 => ((spec_GoodWork.f k bt325.1 bt325.2.1 bt325.2.2.1 bt325.2.2.2.1 bt325.2.2.2.2).bind fun t336 => ((laws_toWork.f k x324000 x324001 x324002 x324003 x324004).bind fun bt337 => ((impl_GoodWork.f k bt337.1 bt337.2.1 bt337.2.2.1 bt337.2.2.2.1 bt337.2.2.2.2).bind fun t349 => (if (t349 != t336) = true then (some false) else (laws_FnExactGoodWork.j1 k x324000 x324001 x324002 x324003 x324004 bt337.1 bt337.2.1 bt337.2.2.1 bt337.2.2.2.1 bt337.2.2.2.2)))))
def laws_FnExactGoodWork.j1 : Nat → Int → List (S50) → List (S50) → Int → List (S88) → Int → List (S53) → List (S53) → Int → List (S71) → Option (Bool)
 | 0, _, _, _, _, _, _, _, _, _, _ => none
 | k + 1, x324000, x324001, x324002, x324003, x324004, x349000, x349001, x349002, x349003, x349004 => (laws_toWork.f k x324000 x324001 x324002 x324003 x324004).bind fun bt350 => ((laws_eqWork.f k x349000 x349001 x349002 x349003 x349004 bt350.1 bt350.2.1 bt350.2.2.1 bt350.2.2.2.1 bt350.2.2.2.2).bind fun t361 => (if t361 = true then (some true) else (some false)))
end
def laws_FnExactGoodWork.f (k : Nat) (a0_0 : Int) (l0_1 : List (S50)) (l0_2 : List (S50)) (a0_3 : Int) (l0_4 : List (S88)) : Option (Bool) := (laws_szWork.f a0_0 l0_1 l0_2 a0_3 l0_4 1048576).bind fun t324 => (if t324 < 0 then (some true) else (laws_FnExactGoodWork.j0 k a0_0 l0_1 l0_2 a0_3 l0_4))
theorem laws_FnExactGoodWork.mono_l : ∀ k, (∀ y0 y1 y2 y3 y4, LeO (laws_FnExactGoodWork.j0 k y0 y1 y2 y3 y4) (laws_FnExactGoodWork.j0 (k + 1) y0 y1 y2 y3 y4)) ∧ (∀ y0 y1 y2 y3 y4 y5 y6 y7 y8 y9, LeO (laws_FnExactGoodWork.j1 k y0 y1 y2 y3 y4 y5 y6 y7 y8 y9) (laws_FnExactGoodWork.j1 (k + 1) y0 y1 y2 y3 y4 y5 y6 y7 y8 y9))
 | 0 => ⟨fun _ _ _ _ _ r h => by simp [laws_FnExactGoodWork.j0] at h, fun _ _ _ _ _ _ _ _ _ _ r h => by simp [laws_FnExactGoodWork.j1] at h⟩
 | k + 1 => by
  obtain ⟨ih0, ih1⟩ := laws_FnExactGoodWork.mono_l k
  refine ⟨?_, ?_⟩
  ·
   intro y0 y1 y2 y3 y4
   unfold laws_FnExactGoodWork.j0
   repeat' first
   | (with_reducible exact ih0 _ _ _ _ _)
   | (with_reducible exact ih1 _ _ _ _ _ _ _ _ _ _)
   | (with_reducible exact impl_GoodWork.mono _ _ _ _ _ _)
   | (with_reducible exact laws_eqWork.mono _ _ _ _ _ _ _ _ _ _ _)
   | (with_reducible exact laws_toWork.mono _ _ _ _ _ _)
   | (with_reducible exact spec_GoodWork.mono _ _ _ _ _ _)
   | (with_reducible exact LeO.refl _)
   | (with_reducible exact LeO.none _)
   | (with_reducible refine LeO.ite ?_ ?_)
   | (with_reducible refine LeO.bind ?_ (fun _ => ?_))
   | exact ih0 _ _ _ _ _
   | exact ih1 _ _ _ _ _ _ _ _ _ _
   | exact impl_GoodWork.mono _ _ _ _ _ _
   | exact laws_eqWork.mono _ _ _ _ _ _ _ _ _ _ _
   | exact laws_toWork.mono _ _ _ _ _ _
   | exact spec_GoodWork.mono _ _ _ _ _ _
   | exact LeO.none _
   | refine LeO.ite ?_ ?_
   | refine LeO.bind ?_ (fun _ => ?_)
  ·
   intro y0 y1 y2 y3 y4 y5 y6 y7 y8 y9
   unfold laws_FnExactGoodWork.j1
   repeat' first
   | (with_reducible exact ih0 _ _ _ _ _)
   | (with_reducible exact ih1 _ _ _ _ _ _ _ _ _ _)
   | (with_reducible exact impl_GoodWork.mono _ _ _ _ _ _)
   | (with_reducible exact laws_eqWork.mono _ _ _ _ _ _ _ _ _ _ _)
   | (with_reducible exact laws_toWork.mono _ _ _ _ _ _)
   | (with_reducible exact spec_GoodWork.mono _ _ _ _ _ _)
   | (with_reducible exact LeO.refl _)
   | (with_reducible exact LeO.none _)
   | (with_reducible refine LeO.ite ?_ ?_)
   | (with_reducible refine LeO.bind ?_ (fun _ => ?_))
   | exact ih0 _ _ _ _ _
   | exact ih1 _ _ _ _ _ _ _ _ _ _
   | exact impl_GoodWork.mono _ _ _ _ _ _
   | exact laws_eqWork.mono _ _ _ _ _ _ _ _ _ _ _
   | exact laws_toWork.mono _ _ _ _ _ _
   | exact spec_GoodWork.mono _ _ _ _ _ _
   | exact LeO.none _
   | refine LeO.ite ?_ ?_
   | refine LeO.bind ?_ (fun _ => ?_)
theorem laws_FnExactGoodWork.mono : ∀ a0 a1 a2 a3 a4 k, LeO (laws_FnExactGoodWork.f k a0 a1 a2 a3 a4) (laws_FnExactGoodWork.f (k + 1) a0 a1 a2 a3 a4) := by
 intro a0 a1 a2 a3 a4 k
 obtain ⟨ih0, ih1⟩ := laws_FnExactGoodWork.mono_l k
 unfold laws_FnExactGoodWork.f
 repeat' first
   | (with_reducible exact ih0 _ _ _ _ _)
   | (with_reducible exact ih1 _ _ _ _ _ _ _ _ _ _)
   | (with_reducible exact impl_GoodWork.mono _ _ _ _ _ _)
   | (with_reducible exact laws_eqWork.mono _ _ _ _ _ _ _ _ _ _ _)
   | (with_reducible exact laws_toWork.mono _ _ _ _ _ _)
   | (with_reducible exact spec_GoodWork.mono _ _ _ _ _ _)
   | (with_reducible exact LeO.refl _)
   | (with_reducible exact LeO.none _)
   | (with_reducible refine LeO.ite ?_ ?_)
   | (with_reducible refine LeO.bind ?_ (fun _ => ?_))
   | exact ih0 _ _ _ _ _
   | exact ih1 _ _ _ _ _ _ _ _ _ _
   | exact impl_GoodWork.mono _ _ _ _ _ _
   | exact laws_eqWork.mono _ _ _ _ _ _ _ _ _ _ _
   | exact laws_toWork.mono _ _ _ _ _ _
   | exact spec_GoodWork.mono _ _ _ _ _ _
   | exact LeO.none _
   | refine LeO.ite ?_ ?_
   | refine LeO.bind ?_ (fun _ => ?_)
set_option maxHeartbeats 8000000 in
set_option maxRecDepth 100000 in
theorem laws_FnExactGoodWork.calls (k : Nat) (a0_0 : Int) (A0_1 : Option Addr) (c0_1 : Nat) (l0_1 : List (S50)) (A0_2 : Option Addr) (c0_2 : Nat) (l0_2 : List (S50)) (a0_3 : Int) (A0_4 : Option Addr) (c0_4 : Nat) (l0_4 : List (S88)) (r : Bool) (w : World) (hr0_1 : Kd.C k50 w A0_1 l0_1.length l0_1) (hc0_1 : l0_1.length ≤ c0_1) (hr0_2 : Kd.C k50 w A0_2 l0_2.length l0_2) (hc0_2 : l0_2.length ≤ c0_2) (hr0_4 : Kd.C k88 w A0_4 l0_4.length l0_4) (hc0_4 : l0_4.length ≤ c0_4) (h : laws_FnExactGoodWork.f k a0_0 l0_1 l0_2 a0_3 l0_4 = some r) :
  Calls Try.prog 4 #[.agg #[.int .i64 a0_0, .slice A0_1 l0_1.length c0_1, .slice A0_2 l0_2.length c0_2, .int .i64 a0_3, .slice A0_4 l0_4.length c0_4]] w fun e w' => e = .returned (.bool r) ∧ Below w.heap.size w w' := by
 have hu38 := Try.underlying38
 have hu27 := Try.underlying27
 have HR0_1 := Aside0.mk hr0_1
 have HC0_1 := Aside0.mk hc0_1
 clear hr0_1 hc0_1
 have HR0_2 := Aside0.mk hr0_2
 have HC0_2 := Aside0.mk hc0_2
 clear hr0_2 hc0_2
 have HR0_4 := Aside0.mk hr0_4
 have HC0_4 := Aside0.mk hc0_4
 clear hr0_4 hc0_4
 have HB := Aside0.mk (Below.refl w.heap.size w)
 have H : ((laws_szWork.f a0_0 l0_1 l0_2 a0_3 l0_4 1048576).bind fun t324 => (if t324 < 0 then (some true) else (laws_FnExactGoodWork.j0 k a0_0 l0_1 l0_2 a0_3 l0_4))) = some r := h
 clear h
 replace H := Option.bind_eq_some_iff.mp H
 obtain ⟨t324, A20, H⟩ := H
 replace H : (if t324 < 0 then (some true) else (laws_FnExactGoodWork.j0 k a0_0 l0_1 l0_2 a0_3 l0_4)) = some r := H
 have A2 := Aside0.mk A20
 clear A20
 have HC3 := Aside0.mk H
 clear H
 go_enter Try.func4, Try.ntmps4
 go_upto_if 11 with (first | ((with_reducible refine gate_dst (N := 1) rfl ?_); refine box_event ?hg (N := 1) ?hd (cs := #[.int .i64 a0_0, .slice A0_1 l0_1.length c0_1, .slice A0_2 l0_2.length c0_2, .int .i64 a0_3, .slice A0_4 l0_4.length c0_4]) (t := 38) ?hr ?_; (case hd => rfl); (case hg => rfl); (case hr => first | (go_simp; done) | (go_simp; rfl)); intro gb323 hg w4 hbox hb; have BK323 := Aside0.mk (hbox); have GW323 := Aside0.mk ((by rw [hg]; exact (below_size (bs HB)) : w.heap.size ≤ gb323)); have GE323 := Aside0.mk ((by rw [hg]; exact (below_size (bs HB)) : w.heap.size ≤ gb323)); replace HB := Aside0.mk (below_step (bs HB) hb); clear hb hbox hg; obtain ⟨hcz5_0, hcz5_1, hcz5_2, hcz5_3, hcz5_4⟩ := cz5 BK323; obtain ⟨hfz5_0, hfz5_1, hfz5_2, hfz5_3, hfz5_4⟩ := fz5 BK323) | ((with_reducible refine gate_callee (f := 14) rfl ?_); refine gL (some 9) rfl rfl Try.func14 (by kernel_rfl) rfl #[.agg #[.int .i64 a0_0, .slice A0_1 l0_1.length c0_1, .slice A0_2 l0_2.length c0_2, .int .i64 a0_3, .slice A0_4 l0_4.length c0_4], .int .i64 1048576] rfl ?_; (with_reducible refine (laws_szWork.calls a0_0 _ _ l0_1 _ _ l0_2 a0_3 _ _ l0_4 1048576 t324 _ ?side1 ?side2 ?side3 ?side4 ?side5 ?side6 A2.out).mono ?_); (case side1 => exact cb HR0_1 HB); (case side2 => exact HC0_1.out); (case side3 => exact cb HR0_2 HB); (case side4 => exact HC0_2.out); (case side5 => exact cb HR0_4 HB); (case side6 => exact HC0_4.out); rintro e w6 ⟨rfl, hb⟩; refine ⟨_, rfl, ?_⟩; replace BK323 := nb BK323 hb; replace HB := Aside0.mk (below_step (bs1 HB GE323) hb); (try clear hb); (try clear hb2); (try clear hk); (try clear hi)))
 (try simp only [Act.put, List.setIfInBounds_toArray, List.set_cons_zero, List.set_cons_succ])
 go_cut [] (fun wc => ∃ (kq : Nat), Aside0 (laws_FnExactGoodWork.j0 kq a0_0 l0_1 l0_2 a0_3 l0_4 = some r) ∧ Aside0 (kq ≤ k) ∧ Aside0 (wc.heap[gb323]? = some (.cells #[.int .i64 a0_0, (.slice A0_1 l0_1.length c0_1), (.slice A0_2 l0_2.length c0_2), .int .i64 a0_3, (.slice A0_4 l0_4.length c0_4)] 38 (0, 0))) ∧ Aside0 (Below w.heap.size w wc))
 case first =>
  have H := HC3.out
  clear HC3
  by_cases c7 : t324 < 0
  ·
   rw [if_pos c7] at H
   have c7b0 : decide (t324 < 0) = true := decide_eq_true c7
   clear c7
   (first | rw [c7b0] | (simp only [i64_w, i32_w]; rw [c7b0]) | (simp only [c7b2, Bool.not_false, Bool.not_true]) | skip)
   obtain rfl := Option.some.inj H
   go_wp2
   go_ret
   exact ⟨by first | rfl | (simp [errW_none, errW_some] <;> rfl) | (simp [*, errW_none, errW_some] <;> rfl), bs1 HB GE323⟩
  ·
   rw [if_neg c7] at H
   have c7b0 : decide (t324 < 0) = false := decide_eq_false c7
   clear c7
   (first | rw [c7b0] | (simp only [i64_w, i32_w]; rw [c7b0]) | (simp only [c7b2, Bool.not_false, Bool.not_true]) | skip)
   have H' := Aside0.mk H
   clear H
   go_wp2
   go_meet
   case rel => exact ⟨_, H', ⟨by first | omega | exact Nat.le_refl _⟩, ⟨bk BK323⟩, ⟨bs1 HB GE323⟩⟩
 case rest =>
  clear HC3
  try clear c1
  try clear p2
  try clear c4
  try clear c7
  try clear c7b0
  try clear hcz5_0 hcz5_1 hcz5_2 hcz5_3 hcz5_4
  try clear hfz5_0 hfz5_1 hfz5_2 hfz5_3 hfz5_4
  obtain ⟨kq, HA, HJ2, BK323, HB⟩ := hcut
  cases kq with
  | zero => exact absurd HA.out (by simp [laws_FnExactGoodWork.j0])
  | succ kj2 =>
   have H := HA.out
   clear HA
   simp only [laws_FnExactGoodWork.j0] at H
   replace H := Option.bind_eq_some_iff.mp H
   obtain ⟨⟨t325, t326, t329, t332, t333⟩, A80, H⟩ := H
   replace H : ((spec_GoodWork.f kj2 t325 t326 t329 t332 t333).bind fun t336 => ((laws_toWork.f kj2 a0_0 l0_1 l0_2 a0_3 l0_4).bind fun bt337 => ((impl_GoodWork.f kj2 bt337.1 bt337.2.1 bt337.2.2.1 bt337.2.2.2.1 bt337.2.2.2.2).bind fun t349 => (if (t349 != t336) = true then (some false) else (laws_FnExactGoodWork.j1 kj2 a0_0 l0_1 l0_2 a0_3 l0_4 bt337.1 bt337.2.1 bt337.2.2.1 bt337.2.2.2.1 bt337.2.2.2.2))))) = some r := H
   have A8 := Aside0.mk A80
   clear A80
   replace H := Option.bind_eq_some_iff.mp H
   obtain ⟨t336, A90, H⟩ := H
   replace H : ((laws_toWork.f kj2 a0_0 l0_1 l0_2 a0_3 l0_4).bind fun bt337 => ((impl_GoodWork.f kj2 bt337.1 bt337.2.1 bt337.2.2.1 bt337.2.2.2.1 bt337.2.2.2.2).bind fun t349 => (if (t349 != t336) = true then (some false) else (laws_FnExactGoodWork.j1 kj2 a0_0 l0_1 l0_2 a0_3 l0_4 bt337.1 bt337.2.1 bt337.2.2.1 bt337.2.2.2.1 bt337.2.2.2.2)))) = some r := H
   have A9 := Aside0.mk A90
   clear A90
   replace H := Option.bind_eq_some_iff.mp H
   obtain ⟨⟨t337, t338, t341, t344, t345⟩, A100, H⟩ := H
   replace H : ((impl_GoodWork.f kj2 t337 t338 t341 t344 t345).bind fun t349 => (if (t349 != t336) = true then (some false) else (laws_FnExactGoodWork.j1 kj2 a0_0 l0_1 l0_2 a0_3 l0_4 t337 t338 t341 t344 t345))) = some r := H
   have A10 := Aside0.mk A100
   clear A100
   replace H := Option.bind_eq_some_iff.mp H
   obtain ⟨t349, A110, H⟩ := H
   replace H : (if (t349 != t336) = true then (some false) else (laws_FnExactGoodWork.j1 kj2 a0_0 l0_1 l0_2 a0_3 l0_4 t337 t338 t341 t344 t345)) = some r := H
   have A11 := Aside0.mk A110
   clear A110
   have HC12 := Aside0.mk H
   clear H
   obtain ⟨hcz13_0, hcz13_1, hcz13_2, hcz13_3, hcz13_4⟩ := cz5 BK323
   obtain ⟨hfz13_0, hfz13_1, hfz13_2, hfz13_3, hfz13_4⟩ := fz5 BK323
   go_upto_if 21 with (first | ((with_reducible refine gate_callee (f := 16) rfl ?_); refine gL (some 13) rfl rfl Try.func16 (by kernel_rfl) rfl #[.agg #[.int .i64 a0_0, .slice A0_1 l0_1.length c0_1, .slice A0_2 l0_2.length c0_2, .int .i64 a0_3, .slice A0_4 l0_4.length c0_4]] rfl ?_; (with_reducible refine (laws_toWork.calls kj2 a0_0 _ _ l0_1 _ _ l0_2 a0_3 _ _ l0_4 t325 t326 t329 t332 t333 _ ?side1 ?side2 ?side3 ?side4 ?side5 ?side6 A8.out).mono ?_); (case side1 => exact cb HR0_1 HB); (case side2 => exact HC0_1.out); (case side3 => exact cb HR0_2 HB); (case side4 => exact HC0_2.out); (case side5 => exact cb HR0_4 HB); (case side6 => exact HC0_4.out); rintro e w14 ⟨v327, v330, v334, rfl, ho0, ho1, ho2, hb⟩; refine ⟨_, rfl, ?_⟩; have HO328 := Aside0.mk (Kd.R_lower ho0 (below_size (bs1 HB GE323))); have HO331 := Aside0.mk (Kd.R_lower ho1 (below_size (bs1 HB GE323))); have HO335 := Aside0.mk (Kd.R_lower ho2 (below_size (bs1 HB GE323))); replace BK323 := nb BK323 hb; replace HB := Aside0.mk (below_step (bs1 HB GE323) hb); (try clear hb); (try clear hb2); (try clear hk); (try clear hi); (try clear ho0); (try clear ho1); (try clear ho2); obtain ⟨Ao15, co15, eo15⟩ := Kd.R_slice HO328.out; subst eo15; obtain ⟨Ao16, co16, eo16⟩ := Kd.R_slice HO331.out; subst eo16; obtain ⟨Ao17, co17, eo17⟩ := Kd.R_slice HO335.out; subst eo17) | ((with_reducible refine gate_callee (f := 15) rfl ?_); refine gL (some 14) rfl rfl Try.func15 (by kernel_rfl) rfl #[.agg #[.int .i64 t325, .slice Ao15 t326.length co15, .slice Ao16 t329.length co16, .int .i64 t332, .slice Ao17 t333.length co17]] rfl ?_; (with_reducible refine (spec_GoodWork.calls kj2 t325 _ _ t326 _ _ t329 t332 _ _ t333 t336 _ ?side1 ?side2 ?side3 ?side4 ?side5 ?side6 A9.out).mono ?_); (case side1 => exact rc0 HO328); (case side2 => exact (Kd.R_reads' HO328.out).2.1); (case side3 => exact rc0 HO331); (case side4 => exact (Kd.R_reads' HO331.out).2.1); (case side5 => exact rc0 HO335); (case side6 => exact (Kd.R_reads' HO335.out).2.1); rintro e w18 ⟨rfl, hb⟩; refine ⟨_, rfl, ?_⟩; replace HO328 := nr HO328 hb; replace HO331 := nr HO331 hb; replace HO335 := nr HO335 hb; replace BK323 := nb BK323 hb; replace HB := Aside0.mk (below_step (bs1 HB GE323) hb); (try clear hb); (try clear hb2); (try clear hk); (try clear hi); obtain ⟨hcz19_0, hcz19_1, hcz19_2, hcz19_3, hcz19_4⟩ := cz5 BK323; obtain ⟨hfz19_0, hfz19_1, hfz19_2, hfz19_3, hfz19_4⟩ := fz5 BK323) | ((with_reducible refine gate_callee (f := 16) rfl ?_); refine gL (some 16) rfl rfl Try.func16 (by kernel_rfl) rfl #[.agg #[.int .i64 a0_0, .slice A0_1 l0_1.length c0_1, .slice A0_2 l0_2.length c0_2, .int .i64 a0_3, .slice A0_4 l0_4.length c0_4]] rfl ?_; (with_reducible refine (laws_toWork.calls kj2 a0_0 _ _ l0_1 _ _ l0_2 a0_3 _ _ l0_4 t337 t338 t341 t344 t345 _ ?side1 ?side2 ?side3 ?side4 ?side5 ?side6 A10.out).mono ?_); (case side1 => exact cb HR0_1 HB); (case side2 => exact HC0_1.out); (case side3 => exact cb HR0_2 HB); (case side4 => exact HC0_2.out); (case side5 => exact cb HR0_4 HB); (case side6 => exact HC0_4.out); rintro e w20 ⟨v339, v342, v346, rfl, ho0, ho1, ho2, hb⟩; refine ⟨_, rfl, ?_⟩; have HO340 := Aside0.mk (Kd.R_lower (Kd.R_new' (Kd.R_new' ho0 (Kd.R_lt (rr HO328.out))) (Kd.R_lt (rr HO331.out))) (below_size (bs1 HB GE323))); have HO343 := Aside0.mk (Kd.R_lower (Kd.R_new' (Kd.R_new' ho1 (Kd.R_lt (rr HO328.out))) (Kd.R_lt (rr HO331.out))) (below_size (bs1 HB GE323))); replace HO328 := Aside0.mk (Kd.R_mono (Kd.R_told (Kd.R_told (Kd.R_old (rr HO328.out) hb) (Kd.R_base ho0)) (Kd.R_base ho1)) (fun _ h_ => h_.1)); replace HO331 := Aside0.mk (Kd.R_mono (Kd.R_told (Kd.R_told (Kd.R_old (rr HO331.out) hb) (Kd.R_base ho0)) (Kd.R_base ho1)) (fun _ h_ => h_.1)); have HO347 := Aside0.mk (Kd.R_lower (Kd.R_new' ho2 (Kd.R_lt (rr HO335.out))) (below_size (bs1 HB GE323))); replace HO335 := Aside0.mk (Kd.R_elder' (rr HO335.out) (Kd.R_base ho2) hb); replace BK323 := nb BK323 hb; replace HB := Aside0.mk (below_step (bs1 HB GE323) hb); (try clear hb); (try clear hb2); (try clear hk); (try clear hi); (try clear ho0); (try clear ho1); (try clear ho2)) | ((with_reducible refine gate_dst (N := 5) rfl ?_); refine box_event ?hg (N := 5) ?hd (cs := #[.int .i64 0, .slice none 0 0, .slice none 0 0, .int .i64 0, .slice none 0 0]) (t := 27) ?hr ?_; (case hd => rfl); (case hg => rfl); (case hr => first | (go_simp; done) | (go_simp; rfl)); intro gb348 hg w21 hbox hb; replace HO328 := nr HO328 hb; replace HO331 := nr HO331 hb; replace HO335 := nr HO335 hb; replace HO340 := nr HO340 hb; replace HO343 := nr HO343 hb; replace HO347 := nr HO347 hb; have BK348 := Aside0.mk (hbox); have GW348 := Aside0.mk ((by rw [hg]; exact (below_size (bs1 HB GE323)) : w.heap.size ≤ gb348)); have GE348 := Aside0.mk ((by rw [hg]; exact (below_size (bs1 HB GE323)) : w.heap.size ≤ gb348)); replace HB := Aside0.mk (below_step (bs1 HB GE323) hb); have NB323_348 := Aside0.mk ((bn BK323 hg : gb323 ≠ gb348)); have NB348_323 := Aside0.mk ((bm BK323 hg : gb348 ≠ gb323)); replace BK323 := nb BK323 hb; clear hb hbox hg; have hnb22 := NB348_323.out; have hnc22 := NB323_348.out; obtain ⟨hcz23_0, hcz23_1, hcz23_2, hcz23_3, hcz23_4⟩ := cz5 BK348; obtain ⟨hfz23_0, hfz23_1, hfz23_2, hfz23_3, hfz23_4⟩ := fz5 BK348; obtain ⟨Ao24, co24, eo24⟩ := Kd.R_slice HO340.out; subst eo24; obtain ⟨Ao25, co25, eo25⟩ := Kd.R_slice HO343.out; subst eo25; obtain ⟨Ao26, co26, eo26⟩ := Kd.R_slice HO347.out; subst eo26) | ((with_reducible refine gate_callee (f := 17) rfl ?_); refine gL (some 18) rfl rfl Try.func17 (by kernel_rfl) rfl #[.agg #[.int .i64 t337, .slice Ao24 t338.length co24, .slice Ao25 t341.length co25, .int .i64 t344, .slice Ao26 t345.length co26]] rfl ?_; (with_reducible refine (impl_GoodWork.calls kj2 t337 _ _ t338 _ _ t341 t344 _ _ t345 t349 _ ?side1 ?side2 ?side3 ?side4 ?side5 ?side6 A11.out).mono ?_); (case side1 => exact rc HO340 BK348); (case side2 => exact (Kd.R_reads' HO340.out).2.1); (case side3 => exact rc HO343 BK348); (case side4 => exact (Kd.R_reads' HO343.out).2.1); (case side5 => exact rc HO347 BK348); (case side6 => exact (Kd.R_reads' HO347.out).2.1); rintro e w27 ⟨rfl, hb⟩; refine ⟨_, rfl, ?_⟩; replace HO328 := nf HO328 BK348 hb; replace HO331 := nf HO331 BK348 hb; replace HO335 := nf HO335 BK348 hb; replace HO340 := nf HO340 BK348 hb; replace HO343 := nf HO343 BK348 hb; replace HO347 := nf HO347 BK348 hb; replace BK323 := Aside0.mk (blk_below (bf BK323 NB323_348) hb); replace BK348 := Aside0.mk (blk_below (g := gb348) (o := .cells #[.int .i64 t337, .slice Ao24 t338.length co24, .slice Ao25 t341.length co25, .int .i64 t344, .slice Ao26 t345.length co26] 27 (0, 0)) (by (with_reducible repeat (first | refine blk_drewN ?_ _ | refine blk_drew ?_ | refine blk_alloc ?_ _)); refine blk_put (cs := #[.int .i64 t337, .slice Ao24 t338.length co24, .slice Ao25 t341.length co25, .int .i64 t344, .slice none 0 0]) ?_ 4 _ rfl; (with_reducible repeat (first | refine blk_drewN ?_ _ | refine blk_drew ?_ | refine blk_alloc ?_ _)); refine blk_put (cs := #[.int .i64 t337, .slice Ao24 t338.length co24, .slice Ao25 t341.length co25, .int .i64 0, .slice none 0 0]) ?_ 3 _ rfl; (with_reducible repeat (first | refine blk_drewN ?_ _ | refine blk_drew ?_ | refine blk_alloc ?_ _)); refine blk_put (cs := #[.int .i64 t337, .slice Ao24 t338.length co24, .slice none 0 0, .int .i64 0, .slice none 0 0]) ?_ 2 _ rfl; (with_reducible repeat (first | refine blk_drewN ?_ _ | refine blk_drew ?_ | refine blk_alloc ?_ _)); refine blk_put (cs := #[.int .i64 t337, .slice none 0 0, .slice none 0 0, .int .i64 0, .slice none 0 0]) ?_ 1 _ rfl; (with_reducible repeat (first | refine blk_drewN ?_ _ | refine blk_drew ?_ | refine blk_alloc ?_ _)); refine blk_put (cs := #[.int .i64 0, .slice none 0 0, .slice none 0 0, .int .i64 0, .slice none 0 0]) ?_ 0 _ rfl; (with_reducible repeat (first | refine blk_drewN ?_ _ | refine blk_drew ?_ | refine blk_alloc ?_ _)); exact BK348.out) hb); replace HB := Aside0.mk (below_step (bs2 HB GE323 GE348) hb); (try clear hb); (try clear hb2); (try clear hk); (try clear hi)))
   (try simp only [Act.put, List.setIfInBounds_toArray, List.set_cons_zero, List.set_cons_succ])
   go_cut [] (fun wc => ∃ (kq : Nat), Aside0 (laws_FnExactGoodWork.j1 kq a0_0 l0_1 l0_2 a0_3 l0_4 t337 t338 t341 t344 t345 = some r) ∧ Aside0 (kq ≤ kj2) ∧ Aside0 (Kd.R k53 53 wc w.heap.size (fun k_ => some k_ ≠ ((.slice Ao25 t341.length co25) : Value).ownBlock) (.slice Ao24 t338.length co24) t338) ∧ Aside0 (Kd.R k53 53 wc w.heap.size (fun k_ => some k_ ≠ ((.slice Ao24 t338.length co24) : Value).ownBlock) (.slice Ao25 t341.length co25) t341) ∧ Aside0 (Kd.R k71 71 wc w.heap.size (fun _ => True) (.slice Ao26 t345.length co26) t345) ∧ Aside0 (wc.heap[gb323]? = some (.cells #[.int .i64 a0_0, (.slice A0_1 l0_1.length c0_1), (.slice A0_2 l0_2.length c0_2), .int .i64 a0_3, (.slice A0_4 l0_4.length c0_4)] 38 (0, 0))) ∧ Aside0 (wc.heap[gb348]? = some (.cells #[.int .i64 t337, (.slice Ao24 t338.length co24), (.slice Ao25 t341.length co25), .int .i64 t344, (.slice Ao26 t345.length co26)] 27 (0, 0))) ∧ Aside0 (Below w.heap.size w wc))
   case first =>
    have H := HC12.out
    clear HC12
    by_cases c28 : (t349 != t336) = true
    ·
     rw [if_pos c28] at H
     have c28b0 : (t349 != t336) = true := c28
     (try (have c28b1 : decide (t349 = t336) = false := by simpa using c28))
     (try (have c28b2 : (t349 == t336) = false := by simpa using c28))
     (try (have c28b3 : ¬ (t349 = t336) := by simpa using c28))
     clear c28
     (first | rw [c28b0] | (simp only [i64_w, i32_w]; rw [c28b0]) | (simp only [c28b2, Bool.not_false, Bool.not_true]) | skip)
     obtain rfl := Option.some.inj H
     go_wp2
     go_ret
     exact ⟨by first | rfl | (simp [errW_none, errW_some] <;> rfl) | (simp [*, errW_none, errW_some] <;> rfl), bs2 HB GE323 GE348⟩
    ·
     rw [if_neg c28] at H
     have c28b0 : (t349 != t336) = false := by simpa using c28
     (try (have c28b1 : decide (t349 = t336) = true := by simpa using c28))
     (try (have c28b2 : (t349 == t336) = true := by simpa using c28))
     clear c28
     (first | rw [c28b0] | (simp only [i64_w, i32_w]; rw [c28b0]) | (simp only [c28b2, Bool.not_false, Bool.not_true]) | skip)
     have H' := Aside0.mk H
     clear H
     go_wp2
     go_meet
     case rel => exact ⟨_, H', ⟨by have := HJ2.out; first | omega | exact Nat.le_refl _⟩, rm HO340 (fun _ hk => hk.1.1), rm HO343 (fun _ hk => hk.1.1), rm HO347 (fun _ hk => trivial), ⟨bk BK323⟩, ⟨bk BK348⟩, ⟨bs2 HB GE323 GE348⟩⟩
   case rest =>
    clear HC12
    try clear c1
    try clear c2
    try clear p2
    try clear c4
    try clear c7
    try clear c7b0
    try clear c14
    try clear c15
    try clear c16
    try clear c17
    try clear c22
    try clear c28
    try clear c28b0
    try clear c28b1
    try clear c28b2
    try clear hcz13_0 hcz13_1 hcz13_2 hcz13_3 hcz13_4
    try clear hcz19_0 hcz19_1 hcz19_2 hcz19_3 hcz19_4
    try clear hcz23_0 hcz23_1 hcz23_2 hcz23_3 hcz23_4
    try clear hcz5_0 hcz5_1 hcz5_2 hcz5_3 hcz5_4
    try clear hfz13_0 hfz13_1 hfz13_2 hfz13_3 hfz13_4
    try clear hfz19_0 hfz19_1 hfz19_2 hfz19_3 hfz19_4
    try clear hfz23_0 hfz23_1 hfz23_2 hfz23_3 hfz23_4
    try clear hfz5_0 hfz5_1 hfz5_2 hfz5_3 hfz5_4
    try clear p2
    obtain ⟨kq, HA, HJ11, HO_349001, HO_349002, HO_349004, BK323, BK348, HB⟩ := hcut
    cases kq with
    | zero => exact absurd HA.out (by simp [laws_FnExactGoodWork.j1])
    | succ kj11 =>
     have H := HA.out
     clear HA
     simp only [laws_FnExactGoodWork.j1] at H
     replace H := Option.bind_eq_some_iff.mp H
     obtain ⟨⟨t350, t351, t354, t357, t358⟩, A290, H⟩ := H
     replace H : ((laws_eqWork.f kj11 t337 t338 t341 t344 t345 t350 t351 t354 t357 t358).bind fun t361 => (if t361 = true then (some true) else (some false))) = some r := H
     have A29 := Aside0.mk A290
     clear A290
     replace H := Option.bind_eq_some_iff.mp H
     obtain ⟨t361, A300, H⟩ := H
     replace H : (if t361 = true then (some true) else (some false)) = some r := H
     have A30 := Aside0.mk A300
     clear A300
     by_cases c31 : t361 = true
     ·
      subst c31
      rw [if_pos rfl] at H
      obtain rfl := Option.some.inj H
      try go_wp2
      have n0_ := Aside0.mk (Kd.R_drew HO_349001.out)
      have n1_ := Aside0.mk (Kd.R_drew HO_349002.out)
      have n2_ := Aside0.mk (Kd.R_drew HO_349004.out)
      have n3_ := Aside0.mk (blk_drew BK323.out)
      have n4_ := Aside0.mk (blk_drew BK348.out)
      have n5_ := Aside0.mk (below_drew1 HB.out)
      clear HO_349001
      clear HO_349002
      clear HO_349004
      clear BK323
      clear BK348
      clear HB
      have HO_349001 := n0_
      have HO_349002 := n1_
      have HO_349004 := n2_
      have BK323 := n3_
      have BK348 := n4_
      have HB := n5_
      clear n0_ n1_ n2_ n3_ n4_ n5_
      refine start_ (n := 5) (S := fun w' => w'.cell? ⟨gb348, 0, none⟩ = some (.int .i64 t337) ∧ w'.cell? ⟨gb348, 1, none⟩ = some (.slice Ao24 t338.length co24) ∧ w'.cell? ⟨gb348, 2, none⟩ = some (.slice Ao25 t341.length co25) ∧ w'.cell? ⟨gb348, 3, none⟩ = some (.int .i64 t344) ∧ w'.cell? ⟨gb348, 4, none⟩ = some (.slice Ao26 t345.length co26) ∧ w'.cell? ⟨gb323, 0, none⟩ = some (.int .i64 a0_0) ∧ w'.cell? ⟨gb323, 1, none⟩ = some (.slice A0_1 l0_1.length c0_1) ∧ w'.cell? ⟨gb323, 2, none⟩ = some (.slice A0_2 l0_2.length c0_2) ∧ w'.cell? ⟨gb323, 3, none⟩ = some (.int .i64 a0_3) ∧ w'.cell? ⟨gb323, 4, none⟩ = some (.slice A0_4 l0_4.length c0_4)) (ds := []) #[false, false, false, false, false] (by kernel_rfl) rfl rfl ⟨(blk_cell BK348.out 0).trans rfl, (blk_cell BK348.out 1).trans rfl, (blk_cell BK348.out 2).trans rfl, (blk_cell BK348.out 3).trans rfl, (blk_cell BK348.out 4).trans rfl, (blk_cell BK323.out 0).trans rfl, (blk_cell BK323.out 1).trans rfl, (blk_cell BK323.out 2).trans rfl, (blk_cell BK323.out 3).trans rfl, (blk_cell BK323.out 4).trans rfl⟩ (fun hHeld => ?_)
      generalize wc.drew = w32 at HO_349001 HO_349002 HO_349004 BK323 BK348 HB hHeld ⊢
      refine take_ (i := 0) (N := some 22) (v := ?_) (a' := ?_) #[true, false, false, false, false] rfl rfl (by kernel_rfl) (fun _ _ _ h => h) (Or.inl ⟨by rfl, ?_⟩) hHeld ?_ ?_
      rotate_left
      ·
       rintro w' ⟨s0, s1, s2, s3, s4, s5, s6, s7, s8, s9⟩
       go_simp
       with_reducible rfl
      rotate_left
      ·
       simp only [Act.put, List.setIfInBounds_toArray, List.set_cons_zero, List.set_cons_succ, i64_w, i32_w]
       rfl
      refine take_ (i := 1) (N := some 23) (v := ?_) (a' := ?_) #[true, true, false, false, false] rfl rfl (by kernel_rfl) (fun _ _ _ h => h) (Or.inl ⟨by rfl, ?_⟩) hHeld ?_ ?_
      rotate_left
      ·
       rintro w' ⟨s0, s1, s2, s3, s4, s5, s6, s7, s8, s9⟩
       go_simp
       with_reducible rfl
      rotate_left
      ·
       simp only [Act.put, List.setIfInBounds_toArray, List.set_cons_zero, List.set_cons_succ, i64_w, i32_w]
       rfl
      refine one_ (i := 2) (N := some 24) #[true, true, true, false, false] rfl rfl (by kernel_rfl) (by decide) (fun K hK => ?_)
      refine goes_ Try.func16 (by kernel_rfl) rfl #[.agg #[.int .i64 a0_0, .slice A0_1 l0_1.length c0_1, .slice A0_2 l0_2.length c0_2, .int .i64 a0_3, .slice A0_4 l0_4.length c0_4]] (by rfl) rfl rfl (by (try simp only [List.map_toArray, List.map_cons, List.map_nil]); first | done | rfl | (simp only [List.length_drop, List.length_take]; rfl)) ?_
      with_reducible refine (laws_toWork.calls kj11 a0_0 _ _ l0_1 _ _ l0_2 a0_3 _ _ l0_4 t350 t351 t354 t357 t358 _ ?side1 ?side2 ?side3 ?side4 ?side5 ?side6 A29.out).mono ?_
      (case side1 => exact cb HR0_1 HB)
      (case side2 => exact HC0_1.out)
      (case side3 => exact cb HR0_2 HB)
      (case side4 => exact HC0_2.out)
      (case side5 => exact cb HR0_4 HB)
      (case side6 => exact HC0_4.out)
      rintro e w33 ⟨v352, v355, v359, rfl, ho0, ho1, ho2, hb⟩
      refine ⟨_, rfl, ?_⟩
      have n0_ := Aside0.mk (Kd.R_mono (Kd.R_told (Kd.R_told (Kd.R_old (rr HO_349001.out) hb) (Kd.R_base ho0)) (Kd.R_base ho1)) (fun _ h_ => h_.1))
      have n1_ := Aside0.mk (Kd.R_mono (Kd.R_told (Kd.R_told (Kd.R_old (rr HO_349002.out) hb) (Kd.R_base ho0)) (Kd.R_base ho1)) (fun _ h_ => h_.1))
      have n2_ := Aside0.mk (Kd.R_elder' (rr HO_349004.out) (Kd.R_base ho2) hb)
      have n3_ := Aside0.mk (Kd.R_lower (Kd.R_new' (Kd.R_new' ho0 (Kd.R_lt (rr HO_349001.out))) (Kd.R_lt (rr HO_349002.out))) (below_size (bs2 HB GE323 GE348)))
      have n4_ := Aside0.mk (Kd.R_lower (Kd.R_new' (Kd.R_new' ho1 (Kd.R_lt (rr HO_349001.out))) (Kd.R_lt (rr HO_349002.out))) (below_size (bs2 HB GE323 GE348)))
      have n5_ := Aside0.mk (Kd.R_lower (Kd.R_new' ho2 (Kd.R_lt (rr HO_349004.out))) (below_size (bs2 HB GE323 GE348)))
      have n6_ := Aside0.mk (bb BK323 hb)
      have n7_ := Aside0.mk (bb BK348 hb)
      have n8_ := Aside0.mk (below_step (bs2 HB GE323 GE348) hb)
      clear HO_349001
      clear HO_349002
      clear HO_349004
      clear BK323
      clear BK348
      clear HB
      have HO_349001 := n0_
      have HO_349002 := n1_
      have HO_349004 := n2_
      have HO353 := n3_
      have HO356 := n4_
      have HO360 := n5_
      have BK323 := n6_
      have BK348 := n7_
      have HB := n8_
      clear n0_ n1_ n2_ n3_ n4_ n5_ n6_ n7_ n8_
      (try clear hb)
      (try clear hb2)
      (try clear hk)
      (try clear hi)
      (try clear ho0)
      (try clear ho1)
      (try clear ho2)
      obtain ⟨Ao34, co34, eo34⟩ := Kd.R_slice HO353.out
      (first | subst eo34 | (injection eo34 with f1_ f2_ f3_; have f4_ := f1_.symm; have f5_ := f3_.symm; clear f1_ f2_ f3_; subst f4_; subst f5_))
      obtain ⟨Ao35, co35, eo35⟩ := Kd.R_slice HO356.out
      (first | subst eo35 | (injection eo35 with f1_ f2_ f3_; have f4_ := f1_.symm; have f5_ := f3_.symm; clear f1_ f2_ f3_; subst f4_; subst f5_))
      obtain ⟨Ao36, co36, eo36⟩ := Kd.R_slice HO360.out
      (first | subst eo36 | (injection eo36 with f1_ f2_ f3_; have f4_ := f1_.symm; have f5_ := f3_.symm; clear f1_ f2_ f3_; subst f4_; subst f5_))
      refine hK.out _ _ ⟨(blk_cell BK348.out 0).trans rfl, (blk_cell BK348.out 1).trans rfl, (blk_cell BK348.out 2).trans rfl, (blk_cell BK348.out 3).trans rfl, (blk_cell BK348.out 4).trans rfl, (blk_cell BK323.out 0).trans rfl, (blk_cell BK323.out 1).trans rfl, (blk_cell BK323.out 2).trans rfl, (blk_cell BK323.out 3).trans rfl, (blk_cell BK323.out 4).trans rfl⟩ (fun hHeld => ?_)
      clear hK K
      refine norm_ (a' := ?_) ?_ ?_
      rotate_left
      ·
       show Act.put _ (some 24) _ = _
       simp only [Act.put, List.setIfInBounds_toArray, List.set_cons_zero, List.set_cons_succ, i64_w, i32_w]
       rfl
      refine one_ (i := 3) (N := some 25) #[true, true, true, true, false] rfl rfl (by kernel_rfl) (by decide) (fun K hK => ?_)
      refine goes_ Try.func11 (by kernel_rfl) rfl #[.agg #[.int .i64 t337, .slice Ao24 t338.length co24, .slice Ao25 t341.length co25, .int .i64 t344, .slice Ao26 t345.length co26], .agg #[.int .i64 t350, .slice Ao34 t351.length co34, .slice Ao35 t354.length co35, .int .i64 t357, .slice Ao36 t358.length co36]] (by rfl) rfl rfl (by (try simp only [List.map_toArray, List.map_cons, List.map_nil]); first | done | rfl | (simp only [List.length_drop, List.length_take]; rfl)) ?_
      with_reducible refine (laws_eqWork.calls kj11 t337 _ _ t338 _ _ t341 t344 _ _ t345 t350 _ _ t351 _ _ t354 t357 _ _ t358 true _ ?side1 ?side2 ?side3 ?side4 ?side5 ?side6 ?side7 ?side8 ?side9 ?side10 ?side11 ?side12 A30.out).mono ?_
      (case side1 => exact rc0 HO_349001)
      (case side2 => exact (Kd.R_reads' HO_349001.out).2.1)
      (case side3 => exact rc0 HO_349002)
      (case side4 => exact (Kd.R_reads' HO_349002.out).2.1)
      (case side5 => exact rc0 HO_349004)
      (case side6 => exact (Kd.R_reads' HO_349004.out).2.1)
      (case side7 => exact rc0 HO353)
      (case side8 => exact (Kd.R_reads' HO353.out).2.1)
      (case side9 => exact rc0 HO356)
      (case side10 => exact (Kd.R_reads' HO356.out).2.1)
      (case side11 => exact rc0 HO360)
      (case side12 => exact (Kd.R_reads' HO360.out).2.1)
      rintro e w37 ⟨rfl, hb⟩
      refine ⟨_, rfl, ?_⟩
      have n0_ := Aside0.mk (Kd.R_below (rr HO_349001.out) hb)
      have n1_ := Aside0.mk (Kd.R_below (rr HO_349002.out) hb)
      have n2_ := Aside0.mk (Kd.R_below (rr HO_349004.out) hb)
      have n3_ := Aside0.mk (Kd.R_below (rr HO353.out) hb)
      have n4_ := Aside0.mk (Kd.R_below (rr HO356.out) hb)
      have n5_ := Aside0.mk (Kd.R_below (rr HO360.out) hb)
      have n6_ := Aside0.mk (bb BK323 hb)
      have n7_ := Aside0.mk (bb BK348 hb)
      have n8_ := Aside0.mk (below_step (bs2 HB GE323 GE348) hb)
      clear HO_349001
      clear HO_349002
      clear HO_349004
      clear HO353
      clear HO356
      clear HO360
      clear BK323
      clear BK348
      clear HB
      have HO_349001 := n0_
      have HO_349002 := n1_
      have HO_349004 := n2_
      have HO353 := n3_
      have HO356 := n4_
      have HO360 := n5_
      have BK323 := n6_
      have BK348 := n7_
      have HB := n8_
      clear n0_ n1_ n2_ n3_ n4_ n5_ n6_ n7_ n8_
      (try clear hb)
      (try clear hb2)
      (try clear hk)
      (try clear hi)
      refine hK.out _ _ ⟨(blk_cell BK348.out 0).trans rfl, (blk_cell BK348.out 1).trans rfl, (blk_cell BK348.out 2).trans rfl, (blk_cell BK348.out 3).trans rfl, (blk_cell BK348.out 4).trans rfl, (blk_cell BK323.out 0).trans rfl, (blk_cell BK323.out 1).trans rfl, (blk_cell BK323.out 2).trans rfl, (blk_cell BK323.out 3).trans rfl, (blk_cell BK323.out 4).trans rfl⟩ (fun hHeld => ?_)
      clear hK K
      refine norm_ (a' := ?_) ?_ ?_
      rotate_left
      ·
       show Act.put _ (some 25) _ = _
       simp only [Act.put, List.setIfInBounds_toArray, List.set_cons_zero, List.set_cons_succ, i64_w, i32_w]
       rfl
      refine pure_ (i := 4) (N := some 26) (v := ?_) (a' := ?_) #[true, true, true, true, true] rfl rfl (by kernel_rfl) (fun _ _ _ h => h) (Or.inl ⟨by rfl, ?_⟩) ?_ ?_
      rotate_left
      ·
       intro w'
       go_simp
       with_reducible rfl
      rotate_left
      ·
       simp only [Act.put, List.setIfInBounds_toArray, List.set_cons_zero, List.set_cons_succ, i64_w, i32_w]
       rfl
      refine done_ (by kernel_rfl) ?_
      try go_wp2
      go_ret
      exact ⟨by first | rfl | (simp [errW_none, errW_some] <;> rfl) | (simp [*, errW_none, errW_some] <;> rfl), bs2 HB GE323 GE348⟩
     ·
      replace c31 := Bool.eq_false_iff.mpr c31
      subst c31
      rw [if_neg (show ¬ (false = true) by decide)] at H
      obtain rfl := Option.some.inj H
      try go_wp2
      have n0_ := Aside0.mk (Kd.R_drew HO_349001.out)
      have n1_ := Aside0.mk (Kd.R_drew HO_349002.out)
      have n2_ := Aside0.mk (Kd.R_drew HO_349004.out)
      have n3_ := Aside0.mk (blk_drew BK323.out)
      have n4_ := Aside0.mk (blk_drew BK348.out)
      have n5_ := Aside0.mk (below_drew1 HB.out)
      clear HO_349001
      clear HO_349002
      clear HO_349004
      clear BK323
      clear BK348
      clear HB
      have HO_349001 := n0_
      have HO_349002 := n1_
      have HO_349004 := n2_
      have BK323 := n3_
      have BK348 := n4_
      have HB := n5_
      clear n0_ n1_ n2_ n3_ n4_ n5_
      refine start_ (n := 5) (S := fun w' => w'.cell? ⟨gb348, 0, none⟩ = some (.int .i64 t337) ∧ w'.cell? ⟨gb348, 1, none⟩ = some (.slice Ao24 t338.length co24) ∧ w'.cell? ⟨gb348, 2, none⟩ = some (.slice Ao25 t341.length co25) ∧ w'.cell? ⟨gb348, 3, none⟩ = some (.int .i64 t344) ∧ w'.cell? ⟨gb348, 4, none⟩ = some (.slice Ao26 t345.length co26) ∧ w'.cell? ⟨gb323, 0, none⟩ = some (.int .i64 a0_0) ∧ w'.cell? ⟨gb323, 1, none⟩ = some (.slice A0_1 l0_1.length c0_1) ∧ w'.cell? ⟨gb323, 2, none⟩ = some (.slice A0_2 l0_2.length c0_2) ∧ w'.cell? ⟨gb323, 3, none⟩ = some (.int .i64 a0_3) ∧ w'.cell? ⟨gb323, 4, none⟩ = some (.slice A0_4 l0_4.length c0_4)) (ds := []) #[false, false, false, false, false] (by kernel_rfl) rfl rfl ⟨(blk_cell BK348.out 0).trans rfl, (blk_cell BK348.out 1).trans rfl, (blk_cell BK348.out 2).trans rfl, (blk_cell BK348.out 3).trans rfl, (blk_cell BK348.out 4).trans rfl, (blk_cell BK323.out 0).trans rfl, (blk_cell BK323.out 1).trans rfl, (blk_cell BK323.out 2).trans rfl, (blk_cell BK323.out 3).trans rfl, (blk_cell BK323.out 4).trans rfl⟩ (fun hHeld => ?_)
      generalize wc.drew = w38 at HO_349001 HO_349002 HO_349004 BK323 BK348 HB hHeld ⊢
      refine take_ (i := 0) (N := some 22) (v := ?_) (a' := ?_) #[true, false, false, false, false] rfl rfl (by kernel_rfl) (fun _ _ _ h => h) (Or.inl ⟨by rfl, ?_⟩) hHeld ?_ ?_
      rotate_left
      ·
       rintro w' ⟨s0, s1, s2, s3, s4, s5, s6, s7, s8, s9⟩
       go_simp
       with_reducible rfl
      rotate_left
      ·
       simp only [Act.put, List.setIfInBounds_toArray, List.set_cons_zero, List.set_cons_succ, i64_w, i32_w]
       rfl
      refine take_ (i := 1) (N := some 23) (v := ?_) (a' := ?_) #[true, true, false, false, false] rfl rfl (by kernel_rfl) (fun _ _ _ h => h) (Or.inl ⟨by rfl, ?_⟩) hHeld ?_ ?_
      rotate_left
      ·
       rintro w' ⟨s0, s1, s2, s3, s4, s5, s6, s7, s8, s9⟩
       go_simp
       with_reducible rfl
      rotate_left
      ·
       simp only [Act.put, List.setIfInBounds_toArray, List.set_cons_zero, List.set_cons_succ, i64_w, i32_w]
       rfl
      refine one_ (i := 2) (N := some 24) #[true, true, true, false, false] rfl rfl (by kernel_rfl) (by decide) (fun K hK => ?_)
      refine goes_ Try.func16 (by kernel_rfl) rfl #[.agg #[.int .i64 a0_0, .slice A0_1 l0_1.length c0_1, .slice A0_2 l0_2.length c0_2, .int .i64 a0_3, .slice A0_4 l0_4.length c0_4]] (by rfl) rfl rfl (by (try simp only [List.map_toArray, List.map_cons, List.map_nil]); first | done | rfl | (simp only [List.length_drop, List.length_take]; rfl)) ?_
      with_reducible refine (laws_toWork.calls kj11 a0_0 _ _ l0_1 _ _ l0_2 a0_3 _ _ l0_4 t350 t351 t354 t357 t358 _ ?side1 ?side2 ?side3 ?side4 ?side5 ?side6 A29.out).mono ?_
      (case side1 => exact cb HR0_1 HB)
      (case side2 => exact HC0_1.out)
      (case side3 => exact cb HR0_2 HB)
      (case side4 => exact HC0_2.out)
      (case side5 => exact cb HR0_4 HB)
      (case side6 => exact HC0_4.out)
      rintro e w39 ⟨v352, v355, v359, rfl, ho0, ho1, ho2, hb⟩
      refine ⟨_, rfl, ?_⟩
      have n0_ := Aside0.mk (Kd.R_mono (Kd.R_told (Kd.R_told (Kd.R_old (rr HO_349001.out) hb) (Kd.R_base ho0)) (Kd.R_base ho1)) (fun _ h_ => h_.1))
      have n1_ := Aside0.mk (Kd.R_mono (Kd.R_told (Kd.R_told (Kd.R_old (rr HO_349002.out) hb) (Kd.R_base ho0)) (Kd.R_base ho1)) (fun _ h_ => h_.1))
      have n2_ := Aside0.mk (Kd.R_elder' (rr HO_349004.out) (Kd.R_base ho2) hb)
      have n3_ := Aside0.mk (Kd.R_lower (Kd.R_new' (Kd.R_new' ho0 (Kd.R_lt (rr HO_349001.out))) (Kd.R_lt (rr HO_349002.out))) (below_size (bs2 HB GE323 GE348)))
      have n4_ := Aside0.mk (Kd.R_lower (Kd.R_new' (Kd.R_new' ho1 (Kd.R_lt (rr HO_349001.out))) (Kd.R_lt (rr HO_349002.out))) (below_size (bs2 HB GE323 GE348)))
      have n5_ := Aside0.mk (Kd.R_lower (Kd.R_new' ho2 (Kd.R_lt (rr HO_349004.out))) (below_size (bs2 HB GE323 GE348)))
      have n6_ := Aside0.mk (bb BK323 hb)
      have n7_ := Aside0.mk (bb BK348 hb)
      have n8_ := Aside0.mk (below_step (bs2 HB GE323 GE348) hb)
      clear HO_349001
      clear HO_349002
      clear HO_349004
      clear BK323
      clear BK348
      clear HB
      have HO_349001 := n0_
      have HO_349002 := n1_
      have HO_349004 := n2_
      have HO353 := n3_
      have HO356 := n4_
      have HO360 := n5_
      have BK323 := n6_
      have BK348 := n7_
      have HB := n8_
      clear n0_ n1_ n2_ n3_ n4_ n5_ n6_ n7_ n8_
      (try clear hb)
      (try clear hb2)
      (try clear hk)
      (try clear hi)
      (try clear ho0)
      (try clear ho1)
      (try clear ho2)
      obtain ⟨Ao40, co40, eo40⟩ := Kd.R_slice HO353.out
      (first | subst eo40 | (injection eo40 with f1_ f2_ f3_; have f4_ := f1_.symm; have f5_ := f3_.symm; clear f1_ f2_ f3_; subst f4_; subst f5_))
      obtain ⟨Ao41, co41, eo41⟩ := Kd.R_slice HO356.out
      (first | subst eo41 | (injection eo41 with f1_ f2_ f3_; have f4_ := f1_.symm; have f5_ := f3_.symm; clear f1_ f2_ f3_; subst f4_; subst f5_))
      obtain ⟨Ao42, co42, eo42⟩ := Kd.R_slice HO360.out
      (first | subst eo42 | (injection eo42 with f1_ f2_ f3_; have f4_ := f1_.symm; have f5_ := f3_.symm; clear f1_ f2_ f3_; subst f4_; subst f5_))
      refine hK.out _ _ ⟨(blk_cell BK348.out 0).trans rfl, (blk_cell BK348.out 1).trans rfl, (blk_cell BK348.out 2).trans rfl, (blk_cell BK348.out 3).trans rfl, (blk_cell BK348.out 4).trans rfl, (blk_cell BK323.out 0).trans rfl, (blk_cell BK323.out 1).trans rfl, (blk_cell BK323.out 2).trans rfl, (blk_cell BK323.out 3).trans rfl, (blk_cell BK323.out 4).trans rfl⟩ (fun hHeld => ?_)
      clear hK K
      refine norm_ (a' := ?_) ?_ ?_
      rotate_left
      ·
       show Act.put _ (some 24) _ = _
       simp only [Act.put, List.setIfInBounds_toArray, List.set_cons_zero, List.set_cons_succ, i64_w, i32_w]
       rfl
      refine one_ (i := 3) (N := some 25) #[true, true, true, true, false] rfl rfl (by kernel_rfl) (by decide) (fun K hK => ?_)
      refine goes_ Try.func11 (by kernel_rfl) rfl #[.agg #[.int .i64 t337, .slice Ao24 t338.length co24, .slice Ao25 t341.length co25, .int .i64 t344, .slice Ao26 t345.length co26], .agg #[.int .i64 t350, .slice Ao40 t351.length co40, .slice Ao41 t354.length co41, .int .i64 t357, .slice Ao42 t358.length co42]] (by rfl) rfl rfl (by (try simp only [List.map_toArray, List.map_cons, List.map_nil]); first | done | rfl | (simp only [List.length_drop, List.length_take]; rfl)) ?_
      with_reducible refine (laws_eqWork.calls kj11 t337 _ _ t338 _ _ t341 t344 _ _ t345 t350 _ _ t351 _ _ t354 t357 _ _ t358 false _ ?side1 ?side2 ?side3 ?side4 ?side5 ?side6 ?side7 ?side8 ?side9 ?side10 ?side11 ?side12 A30.out).mono ?_
      (case side1 => exact rc0 HO_349001)
      (case side2 => exact (Kd.R_reads' HO_349001.out).2.1)
      (case side3 => exact rc0 HO_349002)
      (case side4 => exact (Kd.R_reads' HO_349002.out).2.1)
      (case side5 => exact rc0 HO_349004)
      (case side6 => exact (Kd.R_reads' HO_349004.out).2.1)
      (case side7 => exact rc0 HO353)
      (case side8 => exact (Kd.R_reads' HO353.out).2.1)
      (case side9 => exact rc0 HO356)
      (case side10 => exact (Kd.R_reads' HO356.out).2.1)
      (case side11 => exact rc0 HO360)
      (case side12 => exact (Kd.R_reads' HO360.out).2.1)
      rintro e w43 ⟨rfl, hb⟩
      refine ⟨_, rfl, ?_⟩
      have n0_ := Aside0.mk (Kd.R_below (rr HO_349001.out) hb)
      have n1_ := Aside0.mk (Kd.R_below (rr HO_349002.out) hb)
      have n2_ := Aside0.mk (Kd.R_below (rr HO_349004.out) hb)
      have n3_ := Aside0.mk (Kd.R_below (rr HO353.out) hb)
      have n4_ := Aside0.mk (Kd.R_below (rr HO356.out) hb)
      have n5_ := Aside0.mk (Kd.R_below (rr HO360.out) hb)
      have n6_ := Aside0.mk (bb BK323 hb)
      have n7_ := Aside0.mk (bb BK348 hb)
      have n8_ := Aside0.mk (below_step (bs2 HB GE323 GE348) hb)
      clear HO_349001
      clear HO_349002
      clear HO_349004
      clear HO353
      clear HO356
      clear HO360
      clear BK323
      clear BK348
      clear HB
      have HO_349001 := n0_
      have HO_349002 := n1_
      have HO_349004 := n2_
      have HO353 := n3_
      have HO356 := n4_
      have HO360 := n5_
      have BK323 := n6_
      have BK348 := n7_
      have HB := n8_
      clear n0_ n1_ n2_ n3_ n4_ n5_ n6_ n7_ n8_
      (try clear hb)
      (try clear hb2)
      (try clear hk)
      (try clear hi)
      refine hK.out _ _ ⟨(blk_cell BK348.out 0).trans rfl, (blk_cell BK348.out 1).trans rfl, (blk_cell BK348.out 2).trans rfl, (blk_cell BK348.out 3).trans rfl, (blk_cell BK348.out 4).trans rfl, (blk_cell BK323.out 0).trans rfl, (blk_cell BK323.out 1).trans rfl, (blk_cell BK323.out 2).trans rfl, (blk_cell BK323.out 3).trans rfl, (blk_cell BK323.out 4).trans rfl⟩ (fun hHeld => ?_)
      clear hK K
      refine norm_ (a' := ?_) ?_ ?_
      rotate_left
      ·
       show Act.put _ (some 25) _ = _
       simp only [Act.put, List.setIfInBounds_toArray, List.set_cons_zero, List.set_cons_succ, i64_w, i32_w]
       rfl
      refine pure_ (i := 4) (N := some 26) (v := ?_) (a' := ?_) #[true, true, true, true, true] rfl rfl (by kernel_rfl) (fun _ _ _ h => h) (Or.inl ⟨by rfl, ?_⟩) ?_ ?_
      rotate_left
      ·
       intro w'
       go_simp
       with_reducible rfl
      rotate_left
      ·
       simp only [Act.put, List.setIfInBounds_toArray, List.set_cons_zero, List.set_cons_succ, i64_w, i32_w]
       rfl
      refine done_ (by kernel_rfl) ?_
      try go_wp2
      go_ret
      exact ⟨by first | rfl | (simp [errW_none, errW_some] <;> rfl) | (simp [*, errW_none, errW_some] <;> rfl), bs2 HB GE323 GE348⟩

/-- THE ONE PURE STATEMENT of laws_FnExactGoodWork. -/
def laws_FnExactGoodWork.Pure : Prop := ∀ (a0_0 : Int) (l0_1 : List (S50)) (l0_2 : List (S50)) (a0_3 : Int) (l0_4 : List (S88)), ok38 (⟨(⟨a0_0, l0_1, l0_2⟩ : S35), a0_3, l0_4⟩ : S38) → ∃ k, laws_FnExactGoodWork.f k a0_0 l0_1 l0_2 a0_3 l0_4 = some true

end Go.Proofs.Ytakgjdckolllaaa.G
