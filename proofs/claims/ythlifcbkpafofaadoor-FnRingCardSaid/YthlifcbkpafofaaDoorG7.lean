-- Printed by a program of this session (drive.py, by way of the kit's print). Not trusted: Lean checks it.
import Derived.Test.YthlifcbkpafofaaDoorG0
import Derived.Test.YthlifcbkpafofaaDoorG3
import Derived.Test.YthlifcbkpafofaaDoorG4
import Derived.Test.YthlifcbkpafofaaDoorG5
import Derived.Test.YthlifcbkpafofaaDoorG6
namespace Go.Proofs.YthlifcbkpafofaaDoor.G
open Go.RowKit Go.Proofs.YthlifcbkpafofaaDoorW.PrintWords Go.Proofs.YthlifcbkpafofaaDoorW.PrintLast Go.Proofs.YthlifcbkpafofaaDoorW.PrintMore
attribute [local go_sem] max2_int min2_int max_two min_two max_three min_three max_four min_four   -- for this text's walks alone
set_option linter.unusedVariables false
set_option linter.unusedSimpArgs false

/-! ### laws_FnRing: function 8 -/
mutual
def laws_FnRing.j0 : Nat → List Int → ByteArray → Bool → Bool → List (S26) → Int → Int → Int → List (S26) → Int → Int → Int → Option (Bool)
 | 0, _, _, _, _, _, _, _, _, _, _, _, _ => none
 | k + 1, x1, x6, x8, x65, x385000, x385001, x385002, x385003, x393000, x393001, x393002, x393003 => if x65 = true then (some false) else (if x8 = true then ((impl_RecordsOf.f k x385000 x385001 x385002 x385003).bind fun bt404 => ((impl_RecordsOf.f k x393000 x393001 x393002 x393003).bind fun bt408 => ((impl_RoomFor.f k x393000 x393001 x393002 x393003).bind fun bt412 => (if bt404.2 = true then (if bt408.2 = true then (if bt412.2 = true then ((some (([] : List ByteArray) : List ByteArray)).bind fun y414 => (if y414.length + bt404.1.length < 8796093022208 then ((some (y414 ++ bt404.1 : List ByteArray)).bind fun y417 => (if y417.length < 8796093022208 then ((laws_sameTexts.f k bt408.1 (y417 ++ [x6])).bind fun t423 => (if t423 = true then (if (wrap64 (bt412.1 + (bt408.1.length : Int))) = (x393000.length : Int) then ((impl_GoodRing.f k x393000 x393001 x393002 x393003).bind fun t424 => (if t424 = true then (laws_FnRing.j1 k x1) else (some false))) else (some false)) else (some false))) else (none))) else (none))) else (some false)) else (some false)) else (some false))))) else (laws_FnRing.j1 k x1))
def laws_FnRing.j1 : Nat → List Int → Option (Bool)
 | 0, _ => none
 | k + 1, x1 => (spec_DrawPushTail.f k x1).bind fun bt425 => ((impl_PushTail.f k bt425.1 bt425.2.1 bt425.2.2.1 bt425.2.2.2.1 bt425.2.2.2.2).bind fun bt433 => ((spec_PushTail.f k bt425.1 bt425.2.1 bt425.2.2.1 bt425.2.2.2.1 bt425.2.2.2.2).bind fun bt441 => (if (bt433.2.2.2.2 != bt441.2.2.2.2) = true then (laws_FnRing.j2 k bt425.2.2.2.2 bt433.2.2.2.2 true bt425.1 bt425.2.1 bt425.2.2.1 bt425.2.2.2.1 bt433.1 bt433.2.1 bt433.2.2.1 bt433.2.2.2.1) else ((laws_sameRings.f k bt433.1 bt433.2.1 bt433.2.2.1 bt433.2.2.2.1 bt441.1 bt441.2.1 bt441.2.2.1 bt441.2.2.2.1).bind fun t449 => (laws_FnRing.j2 k bt425.2.2.2.2 bt433.2.2.2.2 (!t449) bt425.1 bt425.2.1 bt425.2.2.1 bt425.2.2.2.1 bt433.1 bt433.2.1 bt433.2.2.1 bt433.2.2.2.1)))))
def laws_FnRing.j2 : Nat → Int → Bool → Bool → List (S26) → Int → Int → Int → List (S26) → Int → Int → Int → Option (Bool)
 | 0, _, _, _, _, _, _, _, _, _, _, _ => none
 | k + 1, x18, x20, x143, x433000, x433001, x433002, x433003, x441000, x441001, x441002, x441003 => if x143 = true then (some false) else (if x20 = true then ((impl_RecordsOf.f k x433000 x433001 x433002 x433003).bind fun bt450 => ((impl_RecordsOf.f k x441000 x441001 x441002 x441003).bind fun bt454 => (if bt450.2 = true then (if bt454.2 = true then (if 0 ≤ x18 then (if x18 ≤ (bt450.1.length : Int) then ((laws_sameTexts.f k bt454.1 (bt450.1.drop (x18 : Int).toNat)).bind fun t462 => (if t462 = true then ((impl_GoodRing.f k x441000 x441001 x441002 x441003).bind fun t463 => (some t463)) else (some false))) else (none)) else (none)) else (some false)) else (some false)))) else (some ((x441000.length : Int) == 0)))
end
def laws_FnRing.f (k : Nat) (l0 : List Int) (l1 : List Int) : Option (Bool) := if (wrap64 ((l0.length : Int) + (l1.length : Int))) > 1048576 then (some true) else ((spec_DrawPutRecord.f k l0).bind fun bt377 => ((impl_PutRecord.f k bt377.1 bt377.2.1 bt377.2.2.1 bt377.2.2.2.1 bt377.2.2.2.2).bind fun bt385 => ((spec_PutRecord.f k bt377.1 bt377.2.1 bt377.2.2.1 bt377.2.2.2.1 bt377.2.2.2.2).bind fun bt393 => (if (bt385.2.2.2.2 != bt393.2.2.2.2) = true then (laws_FnRing.j0 k l1 bt377.2.2.2.2 bt385.2.2.2.2 true bt377.1 bt377.2.1 bt377.2.2.1 bt377.2.2.2.1 bt385.1 bt385.2.1 bt385.2.2.1 bt385.2.2.2.1) else ((laws_sameRings.f k bt385.1 bt385.2.1 bt385.2.2.1 bt385.2.2.2.1 bt393.1 bt393.2.1 bt393.2.2.1 bt393.2.2.2.1).bind fun t401 => (if t401 = true then ((impl_GoodRing.f k bt377.1 bt377.2.1 bt377.2.2.1 bt377.2.2.2.1).bind fun t402 => ((spec_GoodRing.f k bt377.1 bt377.2.1 bt377.2.2.1 bt377.2.2.2.1).bind fun t403 => (laws_FnRing.j0 k l1 bt377.2.2.2.2 bt385.2.2.2.2 (t402 != t403) bt377.1 bt377.2.1 bt377.2.2.1 bt377.2.2.2.1 bt385.1 bt385.2.1 bt385.2.2.1 bt385.2.2.2.1))) else (laws_FnRing.j0 k l1 bt377.2.2.2.2 bt385.2.2.2.2 true bt377.1 bt377.2.1 bt377.2.2.1 bt377.2.2.2.1 bt385.1 bt385.2.1 bt385.2.2.1 bt385.2.2.2.1)))))))
theorem laws_FnRing.mono_l : ∀ k, (∀ y0 y1 y2 y3 y4 y5 y6 y7 y8 y9 y10 y11, LeO (laws_FnRing.j0 k y0 y1 y2 y3 y4 y5 y6 y7 y8 y9 y10 y11) (laws_FnRing.j0 (k + 1) y0 y1 y2 y3 y4 y5 y6 y7 y8 y9 y10 y11)) ∧ (∀ y0, LeO (laws_FnRing.j1 k y0) (laws_FnRing.j1 (k + 1) y0)) ∧ (∀ y0 y1 y2 y3 y4 y5 y6 y7 y8 y9 y10, LeO (laws_FnRing.j2 k y0 y1 y2 y3 y4 y5 y6 y7 y8 y9 y10) (laws_FnRing.j2 (k + 1) y0 y1 y2 y3 y4 y5 y6 y7 y8 y9 y10))
 | 0 => ⟨fun _ _ _ _ _ _ _ _ _ _ _ _ r h => by simp [laws_FnRing.j0] at h, fun _ r h => by simp [laws_FnRing.j1] at h, fun _ _ _ _ _ _ _ _ _ _ _ r h => by simp [laws_FnRing.j2] at h⟩
 | k + 1 => by
  obtain ⟨ih0, ih1, ih2⟩ := laws_FnRing.mono_l k
  refine ⟨?_, ?_, ?_⟩
  ·
   intro y0 y1 y2 y3 y4 y5 y6 y7 y8 y9 y10 y11
   unfold laws_FnRing.j0
   repeat' first
   | (with_reducible exact ih0 _ _ _ _ _ _ _ _ _ _ _ _)
   | (with_reducible exact ih1 _)
   | (with_reducible exact ih2 _ _ _ _ _ _ _ _ _ _ _)
   | (with_reducible exact impl_GoodRing.mono _ _ _ _ _)
   | (with_reducible exact impl_PushTail.mono _ _ _ _ _ _)
   | (with_reducible exact impl_PutRecord.mono _ _ _ _ _ _)
   | (with_reducible exact impl_RecordsOf.mono _ _ _ _ _)
   | (with_reducible exact impl_RoomFor.mono _ _ _ _ _)
   | (with_reducible exact laws_sameRings.mono _ _ _ _ _ _ _ _ _)
   | (with_reducible exact laws_sameTexts.mono _ _ _)
   | (with_reducible exact spec_DrawPushTail.mono _ _)
   | (with_reducible exact spec_DrawPutRecord.mono _ _)
   | (with_reducible exact spec_GoodRing.mono _ _ _ _ _)
   | (with_reducible exact spec_PushTail.mono _ _ _ _ _ _)
   | (with_reducible exact spec_PutRecord.mono _ _ _ _ _ _)
   | (with_reducible exact LeO.refl _)
   | (with_reducible exact LeO.none _)
   | (with_reducible refine LeO.ite ?_ ?_)
   | (with_reducible refine LeO.bind ?_ (fun _ => ?_))
   | exact ih0 _ _ _ _ _ _ _ _ _ _ _ _
   | exact ih1 _
   | exact ih2 _ _ _ _ _ _ _ _ _ _ _
   | exact impl_GoodRing.mono _ _ _ _ _
   | exact impl_PushTail.mono _ _ _ _ _ _
   | exact impl_PutRecord.mono _ _ _ _ _ _
   | exact impl_RecordsOf.mono _ _ _ _ _
   | exact impl_RoomFor.mono _ _ _ _ _
   | exact laws_sameRings.mono _ _ _ _ _ _ _ _ _
   | exact laws_sameTexts.mono _ _ _
   | exact spec_DrawPushTail.mono _ _
   | exact spec_DrawPutRecord.mono _ _
   | exact spec_GoodRing.mono _ _ _ _ _
   | exact spec_PushTail.mono _ _ _ _ _ _
   | exact spec_PutRecord.mono _ _ _ _ _ _
   | exact LeO.none _
   | refine LeO.ite ?_ ?_
   | refine LeO.bind ?_ (fun _ => ?_)
  ·
   intro y0
   unfold laws_FnRing.j1
   repeat' first
   | (with_reducible exact ih0 _ _ _ _ _ _ _ _ _ _ _ _)
   | (with_reducible exact ih1 _)
   | (with_reducible exact ih2 _ _ _ _ _ _ _ _ _ _ _)
   | (with_reducible exact impl_GoodRing.mono _ _ _ _ _)
   | (with_reducible exact impl_PushTail.mono _ _ _ _ _ _)
   | (with_reducible exact impl_PutRecord.mono _ _ _ _ _ _)
   | (with_reducible exact impl_RecordsOf.mono _ _ _ _ _)
   | (with_reducible exact impl_RoomFor.mono _ _ _ _ _)
   | (with_reducible exact laws_sameRings.mono _ _ _ _ _ _ _ _ _)
   | (with_reducible exact laws_sameTexts.mono _ _ _)
   | (with_reducible exact spec_DrawPushTail.mono _ _)
   | (with_reducible exact spec_DrawPutRecord.mono _ _)
   | (with_reducible exact spec_GoodRing.mono _ _ _ _ _)
   | (with_reducible exact spec_PushTail.mono _ _ _ _ _ _)
   | (with_reducible exact spec_PutRecord.mono _ _ _ _ _ _)
   | (with_reducible exact LeO.refl _)
   | (with_reducible exact LeO.none _)
   | (with_reducible refine LeO.ite ?_ ?_)
   | (with_reducible refine LeO.bind ?_ (fun _ => ?_))
   | exact ih0 _ _ _ _ _ _ _ _ _ _ _ _
   | exact ih1 _
   | exact ih2 _ _ _ _ _ _ _ _ _ _ _
   | exact impl_GoodRing.mono _ _ _ _ _
   | exact impl_PushTail.mono _ _ _ _ _ _
   | exact impl_PutRecord.mono _ _ _ _ _ _
   | exact impl_RecordsOf.mono _ _ _ _ _
   | exact impl_RoomFor.mono _ _ _ _ _
   | exact laws_sameRings.mono _ _ _ _ _ _ _ _ _
   | exact laws_sameTexts.mono _ _ _
   | exact spec_DrawPushTail.mono _ _
   | exact spec_DrawPutRecord.mono _ _
   | exact spec_GoodRing.mono _ _ _ _ _
   | exact spec_PushTail.mono _ _ _ _ _ _
   | exact spec_PutRecord.mono _ _ _ _ _ _
   | exact LeO.none _
   | refine LeO.ite ?_ ?_
   | refine LeO.bind ?_ (fun _ => ?_)
  ·
   intro y0 y1 y2 y3 y4 y5 y6 y7 y8 y9 y10
   unfold laws_FnRing.j2
   repeat' first
   | (with_reducible exact ih0 _ _ _ _ _ _ _ _ _ _ _ _)
   | (with_reducible exact ih1 _)
   | (with_reducible exact ih2 _ _ _ _ _ _ _ _ _ _ _)
   | (with_reducible exact impl_GoodRing.mono _ _ _ _ _)
   | (with_reducible exact impl_PushTail.mono _ _ _ _ _ _)
   | (with_reducible exact impl_PutRecord.mono _ _ _ _ _ _)
   | (with_reducible exact impl_RecordsOf.mono _ _ _ _ _)
   | (with_reducible exact impl_RoomFor.mono _ _ _ _ _)
   | (with_reducible exact laws_sameRings.mono _ _ _ _ _ _ _ _ _)
   | (with_reducible exact laws_sameTexts.mono _ _ _)
   | (with_reducible exact spec_DrawPushTail.mono _ _)
   | (with_reducible exact spec_DrawPutRecord.mono _ _)
   | (with_reducible exact spec_GoodRing.mono _ _ _ _ _)
   | (with_reducible exact spec_PushTail.mono _ _ _ _ _ _)
   | (with_reducible exact spec_PutRecord.mono _ _ _ _ _ _)
   | (with_reducible exact LeO.refl _)
   | (with_reducible exact LeO.none _)
   | (with_reducible refine LeO.ite ?_ ?_)
   | (with_reducible refine LeO.bind ?_ (fun _ => ?_))
   | exact ih0 _ _ _ _ _ _ _ _ _ _ _ _
   | exact ih1 _
   | exact ih2 _ _ _ _ _ _ _ _ _ _ _
   | exact impl_GoodRing.mono _ _ _ _ _
   | exact impl_PushTail.mono _ _ _ _ _ _
   | exact impl_PutRecord.mono _ _ _ _ _ _
   | exact impl_RecordsOf.mono _ _ _ _ _
   | exact impl_RoomFor.mono _ _ _ _ _
   | exact laws_sameRings.mono _ _ _ _ _ _ _ _ _
   | exact laws_sameTexts.mono _ _ _
   | exact spec_DrawPushTail.mono _ _
   | exact spec_DrawPutRecord.mono _ _
   | exact spec_GoodRing.mono _ _ _ _ _
   | exact spec_PushTail.mono _ _ _ _ _ _
   | exact spec_PutRecord.mono _ _ _ _ _ _
   | exact LeO.none _
   | refine LeO.ite ?_ ?_
   | refine LeO.bind ?_ (fun _ => ?_)
theorem laws_FnRing.mono : ∀ a0 a1 k, LeO (laws_FnRing.f k a0 a1) (laws_FnRing.f (k + 1) a0 a1) := by
 intro a0 a1 k
 obtain ⟨ih0, ih1, ih2⟩ := laws_FnRing.mono_l k
 unfold laws_FnRing.f
 repeat' first
   | (with_reducible exact ih0 _ _ _ _ _ _ _ _ _ _ _ _)
   | (with_reducible exact ih1 _)
   | (with_reducible exact ih2 _ _ _ _ _ _ _ _ _ _ _)
   | (with_reducible exact impl_GoodRing.mono _ _ _ _ _)
   | (with_reducible exact impl_PushTail.mono _ _ _ _ _ _)
   | (with_reducible exact impl_PutRecord.mono _ _ _ _ _ _)
   | (with_reducible exact impl_RecordsOf.mono _ _ _ _ _)
   | (with_reducible exact impl_RoomFor.mono _ _ _ _ _)
   | (with_reducible exact laws_sameRings.mono _ _ _ _ _ _ _ _ _)
   | (with_reducible exact laws_sameTexts.mono _ _ _)
   | (with_reducible exact spec_DrawPushTail.mono _ _)
   | (with_reducible exact spec_DrawPutRecord.mono _ _)
   | (with_reducible exact spec_GoodRing.mono _ _ _ _ _)
   | (with_reducible exact spec_PushTail.mono _ _ _ _ _ _)
   | (with_reducible exact spec_PutRecord.mono _ _ _ _ _ _)
   | (with_reducible exact LeO.refl _)
   | (with_reducible exact LeO.none _)
   | (with_reducible refine LeO.ite ?_ ?_)
   | (with_reducible refine LeO.bind ?_ (fun _ => ?_))
   | exact ih0 _ _ _ _ _ _ _ _ _ _ _ _
   | exact ih1 _
   | exact ih2 _ _ _ _ _ _ _ _ _ _ _
   | exact impl_GoodRing.mono _ _ _ _ _
   | exact impl_PushTail.mono _ _ _ _ _ _
   | exact impl_PutRecord.mono _ _ _ _ _ _
   | exact impl_RecordsOf.mono _ _ _ _ _
   | exact impl_RoomFor.mono _ _ _ _ _
   | exact laws_sameRings.mono _ _ _ _ _ _ _ _ _
   | exact laws_sameTexts.mono _ _ _
   | exact spec_DrawPushTail.mono _ _
   | exact spec_DrawPutRecord.mono _ _
   | exact spec_GoodRing.mono _ _ _ _ _
   | exact spec_PushTail.mono _ _ _ _ _ _
   | exact spec_PutRecord.mono _ _ _ _ _ _
   | exact LeO.none _
   | refine LeO.ite ?_ ?_
   | refine LeO.bind ?_ (fun _ => ?_)
def laws_FnRing.T6 : Bool × List (List Nat × List Nat) := (true, [([], []), ([], []), ([0, 1], [0, 1]), ([2], [2]), ([3], [3]), ([3], [3]), ([4, 5, 3, 3], [3, 4, 5]), ([6, 3], [3, 6]), ([3, 7], [3, 7]), ([8, 6], [8]), ([9], [9]), ([10, 9, 9], [9, 10]), ([9], [9]), ([12, 11, 9], [9, 12]), ([11, 13, 9], [9, 11, 13]), ([9, 14], [9, 14])])
def laws_FnRing.B6 : List Nat := [0, 0, 3, 7, 15, 15, 63, 127, 255, 511, 1023, 2047, 1023, 8191, 16383, 32767]
theorem laws_FnRing.tab6 : rtab .any (opsOf Tryd.f8 6) = laws_FnRing.T6 := by kernel_rfl
theorem laws_FnRing.bits6 : waitsOk laws_FnRing.T6.2 laws_FnRing.B6 = true := by kernel_rfl
set_option maxHeartbeats 8000000 in
set_option maxRecDepth 100000 in
theorem laws_FnRing.calls (k : Nat) (A0 : Option Addr) (c0 : Nat) (l0 : List Int) (A1 : Option Addr) (c1 : Nat) (l1 : List Int) (r : Bool) (w : World) (hTab_ : Aside0 (Ito.TabW w)) (hr0 : Kd.C (Kd.int .u8) w A0 l0.length l0) (hc0 : l0.length ≤ c0) (hr1 : Kd.C (Kd.int .u8) w A1 l1.length l1) (hc1 : l1.length ≤ c1) (h : laws_FnRing.f k l0 l1 = some r) :
  Calls Tryd.prog 8 #[.slice A0 l0.length c0, .slice A1 l1.length c1] w fun e w' => e = .returned (.bool r) ∧ Below w.heap.size w w' := by
 have hu36 := Tryd.underlying36
 have HR0 := Aside0.mk hr0
 have HC0 := Aside0.mk hc0
 clear hr0 hc0
 have HR1 := Aside0.mk hr1
 have HC1 := Aside0.mk hc1
 clear hr1 hc1
 have HB := Aside0.mk (Below.refl w.heap.size w)
 have H : (if (wrap64 ((l0.length : Int) + (l1.length : Int))) > 1048576 then (some true) else ((spec_DrawPutRecord.f k l0).bind fun bt377 => ((impl_PutRecord.f k bt377.1 bt377.2.1 bt377.2.2.1 bt377.2.2.2.1 bt377.2.2.2.2).bind fun bt385 => ((spec_PutRecord.f k bt377.1 bt377.2.1 bt377.2.2.1 bt377.2.2.2.1 bt377.2.2.2.2).bind fun bt393 => (if (bt385.2.2.2.2 != bt393.2.2.2.2) = true then (laws_FnRing.j0 k l1 bt377.2.2.2.2 bt385.2.2.2.2 true bt377.1 bt377.2.1 bt377.2.2.1 bt377.2.2.2.1 bt385.1 bt385.2.1 bt385.2.2.1 bt385.2.2.2.1) else ((laws_sameRings.f k bt385.1 bt385.2.1 bt385.2.2.1 bt385.2.2.2.1 bt393.1 bt393.2.1 bt393.2.2.1 bt393.2.2.2.1).bind fun t401 => (if t401 = true then ((impl_GoodRing.f k bt377.1 bt377.2.1 bt377.2.2.1 bt377.2.2.2.1).bind fun t402 => ((spec_GoodRing.f k bt377.1 bt377.2.1 bt377.2.2.1 bt377.2.2.2.1).bind fun t403 => (laws_FnRing.j0 k l1 bt377.2.2.2.2 bt385.2.2.2.2 (t402 != t403) bt377.1 bt377.2.1 bt377.2.2.1 bt377.2.2.2.1 bt385.1 bt385.2.1 bt385.2.2.1 bt385.2.2.2.1))) else (laws_FnRing.j0 k l1 bt377.2.2.2.2 bt385.2.2.2.2 true bt377.1 bt377.2.1 bt377.2.2.1 bt377.2.2.2.1 bt385.1 bt385.2.1 bt385.2.2.1 bt385.2.2.2.1)))))))) = some r := h
 clear h
 by_cases c3 : (wrap64 ((l0.length : Int) + (l1.length : Int))) > 1048576
 ·
  rw [if_pos c3] at H
  have c3b0 : decide (1048576 < (wrap64 ((l0.length : Int) + (l1.length : Int)))) = true := decide_eq_true c3
  clear c3
  obtain rfl := Option.some.inj H
  go_enter Tryd.func8, Tryd.ntmps8
  go_wp2
  go_ret
  exact ⟨by first | rfl | (simp [errW_none, errW_some] <;> rfl) | (simp [*, errW_none, errW_some] <;> rfl), bs HB⟩
 ·
  rw [if_neg c3] at H
  have c3b0 : decide (1048576 < (wrap64 ((l0.length : Int) + (l1.length : Int)))) = false := decide_eq_false c3
  clear c3
  replace H := Option.bind_eq_some_iff.mp H
  obtain ⟨⟨t377, t380, t381, t382, t383⟩, A40, H⟩ := H
  replace H : ((impl_PutRecord.f k t377 t380 t381 t382 t383).bind fun bt385 => ((spec_PutRecord.f k t377 t380 t381 t382 t383).bind fun bt393 => (if (bt385.2.2.2.2 != bt393.2.2.2.2) = true then (laws_FnRing.j0 k l1 t383 bt385.2.2.2.2 true t377 t380 t381 t382 bt385.1 bt385.2.1 bt385.2.2.1 bt385.2.2.2.1) else ((laws_sameRings.f k bt385.1 bt385.2.1 bt385.2.2.1 bt385.2.2.2.1 bt393.1 bt393.2.1 bt393.2.2.1 bt393.2.2.2.1).bind fun t401 => (if t401 = true then ((impl_GoodRing.f k t377 t380 t381 t382).bind fun t402 => ((spec_GoodRing.f k t377 t380 t381 t382).bind fun t403 => (laws_FnRing.j0 k l1 t383 bt385.2.2.2.2 (t402 != t403) t377 t380 t381 t382 bt385.1 bt385.2.1 bt385.2.2.1 bt385.2.2.2.1))) else (laws_FnRing.j0 k l1 t383 bt385.2.2.2.2 true t377 t380 t381 t382 bt385.1 bt385.2.1 bt385.2.2.1 bt385.2.2.2.1)))))) = some r := H
  have A4 := Aside0.mk A40
  clear A40
  replace H := Option.bind_eq_some_iff.mp H
  obtain ⟨⟨t385, t388, t389, t390, t391⟩, A50, H⟩ := H
  replace H : ((spec_PutRecord.f k t377 t380 t381 t382 t383).bind fun bt393 => (if (t391 != bt393.2.2.2.2) = true then (laws_FnRing.j0 k l1 t383 t391 true t377 t380 t381 t382 t385 t388 t389 t390) else ((laws_sameRings.f k t385 t388 t389 t390 bt393.1 bt393.2.1 bt393.2.2.1 bt393.2.2.2.1).bind fun t401 => (if t401 = true then ((impl_GoodRing.f k t377 t380 t381 t382).bind fun t402 => ((spec_GoodRing.f k t377 t380 t381 t382).bind fun t403 => (laws_FnRing.j0 k l1 t383 t391 (t402 != t403) t377 t380 t381 t382 t385 t388 t389 t390))) else (laws_FnRing.j0 k l1 t383 t391 true t377 t380 t381 t382 t385 t388 t389 t390))))) = some r := H
  have A5 := Aside0.mk A50
  clear A50
  replace H := Option.bind_eq_some_iff.mp H
  obtain ⟨⟨t393, t396, t397, t398, t399⟩, A60, H⟩ := H
  replace H : (if (t391 != t399) = true then (laws_FnRing.j0 k l1 t383 t391 true t377 t380 t381 t382 t385 t388 t389 t390) else ((laws_sameRings.f k t385 t388 t389 t390 t393 t396 t397 t398).bind fun t401 => (if t401 = true then ((impl_GoodRing.f k t377 t380 t381 t382).bind fun t402 => ((spec_GoodRing.f k t377 t380 t381 t382).bind fun t403 => (laws_FnRing.j0 k l1 t383 t391 (t402 != t403) t377 t380 t381 t382 t385 t388 t389 t390))) else (laws_FnRing.j0 k l1 t383 t391 true t377 t380 t381 t382 t385 t388 t389 t390)))) = some r := H
  have A6 := Aside0.mk A60
  clear A60
  have HC7 := Aside0.mk H
  clear H
  go_enter Tryd.func8, Tryd.ntmps8
  go_upto_region 6 with (first | ((with_reducible refine gate_callee (f := 33) rfl ?_); refine gL (some 35) rfl rfl Tryd.func33 (by kernel_rfl) rfl #[.slice A0 l0.length c0] rfl ?_; (with_reducible refine (spec_DrawPutRecord.calls k _ _ l0 t377 t380 t381 t382 t383 _ ?side1 ?side2 A4.out).mono ?_); (case side1 => repeat (first | exact HR0.out | (with_reducible refine Kd.C_alloc ?_ _) | (with_reducible refine Kd.C_drewN ?_ _) | (with_reducible refine Kd.C_drew ?_))); (case side2 => exact HC0.out); rintro e w8 ⟨v378, rfl, ho0, hb⟩; refine ⟨_, rfl, ?_⟩; have HO379 := Aside0.mk (Kd.R_lower ho0 (below_size (bs HB))); replace HB := Aside0.mk (below_step (bs HB) hb); (try clear hb); (try clear hb2); (try clear hk); (try clear hi); (try clear ho0)) | ((with_reducible refine gate_dst (N := 5) rfl ?_); (try (refine gate_guard (by rfl) ?_; dsimp only)); refine box_event ?hg (N := 5) ?hd (cs := #[.slice none 0 0, .int .i64 0, .int .i64 0, .int .i64 0]) (t := 36) ?hr ?_; (case hd => rfl); (case hg => rfl); (case hr => first | (go_simp; done) | (go_simp; rfl)); intro gb384 hg w9 hbox hb; replace HO379 := nr HO379 hb; have BK384 := Aside0.mk (hbox); have GW384 := Aside0.mk ((by rw [hg]; exact (below_size (bs HB)) : w.heap.size ≤ gb384)); have GE384 := Aside0.mk ((by rw [hg]; exact (below_size (bs HB)) : w.heap.size ≤ gb384)); replace HB := Aside0.mk (below_step (bs HB) hb); clear hb hbox hg; obtain ⟨Ao10, co10, eo10⟩ := Kd.R_slice HO379.out; subst eo10; obtain ⟨hcz11_0, hcz11_1, hcz11_2, hcz11_3⟩ := cz4 BK384; obtain ⟨hfz11_0, hfz11_1, hfz11_2, hfz11_3⟩ := fz4 BK384) | ((with_reducible refine gate_callee (f := 34) rfl ?_); refine gL (some 41) rfl rfl Tryd.func34 (by kernel_rfl) rfl #[.agg #[.slice Ao10 t377.length co10, .int .i64 t380, .int .i64 t381, .int .i64 t382], .string t383] rfl ?_; (with_reducible refine (impl_PutRecord.calls k _ _ t377 t380 t381 t382 t383 t385 t388 t389 t390 t391 _ ?sideT ?side1 ?side2 A5.out).mono ?_); (case sideT => refine ⟨Ito.tabB hTab_.out ?_⟩; first | exact bs HB | exact st_below | (repeat (first | (with_reducible first | exact HB.out | apply below_alloc | apply pw_below_drewN | apply below_drew1 | refine below_set ?_ (Aside0.out (by assumption))) | exact HB.out))); (case side1 => exact rc HO379 BK384); (case side2 => exact (Kd.R_reads' HO379.out).2.1); rintro e w12 ⟨v386, rfl, ho0, hb⟩; refine ⟨_, rfl, ?_⟩; have HO387 := Aside0.mk (Kd.R_lower (Kd.R_new' ho0 (Kd.R_lt (rf HO379 BK384))) (below_size (bs1 HB GE384))); replace HO379 := Aside0.mk (Kd.R_elder' (rf HO379 BK384) (Kd.R_base ho0) hb); replace BK384 := Aside0.mk (blk_below (g := gb384) (o := .cells #[.slice Ao10 t377.length co10, .int .i64 t380, .int .i64 t381, .int .i64 t382] 36 (0, 0)) (by (with_reducible repeat (first | refine blk_drewN ?_ _ | refine blk_drew ?_ | refine blk_alloc ?_ _)); refine blk_put (cs := #[.slice Ao10 t377.length co10, .int .i64 t380, .int .i64 t381, .int .i64 0]) ?_ 3 _ rfl; (with_reducible repeat (first | refine blk_drewN ?_ _ | refine blk_drew ?_ | refine blk_alloc ?_ _)); refine blk_put (cs := #[.slice Ao10 t377.length co10, .int .i64 t380, .int .i64 0, .int .i64 0]) ?_ 2 _ rfl; (with_reducible repeat (first | refine blk_drewN ?_ _ | refine blk_drew ?_ | refine blk_alloc ?_ _)); refine blk_put (cs := #[.slice Ao10 t377.length co10, .int .i64 0, .int .i64 0, .int .i64 0]) ?_ 1 _ rfl; (with_reducible repeat (first | refine blk_drewN ?_ _ | refine blk_drew ?_ | refine blk_alloc ?_ _)); refine blk_put (cs := #[.slice none 0 0, .int .i64 0, .int .i64 0, .int .i64 0]) ?_ 0 _ rfl; (with_reducible repeat (first | refine blk_drewN ?_ _ | refine blk_drew ?_ | refine blk_alloc ?_ _)); exact BK384.out) hb); replace HB := Aside0.mk (below_step (bs1 HB GE384) hb); (try clear hb); (try clear hb2); (try clear hk); (try clear hi); (try clear ho0)) | ((with_reducible refine gate_dst (N := 7) rfl ?_); (try (refine gate_guard (by rfl) ?_; dsimp only)); refine box_event ?hg (N := 7) ?hd (cs := #[.slice none 0 0, .int .i64 0, .int .i64 0, .int .i64 0]) (t := 36) ?hr ?_; (case hd => rfl); (case hg => rfl); (case hr => first | (go_simp; done) | (go_simp; rfl)); intro gb392 hg w13 hbox hb; replace HO379 := nr HO379 hb; replace HO387 := nr HO387 hb; have BK392 := Aside0.mk (hbox); have GW392 := Aside0.mk ((by rw [hg]; exact (below_size (bs1 HB GE384)) : w.heap.size ≤ gb392)); have GE392 := Aside0.mk ((by rw [hg]; exact (below_size (bs1 HB GE384)) : w.heap.size ≤ gb392)); replace HB := Aside0.mk (below_step (bs1 HB GE384) hb); have NB384_392 := Aside0.mk ((bn BK384 hg : gb384 ≠ gb392)); have NB392_384 := Aside0.mk ((bm BK384 hg : gb392 ≠ gb384)); replace BK384 := nb BK384 hb; clear hb hbox hg; obtain ⟨Ao14, co14, eo14⟩ := Kd.R_slice HO387.out; subst eo14; have hnb15 := NB392_384.out; have hnc15 := NB384_392.out; obtain ⟨hcz16_0, hcz16_1, hcz16_2, hcz16_3⟩ := cz4 BK392; obtain ⟨hfz16_0, hfz16_1, hfz16_2, hfz16_3⟩ := fz4 BK392; obtain ⟨hcz17_0, hcz17_1, hcz17_2, hcz17_3⟩ := cz4 BK384; obtain ⟨hfz17_0, hfz17_1, hfz17_2, hfz17_3⟩ := fz4 BK384) | ((with_reducible refine gate_callee (f := 35) rfl ?_); refine gL (some 47) rfl rfl Tryd.func35 (by kernel_rfl) rfl #[.agg #[.slice Ao10 t377.length co10, .int .i64 t380, .int .i64 t381, .int .i64 t382], .string t383] rfl ?_; (with_reducible refine (spec_PutRecord.calls k _ _ t377 t380 t381 t382 t383 t393 t396 t397 t398 t399 _ ?side1 ?side2 A6.out).mono ?_); (case side1 => exact rc HO379 BK392); (case side2 => exact (Kd.R_reads' HO379.out).2.1); rintro e w18 ⟨v394, rfl, ho0, hb⟩; refine ⟨_, rfl, ?_⟩; have HO395 := Aside0.mk (Kd.R_lower (Kd.R_new' (Kd.R_new' ho0 (Kd.R_lt (rf HO379 BK392))) (Kd.R_lt (rf HO387 BK392))) (below_size (bs2 HB GE384 GE392))); replace HO379 := Aside0.mk (Kd.R_elder' (rf HO379 BK392) (Kd.R_base ho0) hb); replace HO387 := Aside0.mk (Kd.R_elder' (rf HO387 BK392) (Kd.R_base ho0) hb); replace BK384 := Aside0.mk (blk_below (bf BK384 NB384_392) hb); replace BK392 := Aside0.mk (blk_below (g := gb392) (o := .cells #[.slice Ao14 t385.length co14, .int .i64 t388, .int .i64 t389, .int .i64 t390] 36 (0, 0)) (by (with_reducible repeat (first | refine blk_drewN ?_ _ | refine blk_drew ?_ | refine blk_alloc ?_ _)); refine blk_put (cs := #[.slice Ao14 t385.length co14, .int .i64 t388, .int .i64 t389, .int .i64 0]) ?_ 3 _ rfl; (with_reducible repeat (first | refine blk_drewN ?_ _ | refine blk_drew ?_ | refine blk_alloc ?_ _)); refine blk_put (cs := #[.slice Ao14 t385.length co14, .int .i64 t388, .int .i64 0, .int .i64 0]) ?_ 2 _ rfl; (with_reducible repeat (first | refine blk_drewN ?_ _ | refine blk_drew ?_ | refine blk_alloc ?_ _)); refine blk_put (cs := #[.slice Ao14 t385.length co14, .int .i64 0, .int .i64 0, .int .i64 0]) ?_ 1 _ rfl; (with_reducible repeat (first | refine blk_drewN ?_ _ | refine blk_drew ?_ | refine blk_alloc ?_ _)); refine blk_put (cs := #[.slice none 0 0, .int .i64 0, .int .i64 0, .int .i64 0]) ?_ 0 _ rfl; (with_reducible repeat (first | refine blk_drewN ?_ _ | refine blk_drew ?_ | refine blk_alloc ?_ _)); exact BK392.out) hb); replace HB := Aside0.mk (below_step (bs2 HB GE384 GE392) hb); (try clear hb); (try clear hb2); (try clear hk); (try clear hi); (try clear ho0)) | ((with_reducible refine gate_dst (N := 9) rfl ?_); (try (refine gate_guard (by rfl) ?_; dsimp only)); refine box_event ?hg (N := 9) ?hd (cs := #[.slice none 0 0, .int .i64 0, .int .i64 0, .int .i64 0]) (t := 36) ?hr ?_; (case hd => rfl); (case hg => rfl); (case hr => first | (go_simp; done) | (go_simp; rfl)); intro gb400 hg w19 hbox hb; replace HO379 := nr HO379 hb; replace HO387 := nr HO387 hb; replace HO395 := nr HO395 hb; have BK400 := Aside0.mk (hbox); have GW400 := Aside0.mk ((by rw [hg]; exact (below_size (bs2 HB GE384 GE392)) : w.heap.size ≤ gb400)); have GE400 := Aside0.mk ((by rw [hg]; exact (below_size (bs2 HB GE384 GE392)) : w.heap.size ≤ gb400)); replace HB := Aside0.mk (below_step (bs2 HB GE384 GE392) hb); have NB384_400 := Aside0.mk ((bn BK384 hg : gb384 ≠ gb400)); have NB400_384 := Aside0.mk ((bm BK384 hg : gb400 ≠ gb384)); replace BK384 := nb BK384 hb; have NB392_400 := Aside0.mk ((bn BK392 hg : gb392 ≠ gb400)); have NB400_392 := Aside0.mk ((bm BK392 hg : gb400 ≠ gb392)); replace BK392 := nb BK392 hb; clear hb hbox hg; obtain ⟨Ao20, co20, eo20⟩ := Kd.R_slice HO395.out; subst eo20; have hnb21 := NB400_384.out; have hnc21 := NB384_400.out; have hnb22 := NB400_392.out; have hnc22 := NB392_400.out; obtain ⟨hcz23_0, hcz23_1, hcz23_2, hcz23_3⟩ := cz4 BK400; obtain ⟨hfz23_0, hfz23_1, hfz23_2, hfz23_3⟩ := fz4 BK400))
  (try simp only [Act.put, List.setIfInBounds_toArray, List.set_cons_zero, List.set_cons_succ])
  go_cut [65] (fun v65 wc => ∃ (kq : Nat) (x65_6 : Bool), v65 = .bool x65_6 ∧ Aside0 (laws_FnRing.j0 kq l1 t383 t391 x65_6 t377 t380 t381 t382 t385 t388 t389 t390 = some r) ∧ Aside0 (kq ≤ k) ∧ Aside0 (Kd.R k26 26 wc w.heap.size (fun k_ => some k_ ≠ ((.slice Ao14 t385.length co14) : Value).ownBlock ∧ some k_ ≠ ((.slice Ao20 t393.length co20) : Value).ownBlock) (.slice Ao10 t377.length co10) t377) ∧ Aside0 (Kd.R k26 26 wc w.heap.size (fun k_ => some k_ ≠ ((.slice Ao10 t377.length co10) : Value).ownBlock ∧ some k_ ≠ ((.slice Ao20 t393.length co20) : Value).ownBlock) (.slice Ao14 t385.length co14) t385) ∧ Aside0 (Kd.R k26 26 wc w.heap.size (fun k_ => some k_ ≠ ((.slice Ao10 t377.length co10) : Value).ownBlock ∧ some k_ ≠ ((.slice Ao14 t385.length co14) : Value).ownBlock) (.slice Ao20 t393.length co20) t393) ∧ Aside0 (wc.heap[gb384]? = some (.cells #[(.slice Ao10 t377.length co10), .int .i64 t380, .int .i64 t381, .int .i64 t382] 36 (0, 0))) ∧ Aside0 (wc.heap[gb392]? = some (.cells #[(.slice Ao14 t385.length co14), .int .i64 t388, .int .i64 t389, .int .i64 t390] 36 (0, 0))) ∧ Aside0 (wc.heap[gb400]? = some (.cells #[(.slice Ao20 t393.length co20), .int .i64 t396, .int .i64 t397, .int .i64 t398] 36 (0, 0))) ∧ Aside0 (Below w.heap.size w wc))
  case first =>
   have H := HC7.out
   clear HC7
   by_cases c24 : (t391 != t399) = true
   ·
    rw [if_pos c24] at H
    have c24b0 : (t391 != t399) = true := c24
    (try (have c24b1 : decide (t391 = t399) = false := by simpa using c24))
    (try (have c24b2 : (t391 == t399) = false := by simpa using c24))
    (try (have c24b3 : ¬ (t391 = t399) := by simpa using c24))
    clear c24
    (first | rw [c24b0] | (simp only [i64_w, i32_w]; rw [c24b0]) | (simp only [c24b2, Bool.not_false, Bool.not_true]) | skip)
    have H' := Aside0.mk H
    clear H
    try go_wp2
    have n0_ : Aside0 (Kd.R k26 26 ((((w19.setCell ⟨gb400, 0, none⟩ (.slice Ao20 t393.length co20)).setCell ⟨gb400, 1, none⟩ (.int .i64 t396)).setCell ⟨gb400, 2, none⟩ (.int .i64 t397)).setCell ⟨gb400, 3, none⟩ (.int .i64 t398)) w.heap.size (fun k_ => some k_ ≠ (.slice Ao14 t385.length co14 : Value).ownBlock ∧ some k_ ≠ (.slice Ao20 t393.length co20 : Value).ownBlock) (.slice Ao10 t377.length co10) t377) := ⟨by (with_reducible repeat (first | apply Kd.R_alloc | apply Kd.R_drewN | apply Kd.R_drew)); exact Kd.R_mono (Kd.R_far (p := ⟨gb400, 3, none⟩) (Kd.R_far (p := ⟨gb400, 2, none⟩) (Kd.R_far (p := ⟨gb400, 1, none⟩) (Kd.R_far (p := ⟨gb400, 0, none⟩) (Kd.R_types HO379.out BK400.out (by decide)) (fun _ hk => hk.2) (.slice Ao20 t393.length co20)) (fun _ hk => hk.2) (.int .i64 t396)) (fun _ hk => hk.2) (.int .i64 t397)) (fun _ hk => hk.2) (.int .i64 t398)) (fun _ hk => ⟨hk.1.1.2, hk.1.2⟩)⟩
    have n1_ : Aside0 (Kd.R k26 26 ((((w19.setCell ⟨gb400, 0, none⟩ (.slice Ao20 t393.length co20)).setCell ⟨gb400, 1, none⟩ (.int .i64 t396)).setCell ⟨gb400, 2, none⟩ (.int .i64 t397)).setCell ⟨gb400, 3, none⟩ (.int .i64 t398)) w.heap.size (fun k_ => some k_ ≠ (.slice Ao10 t377.length co10 : Value).ownBlock ∧ some k_ ≠ (.slice Ao20 t393.length co20 : Value).ownBlock) (.slice Ao14 t385.length co14) t385) := ⟨by (with_reducible repeat (first | apply Kd.R_alloc | apply Kd.R_drewN | apply Kd.R_drew)); exact Kd.R_mono (Kd.R_far (p := ⟨gb400, 3, none⟩) (Kd.R_far (p := ⟨gb400, 2, none⟩) (Kd.R_far (p := ⟨gb400, 1, none⟩) (Kd.R_far (p := ⟨gb400, 0, none⟩) (Kd.R_types HO387.out BK400.out (by decide)) (fun _ hk => hk.2) (.slice Ao20 t393.length co20)) (fun _ hk => hk.2) (.int .i64 t396)) (fun _ hk => hk.2) (.int .i64 t397)) (fun _ hk => hk.2) (.int .i64 t398)) (fun _ hk => ⟨hk.1.1.2, hk.1.2⟩)⟩
    have n2_ : Aside0 (Kd.R k26 26 ((((w19.setCell ⟨gb400, 0, none⟩ (.slice Ao20 t393.length co20)).setCell ⟨gb400, 1, none⟩ (.int .i64 t396)).setCell ⟨gb400, 2, none⟩ (.int .i64 t397)).setCell ⟨gb400, 3, none⟩ (.int .i64 t398)) w.heap.size (fun k_ => some k_ ≠ (.slice Ao10 t377.length co10 : Value).ownBlock ∧ some k_ ≠ (.slice Ao14 t385.length co14 : Value).ownBlock) (.slice Ao20 t393.length co20) t393) := ⟨by (with_reducible repeat (first | apply Kd.R_alloc | apply Kd.R_drewN | apply Kd.R_drew)); exact Kd.R_mono (Kd.R_far (p := ⟨gb400, 3, none⟩) (Kd.R_far (p := ⟨gb400, 2, none⟩) (Kd.R_far (p := ⟨gb400, 1, none⟩) (Kd.R_far (p := ⟨gb400, 0, none⟩) (Kd.R_types HO395.out BK400.out (by decide)) (fun _ hk => hk.2) (.slice Ao20 t393.length co20)) (fun _ hk => hk.2) (.int .i64 t396)) (fun _ hk => hk.2) (.int .i64 t397)) (fun _ hk => hk.2) (.int .i64 t398)) (fun _ hk => ⟨hk.1.1.2, hk.1.2⟩)⟩
    have n3_ : Aside0 (((((w19.setCell ⟨gb400, 0, none⟩ (.slice Ao20 t393.length co20)).setCell ⟨gb400, 1, none⟩ (.int .i64 t396)).setCell ⟨gb400, 2, none⟩ (.int .i64 t397)).setCell ⟨gb400, 3, none⟩ (.int .i64 t398)).heap[gb384]? = some (.cells #[.slice Ao10 t377.length co10, .int .i64 t380, .int .i64 t381, .int .i64 t382] 36 (0, 0))) := ⟨bf BK384 NB384_400⟩
    have n4_ : Aside0 (((((w19.setCell ⟨gb400, 0, none⟩ (.slice Ao20 t393.length co20)).setCell ⟨gb400, 1, none⟩ (.int .i64 t396)).setCell ⟨gb400, 2, none⟩ (.int .i64 t397)).setCell ⟨gb400, 3, none⟩ (.int .i64 t398)).heap[gb392]? = some (.cells #[.slice Ao14 t385.length co14, .int .i64 t388, .int .i64 t389, .int .i64 t390] 36 (0, 0))) := ⟨bf BK392 NB392_400⟩
    have n5_ : Aside0 (((((w19.setCell ⟨gb400, 0, none⟩ (.slice Ao20 t393.length co20)).setCell ⟨gb400, 1, none⟩ (.int .i64 t396)).setCell ⟨gb400, 2, none⟩ (.int .i64 t397)).setCell ⟨gb400, 3, none⟩ (.int .i64 t398)).heap[gb400]? = some (.cells #[.slice Ao20 t393.length co20, .int .i64 t396, .int .i64 t397, .int .i64 t398] 36 (0, 0))) := ⟨by (with_reducible repeat (first | refine blk_drewN ?_ _ | refine blk_drew ?_ | refine blk_alloc ?_ _)); refine blk_put (cs := #[.slice Ao20 t393.length co20, .int .i64 t396, .int .i64 t397, .int .i64 0]) ?_ 3 _ rfl; (with_reducible repeat (first | refine blk_drewN ?_ _ | refine blk_drew ?_ | refine blk_alloc ?_ _)); refine blk_put (cs := #[.slice Ao20 t393.length co20, .int .i64 t396, .int .i64 0, .int .i64 0]) ?_ 2 _ rfl; (with_reducible repeat (first | refine blk_drewN ?_ _ | refine blk_drew ?_ | refine blk_alloc ?_ _)); refine blk_put (cs := #[.slice Ao20 t393.length co20, .int .i64 0, .int .i64 0, .int .i64 0]) ?_ 1 _ rfl; (with_reducible repeat (first | refine blk_drewN ?_ _ | refine blk_drew ?_ | refine blk_alloc ?_ _)); refine blk_put (cs := #[.slice none 0 0, .int .i64 0, .int .i64 0, .int .i64 0]) ?_ 0 _ rfl; (with_reducible repeat (first | refine blk_drewN ?_ _ | refine blk_drew ?_ | refine blk_alloc ?_ _)); exact BK400.out⟩
    have n6_ : Aside0 (Below w.heap.size w ((((w19.setCell ⟨gb400, 0, none⟩ (.slice Ao20 t393.length co20)).setCell ⟨gb400, 1, none⟩ (.int .i64 t396)).setCell ⟨gb400, 2, none⟩ (.int .i64 t397)).setCell ⟨gb400, 3, none⟩ (.int .i64 t398))) := ⟨bs3 HB GE384 GE392 GE400⟩
    (try clear HO379)
    (try clear HO387)
    (try clear HO395)
    (try clear BK384)
    (try clear BK392)
    (try clear BK400)
    (try clear HB)
    generalize ((((w19.setCell ⟨gb400, 0, none⟩ (.slice Ao20 t393.length co20)).setCell ⟨gb400, 1, none⟩ (.int .i64 t396)).setCell ⟨gb400, 2, none⟩ (.int .i64 t397)).setCell ⟨gb400, 3, none⟩ (.int .i64 t398)) = w25 at n0_ n1_ n2_ n3_ n4_ n5_ n6_ ⊢
    have HO379 := n0_
    have HO387 := n1_
    have HO395 := n2_
    have BK384 := n3_
    have BK392 := n4_
    have BK400 := n5_
    have HB := n6_
    clear n0_ n1_ n2_ n3_ n4_ n5_ n6_
    have n0_ := Aside0.mk (Kd.R_drew HO379.out)
    have n1_ := Aside0.mk (Kd.R_drew HO387.out)
    have n2_ := Aside0.mk (Kd.R_drew HO395.out)
    have n3_ := Aside0.mk (blk_drew BK384.out)
    have n4_ := Aside0.mk (blk_drew BK392.out)
    have n5_ := Aside0.mk (blk_drew BK400.out)
    have n6_ := Aside0.mk (below_drew1 HB.out)
    clear HO379
    clear HO387
    clear HO395
    clear BK384
    clear BK392
    clear BK400
    clear HB
    have HO379 := n0_
    have HO387 := n1_
    have HO395 := n2_
    have BK384 := n3_
    have BK392 := n4_
    have BK400 := n5_
    have HB := n6_
    clear n0_ n1_ n2_ n3_ n4_ n5_ n6_
    refine start_ (n := 16) (S := fun w' => True) (ds := []) #[false, false, false, false, false, false, false, false, false, false, false, false, false, false, false, false] (by kernel_rfl) rfl rfl trivial (fun hHeld => ?_); refine with_tabW laws_FnRing.tab6 laws_FnRing.bits6 (fun HT_ HW_ => ?_)
    generalize w25.drew = w26 at HO379 HO387 HO395 BK384 BK392 BK400 HB hHeld ⊢
    refine pureS 0 50 HT_.out ?_
    refine pureS 1 51 HT_.out ?_
    refine pureS 2 52 HT_.out ?_
    refine pureS 3 53 HT_.out ?_
    refine pureU 4 54 HT_.out ?_
    refine pureU 5 55 HT_.out ?_
    refine pureU 6 56 HT_.out ?_
    refine pureU 7 57 HT_.out ?_
    refine pureS 8 58 HT_.out ?_
    refine pureS 9 59 HT_.out ?_
    refine pureU 10 60 HT_.out ?_
    refine pureU 11 61 HT_.out ?_
    refine pureU 12 62 HT_.out ?_
    refine pureU 13 63 HT_.out ?_
    refine pureU 14 64 HT_.out ?_
    refine pureS 15 65 HT_.out ?_
    refine done_ (done_of HT_.out (by kernel_rfl)) ?_
    try go_wp2
    go_meet
    case rel => exact ⟨_, (true), (by first | rfl | (simp; done) | (simp [*]; done)), H', ⟨by first | omega | exact Nat.le_refl _⟩, ⟨rr HO379.out⟩, ⟨rr HO387.out⟩, ⟨rr HO395.out⟩, ⟨bk BK384⟩, ⟨bk BK392⟩, ⟨bk BK400⟩, ⟨bs3 HB GE384 GE392 GE400⟩⟩
   ·
    rw [if_neg c24] at H
    have c24b0 : (t391 != t399) = false := by simpa using c24
    (try (have c24b1 : decide (t391 = t399) = true := by simpa using c24))
    (try (have c24b2 : (t391 == t399) = true := by simpa using c24))
    clear c24
    (first | rw [c24b0] | (simp only [i64_w, i32_w]; rw [c24b0]) | (simp only [c24b2, Bool.not_false, Bool.not_true]) | skip)
    replace H := Option.bind_eq_some_iff.mp H
    obtain ⟨t401, A270, H⟩ := H
    replace H : (if t401 = true then ((impl_GoodRing.f k t377 t380 t381 t382).bind fun t402 => ((spec_GoodRing.f k t377 t380 t381 t382).bind fun t403 => (laws_FnRing.j0 k l1 t383 t391 (t402 != t403) t377 t380 t381 t382 t385 t388 t389 t390))) else (laws_FnRing.j0 k l1 t383 t391 true t377 t380 t381 t382 t385 t388 t389 t390)) = some r := H
    have A27 := Aside0.mk A270
    clear A270
    by_cases c28 : t401 = true
    ·
     subst c28
     rw [if_pos rfl] at H
     replace H := Option.bind_eq_some_iff.mp H
     obtain ⟨t402, A290, H⟩ := H
     replace H : ((spec_GoodRing.f k t377 t380 t381 t382).bind fun t403 => (laws_FnRing.j0 k l1 t383 t391 (t402 != t403) t377 t380 t381 t382 t385 t388 t389 t390)) = some r := H
     have A29 := Aside0.mk A290
     clear A290
     replace H := Option.bind_eq_some_iff.mp H
     obtain ⟨t403, A300, H⟩ := H
     replace H : (laws_FnRing.j0 k l1 t383 t391 (t402 != t403) t377 t380 t381 t382 t385 t388 t389 t390) = some r := H
     have A30 := Aside0.mk A300
     clear A300
     have H' := Aside0.mk H
     clear H
     try go_wp2
     have n0_ : Aside0 (Kd.R k26 26 ((((w19.setCell ⟨gb400, 0, none⟩ (.slice Ao20 t393.length co20)).setCell ⟨gb400, 1, none⟩ (.int .i64 t396)).setCell ⟨gb400, 2, none⟩ (.int .i64 t397)).setCell ⟨gb400, 3, none⟩ (.int .i64 t398)) w.heap.size (fun k_ => some k_ ≠ (.slice Ao14 t385.length co14 : Value).ownBlock ∧ some k_ ≠ (.slice Ao20 t393.length co20 : Value).ownBlock) (.slice Ao10 t377.length co10) t377) := ⟨by (with_reducible repeat (first | apply Kd.R_alloc | apply Kd.R_drewN | apply Kd.R_drew)); exact Kd.R_mono (Kd.R_far (p := ⟨gb400, 3, none⟩) (Kd.R_far (p := ⟨gb400, 2, none⟩) (Kd.R_far (p := ⟨gb400, 1, none⟩) (Kd.R_far (p := ⟨gb400, 0, none⟩) (Kd.R_types HO379.out BK400.out (by decide)) (fun _ hk => hk.2) (.slice Ao20 t393.length co20)) (fun _ hk => hk.2) (.int .i64 t396)) (fun _ hk => hk.2) (.int .i64 t397)) (fun _ hk => hk.2) (.int .i64 t398)) (fun _ hk => ⟨hk.1.1.2, hk.1.2⟩)⟩
     have n1_ : Aside0 (Kd.R k26 26 ((((w19.setCell ⟨gb400, 0, none⟩ (.slice Ao20 t393.length co20)).setCell ⟨gb400, 1, none⟩ (.int .i64 t396)).setCell ⟨gb400, 2, none⟩ (.int .i64 t397)).setCell ⟨gb400, 3, none⟩ (.int .i64 t398)) w.heap.size (fun k_ => some k_ ≠ (.slice Ao10 t377.length co10 : Value).ownBlock ∧ some k_ ≠ (.slice Ao20 t393.length co20 : Value).ownBlock) (.slice Ao14 t385.length co14) t385) := ⟨by (with_reducible repeat (first | apply Kd.R_alloc | apply Kd.R_drewN | apply Kd.R_drew)); exact Kd.R_mono (Kd.R_far (p := ⟨gb400, 3, none⟩) (Kd.R_far (p := ⟨gb400, 2, none⟩) (Kd.R_far (p := ⟨gb400, 1, none⟩) (Kd.R_far (p := ⟨gb400, 0, none⟩) (Kd.R_types HO387.out BK400.out (by decide)) (fun _ hk => hk.2) (.slice Ao20 t393.length co20)) (fun _ hk => hk.2) (.int .i64 t396)) (fun _ hk => hk.2) (.int .i64 t397)) (fun _ hk => hk.2) (.int .i64 t398)) (fun _ hk => ⟨hk.1.1.2, hk.1.2⟩)⟩
     have n2_ : Aside0 (Kd.R k26 26 ((((w19.setCell ⟨gb400, 0, none⟩ (.slice Ao20 t393.length co20)).setCell ⟨gb400, 1, none⟩ (.int .i64 t396)).setCell ⟨gb400, 2, none⟩ (.int .i64 t397)).setCell ⟨gb400, 3, none⟩ (.int .i64 t398)) w.heap.size (fun k_ => some k_ ≠ (.slice Ao10 t377.length co10 : Value).ownBlock ∧ some k_ ≠ (.slice Ao14 t385.length co14 : Value).ownBlock) (.slice Ao20 t393.length co20) t393) := ⟨by (with_reducible repeat (first | apply Kd.R_alloc | apply Kd.R_drewN | apply Kd.R_drew)); exact Kd.R_mono (Kd.R_far (p := ⟨gb400, 3, none⟩) (Kd.R_far (p := ⟨gb400, 2, none⟩) (Kd.R_far (p := ⟨gb400, 1, none⟩) (Kd.R_far (p := ⟨gb400, 0, none⟩) (Kd.R_types HO395.out BK400.out (by decide)) (fun _ hk => hk.2) (.slice Ao20 t393.length co20)) (fun _ hk => hk.2) (.int .i64 t396)) (fun _ hk => hk.2) (.int .i64 t397)) (fun _ hk => hk.2) (.int .i64 t398)) (fun _ hk => ⟨hk.1.1.2, hk.1.2⟩)⟩
     have n3_ : Aside0 (((((w19.setCell ⟨gb400, 0, none⟩ (.slice Ao20 t393.length co20)).setCell ⟨gb400, 1, none⟩ (.int .i64 t396)).setCell ⟨gb400, 2, none⟩ (.int .i64 t397)).setCell ⟨gb400, 3, none⟩ (.int .i64 t398)).heap[gb384]? = some (.cells #[.slice Ao10 t377.length co10, .int .i64 t380, .int .i64 t381, .int .i64 t382] 36 (0, 0))) := ⟨bf BK384 NB384_400⟩
     have n4_ : Aside0 (((((w19.setCell ⟨gb400, 0, none⟩ (.slice Ao20 t393.length co20)).setCell ⟨gb400, 1, none⟩ (.int .i64 t396)).setCell ⟨gb400, 2, none⟩ (.int .i64 t397)).setCell ⟨gb400, 3, none⟩ (.int .i64 t398)).heap[gb392]? = some (.cells #[.slice Ao14 t385.length co14, .int .i64 t388, .int .i64 t389, .int .i64 t390] 36 (0, 0))) := ⟨bf BK392 NB392_400⟩
     have n5_ : Aside0 (((((w19.setCell ⟨gb400, 0, none⟩ (.slice Ao20 t393.length co20)).setCell ⟨gb400, 1, none⟩ (.int .i64 t396)).setCell ⟨gb400, 2, none⟩ (.int .i64 t397)).setCell ⟨gb400, 3, none⟩ (.int .i64 t398)).heap[gb400]? = some (.cells #[.slice Ao20 t393.length co20, .int .i64 t396, .int .i64 t397, .int .i64 t398] 36 (0, 0))) := ⟨by (with_reducible repeat (first | refine blk_drewN ?_ _ | refine blk_drew ?_ | refine blk_alloc ?_ _)); refine blk_put (cs := #[.slice Ao20 t393.length co20, .int .i64 t396, .int .i64 t397, .int .i64 0]) ?_ 3 _ rfl; (with_reducible repeat (first | refine blk_drewN ?_ _ | refine blk_drew ?_ | refine blk_alloc ?_ _)); refine blk_put (cs := #[.slice Ao20 t393.length co20, .int .i64 t396, .int .i64 0, .int .i64 0]) ?_ 2 _ rfl; (with_reducible repeat (first | refine blk_drewN ?_ _ | refine blk_drew ?_ | refine blk_alloc ?_ _)); refine blk_put (cs := #[.slice Ao20 t393.length co20, .int .i64 0, .int .i64 0, .int .i64 0]) ?_ 1 _ rfl; (with_reducible repeat (first | refine blk_drewN ?_ _ | refine blk_drew ?_ | refine blk_alloc ?_ _)); refine blk_put (cs := #[.slice none 0 0, .int .i64 0, .int .i64 0, .int .i64 0]) ?_ 0 _ rfl; (with_reducible repeat (first | refine blk_drewN ?_ _ | refine blk_drew ?_ | refine blk_alloc ?_ _)); exact BK400.out⟩
     have n6_ : Aside0 (Below w.heap.size w ((((w19.setCell ⟨gb400, 0, none⟩ (.slice Ao20 t393.length co20)).setCell ⟨gb400, 1, none⟩ (.int .i64 t396)).setCell ⟨gb400, 2, none⟩ (.int .i64 t397)).setCell ⟨gb400, 3, none⟩ (.int .i64 t398))) := ⟨bs3 HB GE384 GE392 GE400⟩
     (try clear HO379)
     (try clear HO387)
     (try clear HO395)
     (try clear BK384)
     (try clear BK392)
     (try clear BK400)
     (try clear HB)
     generalize ((((w19.setCell ⟨gb400, 0, none⟩ (.slice Ao20 t393.length co20)).setCell ⟨gb400, 1, none⟩ (.int .i64 t396)).setCell ⟨gb400, 2, none⟩ (.int .i64 t397)).setCell ⟨gb400, 3, none⟩ (.int .i64 t398)) = w31 at n0_ n1_ n2_ n3_ n4_ n5_ n6_ ⊢
     have HO379 := n0_
     have HO387 := n1_
     have HO395 := n2_
     have BK384 := n3_
     have BK392 := n4_
     have BK400 := n5_
     have HB := n6_
     clear n0_ n1_ n2_ n3_ n4_ n5_ n6_
     have n0_ := Aside0.mk (Kd.R_drew HO379.out)
     have n1_ := Aside0.mk (Kd.R_drew HO387.out)
     have n2_ := Aside0.mk (Kd.R_drew HO395.out)
     have n3_ := Aside0.mk (blk_drew BK384.out)
     have n4_ := Aside0.mk (blk_drew BK392.out)
     have n5_ := Aside0.mk (blk_drew BK400.out)
     have n6_ := Aside0.mk (below_drew1 HB.out)
     clear HO379
     clear HO387
     clear HO395
     clear BK384
     clear BK392
     clear BK400
     clear HB
     have HO379 := n0_
     have HO387 := n1_
     have HO395 := n2_
     have BK384 := n3_
     have BK392 := n4_
     have BK400 := n5_
     have HB := n6_
     clear n0_ n1_ n2_ n3_ n4_ n5_ n6_
     refine start_ (n := 16) (S := fun w' => w'.cell? ⟨gb392, 0, none⟩ = some (.slice Ao14 t385.length co14) ∧ w'.cell? ⟨gb392, 1, none⟩ = some (.int .i64 t388) ∧ w'.cell? ⟨gb392, 2, none⟩ = some (.int .i64 t389) ∧ w'.cell? ⟨gb392, 3, none⟩ = some (.int .i64 t390) ∧ w'.cell? ⟨gb400, 0, none⟩ = some (.slice Ao20 t393.length co20) ∧ w'.cell? ⟨gb400, 1, none⟩ = some (.int .i64 t396) ∧ w'.cell? ⟨gb400, 2, none⟩ = some (.int .i64 t397) ∧ w'.cell? ⟨gb400, 3, none⟩ = some (.int .i64 t398) ∧ w'.cell? ⟨gb384, 0, none⟩ = some (.slice Ao10 t377.length co10) ∧ w'.cell? ⟨gb384, 1, none⟩ = some (.int .i64 t380) ∧ w'.cell? ⟨gb384, 2, none⟩ = some (.int .i64 t381) ∧ w'.cell? ⟨gb384, 3, none⟩ = some (.int .i64 t382)) (ds := []) #[false, false, false, false, false, false, false, false, false, false, false, false, false, false, false, false] (by kernel_rfl) rfl rfl ⟨(blk_cell BK392.out 0).trans rfl, (blk_cell BK392.out 1).trans rfl, (blk_cell BK392.out 2).trans rfl, (blk_cell BK392.out 3).trans rfl, (blk_cell BK400.out 0).trans rfl, (blk_cell BK400.out 1).trans rfl, (blk_cell BK400.out 2).trans rfl, (blk_cell BK400.out 3).trans rfl, (blk_cell BK384.out 0).trans rfl, (blk_cell BK384.out 1).trans rfl, (blk_cell BK384.out 2).trans rfl, (blk_cell BK384.out 3).trans rfl⟩ (fun hHeld => ?_); refine with_tabW laws_FnRing.tab6 laws_FnRing.bits6 (fun HT_ HW_ => ?_)
     generalize w31.drew = w32 at HO379 HO387 HO395 BK384 BK392 BK400 HB hHeld ⊢
     refine pureS 0 50 HT_.out ?_
     refine pureS 1 51 HT_.out ?_
     refine pureS 2 52 HT_.out ?_
     refine pureS 3 53 HT_.out ?_
     refine takeS 4 54 HT_.out HW_.out hHeld (hr := by rintro w' ⟨s0, s1, s2, s3, s4, s5, s6, s7, s8, s9, s10, s11⟩; go_simp; with_reducible rfl) (h := ?_)
     refine takeS 5 55 HT_.out HW_.out hHeld (hr := by rintro w' ⟨s0, s1, s2, s3, s4, s5, s6, s7, s8, s9, s10, s11⟩; go_simp; with_reducible rfl) (h := ?_)
     refine one_ (i := 6) (N := some 56) #[true, true, true, true, true, true, true, false, false, false, false, false, false, false, false, false] rfl rfl (one_of HT_.out (by kernel_rfl)) (by decide) (fun K hK => ?_)
     refine goes_ Tryd.func36 (by kernel_rfl) rfl #[.agg #[.slice Ao14 t385.length co14, .int .i64 t388, .int .i64 t389, .int .i64 t390], .agg #[.slice Ao20 t393.length co20, .int .i64 t396, .int .i64 t397, .int .i64 t398]] (by rfl) rfl rfl (by (try simp only [List.map_toArray, List.map_cons, List.map_nil]); first | done | rfl | (simp only [List.length_drop, List.length_take]; rfl)) ?_
     with_reducible refine (laws_sameRings.calls k _ _ t385 t388 t389 t390 _ _ t393 t396 t397 t398 true _ ?side1 ?side2 ?side3 ?side4 A27.out).mono ?_
     (case side1 => exact rc0 HO387)
     (case side2 => exact (Kd.R_reads' HO387.out).2.1)
     (case side3 => exact rc0 HO395)
     (case side4 => exact (Kd.R_reads' HO395.out).2.1)
     rintro e w33 ⟨rfl, hb⟩
     refine ⟨_, rfl, ?_⟩
     have n0_ := Aside0.mk (Kd.R_below (rr HO379.out) hb)
     have n1_ := Aside0.mk (Kd.R_below (rr HO387.out) hb)
     have n2_ := Aside0.mk (Kd.R_below (rr HO395.out) hb)
     have n3_ := Aside0.mk (bb BK384 hb)
     have n4_ := Aside0.mk (bb BK392 hb)
     have n5_ := Aside0.mk (bb BK400 hb)
     have n6_ := Aside0.mk (below_step (bs3 HB GE384 GE392 GE400) hb)
     clear HO379
     clear HO387
     clear HO395
     clear BK384
     clear BK392
     clear BK400
     clear HB
     have HO379 := n0_
     have HO387 := n1_
     have HO395 := n2_
     have BK384 := n3_
     have BK392 := n4_
     have BK400 := n5_
     have HB := n6_
     clear n0_ n1_ n2_ n3_ n4_ n5_ n6_
     (try clear hb)
     (try clear hb2)
     (try clear hk)
     (try clear hi)
     refine hK.out _ _ ⟨(blk_cell BK392.out 0).trans rfl, (blk_cell BK392.out 1).trans rfl, (blk_cell BK392.out 2).trans rfl, (blk_cell BK392.out 3).trans rfl, (blk_cell BK400.out 0).trans rfl, (blk_cell BK400.out 1).trans rfl, (blk_cell BK400.out 2).trans rfl, (blk_cell BK400.out 3).trans rfl, (blk_cell BK384.out 0).trans rfl, (blk_cell BK384.out 1).trans rfl, (blk_cell BK384.out 2).trans rfl, (blk_cell BK384.out 3).trans rfl⟩ (fun hHeld => ?_)
     clear hK K
     refine norm_ (a' := ?_) ?_ ?_
     rotate_left
     ·
      show Act.put _ (some 56) _ = _
      simp only [Act.put, List.setIfInBounds_toArray, List.set_cons_zero, List.set_cons_succ, i64_w, i32_w]
      rfl
     refine pureS 7 57 HT_.out ?_
     refine pureS 8 58 HT_.out ?_
     refine pureS 9 59 HT_.out ?_
     refine takeS 10 60 HT_.out HW_.out hHeld (hr := by rintro w' ⟨s0, s1, s2, s3, s4, s5, s6, s7, s8, s9, s10, s11⟩; go_simp; with_reducible rfl) (h := ?_)
     refine takeS 12 62 HT_.out HW_.out hHeld (hr := by rintro w' ⟨s0, s1, s2, s3, s4, s5, s6, s7, s8, s9, s10, s11⟩; go_simp; with_reducible rfl) (h := ?_)
     refine one_ (i := 11) (N := some 61) #[true, true, true, true, true, true, true, true, true, true, true, true, true, false, false, false] rfl rfl (one_of HT_.out (by kernel_rfl)) (by decide) (fun K hK => ?_)
     refine goes_ Tryd.func20 (by kernel_rfl) rfl #[.agg #[.slice Ao10 t377.length co10, .int .i64 t380, .int .i64 t381, .int .i64 t382]] (by rfl) rfl rfl (by (try simp only [List.map_toArray, List.map_cons, List.map_nil]); first | done | rfl | (simp only [List.length_drop, List.length_take]; rfl)) ?_
     with_reducible refine (impl_GoodRing.calls k _ _ t377 t380 t381 t382 t402 _ ?sideT ?side1 ?side2 A29.out).mono ?_
     case sideT => refine ⟨Ito.tabB hTab_.out ?_⟩; first | exact bs HB | exact st_below | (repeat (first | (with_reducible first | exact HB.out | apply below_alloc | apply pw_below_drewN | apply below_drew1 | refine below_set ?_ (Aside0.out (by assumption))) | exact HB.out))
     (case side1 => exact rc0 HO379)
     (case side2 => exact (Kd.R_reads' HO379.out).2.1)
     rintro e w34 ⟨rfl, hb⟩
     refine ⟨_, rfl, ?_⟩
     have n0_ := Aside0.mk (Kd.R_below (rr HO379.out) hb)
     have n1_ := Aside0.mk (Kd.R_below (rr HO387.out) hb)
     have n2_ := Aside0.mk (Kd.R_below (rr HO395.out) hb)
     have n3_ := Aside0.mk (bb BK384 hb)
     have n4_ := Aside0.mk (bb BK392 hb)
     have n5_ := Aside0.mk (bb BK400 hb)
     have n6_ := Aside0.mk (below_step (bs3 HB GE384 GE392 GE400) hb)
     clear HO379
     clear HO387
     clear HO395
     clear BK384
     clear BK392
     clear BK400
     clear HB
     have HO379 := n0_
     have HO387 := n1_
     have HO395 := n2_
     have BK384 := n3_
     have BK392 := n4_
     have BK400 := n5_
     have HB := n6_
     clear n0_ n1_ n2_ n3_ n4_ n5_ n6_
     (try clear hb)
     (try clear hb2)
     (try clear hk)
     (try clear hi)
     refine hK.out _ _ ⟨(blk_cell BK392.out 0).trans rfl, (blk_cell BK392.out 1).trans rfl, (blk_cell BK392.out 2).trans rfl, (blk_cell BK392.out 3).trans rfl, (blk_cell BK400.out 0).trans rfl, (blk_cell BK400.out 1).trans rfl, (blk_cell BK400.out 2).trans rfl, (blk_cell BK400.out 3).trans rfl, (blk_cell BK384.out 0).trans rfl, (blk_cell BK384.out 1).trans rfl, (blk_cell BK384.out 2).trans rfl, (blk_cell BK384.out 3).trans rfl⟩ (fun hHeld => ?_)
     clear hK K
     refine norm_ (a' := ?_) ?_ ?_
     rotate_left
     ·
      show Act.put _ (some 61) _ = _
      simp only [Act.put, List.setIfInBounds_toArray, List.set_cons_zero, List.set_cons_succ, i64_w, i32_w]
      rfl
     refine one_ (i := 13) (N := some 63) #[true, true, true, true, true, true, true, true, true, true, true, true, true, true, false, false] rfl rfl (one_of HT_.out (by kernel_rfl)) (by decide) (fun K hK => ?_)
     refine goes_ Tryd.func18 (by kernel_rfl) rfl #[.agg #[.slice Ao10 t377.length co10, .int .i64 t380, .int .i64 t381, .int .i64 t382]] (by rfl) rfl rfl (by (try simp only [List.map_toArray, List.map_cons, List.map_nil]); first | done | rfl | (simp only [List.length_drop, List.length_take]; rfl)) ?_
     with_reducible refine (spec_GoodRing.calls k _ _ t377 t380 t381 t382 t403 _ ?side1 ?side2 A30.out).mono ?_
     (case side1 => exact rc0 HO379)
     (case side2 => exact (Kd.R_reads' HO379.out).2.1)
     rintro e w35 ⟨rfl, hb⟩
     refine ⟨_, rfl, ?_⟩
     have n0_ := Aside0.mk (Kd.R_below (rr HO379.out) hb)
     have n1_ := Aside0.mk (Kd.R_below (rr HO387.out) hb)
     have n2_ := Aside0.mk (Kd.R_below (rr HO395.out) hb)
     have n3_ := Aside0.mk (bb BK384 hb)
     have n4_ := Aside0.mk (bb BK392 hb)
     have n5_ := Aside0.mk (bb BK400 hb)
     have n6_ := Aside0.mk (below_step (bs3 HB GE384 GE392 GE400) hb)
     clear HO379
     clear HO387
     clear HO395
     clear BK384
     clear BK392
     clear BK400
     clear HB
     have HO379 := n0_
     have HO387 := n1_
     have HO395 := n2_
     have BK384 := n3_
     have BK392 := n4_
     have BK400 := n5_
     have HB := n6_
     clear n0_ n1_ n2_ n3_ n4_ n5_ n6_
     (try clear hb)
     (try clear hb2)
     (try clear hk)
     (try clear hi)
     refine hK.out _ _ ⟨(blk_cell BK392.out 0).trans rfl, (blk_cell BK392.out 1).trans rfl, (blk_cell BK392.out 2).trans rfl, (blk_cell BK392.out 3).trans rfl, (blk_cell BK400.out 0).trans rfl, (blk_cell BK400.out 1).trans rfl, (blk_cell BK400.out 2).trans rfl, (blk_cell BK400.out 3).trans rfl, (blk_cell BK384.out 0).trans rfl, (blk_cell BK384.out 1).trans rfl, (blk_cell BK384.out 2).trans rfl, (blk_cell BK384.out 3).trans rfl⟩ (fun hHeld => ?_)
     clear hK K
     refine norm_ (a' := ?_) ?_ ?_
     rotate_left
     ·
      show Act.put _ (some 63) _ = _
      simp only [Act.put, List.setIfInBounds_toArray, List.set_cons_zero, List.set_cons_succ, i64_w, i32_w]
      rfl
     refine pureS 14 64 HT_.out ?_
     refine pureS 15 65 HT_.out ?_
     refine done_ (done_of HT_.out (by kernel_rfl)) ?_
     try go_wp2
     go_meet
     case rel => exact ⟨_, ((t402 != t403)), (by first | rfl | (simp; done) | (simp [*]; done)), H', ⟨by first | omega | exact Nat.le_refl _⟩, ⟨rr HO379.out⟩, ⟨rr HO387.out⟩, ⟨rr HO395.out⟩, ⟨bk BK384⟩, ⟨bk BK392⟩, ⟨bk BK400⟩, ⟨bs3 HB GE384 GE392 GE400⟩⟩
    ·
     replace c28 := Bool.eq_false_iff.mpr c28
     subst c28
     rw [if_neg (show ¬ (false = true) by decide)] at H
     have H' := Aside0.mk H
     clear H
     try go_wp2
     have n0_ : Aside0 (Kd.R k26 26 ((((w19.setCell ⟨gb400, 0, none⟩ (.slice Ao20 t393.length co20)).setCell ⟨gb400, 1, none⟩ (.int .i64 t396)).setCell ⟨gb400, 2, none⟩ (.int .i64 t397)).setCell ⟨gb400, 3, none⟩ (.int .i64 t398)) w.heap.size (fun k_ => some k_ ≠ (.slice Ao14 t385.length co14 : Value).ownBlock ∧ some k_ ≠ (.slice Ao20 t393.length co20 : Value).ownBlock) (.slice Ao10 t377.length co10) t377) := ⟨by (with_reducible repeat (first | apply Kd.R_alloc | apply Kd.R_drewN | apply Kd.R_drew)); exact Kd.R_mono (Kd.R_far (p := ⟨gb400, 3, none⟩) (Kd.R_far (p := ⟨gb400, 2, none⟩) (Kd.R_far (p := ⟨gb400, 1, none⟩) (Kd.R_far (p := ⟨gb400, 0, none⟩) (Kd.R_types HO379.out BK400.out (by decide)) (fun _ hk => hk.2) (.slice Ao20 t393.length co20)) (fun _ hk => hk.2) (.int .i64 t396)) (fun _ hk => hk.2) (.int .i64 t397)) (fun _ hk => hk.2) (.int .i64 t398)) (fun _ hk => ⟨hk.1.1.2, hk.1.2⟩)⟩
     have n1_ : Aside0 (Kd.R k26 26 ((((w19.setCell ⟨gb400, 0, none⟩ (.slice Ao20 t393.length co20)).setCell ⟨gb400, 1, none⟩ (.int .i64 t396)).setCell ⟨gb400, 2, none⟩ (.int .i64 t397)).setCell ⟨gb400, 3, none⟩ (.int .i64 t398)) w.heap.size (fun k_ => some k_ ≠ (.slice Ao10 t377.length co10 : Value).ownBlock ∧ some k_ ≠ (.slice Ao20 t393.length co20 : Value).ownBlock) (.slice Ao14 t385.length co14) t385) := ⟨by (with_reducible repeat (first | apply Kd.R_alloc | apply Kd.R_drewN | apply Kd.R_drew)); exact Kd.R_mono (Kd.R_far (p := ⟨gb400, 3, none⟩) (Kd.R_far (p := ⟨gb400, 2, none⟩) (Kd.R_far (p := ⟨gb400, 1, none⟩) (Kd.R_far (p := ⟨gb400, 0, none⟩) (Kd.R_types HO387.out BK400.out (by decide)) (fun _ hk => hk.2) (.slice Ao20 t393.length co20)) (fun _ hk => hk.2) (.int .i64 t396)) (fun _ hk => hk.2) (.int .i64 t397)) (fun _ hk => hk.2) (.int .i64 t398)) (fun _ hk => ⟨hk.1.1.2, hk.1.2⟩)⟩
     have n2_ : Aside0 (Kd.R k26 26 ((((w19.setCell ⟨gb400, 0, none⟩ (.slice Ao20 t393.length co20)).setCell ⟨gb400, 1, none⟩ (.int .i64 t396)).setCell ⟨gb400, 2, none⟩ (.int .i64 t397)).setCell ⟨gb400, 3, none⟩ (.int .i64 t398)) w.heap.size (fun k_ => some k_ ≠ (.slice Ao10 t377.length co10 : Value).ownBlock ∧ some k_ ≠ (.slice Ao14 t385.length co14 : Value).ownBlock) (.slice Ao20 t393.length co20) t393) := ⟨by (with_reducible repeat (first | apply Kd.R_alloc | apply Kd.R_drewN | apply Kd.R_drew)); exact Kd.R_mono (Kd.R_far (p := ⟨gb400, 3, none⟩) (Kd.R_far (p := ⟨gb400, 2, none⟩) (Kd.R_far (p := ⟨gb400, 1, none⟩) (Kd.R_far (p := ⟨gb400, 0, none⟩) (Kd.R_types HO395.out BK400.out (by decide)) (fun _ hk => hk.2) (.slice Ao20 t393.length co20)) (fun _ hk => hk.2) (.int .i64 t396)) (fun _ hk => hk.2) (.int .i64 t397)) (fun _ hk => hk.2) (.int .i64 t398)) (fun _ hk => ⟨hk.1.1.2, hk.1.2⟩)⟩
     have n3_ : Aside0 (((((w19.setCell ⟨gb400, 0, none⟩ (.slice Ao20 t393.length co20)).setCell ⟨gb400, 1, none⟩ (.int .i64 t396)).setCell ⟨gb400, 2, none⟩ (.int .i64 t397)).setCell ⟨gb400, 3, none⟩ (.int .i64 t398)).heap[gb384]? = some (.cells #[.slice Ao10 t377.length co10, .int .i64 t380, .int .i64 t381, .int .i64 t382] 36 (0, 0))) := ⟨bf BK384 NB384_400⟩
     have n4_ : Aside0 (((((w19.setCell ⟨gb400, 0, none⟩ (.slice Ao20 t393.length co20)).setCell ⟨gb400, 1, none⟩ (.int .i64 t396)).setCell ⟨gb400, 2, none⟩ (.int .i64 t397)).setCell ⟨gb400, 3, none⟩ (.int .i64 t398)).heap[gb392]? = some (.cells #[.slice Ao14 t385.length co14, .int .i64 t388, .int .i64 t389, .int .i64 t390] 36 (0, 0))) := ⟨bf BK392 NB392_400⟩
     have n5_ : Aside0 (((((w19.setCell ⟨gb400, 0, none⟩ (.slice Ao20 t393.length co20)).setCell ⟨gb400, 1, none⟩ (.int .i64 t396)).setCell ⟨gb400, 2, none⟩ (.int .i64 t397)).setCell ⟨gb400, 3, none⟩ (.int .i64 t398)).heap[gb400]? = some (.cells #[.slice Ao20 t393.length co20, .int .i64 t396, .int .i64 t397, .int .i64 t398] 36 (0, 0))) := ⟨by (with_reducible repeat (first | refine blk_drewN ?_ _ | refine blk_drew ?_ | refine blk_alloc ?_ _)); refine blk_put (cs := #[.slice Ao20 t393.length co20, .int .i64 t396, .int .i64 t397, .int .i64 0]) ?_ 3 _ rfl; (with_reducible repeat (first | refine blk_drewN ?_ _ | refine blk_drew ?_ | refine blk_alloc ?_ _)); refine blk_put (cs := #[.slice Ao20 t393.length co20, .int .i64 t396, .int .i64 0, .int .i64 0]) ?_ 2 _ rfl; (with_reducible repeat (first | refine blk_drewN ?_ _ | refine blk_drew ?_ | refine blk_alloc ?_ _)); refine blk_put (cs := #[.slice Ao20 t393.length co20, .int .i64 0, .int .i64 0, .int .i64 0]) ?_ 1 _ rfl; (with_reducible repeat (first | refine blk_drewN ?_ _ | refine blk_drew ?_ | refine blk_alloc ?_ _)); refine blk_put (cs := #[.slice none 0 0, .int .i64 0, .int .i64 0, .int .i64 0]) ?_ 0 _ rfl; (with_reducible repeat (first | refine blk_drewN ?_ _ | refine blk_drew ?_ | refine blk_alloc ?_ _)); exact BK400.out⟩
     have n6_ : Aside0 (Below w.heap.size w ((((w19.setCell ⟨gb400, 0, none⟩ (.slice Ao20 t393.length co20)).setCell ⟨gb400, 1, none⟩ (.int .i64 t396)).setCell ⟨gb400, 2, none⟩ (.int .i64 t397)).setCell ⟨gb400, 3, none⟩ (.int .i64 t398))) := ⟨bs3 HB GE384 GE392 GE400⟩
     (try clear HO379)
     (try clear HO387)
     (try clear HO395)
     (try clear BK384)
     (try clear BK392)
     (try clear BK400)
     (try clear HB)
     generalize ((((w19.setCell ⟨gb400, 0, none⟩ (.slice Ao20 t393.length co20)).setCell ⟨gb400, 1, none⟩ (.int .i64 t396)).setCell ⟨gb400, 2, none⟩ (.int .i64 t397)).setCell ⟨gb400, 3, none⟩ (.int .i64 t398)) = w36 at n0_ n1_ n2_ n3_ n4_ n5_ n6_ ⊢
     have HO379 := n0_
     have HO387 := n1_
     have HO395 := n2_
     have BK384 := n3_
     have BK392 := n4_
     have BK400 := n5_
     have HB := n6_
     clear n0_ n1_ n2_ n3_ n4_ n5_ n6_
     have n0_ := Aside0.mk (Kd.R_drew HO379.out)
     have n1_ := Aside0.mk (Kd.R_drew HO387.out)
     have n2_ := Aside0.mk (Kd.R_drew HO395.out)
     have n3_ := Aside0.mk (blk_drew BK384.out)
     have n4_ := Aside0.mk (blk_drew BK392.out)
     have n5_ := Aside0.mk (blk_drew BK400.out)
     have n6_ := Aside0.mk (below_drew1 HB.out)
     clear HO379
     clear HO387
     clear HO395
     clear BK384
     clear BK392
     clear BK400
     clear HB
     have HO379 := n0_
     have HO387 := n1_
     have HO395 := n2_
     have BK384 := n3_
     have BK392 := n4_
     have BK400 := n5_
     have HB := n6_
     clear n0_ n1_ n2_ n3_ n4_ n5_ n6_
     refine start_ (n := 16) (S := fun w' => w'.cell? ⟨gb392, 0, none⟩ = some (.slice Ao14 t385.length co14) ∧ w'.cell? ⟨gb392, 1, none⟩ = some (.int .i64 t388) ∧ w'.cell? ⟨gb392, 2, none⟩ = some (.int .i64 t389) ∧ w'.cell? ⟨gb392, 3, none⟩ = some (.int .i64 t390) ∧ w'.cell? ⟨gb400, 0, none⟩ = some (.slice Ao20 t393.length co20) ∧ w'.cell? ⟨gb400, 1, none⟩ = some (.int .i64 t396) ∧ w'.cell? ⟨gb400, 2, none⟩ = some (.int .i64 t397) ∧ w'.cell? ⟨gb400, 3, none⟩ = some (.int .i64 t398)) (ds := []) #[false, false, false, false, false, false, false, false, false, false, false, false, false, false, false, false] (by kernel_rfl) rfl rfl ⟨(blk_cell BK392.out 0).trans rfl, (blk_cell BK392.out 1).trans rfl, (blk_cell BK392.out 2).trans rfl, (blk_cell BK392.out 3).trans rfl, (blk_cell BK400.out 0).trans rfl, (blk_cell BK400.out 1).trans rfl, (blk_cell BK400.out 2).trans rfl, (blk_cell BK400.out 3).trans rfl⟩ (fun hHeld => ?_); refine with_tabW laws_FnRing.tab6 laws_FnRing.bits6 (fun HT_ HW_ => ?_)
     generalize w36.drew = w37 at HO379 HO387 HO395 BK384 BK392 BK400 HB hHeld ⊢
     refine pureS 0 50 HT_.out ?_
     refine pureS 1 51 HT_.out ?_
     refine pureS 2 52 HT_.out ?_
     refine pureS 3 53 HT_.out ?_
     refine takeS 4 54 HT_.out HW_.out hHeld (hr := by rintro w' ⟨s0, s1, s2, s3, s4, s5, s6, s7⟩; go_simp; with_reducible rfl) (h := ?_)
     refine takeS 5 55 HT_.out HW_.out hHeld (hr := by rintro w' ⟨s0, s1, s2, s3, s4, s5, s6, s7⟩; go_simp; with_reducible rfl) (h := ?_)
     refine one_ (i := 6) (N := some 56) #[true, true, true, true, true, true, true, false, false, false, false, false, false, false, false, false] rfl rfl (one_of HT_.out (by kernel_rfl)) (by decide) (fun K hK => ?_)
     refine goes_ Tryd.func36 (by kernel_rfl) rfl #[.agg #[.slice Ao14 t385.length co14, .int .i64 t388, .int .i64 t389, .int .i64 t390], .agg #[.slice Ao20 t393.length co20, .int .i64 t396, .int .i64 t397, .int .i64 t398]] (by rfl) rfl rfl (by (try simp only [List.map_toArray, List.map_cons, List.map_nil]); first | done | rfl | (simp only [List.length_drop, List.length_take]; rfl)) ?_
     with_reducible refine (laws_sameRings.calls k _ _ t385 t388 t389 t390 _ _ t393 t396 t397 t398 false _ ?side1 ?side2 ?side3 ?side4 A27.out).mono ?_
     (case side1 => exact rc0 HO387)
     (case side2 => exact (Kd.R_reads' HO387.out).2.1)
     (case side3 => exact rc0 HO395)
     (case side4 => exact (Kd.R_reads' HO395.out).2.1)
     rintro e w38 ⟨rfl, hb⟩
     refine ⟨_, rfl, ?_⟩
     have n0_ := Aside0.mk (Kd.R_below (rr HO379.out) hb)
     have n1_ := Aside0.mk (Kd.R_below (rr HO387.out) hb)
     have n2_ := Aside0.mk (Kd.R_below (rr HO395.out) hb)
     have n3_ := Aside0.mk (bb BK384 hb)
     have n4_ := Aside0.mk (bb BK392 hb)
     have n5_ := Aside0.mk (bb BK400 hb)
     have n6_ := Aside0.mk (below_step (bs3 HB GE384 GE392 GE400) hb)
     clear HO379
     clear HO387
     clear HO395
     clear BK384
     clear BK392
     clear BK400
     clear HB
     have HO379 := n0_
     have HO387 := n1_
     have HO395 := n2_
     have BK384 := n3_
     have BK392 := n4_
     have BK400 := n5_
     have HB := n6_
     clear n0_ n1_ n2_ n3_ n4_ n5_ n6_
     (try clear hb)
     (try clear hb2)
     (try clear hk)
     (try clear hi)
     refine hK.out _ _ ⟨(blk_cell BK392.out 0).trans rfl, (blk_cell BK392.out 1).trans rfl, (blk_cell BK392.out 2).trans rfl, (blk_cell BK392.out 3).trans rfl, (blk_cell BK400.out 0).trans rfl, (blk_cell BK400.out 1).trans rfl, (blk_cell BK400.out 2).trans rfl, (blk_cell BK400.out 3).trans rfl⟩ (fun hHeld => ?_)
     clear hK K
     refine norm_ (a' := ?_) ?_ ?_
     rotate_left
     ·
      show Act.put _ (some 56) _ = _
      simp only [Act.put, List.setIfInBounds_toArray, List.set_cons_zero, List.set_cons_succ, i64_w, i32_w]
      rfl
     refine pureS 7 57 HT_.out ?_
     refine pureS 8 58 HT_.out ?_
     refine pureS 9 59 HT_.out ?_
     refine pureU 10 60 HT_.out ?_
     refine pureU 11 61 HT_.out ?_
     refine pureU 12 62 HT_.out ?_
     refine pureU 13 63 HT_.out ?_
     refine pureU 14 64 HT_.out ?_
     refine pureS 15 65 HT_.out ?_
     refine done_ (done_of HT_.out (by kernel_rfl)) ?_
     try go_wp2
     go_meet
     case rel => exact ⟨_, (true), (by first | rfl | (simp; done) | (simp [*]; done)), H', ⟨by first | omega | exact Nat.le_refl _⟩, ⟨rr HO379.out⟩, ⟨rr HO387.out⟩, ⟨rr HO395.out⟩, ⟨bk BK384⟩, ⟨bk BK392⟩, ⟨bk BK400⟩, ⟨bs3 HB GE384 GE392 GE400⟩⟩
  case rest =>
   clear HC7
   try clear c1
   try clear c2
   try clear p2
   try clear c3
   try clear c18
   try clear c20
   try clear c24
   try clear c24b0
   try clear c24b1
   try clear c24b2
   try clear c28
   try clear c36
   obtain ⟨kq, x65_6, rfl, HA, HJ6, HO_385000, HO_393000, HO_401000, BK384, BK392, BK400, HB⟩ := hcut
   cases kq with
   | zero => exact absurd HA.out (by simp [laws_FnRing.j0])
   | succ kj6 =>
    have H := HA.out
    clear HA
    simp only [laws_FnRing.j0] at H
    by_cases c39 : x65_6 = true
    ·
     subst c39
     rw [if_pos rfl] at H
     obtain rfl := Option.some.inj H
     go_wp2
     go_ret
     exact ⟨by first | rfl | (simp [errW_none, errW_some] <;> rfl) | (simp [*, errW_none, errW_some] <;> rfl), bs3 HB GE384 GE392 GE400⟩
    ·
     replace c39 := Bool.eq_false_iff.mpr c39
     subst c39
     rw [if_neg (show ¬ (false = true) by decide)] at H
     have HC40 := Aside0.mk H
     clear H
     go_upto_if 66 with (fail)
     go_cut [] (fun wc => ∃ (kq : Nat), Aside0 (laws_FnRing.j1 kq l1 = some r) ∧ Aside0 (kq ≤ kj6) ∧ Aside0 (Kd.R k26 26 wc w.heap.size (fun k_ => some k_ ≠ ((.slice Ao14 t385.length co14) : Value).ownBlock ∧ some k_ ≠ ((.slice Ao20 t393.length co20) : Value).ownBlock) (.slice Ao10 t377.length co10) t377) ∧ Aside0 (Kd.R k26 26 wc w.heap.size (fun k_ => some k_ ≠ ((.slice Ao10 t377.length co10) : Value).ownBlock ∧ some k_ ≠ ((.slice Ao20 t393.length co20) : Value).ownBlock) (.slice Ao14 t385.length co14) t385) ∧ Aside0 (Kd.R k26 26 wc w.heap.size (fun k_ => some k_ ≠ ((.slice Ao10 t377.length co10) : Value).ownBlock ∧ some k_ ≠ ((.slice Ao14 t385.length co14) : Value).ownBlock) (.slice Ao20 t393.length co20) t393) ∧ Aside0 (wc.heap[gb384]? = some (.cells #[(.slice Ao10 t377.length co10), .int .i64 t380, .int .i64 t381, .int .i64 t382] 36 (0, 0))) ∧ Aside0 (wc.heap[gb392]? = some (.cells #[(.slice Ao14 t385.length co14), .int .i64 t388, .int .i64 t389, .int .i64 t390] 36 (0, 0))) ∧ Aside0 (wc.heap[gb400]? = some (.cells #[(.slice Ao20 t393.length co20), .int .i64 t396, .int .i64 t397, .int .i64 t398] 36 (0, 0))) ∧ Aside0 (Below w.heap.size w wc))
     case first =>
      have H := HC40.out
      clear HC40
      by_cases c41 : t391 = true
      ·
       subst c41
       rw [if_pos rfl] at H
       replace H := Option.bind_eq_some_iff.mp H
       obtain ⟨⟨t404, t407⟩, A420, H⟩ := H
       replace H : ((impl_RecordsOf.f kj6 t385 t388 t389 t390).bind fun bt408 => ((impl_RoomFor.f kj6 t385 t388 t389 t390).bind fun bt412 => (if t407 = true then (if bt408.2 = true then (if bt412.2 = true then ((some (([] : List ByteArray) : List ByteArray)).bind fun y414 => (if y414.length + t404.length < 8796093022208 then ((some (y414 ++ t404 : List ByteArray)).bind fun y417 => (if y417.length < 8796093022208 then ((laws_sameTexts.f kj6 bt408.1 (y417 ++ [t383])).bind fun t423 => (if t423 = true then (if (wrap64 (bt412.1 + (bt408.1.length : Int))) = (t385.length : Int) then ((impl_GoodRing.f kj6 t385 t388 t389 t390).bind fun t424 => (if t424 = true then (laws_FnRing.j1 kj6 l1) else (some false))) else (some false)) else (some false))) else (none))) else (none))) else (some false)) else (some false)) else (some false)))) = some r := H
       have A42 := Aside0.mk A420
       clear A420
       replace H := Option.bind_eq_some_iff.mp H
       obtain ⟨⟨t408, t411⟩, A430, H⟩ := H
       replace H : ((impl_RoomFor.f kj6 t385 t388 t389 t390).bind fun bt412 => (if t407 = true then (if t411 = true then (if bt412.2 = true then ((some (([] : List ByteArray) : List ByteArray)).bind fun y414 => (if y414.length + t404.length < 8796093022208 then ((some (y414 ++ t404 : List ByteArray)).bind fun y417 => (if y417.length < 8796093022208 then ((laws_sameTexts.f kj6 t408 (y417 ++ [t383])).bind fun t423 => (if t423 = true then (if (wrap64 (bt412.1 + (t408.length : Int))) = (t385.length : Int) then ((impl_GoodRing.f kj6 t385 t388 t389 t390).bind fun t424 => (if t424 = true then (laws_FnRing.j1 kj6 l1) else (some false))) else (some false)) else (some false))) else (none))) else (none))) else (some false)) else (some false)) else (some false))) = some r := H
       have A43 := Aside0.mk A430
       clear A430
       replace H := Option.bind_eq_some_iff.mp H
       obtain ⟨⟨t412, t413⟩, A440, H⟩ := H
       replace H : (if t407 = true then (if t411 = true then (if t413 = true then ((some (([] : List ByteArray) : List ByteArray)).bind fun y414 => (if y414.length + t404.length < 8796093022208 then ((some (y414 ++ t404 : List ByteArray)).bind fun y417 => (if y417.length < 8796093022208 then ((laws_sameTexts.f kj6 t408 (y417 ++ [t383])).bind fun t423 => (if t423 = true then (if (wrap64 (t412 + (t408.length : Int))) = (t385.length : Int) then ((impl_GoodRing.f kj6 t385 t388 t389 t390).bind fun t424 => (if t424 = true then (laws_FnRing.j1 kj6 l1) else (some false))) else (some false)) else (some false))) else (none))) else (none))) else (some false)) else (some false)) else (some false)) = some r := H
       have A44 := Aside0.mk A440
       clear A440
       by_cases c45 : t407 = true
       ·
        subst c45
        rw [if_pos rfl] at H
        by_cases c46 : t411 = true
        ·
         subst c46
         rw [if_pos rfl] at H
         by_cases c47 : t413 = true
         ·
          subst c47
          rw [if_pos rfl] at H
          obtain ⟨y414, hy414⟩ : ∃ y_ : List ByteArray, y_ = (([] : List ByteArray)) := ⟨_, rfl⟩
          replace H : (if y414.length + t404.length < 8796093022208 then ((some (y414 ++ t404 : List ByteArray)).bind fun y417 => (if y417.length < 8796093022208 then ((laws_sameTexts.f kj6 t408 (y417 ++ [t383])).bind fun t423 => (if t423 = true then (if (wrap64 (t412 + (t408.length : Int))) = (t385.length : Int) then ((impl_GoodRing.f kj6 t385 t388 t389 t390).bind fun t424 => (if t424 = true then (laws_FnRing.j1 kj6 l1) else (some false))) else (some false)) else (some false))) else (none))) else (none)) = some r := by first | (rw [hy414]; with_reducible exact H) | (have H2_ := (Option.bind_some _ _).symm.trans H; rw [hy414]; with_reducible exact H2_) | (have H2_ := (Option.bind_some _ _).symm.trans H; with_reducible exact H2_) | with_reducible exact H | (rw [hy414]; exact H) | exact H
          have Ny414 := Aside0.mk hy414
          clear hy414
          by_cases c48 : y414.length + t404.length < 8796093022208
          ·
           rw [if_pos c48] at H
           have LMc48 := Aside0.mk c48
           clear c48
           obtain ⟨y417, hy417⟩ : ∃ y_ : List ByteArray, y_ = (y414 ++ t404) := ⟨_, rfl⟩
           replace H : (if y417.length < 8796093022208 then ((laws_sameTexts.f kj6 t408 (y417 ++ [t383])).bind fun t423 => (if t423 = true then (if (wrap64 (t412 + (t408.length : Int))) = (t385.length : Int) then ((impl_GoodRing.f kj6 t385 t388 t389 t390).bind fun t424 => (if t424 = true then (laws_FnRing.j1 kj6 l1) else (some false))) else (some false)) else (some false))) else (none)) = some r := by first | (rw [hy417]; with_reducible exact H) | (have H2_ := (Option.bind_some _ _).symm.trans H; rw [hy417]; with_reducible exact H2_) | (have H2_ := (Option.bind_some _ _).symm.trans H; with_reducible exact H2_) | with_reducible exact H | (rw [hy417]; exact H) | exact H
           have Ny417 := Aside0.mk hy417
           clear hy417
           by_cases c49 : y417.length < 8796093022208
           ·
            rw [if_pos c49] at H
            have LMc49 := Aside0.mk c49
            clear c49
            obtain ⟨y420, hy420⟩ : ∃ y_ : List ByteArray, y_ = (y417 ++ [t383]) := ⟨_, rfl⟩
            replace H : ((laws_sameTexts.f kj6 t408 y420).bind fun t423 => (if t423 = true then (if (wrap64 (t412 + (t408.length : Int))) = (t385.length : Int) then ((impl_GoodRing.f kj6 t385 t388 t389 t390).bind fun t424 => (if t424 = true then (laws_FnRing.j1 kj6 l1) else (some false))) else (some false)) else (some false))) = some r := by first | (rw [hy420]; with_reducible exact H) | (have H2_ := (Option.bind_some _ _).symm.trans H; rw [hy420]; with_reducible exact H2_) | (have H2_ := (Option.bind_some _ _).symm.trans H; with_reducible exact H2_) | with_reducible exact H | (rw [hy420]; exact H) | exact H
            have Ny420 := Aside0.mk hy420
            clear hy420
            replace H := Option.bind_eq_some_iff.mp H
            obtain ⟨t423, A500, H⟩ := H
            replace H : (if t423 = true then (if (wrap64 (t412 + (t408.length : Int))) = (t385.length : Int) then ((impl_GoodRing.f kj6 t385 t388 t389 t390).bind fun t424 => (if t424 = true then (laws_FnRing.j1 kj6 l1) else (some false))) else (some false)) else (some false)) = some r := H
            have A50 := Aside0.mk A500
            clear A500
            by_cases c51 : t423 = true
            ·
             subst c51
             rw [if_pos rfl] at H
             by_cases c52 : (wrap64 (t412 + (t408.length : Int))) = (t385.length : Int)
             ·
              rw [if_pos c52] at H
              have c52b0 : ((wrap64 (t412 + (t408.length : Int))) == (t385.length : Int)) = true := beq_iff_eq.mpr c52
              have c52b1 : ((wrap64 (t412 + (t408.length : Int))) != (t385.length : Int)) = false := bne_eq_false_iff_eq.mpr c52
              clear c52
              (first | rw [c52b0] | (simp only [i64_w, i32_w]; rw [c52b0]) | (simp only [c52b2, Bool.not_false, Bool.not_true]) | skip)
              replace H := Option.bind_eq_some_iff.mp H
              obtain ⟨t424, A530, H⟩ := H
              replace H : (if t424 = true then (laws_FnRing.j1 kj6 l1) else (some false)) = some r := H
              have A53 := Aside0.mk A530
              clear A530
              by_cases c54 : t424 = true
              ·
               subst c54
               rw [if_pos rfl] at H
               have H' := Aside0.mk H
               clear H
               have hnb55 := NB384_392.out
               have hnc55 := NB392_384.out
               have hnb56 := NB384_400.out
               have hnc56 := NB400_384.out
               obtain ⟨hcz57_0, hcz57_1, hcz57_2, hcz57_3⟩ := cz4 BK384
               obtain ⟨hfz57_0, hfz57_1, hfz57_2, hfz57_3⟩ := fz4 BK384
               go_wp2_with (first | ((with_reducible refine gate_callee (f := 29) rfl ?_); refine gL (some 69) rfl rfl Tryd.func29 (by kernel_rfl) rfl #[.agg #[.slice Ao10 t377.length co10, .int .i64 t380, .int .i64 t381, .int .i64 t382]] rfl ?_; (with_reducible refine (impl_RecordsOf.calls kj6 _ _ t377 t380 t381 t382 t404 true _ ?sideT ?side1 ?side2 A42.out).mono ?_); (case sideT => refine ⟨Ito.tabB hTab_.out ?_⟩; first | exact bs HB | exact st_below | (repeat (first | (with_reducible first | exact HB.out | apply below_alloc | apply pw_below_drewN | apply below_drew1 | refine below_set ?_ (Aside0.out (by assumption))) | exact HB.out))); (case side1 => exact rc0 HO_385000); (case side2 => exact (Kd.R_reads' HO_385000.out).2.1); rintro e w58 ⟨v405, rfl, ho0, hb⟩; refine ⟨_, rfl, ?_⟩; replace HO_385000 := nr HO_385000 hb; replace HO_393000 := nr HO_393000 hb; replace HO_401000 := nr HO_401000 hb; have HO406 := Aside0.mk (Kd.R_lower ho0 (below_size (bs3 HB GE384 GE392 GE400))); replace BK384 := nb BK384 hb; replace BK392 := nb BK392 hb; replace BK400 := nb BK400 hb; replace HB := Aside0.mk (below_step (bs3 HB GE384 GE392 GE400) hb); (try clear hb); (try clear hb2); (try clear hk); (try clear hi); (try clear ho0); have hnb59 := NB392_400.out; have hnc59 := NB400_392.out; obtain ⟨hcz60_0, hcz60_1, hcz60_2, hcz60_3⟩ := cz4 BK392; obtain ⟨hfz60_0, hfz60_1, hfz60_2, hfz60_3⟩ := fz4 BK392) | ((with_reducible refine gate_callee (f := 29) rfl ?_); refine gL (some 74) rfl rfl Tryd.func29 (by kernel_rfl) rfl #[.agg #[.slice Ao14 t385.length co14, .int .i64 t388, .int .i64 t389, .int .i64 t390]] rfl ?_; (with_reducible refine (impl_RecordsOf.calls kj6 _ _ t385 t388 t389 t390 t408 true _ ?sideT ?side1 ?side2 A43.out).mono ?_); (case sideT => refine ⟨Ito.tabB hTab_.out ?_⟩; first | exact bs HB | exact st_below | (repeat (first | (with_reducible first | exact HB.out | apply below_alloc | apply pw_below_drewN | apply below_drew1 | refine below_set ?_ (Aside0.out (by assumption))) | exact HB.out))); (case side1 => exact rc0 HO_393000); (case side2 => exact (Kd.R_reads' HO_393000.out).2.1); rintro e w61 ⟨v409, rfl, ho0, hb⟩; refine ⟨_, rfl, ?_⟩; replace HO_385000 := nr HO_385000 hb; replace HO_393000 := nr HO_393000 hb; replace HO_401000 := nr HO_401000 hb; have HO410 := Aside0.mk (Kd.R_lower (Kd.R_new' ho0 (Kd.R_lt (rr HO406.out))) (below_size (bs3 HB GE384 GE392 GE400))); replace HO406 := Aside0.mk (Kd.R_elder' (rr HO406.out) (Kd.R_base ho0) hb); replace BK384 := nb BK384 hb; replace BK392 := nb BK392 hb; replace BK400 := nb BK400 hb; replace HB := Aside0.mk (below_step (bs3 HB GE384 GE392 GE400) hb); (try clear hb); (try clear hb2); (try clear hk); (try clear hi); (try clear ho0); obtain ⟨hcz62_0, hcz62_1, hcz62_2, hcz62_3⟩ := cz4 BK392; obtain ⟨hfz62_0, hfz62_1, hfz62_2, hfz62_3⟩ := fz4 BK392) | ((with_reducible refine gate_callee (f := 27) rfl ?_); refine gL (some 79) rfl rfl Tryd.func27 (by kernel_rfl) rfl #[.agg #[.slice Ao14 t385.length co14, .int .i64 t388, .int .i64 t389, .int .i64 t390]] rfl ?_; (with_reducible refine (impl_RoomFor.calls kj6 _ _ t385 t388 t389 t390 t412 true _ ?sideT ?side1 ?side2 A44.out).mono ?_); (case sideT => refine ⟨Ito.tabB hTab_.out ?_⟩; first | exact bs HB | exact st_below | (repeat (first | (with_reducible first | exact HB.out | apply below_alloc | apply pw_below_drewN | apply below_drew1 | refine below_set ?_ (Aside0.out (by assumption))) | exact HB.out))); (case side1 => exact rc0 HO_393000); (case side2 => exact (Kd.R_reads' HO_393000.out).2.1); rintro e w63 ⟨rfl, hb⟩; refine ⟨_, rfl, ?_⟩; replace HO_385000 := nr HO_385000 hb; replace HO_393000 := nr HO_393000 hb; replace HO_401000 := nr HO_401000 hb; replace HO406 := nr HO406 hb; replace HO410 := nr HO410 hb; replace BK384 := nb BK384 hb; replace BK392 := nb BK392 hb; replace BK400 := nb BK400 hb; replace HB := Aside0.mk (below_step (bs3 HB GE384 GE392 GE400) hb); (try clear hb); (try clear hb2); (try clear hk); (try clear hi)) | ((with_reducible refine gate_dst (N := 94) rfl ?_); (try (refine gate_guard (by rfl) ?_; dsimp only)); refine Kd.R_lit Kd.string _ 9 ?hg (N := 94) ?hd (xs := ([] : List ByteArray)) (inner := []) (ok := fun _ => True) (okp := fun _ => True) ?hr ?hp (fun _ hk => hk) trivial (Below.refl _ _) (Nat.le_refl _) (by simp) ?_; (case hd => rfl); (case hg => rfl); (case hr => first | (go_simp; done) | (go_simp; rfl)); (case hp => exact (Reps.none _ _)); intro v415 w64 ho65 hb hg_ hnew_; clear hg_ hnew_; (first | rw [← Ny414.out] at ho65 | (simp only [Int.reduceToNat] at ho65; rw [← Ny414.out] at ho65)); replace HO_385000 := nr HO_385000 hb; replace HO_393000 := nr HO_393000 hb; replace HO_401000 := nr HO_401000 hb; have HO416 := Aside0.mk (Kd.R_lower (Kd.R_new' (Kd.R_new' ho65 (Kd.R_lt (rr HO406.out))) (Kd.R_lt (rr HO410.out))) (below_size (bs3 HB GE384 GE392 GE400))); replace HO406 := Aside0.mk (Kd.R_elder' (rr HO406.out) (Kd.R_base ho65) hb); replace HO410 := Aside0.mk (Kd.R_elder' (rr HO410.out) (Kd.R_base ho65) hb); replace BK384 := nb BK384 hb; replace BK392 := nb BK392 hb; replace BK400 := nb BK400 hb; replace HB := Aside0.mk (below_step (bs3 HB GE384 GE392 GE400) hb); clear hb ho65; obtain ⟨Ao67, co67, eo67⟩ := Kd.R_slice HO406.out; subst eo67) | ((with_reducible refine gate_builtin (b := .append) (xs := #[.tmp 94, .tmp 95]) rfl ?_); (try (refine gate_guard (by rfl) ?_; dsimp only)); at_builtin; refine Kd.R_append_rows Kd.string (w0 := w) w.heap.size rfl (.tmp 94) (.tmp 95) 46 9 (.string ⟨#[]⟩) 16 rfl Tryd.underlying46 info9 rfl (by decide) (by omega) v415 y414 t404 _ _ _ (fun k_ => some k_ ≠ (.slice Ao67 t404.length co67 : Value).ownBlock ∧ some k_ ≠ (v409 : Value).ownBlock) (fun _ => False) rfl rfl ?aO ?aR (fun _ _ h => h) (fun _ h => h.elim) ?aF ?aB ?aS ?aL ?_; (case aR => exact rc0 HO406); (case aB => exact (bs3 HB GE384 GE392 GE400)); (case aF => exact (fun k_ hk => ⟨Kd.fresh' (Kd.R_lt (rr HO406.out)) k_ hk, Kd.fresh' (Kd.R_lt (rr HO410.out)) k_ hk⟩)); (case aO => exact (by (with_reducible repeat (first | apply Kd.R_alloc | apply Kd.R_drewN | apply Kd.R_drew)); exact Kd.R_mono HO416.out (fun _ hk => ⟨hk.1.2, hk.2⟩))); (case aS => exact (below_size (bs3 HB GE384 GE392 GE400))); (case aL => have := LMc48.out; omega); intro v418 w66 ho hb hg hat; rw [← Ny417.out] at ho; replace HO_385000 := Aside0.mk (Kd.R_over' (rr HO_385000.out) (Kd.R_typed (rr HO416.out)) (by decide) hg); replace HO_393000 := Aside0.mk (Kd.R_over' (rr HO_393000.out) (Kd.R_typed (rr HO416.out)) (by decide) hg); replace HO_401000 := Aside0.mk (Kd.R_over' (rr HO_401000.out) (Kd.R_typed (rr HO416.out)) (by decide) hg); replace BK384 := Aside0.mk (blk_grown (bk BK384) hg (Kd.R_ne HO416.out BK384.out (by decide))); replace BK392 := Aside0.mk (blk_grown (bk BK392) hg (Kd.R_ne HO416.out BK392.out (by decide))); replace BK400 := Aside0.mk (blk_grown (bk BK400) hg (Kd.R_ne HO416.out BK400.out (by decide))); replace HO406 := Aside0.mk (Kd.R_after (ok := (fun k_ => some k_ ≠ (v409 : Value).ownBlock)) (by (with_reducible repeat (first | apply Kd.R_alloc | apply Kd.R_drewN | apply Kd.R_drew)); exact Kd.R_mono HO406.out (fun _ hk => by first | exact hk | exact ⟨hk.1.2, hk.2⟩)) hg hat); replace HO410 := Aside0.mk (Kd.R_after (ok := (fun k_ => some k_ ≠ (.slice Ao67 t404.length co67 : Value).ownBlock)) (by (with_reducible repeat (first | apply Kd.R_alloc | apply Kd.R_drewN | apply Kd.R_drew)); exact Kd.R_mono HO410.out (fun _ hk => by first | exact hk | exact ⟨hk.1.2, hk.2⟩)) hg hat); replace HB := Aside0.mk (hb); have HO419 := Aside0.mk (ho); clear HO416; clear ho hb hg hat) | ((with_reducible refine gate_builtin (b := .append) (xs := #[.tmp 96, .tmp 98]) rfl ?_); (try (refine gate_guard (by rfl) ?_; dsimp only)); at_builtin; refine Kd.R_append Kd.string (w0 := w) w.heap.size rfl (.tmp 96) (.tmp 98) 46 9 (.string ⟨#[]⟩) 16 rfl Tryd.underlying46 info9 rfl (by decide) (by omega) v418 y417 t383 [.string t383] (fun k_ => some k_ ≠ (.slice Ao67 t404.length co67 : Value).ownBlock ∧ some k_ ≠ (v409 : Value).ownBlock) (fun _ => False) rfl rfl ?aP (fun _ hk => hk.elim) ?aF ?aO ?aB ?aS ?aL ?_; (case aP => exact rfl); (case aB => exact (bs3 HB GE384 GE392 GE400)); (case aF => exact (fun k_ hk => ⟨Kd.fresh' (Kd.R_lt (rr HO406.out)) k_ hk, Kd.fresh' (Kd.R_lt (rr HO410.out)) k_ hk⟩)); (case aO => exact (rr HO419.out)); (case aS => exact (below_size (bs3 HB GE384 GE392 GE400))); (case aL => have := LMc49.out; omega); intro v421 w68 ho hb hg hat; rw [← Ny420.out] at ho; replace HO_385000 := Aside0.mk (Kd.R_over' (rr HO_385000.out) (Kd.R_typed (rr HO419.out)) (by decide) hg); replace HO_393000 := Aside0.mk (Kd.R_over' (rr HO_393000.out) (Kd.R_typed (rr HO419.out)) (by decide) hg); replace HO_401000 := Aside0.mk (Kd.R_over' (rr HO_401000.out) (Kd.R_typed (rr HO419.out)) (by decide) hg); replace BK384 := Aside0.mk (blk_grown (bk BK384) hg (Kd.R_ne HO419.out BK384.out (by decide))); replace BK392 := Aside0.mk (blk_grown (bk BK392) hg (Kd.R_ne HO419.out BK392.out (by decide))); replace BK400 := Aside0.mk (blk_grown (bk BK400) hg (Kd.R_ne HO419.out BK400.out (by decide))); replace HO406 := Aside0.mk (Kd.R_after (ok := (fun k_ => some k_ ≠ (v409 : Value).ownBlock)) (rr HO406.out) hg hat); replace HO410 := Aside0.mk (Kd.R_after (ok := (fun k_ => some k_ ≠ (.slice Ao67 t404.length co67 : Value).ownBlock)) (rr HO410.out) hg hat); replace HB := Aside0.mk (hb); have HO422 := Aside0.mk (ho); clear HO419; clear ho hb hg hat; obtain ⟨Ao69, co69, eo69⟩ := Kd.R_slice HO410.out; subst eo69; obtain ⟨Ao70, co70, eo70⟩ := Kd.R_slice HO422.out; subst eo70) | (go_at_call 37; (with_reducible refine (laws_sameTexts.calls kj6 _ _ t408 _ _ y420 true _ ?side1 ?side2 ?side3 ?side4 A50.out).mono ?_); (case side1 => exact rc0 HO410); (case side2 => exact (Kd.R_reads' HO410.out).2.1); (case side3 => exact rc0 HO422); (case side4 => exact (Kd.R_reads' HO422.out).2.1); rintro e w' ⟨rfl, ⟨nd, rfl⟩⟩; obtain ⟨hcz71_0, hcz71_1, hcz71_2, hcz71_3⟩ := cz4 BK392; obtain ⟨hfz71_0, hfz71_1, hfz71_2, hfz71_3⟩ := fz4 BK392) | (go_at_call 20; (with_reducible refine (impl_GoodRing.calls kj6 _ _ t385 t388 t389 t390 true _ ?sideT ?side1 ?side2 A53.out).mono ?_); (case sideT => refine ⟨Ito.tabB hTab_.out ?_⟩; first | exact bs HB | exact st_below | (repeat (first | (with_reducible first | exact HB.out | apply below_alloc | apply pw_below_drewN | apply below_drew1 | refine below_set ?_ (Aside0.out (by assumption))) | exact HB.out))); (case side1 => exact rc0 HO_393000); (case side2 => exact (Kd.R_reads' HO_393000.out).2.1); rintro e w72 ⟨rfl, hb⟩; replace HO_385000 := nr HO_385000 hb; replace HO_393000 := nr HO_393000 hb; replace HO_401000 := nr HO_401000 hb; replace HO406 := nr HO406 hb; replace HO410 := nr HO410 hb; replace HO422 := nr HO422 hb; replace BK384 := nb BK384 hb; replace BK392 := nb BK392 hb; replace BK400 := nb BK400 hb; replace HB := Aside0.mk (below_step (bs3 HB GE384 GE392 GE400) hb); (try clear hb); (try clear hb2); (try clear hk); (try clear hi)))
               go_meet
               case rel => exact ⟨_, H', ⟨by have := HJ6.out; first | omega | exact Nat.le_refl _⟩, ⟨rr HO_385000.out⟩, ⟨rr HO_393000.out⟩, ⟨rr HO_401000.out⟩, ⟨bk BK384⟩, ⟨bk BK392⟩, ⟨bk BK400⟩, ⟨bs3 HB GE384 GE392 GE400⟩⟩
              ·
               replace c54 := Bool.eq_false_iff.mpr c54
               subst c54
               rw [if_neg (show ¬ (false = true) by decide)] at H
               obtain rfl := Option.some.inj H
               have hnb73 := NB384_392.out
               have hnc73 := NB392_384.out
               have hnb74 := NB384_400.out
               have hnc74 := NB400_384.out
               obtain ⟨hcz75_0, hcz75_1, hcz75_2, hcz75_3⟩ := cz4 BK384
               obtain ⟨hfz75_0, hfz75_1, hfz75_2, hfz75_3⟩ := fz4 BK384
               go_wp2_with (first | ((with_reducible refine gate_callee (f := 29) rfl ?_); refine gL (some 69) rfl rfl Tryd.func29 (by kernel_rfl) rfl #[.agg #[.slice Ao10 t377.length co10, .int .i64 t380, .int .i64 t381, .int .i64 t382]] rfl ?_; (with_reducible refine (impl_RecordsOf.calls kj6 _ _ t377 t380 t381 t382 t404 true _ ?sideT ?side1 ?side2 A42.out).mono ?_); (case sideT => refine ⟨Ito.tabB hTab_.out ?_⟩; first | exact bs HB | exact st_below | (repeat (first | (with_reducible first | exact HB.out | apply below_alloc | apply pw_below_drewN | apply below_drew1 | refine below_set ?_ (Aside0.out (by assumption))) | exact HB.out))); (case side1 => exact rc0 HO_385000); (case side2 => exact (Kd.R_reads' HO_385000.out).2.1); rintro e w76 ⟨v405, rfl, ho0, hb⟩; refine ⟨_, rfl, ?_⟩; replace HO_385000 := nr HO_385000 hb; replace HO_393000 := nr HO_393000 hb; replace HO_401000 := nr HO_401000 hb; have HO406 := Aside0.mk (Kd.R_lower ho0 (below_size (bs3 HB GE384 GE392 GE400))); replace BK384 := nb BK384 hb; replace BK392 := nb BK392 hb; replace BK400 := nb BK400 hb; replace HB := Aside0.mk (below_step (bs3 HB GE384 GE392 GE400) hb); (try clear hb); (try clear hb2); (try clear hk); (try clear hi); (try clear ho0); have hnb77 := NB392_400.out; have hnc77 := NB400_392.out; obtain ⟨hcz78_0, hcz78_1, hcz78_2, hcz78_3⟩ := cz4 BK392; obtain ⟨hfz78_0, hfz78_1, hfz78_2, hfz78_3⟩ := fz4 BK392) | ((with_reducible refine gate_callee (f := 29) rfl ?_); refine gL (some 74) rfl rfl Tryd.func29 (by kernel_rfl) rfl #[.agg #[.slice Ao14 t385.length co14, .int .i64 t388, .int .i64 t389, .int .i64 t390]] rfl ?_; (with_reducible refine (impl_RecordsOf.calls kj6 _ _ t385 t388 t389 t390 t408 true _ ?sideT ?side1 ?side2 A43.out).mono ?_); (case sideT => refine ⟨Ito.tabB hTab_.out ?_⟩; first | exact bs HB | exact st_below | (repeat (first | (with_reducible first | exact HB.out | apply below_alloc | apply pw_below_drewN | apply below_drew1 | refine below_set ?_ (Aside0.out (by assumption))) | exact HB.out))); (case side1 => exact rc0 HO_393000); (case side2 => exact (Kd.R_reads' HO_393000.out).2.1); rintro e w79 ⟨v409, rfl, ho0, hb⟩; refine ⟨_, rfl, ?_⟩; replace HO_385000 := nr HO_385000 hb; replace HO_393000 := nr HO_393000 hb; replace HO_401000 := nr HO_401000 hb; have HO410 := Aside0.mk (Kd.R_lower (Kd.R_new' ho0 (Kd.R_lt (rr HO406.out))) (below_size (bs3 HB GE384 GE392 GE400))); replace HO406 := Aside0.mk (Kd.R_elder' (rr HO406.out) (Kd.R_base ho0) hb); replace BK384 := nb BK384 hb; replace BK392 := nb BK392 hb; replace BK400 := nb BK400 hb; replace HB := Aside0.mk (below_step (bs3 HB GE384 GE392 GE400) hb); (try clear hb); (try clear hb2); (try clear hk); (try clear hi); (try clear ho0); obtain ⟨hcz80_0, hcz80_1, hcz80_2, hcz80_3⟩ := cz4 BK392; obtain ⟨hfz80_0, hfz80_1, hfz80_2, hfz80_3⟩ := fz4 BK392) | ((with_reducible refine gate_callee (f := 27) rfl ?_); refine gL (some 79) rfl rfl Tryd.func27 (by kernel_rfl) rfl #[.agg #[.slice Ao14 t385.length co14, .int .i64 t388, .int .i64 t389, .int .i64 t390]] rfl ?_; (with_reducible refine (impl_RoomFor.calls kj6 _ _ t385 t388 t389 t390 t412 true _ ?sideT ?side1 ?side2 A44.out).mono ?_); (case sideT => refine ⟨Ito.tabB hTab_.out ?_⟩; first | exact bs HB | exact st_below | (repeat (first | (with_reducible first | exact HB.out | apply below_alloc | apply pw_below_drewN | apply below_drew1 | refine below_set ?_ (Aside0.out (by assumption))) | exact HB.out))); (case side1 => exact rc0 HO_393000); (case side2 => exact (Kd.R_reads' HO_393000.out).2.1); rintro e w81 ⟨rfl, hb⟩; refine ⟨_, rfl, ?_⟩; replace HO_385000 := nr HO_385000 hb; replace HO_393000 := nr HO_393000 hb; replace HO_401000 := nr HO_401000 hb; replace HO406 := nr HO406 hb; replace HO410 := nr HO410 hb; replace BK384 := nb BK384 hb; replace BK392 := nb BK392 hb; replace BK400 := nb BK400 hb; replace HB := Aside0.mk (below_step (bs3 HB GE384 GE392 GE400) hb); (try clear hb); (try clear hb2); (try clear hk); (try clear hi)) | ((with_reducible refine gate_dst (N := 94) rfl ?_); (try (refine gate_guard (by rfl) ?_; dsimp only)); refine Kd.R_lit Kd.string _ 9 ?hg (N := 94) ?hd (xs := ([] : List ByteArray)) (inner := []) (ok := fun _ => True) (okp := fun _ => True) ?hr ?hp (fun _ hk => hk) trivial (Below.refl _ _) (Nat.le_refl _) (by simp) ?_; (case hd => rfl); (case hg => rfl); (case hr => first | (go_simp; done) | (go_simp; rfl)); (case hp => exact (Reps.none _ _)); intro v415 w82 ho83 hb hg_ hnew_; clear hg_ hnew_; (first | rw [← Ny414.out] at ho83 | (simp only [Int.reduceToNat] at ho83; rw [← Ny414.out] at ho83)); replace HO_385000 := nr HO_385000 hb; replace HO_393000 := nr HO_393000 hb; replace HO_401000 := nr HO_401000 hb; have HO416 := Aside0.mk (Kd.R_lower (Kd.R_new' (Kd.R_new' ho83 (Kd.R_lt (rr HO406.out))) (Kd.R_lt (rr HO410.out))) (below_size (bs3 HB GE384 GE392 GE400))); replace HO406 := Aside0.mk (Kd.R_elder' (rr HO406.out) (Kd.R_base ho83) hb); replace HO410 := Aside0.mk (Kd.R_elder' (rr HO410.out) (Kd.R_base ho83) hb); replace BK384 := nb BK384 hb; replace BK392 := nb BK392 hb; replace BK400 := nb BK400 hb; replace HB := Aside0.mk (below_step (bs3 HB GE384 GE392 GE400) hb); clear hb ho83; obtain ⟨Ao85, co85, eo85⟩ := Kd.R_slice HO406.out; subst eo85) | ((with_reducible refine gate_builtin (b := .append) (xs := #[.tmp 94, .tmp 95]) rfl ?_); (try (refine gate_guard (by rfl) ?_; dsimp only)); at_builtin; refine Kd.R_append_rows Kd.string (w0 := w) w.heap.size rfl (.tmp 94) (.tmp 95) 46 9 (.string ⟨#[]⟩) 16 rfl Tryd.underlying46 info9 rfl (by decide) (by omega) v415 y414 t404 _ _ _ (fun k_ => some k_ ≠ (.slice Ao85 t404.length co85 : Value).ownBlock ∧ some k_ ≠ (v409 : Value).ownBlock) (fun _ => False) rfl rfl ?aO ?aR (fun _ _ h => h) (fun _ h => h.elim) ?aF ?aB ?aS ?aL ?_; (case aR => exact rc0 HO406); (case aB => exact (bs3 HB GE384 GE392 GE400)); (case aF => exact (fun k_ hk => ⟨Kd.fresh' (Kd.R_lt (rr HO406.out)) k_ hk, Kd.fresh' (Kd.R_lt (rr HO410.out)) k_ hk⟩)); (case aO => exact (by (with_reducible repeat (first | apply Kd.R_alloc | apply Kd.R_drewN | apply Kd.R_drew)); exact Kd.R_mono HO416.out (fun _ hk => ⟨hk.1.2, hk.2⟩))); (case aS => exact (below_size (bs3 HB GE384 GE392 GE400))); (case aL => have := LMc48.out; omega); intro v418 w84 ho hb hg hat; rw [← Ny417.out] at ho; replace HO_385000 := Aside0.mk (Kd.R_over' (rr HO_385000.out) (Kd.R_typed (rr HO416.out)) (by decide) hg); replace HO_393000 := Aside0.mk (Kd.R_over' (rr HO_393000.out) (Kd.R_typed (rr HO416.out)) (by decide) hg); replace HO_401000 := Aside0.mk (Kd.R_over' (rr HO_401000.out) (Kd.R_typed (rr HO416.out)) (by decide) hg); replace BK384 := Aside0.mk (blk_grown (bk BK384) hg (Kd.R_ne HO416.out BK384.out (by decide))); replace BK392 := Aside0.mk (blk_grown (bk BK392) hg (Kd.R_ne HO416.out BK392.out (by decide))); replace BK400 := Aside0.mk (blk_grown (bk BK400) hg (Kd.R_ne HO416.out BK400.out (by decide))); replace HO406 := Aside0.mk (Kd.R_after (ok := (fun k_ => some k_ ≠ (v409 : Value).ownBlock)) (by (with_reducible repeat (first | apply Kd.R_alloc | apply Kd.R_drewN | apply Kd.R_drew)); exact Kd.R_mono HO406.out (fun _ hk => by first | exact hk | exact ⟨hk.1.2, hk.2⟩)) hg hat); replace HO410 := Aside0.mk (Kd.R_after (ok := (fun k_ => some k_ ≠ (.slice Ao85 t404.length co85 : Value).ownBlock)) (by (with_reducible repeat (first | apply Kd.R_alloc | apply Kd.R_drewN | apply Kd.R_drew)); exact Kd.R_mono HO410.out (fun _ hk => by first | exact hk | exact ⟨hk.1.2, hk.2⟩)) hg hat); replace HB := Aside0.mk (hb); have HO419 := Aside0.mk (ho); clear HO416; clear ho hb hg hat) | ((with_reducible refine gate_builtin (b := .append) (xs := #[.tmp 96, .tmp 98]) rfl ?_); (try (refine gate_guard (by rfl) ?_; dsimp only)); at_builtin; refine Kd.R_append Kd.string (w0 := w) w.heap.size rfl (.tmp 96) (.tmp 98) 46 9 (.string ⟨#[]⟩) 16 rfl Tryd.underlying46 info9 rfl (by decide) (by omega) v418 y417 t383 [.string t383] (fun k_ => some k_ ≠ (.slice Ao85 t404.length co85 : Value).ownBlock ∧ some k_ ≠ (v409 : Value).ownBlock) (fun _ => False) rfl rfl ?aP (fun _ hk => hk.elim) ?aF ?aO ?aB ?aS ?aL ?_; (case aP => exact rfl); (case aB => exact (bs3 HB GE384 GE392 GE400)); (case aF => exact (fun k_ hk => ⟨Kd.fresh' (Kd.R_lt (rr HO406.out)) k_ hk, Kd.fresh' (Kd.R_lt (rr HO410.out)) k_ hk⟩)); (case aO => exact (rr HO419.out)); (case aS => exact (below_size (bs3 HB GE384 GE392 GE400))); (case aL => have := LMc49.out; omega); intro v421 w86 ho hb hg hat; rw [← Ny420.out] at ho; replace HO_385000 := Aside0.mk (Kd.R_over' (rr HO_385000.out) (Kd.R_typed (rr HO419.out)) (by decide) hg); replace HO_393000 := Aside0.mk (Kd.R_over' (rr HO_393000.out) (Kd.R_typed (rr HO419.out)) (by decide) hg); replace HO_401000 := Aside0.mk (Kd.R_over' (rr HO_401000.out) (Kd.R_typed (rr HO419.out)) (by decide) hg); replace BK384 := Aside0.mk (blk_grown (bk BK384) hg (Kd.R_ne HO419.out BK384.out (by decide))); replace BK392 := Aside0.mk (blk_grown (bk BK392) hg (Kd.R_ne HO419.out BK392.out (by decide))); replace BK400 := Aside0.mk (blk_grown (bk BK400) hg (Kd.R_ne HO419.out BK400.out (by decide))); replace HO406 := Aside0.mk (Kd.R_after (ok := (fun k_ => some k_ ≠ (v409 : Value).ownBlock)) (rr HO406.out) hg hat); replace HO410 := Aside0.mk (Kd.R_after (ok := (fun k_ => some k_ ≠ (.slice Ao85 t404.length co85 : Value).ownBlock)) (rr HO410.out) hg hat); replace HB := Aside0.mk (hb); have HO422 := Aside0.mk (ho); clear HO419; clear ho hb hg hat; obtain ⟨Ao87, co87, eo87⟩ := Kd.R_slice HO410.out; subst eo87; obtain ⟨Ao88, co88, eo88⟩ := Kd.R_slice HO422.out; subst eo88) | (go_at_call 37; (with_reducible refine (laws_sameTexts.calls kj6 _ _ t408 _ _ y420 true _ ?side1 ?side2 ?side3 ?side4 A50.out).mono ?_); (case side1 => exact rc0 HO410); (case side2 => exact (Kd.R_reads' HO410.out).2.1); (case side3 => exact rc0 HO422); (case side4 => exact (Kd.R_reads' HO422.out).2.1); rintro e w' ⟨rfl, ⟨nd, rfl⟩⟩; obtain ⟨hcz89_0, hcz89_1, hcz89_2, hcz89_3⟩ := cz4 BK392; obtain ⟨hfz89_0, hfz89_1, hfz89_2, hfz89_3⟩ := fz4 BK392) | (go_at_call 20; (with_reducible refine (impl_GoodRing.calls kj6 _ _ t385 t388 t389 t390 false _ ?sideT ?side1 ?side2 A53.out).mono ?_); (case sideT => refine ⟨Ito.tabB hTab_.out ?_⟩; first | exact bs HB | exact st_below | (repeat (first | (with_reducible first | exact HB.out | apply below_alloc | apply pw_below_drewN | apply below_drew1 | refine below_set ?_ (Aside0.out (by assumption))) | exact HB.out))); (case side1 => exact rc0 HO_393000); (case side2 => exact (Kd.R_reads' HO_393000.out).2.1); rintro e w90 ⟨rfl, hb⟩; replace HO_385000 := nr HO_385000 hb; replace HO_393000 := nr HO_393000 hb; replace HO_401000 := nr HO_401000 hb; replace HO406 := nr HO406 hb; replace HO410 := nr HO410 hb; replace HO422 := nr HO422 hb; replace BK384 := nb BK384 hb; replace BK392 := nb BK392 hb; replace BK400 := nb BK400 hb; replace HB := Aside0.mk (below_step (bs3 HB GE384 GE392 GE400) hb); (try clear hb); (try clear hb2); (try clear hk); (try clear hi)))
               go_ret
               exact ⟨by first | rfl | (simp [errW_none, errW_some] <;> rfl) | (simp [*, errW_none, errW_some] <;> rfl), bs3 HB GE384 GE392 GE400⟩
             ·
              rw [if_neg c52] at H
              have c52b0 : ((wrap64 (t412 + (t408.length : Int))) == (t385.length : Int)) = false := beq_eq_false_iff_ne.mpr c52
              have c52b1 : ((wrap64 (t412 + (t408.length : Int))) != (t385.length : Int)) = true := bne_iff_ne.mpr c52
              (first | rw [c52b0] | (simp only [i64_w, i32_w]; rw [c52b0]) | (simp only [c52b2, Bool.not_false, Bool.not_true]) | skip)
              obtain rfl := Option.some.inj H
              have hnb91 := NB384_392.out
              have hnc91 := NB392_384.out
              have hnb92 := NB384_400.out
              have hnc92 := NB400_384.out
              obtain ⟨hcz93_0, hcz93_1, hcz93_2, hcz93_3⟩ := cz4 BK384
              obtain ⟨hfz93_0, hfz93_1, hfz93_2, hfz93_3⟩ := fz4 BK384
              go_wp2_with (first | ((with_reducible refine gate_callee (f := 29) rfl ?_); refine gL (some 69) rfl rfl Tryd.func29 (by kernel_rfl) rfl #[.agg #[.slice Ao10 t377.length co10, .int .i64 t380, .int .i64 t381, .int .i64 t382]] rfl ?_; (with_reducible refine (impl_RecordsOf.calls kj6 _ _ t377 t380 t381 t382 t404 true _ ?sideT ?side1 ?side2 A42.out).mono ?_); (case sideT => refine ⟨Ito.tabB hTab_.out ?_⟩; first | exact bs HB | exact st_below | (repeat (first | (with_reducible first | exact HB.out | apply below_alloc | apply pw_below_drewN | apply below_drew1 | refine below_set ?_ (Aside0.out (by assumption))) | exact HB.out))); (case side1 => exact rc0 HO_385000); (case side2 => exact (Kd.R_reads' HO_385000.out).2.1); rintro e w94 ⟨v405, rfl, ho0, hb⟩; refine ⟨_, rfl, ?_⟩; replace HO_385000 := nr HO_385000 hb; replace HO_393000 := nr HO_393000 hb; replace HO_401000 := nr HO_401000 hb; have HO406 := Aside0.mk (Kd.R_lower ho0 (below_size (bs3 HB GE384 GE392 GE400))); replace BK384 := nb BK384 hb; replace BK392 := nb BK392 hb; replace BK400 := nb BK400 hb; replace HB := Aside0.mk (below_step (bs3 HB GE384 GE392 GE400) hb); (try clear hb); (try clear hb2); (try clear hk); (try clear hi); (try clear ho0); have hnb95 := NB392_400.out; have hnc95 := NB400_392.out; obtain ⟨hcz96_0, hcz96_1, hcz96_2, hcz96_3⟩ := cz4 BK392; obtain ⟨hfz96_0, hfz96_1, hfz96_2, hfz96_3⟩ := fz4 BK392) | ((with_reducible refine gate_callee (f := 29) rfl ?_); refine gL (some 74) rfl rfl Tryd.func29 (by kernel_rfl) rfl #[.agg #[.slice Ao14 t385.length co14, .int .i64 t388, .int .i64 t389, .int .i64 t390]] rfl ?_; (with_reducible refine (impl_RecordsOf.calls kj6 _ _ t385 t388 t389 t390 t408 true _ ?sideT ?side1 ?side2 A43.out).mono ?_); (case sideT => refine ⟨Ito.tabB hTab_.out ?_⟩; first | exact bs HB | exact st_below | (repeat (first | (with_reducible first | exact HB.out | apply below_alloc | apply pw_below_drewN | apply below_drew1 | refine below_set ?_ (Aside0.out (by assumption))) | exact HB.out))); (case side1 => exact rc0 HO_393000); (case side2 => exact (Kd.R_reads' HO_393000.out).2.1); rintro e w97 ⟨v409, rfl, ho0, hb⟩; refine ⟨_, rfl, ?_⟩; replace HO_385000 := nr HO_385000 hb; replace HO_393000 := nr HO_393000 hb; replace HO_401000 := nr HO_401000 hb; have HO410 := Aside0.mk (Kd.R_lower (Kd.R_new' ho0 (Kd.R_lt (rr HO406.out))) (below_size (bs3 HB GE384 GE392 GE400))); replace HO406 := Aside0.mk (Kd.R_elder' (rr HO406.out) (Kd.R_base ho0) hb); replace BK384 := nb BK384 hb; replace BK392 := nb BK392 hb; replace BK400 := nb BK400 hb; replace HB := Aside0.mk (below_step (bs3 HB GE384 GE392 GE400) hb); (try clear hb); (try clear hb2); (try clear hk); (try clear hi); (try clear ho0); obtain ⟨hcz98_0, hcz98_1, hcz98_2, hcz98_3⟩ := cz4 BK392; obtain ⟨hfz98_0, hfz98_1, hfz98_2, hfz98_3⟩ := fz4 BK392) | ((with_reducible refine gate_callee (f := 27) rfl ?_); refine gL (some 79) rfl rfl Tryd.func27 (by kernel_rfl) rfl #[.agg #[.slice Ao14 t385.length co14, .int .i64 t388, .int .i64 t389, .int .i64 t390]] rfl ?_; (with_reducible refine (impl_RoomFor.calls kj6 _ _ t385 t388 t389 t390 t412 true _ ?sideT ?side1 ?side2 A44.out).mono ?_); (case sideT => refine ⟨Ito.tabB hTab_.out ?_⟩; first | exact bs HB | exact st_below | (repeat (first | (with_reducible first | exact HB.out | apply below_alloc | apply pw_below_drewN | apply below_drew1 | refine below_set ?_ (Aside0.out (by assumption))) | exact HB.out))); (case side1 => exact rc0 HO_393000); (case side2 => exact (Kd.R_reads' HO_393000.out).2.1); rintro e w99 ⟨rfl, hb⟩; refine ⟨_, rfl, ?_⟩; replace HO_385000 := nr HO_385000 hb; replace HO_393000 := nr HO_393000 hb; replace HO_401000 := nr HO_401000 hb; replace HO406 := nr HO406 hb; replace HO410 := nr HO410 hb; replace BK384 := nb BK384 hb; replace BK392 := nb BK392 hb; replace BK400 := nb BK400 hb; replace HB := Aside0.mk (below_step (bs3 HB GE384 GE392 GE400) hb); (try clear hb); (try clear hb2); (try clear hk); (try clear hi)) | ((with_reducible refine gate_dst (N := 94) rfl ?_); (try (refine gate_guard (by rfl) ?_; dsimp only)); refine Kd.R_lit Kd.string _ 9 ?hg (N := 94) ?hd (xs := ([] : List ByteArray)) (inner := []) (ok := fun _ => True) (okp := fun _ => True) ?hr ?hp (fun _ hk => hk) trivial (Below.refl _ _) (Nat.le_refl _) (by simp) ?_; (case hd => rfl); (case hg => rfl); (case hr => first | (go_simp; done) | (go_simp; rfl)); (case hp => exact (Reps.none _ _)); intro v415 w100 ho101 hb hg_ hnew_; clear hg_ hnew_; (first | rw [← Ny414.out] at ho101 | (simp only [Int.reduceToNat] at ho101; rw [← Ny414.out] at ho101)); replace HO_385000 := nr HO_385000 hb; replace HO_393000 := nr HO_393000 hb; replace HO_401000 := nr HO_401000 hb; have HO416 := Aside0.mk (Kd.R_lower (Kd.R_new' (Kd.R_new' ho101 (Kd.R_lt (rr HO406.out))) (Kd.R_lt (rr HO410.out))) (below_size (bs3 HB GE384 GE392 GE400))); replace HO406 := Aside0.mk (Kd.R_elder' (rr HO406.out) (Kd.R_base ho101) hb); replace HO410 := Aside0.mk (Kd.R_elder' (rr HO410.out) (Kd.R_base ho101) hb); replace BK384 := nb BK384 hb; replace BK392 := nb BK392 hb; replace BK400 := nb BK400 hb; replace HB := Aside0.mk (below_step (bs3 HB GE384 GE392 GE400) hb); clear hb ho101; obtain ⟨Ao103, co103, eo103⟩ := Kd.R_slice HO406.out; subst eo103) | ((with_reducible refine gate_builtin (b := .append) (xs := #[.tmp 94, .tmp 95]) rfl ?_); (try (refine gate_guard (by rfl) ?_; dsimp only)); at_builtin; refine Kd.R_append_rows Kd.string (w0 := w) w.heap.size rfl (.tmp 94) (.tmp 95) 46 9 (.string ⟨#[]⟩) 16 rfl Tryd.underlying46 info9 rfl (by decide) (by omega) v415 y414 t404 _ _ _ (fun k_ => some k_ ≠ (.slice Ao103 t404.length co103 : Value).ownBlock ∧ some k_ ≠ (v409 : Value).ownBlock) (fun _ => False) rfl rfl ?aO ?aR (fun _ _ h => h) (fun _ h => h.elim) ?aF ?aB ?aS ?aL ?_; (case aR => exact rc0 HO406); (case aB => exact (bs3 HB GE384 GE392 GE400)); (case aF => exact (fun k_ hk => ⟨Kd.fresh' (Kd.R_lt (rr HO406.out)) k_ hk, Kd.fresh' (Kd.R_lt (rr HO410.out)) k_ hk⟩)); (case aO => exact (by (with_reducible repeat (first | apply Kd.R_alloc | apply Kd.R_drewN | apply Kd.R_drew)); exact Kd.R_mono HO416.out (fun _ hk => ⟨hk.1.2, hk.2⟩))); (case aS => exact (below_size (bs3 HB GE384 GE392 GE400))); (case aL => have := LMc48.out; omega); intro v418 w102 ho hb hg hat; rw [← Ny417.out] at ho; replace HO_385000 := Aside0.mk (Kd.R_over' (rr HO_385000.out) (Kd.R_typed (rr HO416.out)) (by decide) hg); replace HO_393000 := Aside0.mk (Kd.R_over' (rr HO_393000.out) (Kd.R_typed (rr HO416.out)) (by decide) hg); replace HO_401000 := Aside0.mk (Kd.R_over' (rr HO_401000.out) (Kd.R_typed (rr HO416.out)) (by decide) hg); replace BK384 := Aside0.mk (blk_grown (bk BK384) hg (Kd.R_ne HO416.out BK384.out (by decide))); replace BK392 := Aside0.mk (blk_grown (bk BK392) hg (Kd.R_ne HO416.out BK392.out (by decide))); replace BK400 := Aside0.mk (blk_grown (bk BK400) hg (Kd.R_ne HO416.out BK400.out (by decide))); replace HO406 := Aside0.mk (Kd.R_after (ok := (fun k_ => some k_ ≠ (v409 : Value).ownBlock)) (by (with_reducible repeat (first | apply Kd.R_alloc | apply Kd.R_drewN | apply Kd.R_drew)); exact Kd.R_mono HO406.out (fun _ hk => by first | exact hk | exact ⟨hk.1.2, hk.2⟩)) hg hat); replace HO410 := Aside0.mk (Kd.R_after (ok := (fun k_ => some k_ ≠ (.slice Ao103 t404.length co103 : Value).ownBlock)) (by (with_reducible repeat (first | apply Kd.R_alloc | apply Kd.R_drewN | apply Kd.R_drew)); exact Kd.R_mono HO410.out (fun _ hk => by first | exact hk | exact ⟨hk.1.2, hk.2⟩)) hg hat); replace HB := Aside0.mk (hb); have HO419 := Aside0.mk (ho); clear HO416; clear ho hb hg hat) | ((with_reducible refine gate_builtin (b := .append) (xs := #[.tmp 96, .tmp 98]) rfl ?_); (try (refine gate_guard (by rfl) ?_; dsimp only)); at_builtin; refine Kd.R_append Kd.string (w0 := w) w.heap.size rfl (.tmp 96) (.tmp 98) 46 9 (.string ⟨#[]⟩) 16 rfl Tryd.underlying46 info9 rfl (by decide) (by omega) v418 y417 t383 [.string t383] (fun k_ => some k_ ≠ (.slice Ao103 t404.length co103 : Value).ownBlock ∧ some k_ ≠ (v409 : Value).ownBlock) (fun _ => False) rfl rfl ?aP (fun _ hk => hk.elim) ?aF ?aO ?aB ?aS ?aL ?_; (case aP => exact rfl); (case aB => exact (bs3 HB GE384 GE392 GE400)); (case aF => exact (fun k_ hk => ⟨Kd.fresh' (Kd.R_lt (rr HO406.out)) k_ hk, Kd.fresh' (Kd.R_lt (rr HO410.out)) k_ hk⟩)); (case aO => exact (rr HO419.out)); (case aS => exact (below_size (bs3 HB GE384 GE392 GE400))); (case aL => have := LMc49.out; omega); intro v421 w104 ho hb hg hat; rw [← Ny420.out] at ho; replace HO_385000 := Aside0.mk (Kd.R_over' (rr HO_385000.out) (Kd.R_typed (rr HO419.out)) (by decide) hg); replace HO_393000 := Aside0.mk (Kd.R_over' (rr HO_393000.out) (Kd.R_typed (rr HO419.out)) (by decide) hg); replace HO_401000 := Aside0.mk (Kd.R_over' (rr HO_401000.out) (Kd.R_typed (rr HO419.out)) (by decide) hg); replace BK384 := Aside0.mk (blk_grown (bk BK384) hg (Kd.R_ne HO419.out BK384.out (by decide))); replace BK392 := Aside0.mk (blk_grown (bk BK392) hg (Kd.R_ne HO419.out BK392.out (by decide))); replace BK400 := Aside0.mk (blk_grown (bk BK400) hg (Kd.R_ne HO419.out BK400.out (by decide))); replace HO406 := Aside0.mk (Kd.R_after (ok := (fun k_ => some k_ ≠ (v409 : Value).ownBlock)) (rr HO406.out) hg hat); replace HO410 := Aside0.mk (Kd.R_after (ok := (fun k_ => some k_ ≠ (.slice Ao103 t404.length co103 : Value).ownBlock)) (rr HO410.out) hg hat); replace HB := Aside0.mk (hb); have HO422 := Aside0.mk (ho); clear HO419; clear ho hb hg hat; obtain ⟨Ao105, co105, eo105⟩ := Kd.R_slice HO410.out; subst eo105; obtain ⟨Ao106, co106, eo106⟩ := Kd.R_slice HO422.out; subst eo106) | (go_at_call 37; (with_reducible refine (laws_sameTexts.calls kj6 _ _ t408 _ _ y420 true _ ?side1 ?side2 ?side3 ?side4 A50.out).mono ?_); (case side1 => exact rc0 HO410); (case side2 => exact (Kd.R_reads' HO410.out).2.1); (case side3 => exact rc0 HO422); (case side4 => exact (Kd.R_reads' HO422.out).2.1); rintro e w' ⟨rfl, ⟨nd, rfl⟩⟩; obtain ⟨hcz107_0, hcz107_1, hcz107_2, hcz107_3⟩ := cz4 BK392; obtain ⟨hfz107_0, hfz107_1, hfz107_2, hfz107_3⟩ := fz4 BK392))
              go_ret
              exact ⟨by first | rfl | (simp [errW_none, errW_some] <;> rfl) | (simp [*, errW_none, errW_some] <;> rfl), bs3 HB GE384 GE392 GE400⟩
            ·
             replace c51 := Bool.eq_false_iff.mpr c51
             subst c51
             rw [if_neg (show ¬ (false = true) by decide)] at H
             obtain rfl := Option.some.inj H
             have hnb108 := NB384_392.out
             have hnc108 := NB392_384.out
             have hnb109 := NB384_400.out
             have hnc109 := NB400_384.out
             obtain ⟨hcz110_0, hcz110_1, hcz110_2, hcz110_3⟩ := cz4 BK384
             obtain ⟨hfz110_0, hfz110_1, hfz110_2, hfz110_3⟩ := fz4 BK384
             go_wp2_with (first | ((with_reducible refine gate_callee (f := 29) rfl ?_); refine gL (some 69) rfl rfl Tryd.func29 (by kernel_rfl) rfl #[.agg #[.slice Ao10 t377.length co10, .int .i64 t380, .int .i64 t381, .int .i64 t382]] rfl ?_; (with_reducible refine (impl_RecordsOf.calls kj6 _ _ t377 t380 t381 t382 t404 true _ ?sideT ?side1 ?side2 A42.out).mono ?_); (case sideT => refine ⟨Ito.tabB hTab_.out ?_⟩; first | exact bs HB | exact st_below | (repeat (first | (with_reducible first | exact HB.out | apply below_alloc | apply pw_below_drewN | apply below_drew1 | refine below_set ?_ (Aside0.out (by assumption))) | exact HB.out))); (case side1 => exact rc0 HO_385000); (case side2 => exact (Kd.R_reads' HO_385000.out).2.1); rintro e w111 ⟨v405, rfl, ho0, hb⟩; refine ⟨_, rfl, ?_⟩; replace HO_385000 := nr HO_385000 hb; replace HO_393000 := nr HO_393000 hb; replace HO_401000 := nr HO_401000 hb; have HO406 := Aside0.mk (Kd.R_lower ho0 (below_size (bs3 HB GE384 GE392 GE400))); replace BK384 := nb BK384 hb; replace BK392 := nb BK392 hb; replace BK400 := nb BK400 hb; replace HB := Aside0.mk (below_step (bs3 HB GE384 GE392 GE400) hb); (try clear hb); (try clear hb2); (try clear hk); (try clear hi); (try clear ho0); have hnb112 := NB392_400.out; have hnc112 := NB400_392.out; obtain ⟨hcz113_0, hcz113_1, hcz113_2, hcz113_3⟩ := cz4 BK392; obtain ⟨hfz113_0, hfz113_1, hfz113_2, hfz113_3⟩ := fz4 BK392) | ((with_reducible refine gate_callee (f := 29) rfl ?_); refine gL (some 74) rfl rfl Tryd.func29 (by kernel_rfl) rfl #[.agg #[.slice Ao14 t385.length co14, .int .i64 t388, .int .i64 t389, .int .i64 t390]] rfl ?_; (with_reducible refine (impl_RecordsOf.calls kj6 _ _ t385 t388 t389 t390 t408 true _ ?sideT ?side1 ?side2 A43.out).mono ?_); (case sideT => refine ⟨Ito.tabB hTab_.out ?_⟩; first | exact bs HB | exact st_below | (repeat (first | (with_reducible first | exact HB.out | apply below_alloc | apply pw_below_drewN | apply below_drew1 | refine below_set ?_ (Aside0.out (by assumption))) | exact HB.out))); (case side1 => exact rc0 HO_393000); (case side2 => exact (Kd.R_reads' HO_393000.out).2.1); rintro e w114 ⟨v409, rfl, ho0, hb⟩; refine ⟨_, rfl, ?_⟩; replace HO_385000 := nr HO_385000 hb; replace HO_393000 := nr HO_393000 hb; replace HO_401000 := nr HO_401000 hb; have HO410 := Aside0.mk (Kd.R_lower (Kd.R_new' ho0 (Kd.R_lt (rr HO406.out))) (below_size (bs3 HB GE384 GE392 GE400))); replace HO406 := Aside0.mk (Kd.R_elder' (rr HO406.out) (Kd.R_base ho0) hb); replace BK384 := nb BK384 hb; replace BK392 := nb BK392 hb; replace BK400 := nb BK400 hb; replace HB := Aside0.mk (below_step (bs3 HB GE384 GE392 GE400) hb); (try clear hb); (try clear hb2); (try clear hk); (try clear hi); (try clear ho0); obtain ⟨hcz115_0, hcz115_1, hcz115_2, hcz115_3⟩ := cz4 BK392; obtain ⟨hfz115_0, hfz115_1, hfz115_2, hfz115_3⟩ := fz4 BK392) | ((with_reducible refine gate_callee (f := 27) rfl ?_); refine gL (some 79) rfl rfl Tryd.func27 (by kernel_rfl) rfl #[.agg #[.slice Ao14 t385.length co14, .int .i64 t388, .int .i64 t389, .int .i64 t390]] rfl ?_; (with_reducible refine (impl_RoomFor.calls kj6 _ _ t385 t388 t389 t390 t412 true _ ?sideT ?side1 ?side2 A44.out).mono ?_); (case sideT => refine ⟨Ito.tabB hTab_.out ?_⟩; first | exact bs HB | exact st_below | (repeat (first | (with_reducible first | exact HB.out | apply below_alloc | apply pw_below_drewN | apply below_drew1 | refine below_set ?_ (Aside0.out (by assumption))) | exact HB.out))); (case side1 => exact rc0 HO_393000); (case side2 => exact (Kd.R_reads' HO_393000.out).2.1); rintro e w116 ⟨rfl, hb⟩; refine ⟨_, rfl, ?_⟩; replace HO_385000 := nr HO_385000 hb; replace HO_393000 := nr HO_393000 hb; replace HO_401000 := nr HO_401000 hb; replace HO406 := nr HO406 hb; replace HO410 := nr HO410 hb; replace BK384 := nb BK384 hb; replace BK392 := nb BK392 hb; replace BK400 := nb BK400 hb; replace HB := Aside0.mk (below_step (bs3 HB GE384 GE392 GE400) hb); (try clear hb); (try clear hb2); (try clear hk); (try clear hi)) | ((with_reducible refine gate_dst (N := 94) rfl ?_); (try (refine gate_guard (by rfl) ?_; dsimp only)); refine Kd.R_lit Kd.string _ 9 ?hg (N := 94) ?hd (xs := ([] : List ByteArray)) (inner := []) (ok := fun _ => True) (okp := fun _ => True) ?hr ?hp (fun _ hk => hk) trivial (Below.refl _ _) (Nat.le_refl _) (by simp) ?_; (case hd => rfl); (case hg => rfl); (case hr => first | (go_simp; done) | (go_simp; rfl)); (case hp => exact (Reps.none _ _)); intro v415 w117 ho118 hb hg_ hnew_; clear hg_ hnew_; (first | rw [← Ny414.out] at ho118 | (simp only [Int.reduceToNat] at ho118; rw [← Ny414.out] at ho118)); replace HO_385000 := nr HO_385000 hb; replace HO_393000 := nr HO_393000 hb; replace HO_401000 := nr HO_401000 hb; have HO416 := Aside0.mk (Kd.R_lower (Kd.R_new' (Kd.R_new' ho118 (Kd.R_lt (rr HO406.out))) (Kd.R_lt (rr HO410.out))) (below_size (bs3 HB GE384 GE392 GE400))); replace HO406 := Aside0.mk (Kd.R_elder' (rr HO406.out) (Kd.R_base ho118) hb); replace HO410 := Aside0.mk (Kd.R_elder' (rr HO410.out) (Kd.R_base ho118) hb); replace BK384 := nb BK384 hb; replace BK392 := nb BK392 hb; replace BK400 := nb BK400 hb; replace HB := Aside0.mk (below_step (bs3 HB GE384 GE392 GE400) hb); clear hb ho118; obtain ⟨Ao120, co120, eo120⟩ := Kd.R_slice HO406.out; subst eo120) | ((with_reducible refine gate_builtin (b := .append) (xs := #[.tmp 94, .tmp 95]) rfl ?_); (try (refine gate_guard (by rfl) ?_; dsimp only)); at_builtin; refine Kd.R_append_rows Kd.string (w0 := w) w.heap.size rfl (.tmp 94) (.tmp 95) 46 9 (.string ⟨#[]⟩) 16 rfl Tryd.underlying46 info9 rfl (by decide) (by omega) v415 y414 t404 _ _ _ (fun k_ => some k_ ≠ (.slice Ao120 t404.length co120 : Value).ownBlock ∧ some k_ ≠ (v409 : Value).ownBlock) (fun _ => False) rfl rfl ?aO ?aR (fun _ _ h => h) (fun _ h => h.elim) ?aF ?aB ?aS ?aL ?_; (case aR => exact rc0 HO406); (case aB => exact (bs3 HB GE384 GE392 GE400)); (case aF => exact (fun k_ hk => ⟨Kd.fresh' (Kd.R_lt (rr HO406.out)) k_ hk, Kd.fresh' (Kd.R_lt (rr HO410.out)) k_ hk⟩)); (case aO => exact (by (with_reducible repeat (first | apply Kd.R_alloc | apply Kd.R_drewN | apply Kd.R_drew)); exact Kd.R_mono HO416.out (fun _ hk => ⟨hk.1.2, hk.2⟩))); (case aS => exact (below_size (bs3 HB GE384 GE392 GE400))); (case aL => have := LMc48.out; omega); intro v418 w119 ho hb hg hat; rw [← Ny417.out] at ho; replace HO_385000 := Aside0.mk (Kd.R_over' (rr HO_385000.out) (Kd.R_typed (rr HO416.out)) (by decide) hg); replace HO_393000 := Aside0.mk (Kd.R_over' (rr HO_393000.out) (Kd.R_typed (rr HO416.out)) (by decide) hg); replace HO_401000 := Aside0.mk (Kd.R_over' (rr HO_401000.out) (Kd.R_typed (rr HO416.out)) (by decide) hg); replace BK384 := Aside0.mk (blk_grown (bk BK384) hg (Kd.R_ne HO416.out BK384.out (by decide))); replace BK392 := Aside0.mk (blk_grown (bk BK392) hg (Kd.R_ne HO416.out BK392.out (by decide))); replace BK400 := Aside0.mk (blk_grown (bk BK400) hg (Kd.R_ne HO416.out BK400.out (by decide))); replace HO406 := Aside0.mk (Kd.R_after (ok := (fun k_ => some k_ ≠ (v409 : Value).ownBlock)) (by (with_reducible repeat (first | apply Kd.R_alloc | apply Kd.R_drewN | apply Kd.R_drew)); exact Kd.R_mono HO406.out (fun _ hk => by first | exact hk | exact ⟨hk.1.2, hk.2⟩)) hg hat); replace HO410 := Aside0.mk (Kd.R_after (ok := (fun k_ => some k_ ≠ (.slice Ao120 t404.length co120 : Value).ownBlock)) (by (with_reducible repeat (first | apply Kd.R_alloc | apply Kd.R_drewN | apply Kd.R_drew)); exact Kd.R_mono HO410.out (fun _ hk => by first | exact hk | exact ⟨hk.1.2, hk.2⟩)) hg hat); replace HB := Aside0.mk (hb); have HO419 := Aside0.mk (ho); clear HO416; clear ho hb hg hat) | ((with_reducible refine gate_builtin (b := .append) (xs := #[.tmp 96, .tmp 98]) rfl ?_); (try (refine gate_guard (by rfl) ?_; dsimp only)); at_builtin; refine Kd.R_append Kd.string (w0 := w) w.heap.size rfl (.tmp 96) (.tmp 98) 46 9 (.string ⟨#[]⟩) 16 rfl Tryd.underlying46 info9 rfl (by decide) (by omega) v418 y417 t383 [.string t383] (fun k_ => some k_ ≠ (.slice Ao120 t404.length co120 : Value).ownBlock ∧ some k_ ≠ (v409 : Value).ownBlock) (fun _ => False) rfl rfl ?aP (fun _ hk => hk.elim) ?aF ?aO ?aB ?aS ?aL ?_; (case aP => exact rfl); (case aB => exact (bs3 HB GE384 GE392 GE400)); (case aF => exact (fun k_ hk => ⟨Kd.fresh' (Kd.R_lt (rr HO406.out)) k_ hk, Kd.fresh' (Kd.R_lt (rr HO410.out)) k_ hk⟩)); (case aO => exact (rr HO419.out)); (case aS => exact (below_size (bs3 HB GE384 GE392 GE400))); (case aL => have := LMc49.out; omega); intro v421 w121 ho hb hg hat; rw [← Ny420.out] at ho; replace HO_385000 := Aside0.mk (Kd.R_over' (rr HO_385000.out) (Kd.R_typed (rr HO419.out)) (by decide) hg); replace HO_393000 := Aside0.mk (Kd.R_over' (rr HO_393000.out) (Kd.R_typed (rr HO419.out)) (by decide) hg); replace HO_401000 := Aside0.mk (Kd.R_over' (rr HO_401000.out) (Kd.R_typed (rr HO419.out)) (by decide) hg); replace BK384 := Aside0.mk (blk_grown (bk BK384) hg (Kd.R_ne HO419.out BK384.out (by decide))); replace BK392 := Aside0.mk (blk_grown (bk BK392) hg (Kd.R_ne HO419.out BK392.out (by decide))); replace BK400 := Aside0.mk (blk_grown (bk BK400) hg (Kd.R_ne HO419.out BK400.out (by decide))); replace HO406 := Aside0.mk (Kd.R_after (ok := (fun k_ => some k_ ≠ (v409 : Value).ownBlock)) (rr HO406.out) hg hat); replace HO410 := Aside0.mk (Kd.R_after (ok := (fun k_ => some k_ ≠ (.slice Ao120 t404.length co120 : Value).ownBlock)) (rr HO410.out) hg hat); replace HB := Aside0.mk (hb); have HO422 := Aside0.mk (ho); clear HO419; clear ho hb hg hat; obtain ⟨Ao122, co122, eo122⟩ := Kd.R_slice HO410.out; subst eo122; obtain ⟨Ao123, co123, eo123⟩ := Kd.R_slice HO422.out; subst eo123) | (go_at_call 37; (with_reducible refine (laws_sameTexts.calls kj6 _ _ t408 _ _ y420 false _ ?side1 ?side2 ?side3 ?side4 A50.out).mono ?_); (case side1 => exact rc0 HO410); (case side2 => exact (Kd.R_reads' HO410.out).2.1); (case side3 => exact rc0 HO422); (case side4 => exact (Kd.R_reads' HO422.out).2.1); rintro e w' ⟨rfl, ⟨nd, rfl⟩⟩))
             go_ret
             exact ⟨by first | rfl | (simp [errW_none, errW_some] <;> rfl) | (simp [*, errW_none, errW_some] <;> rfl), bs3 HB GE384 GE392 GE400⟩
           ·
            rw [if_neg c49] at H
            exact absurd H (by simp)
          ·
           rw [if_neg c48] at H
           exact absurd H (by simp)
         ·
          replace c47 := Bool.eq_false_iff.mpr c47
          subst c47
          rw [if_neg (show ¬ (false = true) by decide)] at H
          obtain rfl := Option.some.inj H
          have hnb124 := NB384_392.out
          have hnc124 := NB392_384.out
          have hnb125 := NB384_400.out
          have hnc125 := NB400_384.out
          obtain ⟨hcz126_0, hcz126_1, hcz126_2, hcz126_3⟩ := cz4 BK384
          obtain ⟨hfz126_0, hfz126_1, hfz126_2, hfz126_3⟩ := fz4 BK384
          go_wp2_with (first | ((with_reducible refine gate_callee (f := 29) rfl ?_); refine gL (some 69) rfl rfl Tryd.func29 (by kernel_rfl) rfl #[.agg #[.slice Ao10 t377.length co10, .int .i64 t380, .int .i64 t381, .int .i64 t382]] rfl ?_; (with_reducible refine (impl_RecordsOf.calls kj6 _ _ t377 t380 t381 t382 t404 true _ ?sideT ?side1 ?side2 A42.out).mono ?_); (case sideT => refine ⟨Ito.tabB hTab_.out ?_⟩; first | exact bs HB | exact st_below | (repeat (first | (with_reducible first | exact HB.out | apply below_alloc | apply pw_below_drewN | apply below_drew1 | refine below_set ?_ (Aside0.out (by assumption))) | exact HB.out))); (case side1 => exact rc0 HO_385000); (case side2 => exact (Kd.R_reads' HO_385000.out).2.1); rintro e w127 ⟨v405, rfl, ho0, hb⟩; refine ⟨_, rfl, ?_⟩; replace HO_385000 := nr HO_385000 hb; replace HO_393000 := nr HO_393000 hb; replace HO_401000 := nr HO_401000 hb; have HO406 := Aside0.mk (Kd.R_lower ho0 (below_size (bs3 HB GE384 GE392 GE400))); replace BK384 := nb BK384 hb; replace BK392 := nb BK392 hb; replace BK400 := nb BK400 hb; replace HB := Aside0.mk (below_step (bs3 HB GE384 GE392 GE400) hb); (try clear hb); (try clear hb2); (try clear hk); (try clear hi); (try clear ho0); have hnb128 := NB392_400.out; have hnc128 := NB400_392.out; obtain ⟨hcz129_0, hcz129_1, hcz129_2, hcz129_3⟩ := cz4 BK392; obtain ⟨hfz129_0, hfz129_1, hfz129_2, hfz129_3⟩ := fz4 BK392) | ((with_reducible refine gate_callee (f := 29) rfl ?_); refine gL (some 74) rfl rfl Tryd.func29 (by kernel_rfl) rfl #[.agg #[.slice Ao14 t385.length co14, .int .i64 t388, .int .i64 t389, .int .i64 t390]] rfl ?_; (with_reducible refine (impl_RecordsOf.calls kj6 _ _ t385 t388 t389 t390 t408 true _ ?sideT ?side1 ?side2 A43.out).mono ?_); (case sideT => refine ⟨Ito.tabB hTab_.out ?_⟩; first | exact bs HB | exact st_below | (repeat (first | (with_reducible first | exact HB.out | apply below_alloc | apply pw_below_drewN | apply below_drew1 | refine below_set ?_ (Aside0.out (by assumption))) | exact HB.out))); (case side1 => exact rc0 HO_393000); (case side2 => exact (Kd.R_reads' HO_393000.out).2.1); rintro e w130 ⟨v409, rfl, ho0, hb⟩; refine ⟨_, rfl, ?_⟩; replace HO_385000 := nr HO_385000 hb; replace HO_393000 := nr HO_393000 hb; replace HO_401000 := nr HO_401000 hb; have HO410 := Aside0.mk (Kd.R_lower (Kd.R_new' ho0 (Kd.R_lt (rr HO406.out))) (below_size (bs3 HB GE384 GE392 GE400))); replace HO406 := Aside0.mk (Kd.R_elder' (rr HO406.out) (Kd.R_base ho0) hb); replace BK384 := nb BK384 hb; replace BK392 := nb BK392 hb; replace BK400 := nb BK400 hb; replace HB := Aside0.mk (below_step (bs3 HB GE384 GE392 GE400) hb); (try clear hb); (try clear hb2); (try clear hk); (try clear hi); (try clear ho0); obtain ⟨hcz131_0, hcz131_1, hcz131_2, hcz131_3⟩ := cz4 BK392; obtain ⟨hfz131_0, hfz131_1, hfz131_2, hfz131_3⟩ := fz4 BK392) | ((with_reducible refine gate_callee (f := 27) rfl ?_); refine gL (some 79) rfl rfl Tryd.func27 (by kernel_rfl) rfl #[.agg #[.slice Ao14 t385.length co14, .int .i64 t388, .int .i64 t389, .int .i64 t390]] rfl ?_; (with_reducible refine (impl_RoomFor.calls kj6 _ _ t385 t388 t389 t390 t412 false _ ?sideT ?side1 ?side2 A44.out).mono ?_); (case sideT => refine ⟨Ito.tabB hTab_.out ?_⟩; first | exact bs HB | exact st_below | (repeat (first | (with_reducible first | exact HB.out | apply below_alloc | apply pw_below_drewN | apply below_drew1 | refine below_set ?_ (Aside0.out (by assumption))) | exact HB.out))); (case side1 => exact rc0 HO_393000); (case side2 => exact (Kd.R_reads' HO_393000.out).2.1); rintro e w132 ⟨rfl, hb⟩; refine ⟨_, rfl, ?_⟩; replace HO_385000 := nr HO_385000 hb; replace HO_393000 := nr HO_393000 hb; replace HO_401000 := nr HO_401000 hb; replace HO406 := nr HO406 hb; replace HO410 := nr HO410 hb; replace BK384 := nb BK384 hb; replace BK392 := nb BK392 hb; replace BK400 := nb BK400 hb; replace HB := Aside0.mk (below_step (bs3 HB GE384 GE392 GE400) hb); (try clear hb); (try clear hb2); (try clear hk); (try clear hi)))
          go_ret
          exact ⟨by first | rfl | (simp [errW_none, errW_some] <;> rfl) | (simp [*, errW_none, errW_some] <;> rfl), bs3 HB GE384 GE392 GE400⟩
        ·
         replace c46 := Bool.eq_false_iff.mpr c46
         subst c46
         rw [if_neg (show ¬ (false = true) by decide)] at H
         obtain rfl := Option.some.inj H
         have hnb133 := NB384_392.out
         have hnc133 := NB392_384.out
         have hnb134 := NB384_400.out
         have hnc134 := NB400_384.out
         obtain ⟨hcz135_0, hcz135_1, hcz135_2, hcz135_3⟩ := cz4 BK384
         obtain ⟨hfz135_0, hfz135_1, hfz135_2, hfz135_3⟩ := fz4 BK384
         go_wp2_with (first | ((with_reducible refine gate_callee (f := 29) rfl ?_); refine gL (some 69) rfl rfl Tryd.func29 (by kernel_rfl) rfl #[.agg #[.slice Ao10 t377.length co10, .int .i64 t380, .int .i64 t381, .int .i64 t382]] rfl ?_; (with_reducible refine (impl_RecordsOf.calls kj6 _ _ t377 t380 t381 t382 t404 true _ ?sideT ?side1 ?side2 A42.out).mono ?_); (case sideT => refine ⟨Ito.tabB hTab_.out ?_⟩; first | exact bs HB | exact st_below | (repeat (first | (with_reducible first | exact HB.out | apply below_alloc | apply pw_below_drewN | apply below_drew1 | refine below_set ?_ (Aside0.out (by assumption))) | exact HB.out))); (case side1 => exact rc0 HO_385000); (case side2 => exact (Kd.R_reads' HO_385000.out).2.1); rintro e w136 ⟨v405, rfl, ho0, hb⟩; refine ⟨_, rfl, ?_⟩; replace HO_385000 := nr HO_385000 hb; replace HO_393000 := nr HO_393000 hb; replace HO_401000 := nr HO_401000 hb; have HO406 := Aside0.mk (Kd.R_lower ho0 (below_size (bs3 HB GE384 GE392 GE400))); replace BK384 := nb BK384 hb; replace BK392 := nb BK392 hb; replace BK400 := nb BK400 hb; replace HB := Aside0.mk (below_step (bs3 HB GE384 GE392 GE400) hb); (try clear hb); (try clear hb2); (try clear hk); (try clear hi); (try clear ho0); have hnb137 := NB392_400.out; have hnc137 := NB400_392.out; obtain ⟨hcz138_0, hcz138_1, hcz138_2, hcz138_3⟩ := cz4 BK392; obtain ⟨hfz138_0, hfz138_1, hfz138_2, hfz138_3⟩ := fz4 BK392) | ((with_reducible refine gate_callee (f := 29) rfl ?_); refine gL (some 74) rfl rfl Tryd.func29 (by kernel_rfl) rfl #[.agg #[.slice Ao14 t385.length co14, .int .i64 t388, .int .i64 t389, .int .i64 t390]] rfl ?_; (with_reducible refine (impl_RecordsOf.calls kj6 _ _ t385 t388 t389 t390 t408 false _ ?sideT ?side1 ?side2 A43.out).mono ?_); (case sideT => refine ⟨Ito.tabB hTab_.out ?_⟩; first | exact bs HB | exact st_below | (repeat (first | (with_reducible first | exact HB.out | apply below_alloc | apply pw_below_drewN | apply below_drew1 | refine below_set ?_ (Aside0.out (by assumption))) | exact HB.out))); (case side1 => exact rc0 HO_393000); (case side2 => exact (Kd.R_reads' HO_393000.out).2.1); rintro e w139 ⟨v409, rfl, ho0, hb⟩; refine ⟨_, rfl, ?_⟩; replace HO_385000 := nr HO_385000 hb; replace HO_393000 := nr HO_393000 hb; replace HO_401000 := nr HO_401000 hb; have HO410 := Aside0.mk (Kd.R_lower (Kd.R_new' ho0 (Kd.R_lt (rr HO406.out))) (below_size (bs3 HB GE384 GE392 GE400))); replace HO406 := Aside0.mk (Kd.R_elder' (rr HO406.out) (Kd.R_base ho0) hb); replace BK384 := nb BK384 hb; replace BK392 := nb BK392 hb; replace BK400 := nb BK400 hb; replace HB := Aside0.mk (below_step (bs3 HB GE384 GE392 GE400) hb); (try clear hb); (try clear hb2); (try clear hk); (try clear hi); (try clear ho0); obtain ⟨hcz140_0, hcz140_1, hcz140_2, hcz140_3⟩ := cz4 BK392; obtain ⟨hfz140_0, hfz140_1, hfz140_2, hfz140_3⟩ := fz4 BK392) | ((with_reducible refine gate_callee (f := 27) rfl ?_); refine gL (some 79) rfl rfl Tryd.func27 (by kernel_rfl) rfl #[.agg #[.slice Ao14 t385.length co14, .int .i64 t388, .int .i64 t389, .int .i64 t390]] rfl ?_; (with_reducible refine (impl_RoomFor.calls kj6 _ _ t385 t388 t389 t390 t412 t413 _ ?sideT ?side1 ?side2 A44.out).mono ?_); (case sideT => refine ⟨Ito.tabB hTab_.out ?_⟩; first | exact bs HB | exact st_below | (repeat (first | (with_reducible first | exact HB.out | apply below_alloc | apply pw_below_drewN | apply below_drew1 | refine below_set ?_ (Aside0.out (by assumption))) | exact HB.out))); (case side1 => exact rc0 HO_393000); (case side2 => exact (Kd.R_reads' HO_393000.out).2.1); rintro e w141 ⟨rfl, hb⟩; refine ⟨_, rfl, ?_⟩; replace HO_385000 := nr HO_385000 hb; replace HO_393000 := nr HO_393000 hb; replace HO_401000 := nr HO_401000 hb; replace HO406 := nr HO406 hb; replace HO410 := nr HO410 hb; replace BK384 := nb BK384 hb; replace BK392 := nb BK392 hb; replace BK400 := nb BK400 hb; replace HB := Aside0.mk (below_step (bs3 HB GE384 GE392 GE400) hb); (try clear hb); (try clear hb2); (try clear hk); (try clear hi)))
         go_ret
         exact ⟨by first | rfl | (simp [errW_none, errW_some] <;> rfl) | (simp [*, errW_none, errW_some] <;> rfl), bs3 HB GE384 GE392 GE400⟩
       ·
        replace c45 := Bool.eq_false_iff.mpr c45
        subst c45
        rw [if_neg (show ¬ (false = true) by decide)] at H
        obtain rfl := Option.some.inj H
        have hnb142 := NB384_392.out
        have hnc142 := NB392_384.out
        have hnb143 := NB384_400.out
        have hnc143 := NB400_384.out
        obtain ⟨hcz144_0, hcz144_1, hcz144_2, hcz144_3⟩ := cz4 BK384
        obtain ⟨hfz144_0, hfz144_1, hfz144_2, hfz144_3⟩ := fz4 BK384
        go_wp2_with (first | ((with_reducible refine gate_callee (f := 29) rfl ?_); refine gL (some 69) rfl rfl Tryd.func29 (by kernel_rfl) rfl #[.agg #[.slice Ao10 t377.length co10, .int .i64 t380, .int .i64 t381, .int .i64 t382]] rfl ?_; (with_reducible refine (impl_RecordsOf.calls kj6 _ _ t377 t380 t381 t382 t404 false _ ?sideT ?side1 ?side2 A42.out).mono ?_); (case sideT => refine ⟨Ito.tabB hTab_.out ?_⟩; first | exact bs HB | exact st_below | (repeat (first | (with_reducible first | exact HB.out | apply below_alloc | apply pw_below_drewN | apply below_drew1 | refine below_set ?_ (Aside0.out (by assumption))) | exact HB.out))); (case side1 => exact rc0 HO_385000); (case side2 => exact (Kd.R_reads' HO_385000.out).2.1); rintro e w145 ⟨v405, rfl, ho0, hb⟩; refine ⟨_, rfl, ?_⟩; replace HO_385000 := nr HO_385000 hb; replace HO_393000 := nr HO_393000 hb; replace HO_401000 := nr HO_401000 hb; have HO406 := Aside0.mk (Kd.R_lower ho0 (below_size (bs3 HB GE384 GE392 GE400))); replace BK384 := nb BK384 hb; replace BK392 := nb BK392 hb; replace BK400 := nb BK400 hb; replace HB := Aside0.mk (below_step (bs3 HB GE384 GE392 GE400) hb); (try clear hb); (try clear hb2); (try clear hk); (try clear hi); (try clear ho0); have hnb146 := NB392_400.out; have hnc146 := NB400_392.out; obtain ⟨hcz147_0, hcz147_1, hcz147_2, hcz147_3⟩ := cz4 BK392; obtain ⟨hfz147_0, hfz147_1, hfz147_2, hfz147_3⟩ := fz4 BK392) | ((with_reducible refine gate_callee (f := 29) rfl ?_); refine gL (some 74) rfl rfl Tryd.func29 (by kernel_rfl) rfl #[.agg #[.slice Ao14 t385.length co14, .int .i64 t388, .int .i64 t389, .int .i64 t390]] rfl ?_; (with_reducible refine (impl_RecordsOf.calls kj6 _ _ t385 t388 t389 t390 t408 t411 _ ?sideT ?side1 ?side2 A43.out).mono ?_); (case sideT => refine ⟨Ito.tabB hTab_.out ?_⟩; first | exact bs HB | exact st_below | (repeat (first | (with_reducible first | exact HB.out | apply below_alloc | apply pw_below_drewN | apply below_drew1 | refine below_set ?_ (Aside0.out (by assumption))) | exact HB.out))); (case side1 => exact rc0 HO_393000); (case side2 => exact (Kd.R_reads' HO_393000.out).2.1); rintro e w148 ⟨v409, rfl, ho0, hb⟩; refine ⟨_, rfl, ?_⟩; replace HO_385000 := nr HO_385000 hb; replace HO_393000 := nr HO_393000 hb; replace HO_401000 := nr HO_401000 hb; have HO410 := Aside0.mk (Kd.R_lower (Kd.R_new' ho0 (Kd.R_lt (rr HO406.out))) (below_size (bs3 HB GE384 GE392 GE400))); replace HO406 := Aside0.mk (Kd.R_elder' (rr HO406.out) (Kd.R_base ho0) hb); replace BK384 := nb BK384 hb; replace BK392 := nb BK392 hb; replace BK400 := nb BK400 hb; replace HB := Aside0.mk (below_step (bs3 HB GE384 GE392 GE400) hb); (try clear hb); (try clear hb2); (try clear hk); (try clear hi); (try clear ho0); obtain ⟨hcz149_0, hcz149_1, hcz149_2, hcz149_3⟩ := cz4 BK392; obtain ⟨hfz149_0, hfz149_1, hfz149_2, hfz149_3⟩ := fz4 BK392) | ((with_reducible refine gate_callee (f := 27) rfl ?_); refine gL (some 79) rfl rfl Tryd.func27 (by kernel_rfl) rfl #[.agg #[.slice Ao14 t385.length co14, .int .i64 t388, .int .i64 t389, .int .i64 t390]] rfl ?_; (with_reducible refine (impl_RoomFor.calls kj6 _ _ t385 t388 t389 t390 t412 t413 _ ?sideT ?side1 ?side2 A44.out).mono ?_); (case sideT => refine ⟨Ito.tabB hTab_.out ?_⟩; first | exact bs HB | exact st_below | (repeat (first | (with_reducible first | exact HB.out | apply below_alloc | apply pw_below_drewN | apply below_drew1 | refine below_set ?_ (Aside0.out (by assumption))) | exact HB.out))); (case side1 => exact rc0 HO_393000); (case side2 => exact (Kd.R_reads' HO_393000.out).2.1); rintro e w150 ⟨rfl, hb⟩; refine ⟨_, rfl, ?_⟩; replace HO_385000 := nr HO_385000 hb; replace HO_393000 := nr HO_393000 hb; replace HO_401000 := nr HO_401000 hb; replace HO406 := nr HO406 hb; replace HO410 := nr HO410 hb; replace BK384 := nb BK384 hb; replace BK392 := nb BK392 hb; replace BK400 := nb BK400 hb; replace HB := Aside0.mk (below_step (bs3 HB GE384 GE392 GE400) hb); (try clear hb); (try clear hb2); (try clear hk); (try clear hi)))
        go_ret
        exact ⟨by first | rfl | (simp [errW_none, errW_some] <;> rfl) | (simp [*, errW_none, errW_some] <;> rfl), bs3 HB GE384 GE392 GE400⟩
      ·
       replace c41 := Bool.eq_false_iff.mpr c41
       subst c41
       rw [if_neg (show ¬ (false = true) by decide)] at H
       have H' := Aside0.mk H
       clear H
       go_wp2
       go_meet
       case rel => exact ⟨_, H', ⟨by have := HJ6.out; first | omega | exact Nat.le_refl _⟩, ⟨rr HO_385000.out⟩, ⟨rr HO_393000.out⟩, ⟨rr HO_401000.out⟩, ⟨bk BK384⟩, ⟨bk BK392⟩, ⟨bk BK400⟩, ⟨bs3 HB GE384 GE392 GE400⟩⟩
     case rest =>
      clear HC40
      try clear c1
      try clear c2
      try clear p2
      try clear c3
      try clear c4
      try clear c5
      try clear p6
      try clear c7
      try clear c9
      try clear c10
      try clear c11
      try clear c12
      try clear c13
      try clear c14
      try clear c18
      try clear c20
      try clear c24
      try clear c24b0
      try clear c24b1
      try clear c24b2
      try clear c27
      try clear c28
      try clear c29
      try clear c36
      try clear c39
      try clear c41
      try clear c45
      try clear c46
      try clear c47
      try clear c48
      try clear c49
      try clear c51
      try clear c52
      try clear c52b0
      try clear c52b1
      try clear c54
      try clear c55
      try clear c56
      try clear c59
      try clear p64
      try clear c73
      try clear c74
      try clear c77
      try clear c91
      try clear c92
      try clear c95
      try clear c108
      try clear c109
      try clear c112
      try clear c124
      try clear c125
      try clear c128
      try clear c133
      try clear c134
      try clear c137
      try clear c142
      try clear c143
      try clear c146
      try clear hcz107_0 hcz107_1 hcz107_2 hcz107_3
      try clear hcz110_0 hcz110_1 hcz110_2 hcz110_3
      try clear hcz113_0 hcz113_1 hcz113_2 hcz113_3
      try clear hcz115_0 hcz115_1 hcz115_2 hcz115_3
      try clear hcz126_0 hcz126_1 hcz126_2 hcz126_3
      try clear hcz129_0 hcz129_1 hcz129_2 hcz129_3
      try clear hcz131_0 hcz131_1 hcz131_2 hcz131_3
      try clear hcz135_0 hcz135_1 hcz135_2 hcz135_3
      try clear hcz138_0 hcz138_1 hcz138_2 hcz138_3
      try clear hcz140_0 hcz140_1 hcz140_2 hcz140_3
      try clear hcz144_0 hcz144_1 hcz144_2 hcz144_3
      try clear hcz147_0 hcz147_1 hcz147_2 hcz147_3
      try clear hcz149_0 hcz149_1 hcz149_2 hcz149_3
      try clear hcz57_0 hcz57_1 hcz57_2 hcz57_3
      try clear hcz60_0 hcz60_1 hcz60_2 hcz60_3
      try clear hcz62_0 hcz62_1 hcz62_2 hcz62_3
      try clear hcz71_0 hcz71_1 hcz71_2 hcz71_3
      try clear hcz75_0 hcz75_1 hcz75_2 hcz75_3
      try clear hcz78_0 hcz78_1 hcz78_2 hcz78_3
      try clear hcz80_0 hcz80_1 hcz80_2 hcz80_3
      try clear hcz89_0 hcz89_1 hcz89_2 hcz89_3
      try clear hcz93_0 hcz93_1 hcz93_2 hcz93_3
      try clear hcz96_0 hcz96_1 hcz96_2 hcz96_3
      try clear hcz98_0 hcz98_1 hcz98_2 hcz98_3
      try clear hfz107_0 hfz107_1 hfz107_2 hfz107_3
      try clear hfz110_0 hfz110_1 hfz110_2 hfz110_3
      try clear hfz113_0 hfz113_1 hfz113_2 hfz113_3
      try clear hfz115_0 hfz115_1 hfz115_2 hfz115_3
      try clear hfz126_0 hfz126_1 hfz126_2 hfz126_3
      try clear hfz129_0 hfz129_1 hfz129_2 hfz129_3
      try clear hfz131_0 hfz131_1 hfz131_2 hfz131_3
      try clear hfz135_0 hfz135_1 hfz135_2 hfz135_3
      try clear hfz138_0 hfz138_1 hfz138_2 hfz138_3
      try clear hfz140_0 hfz140_1 hfz140_2 hfz140_3
      try clear hfz144_0 hfz144_1 hfz144_2 hfz144_3
      try clear hfz147_0 hfz147_1 hfz147_2 hfz147_3
      try clear hfz149_0 hfz149_1 hfz149_2 hfz149_3
      try clear hfz57_0 hfz57_1 hfz57_2 hfz57_3
      try clear hfz60_0 hfz60_1 hfz60_2 hfz60_3
      try clear hfz62_0 hfz62_1 hfz62_2 hfz62_3
      try clear hfz71_0 hfz71_1 hfz71_2 hfz71_3
      try clear hfz75_0 hfz75_1 hfz75_2 hfz75_3
      try clear hfz78_0 hfz78_1 hfz78_2 hfz78_3
      try clear hfz80_0 hfz80_1 hfz80_2 hfz80_3
      try clear hfz89_0 hfz89_1 hfz89_2 hfz89_3
      try clear hfz93_0 hfz93_1 hfz93_2 hfz93_3
      try clear hfz96_0 hfz96_1 hfz96_2 hfz96_3
      try clear hfz98_0 hfz98_1 hfz98_2 hfz98_3
      try clear p2
      obtain ⟨kq, HA, HJ39, HO_385000, HO_393000, HO_401000, BK384, BK392, BK400, HB⟩ := hcut
      cases kq with
      | zero => exact absurd HA.out (by simp [laws_FnRing.j1])
      | succ kj39 =>
       have H := HA.out
       clear HA
       simp only [laws_FnRing.j1] at H
       replace H := Option.bind_eq_some_iff.mp H
       obtain ⟨⟨t425, t428, t429, t430, t431⟩, A1510, H⟩ := H
       replace H : ((impl_PushTail.f kj39 t425 t428 t429 t430 t431).bind fun bt433 => ((spec_PushTail.f kj39 t425 t428 t429 t430 t431).bind fun bt441 => (if (bt433.2.2.2.2 != bt441.2.2.2.2) = true then (laws_FnRing.j2 kj39 t431 bt433.2.2.2.2 true t425 t428 t429 t430 bt433.1 bt433.2.1 bt433.2.2.1 bt433.2.2.2.1) else ((laws_sameRings.f kj39 bt433.1 bt433.2.1 bt433.2.2.1 bt433.2.2.2.1 bt441.1 bt441.2.1 bt441.2.2.1 bt441.2.2.2.1).bind fun t449 => (laws_FnRing.j2 kj39 t431 bt433.2.2.2.2 (!t449) t425 t428 t429 t430 bt433.1 bt433.2.1 bt433.2.2.1 bt433.2.2.2.1))))) = some r := H
       have A151 := Aside0.mk A1510
       clear A1510
       replace H := Option.bind_eq_some_iff.mp H
       obtain ⟨⟨t433, t436, t437, t438, t439⟩, A1520, H⟩ := H
       replace H : ((spec_PushTail.f kj39 t425 t428 t429 t430 t431).bind fun bt441 => (if (t439 != bt441.2.2.2.2) = true then (laws_FnRing.j2 kj39 t431 t439 true t425 t428 t429 t430 t433 t436 t437 t438) else ((laws_sameRings.f kj39 t433 t436 t437 t438 bt441.1 bt441.2.1 bt441.2.2.1 bt441.2.2.2.1).bind fun t449 => (laws_FnRing.j2 kj39 t431 t439 (!t449) t425 t428 t429 t430 t433 t436 t437 t438)))) = some r := H
       have A152 := Aside0.mk A1520
       clear A1520
       replace H := Option.bind_eq_some_iff.mp H
       obtain ⟨⟨t441, t444, t445, t446, t447⟩, A1530, H⟩ := H
       replace H : (if (t439 != t447) = true then (laws_FnRing.j2 kj39 t431 t439 true t425 t428 t429 t430 t433 t436 t437 t438) else ((laws_sameRings.f kj39 t433 t436 t437 t438 t441 t444 t445 t446).bind fun t449 => (laws_FnRing.j2 kj39 t431 t439 (!t449) t425 t428 t429 t430 t433 t436 t437 t438))) = some r := H
       have A153 := Aside0.mk A1530
       clear A1530
       have HC154 := Aside0.mk H
       clear H
       go_upto_region 17 with (first | ((with_reducible refine gate_callee (f := 38) rfl ?_); refine gL (some 120) rfl rfl Tryd.func38 (by kernel_rfl) rfl #[.slice A1 l1.length c1] rfl ?_; (with_reducible refine (spec_DrawPushTail.calls kj39 _ _ l1 t425 t428 t429 t430 t431 _ ?side1 ?side2 A151.out).mono ?_); (case side1 => exact cb HR1 HB); (case side2 => exact HC1.out); rintro e w155 ⟨v426, rfl, ho0, hb⟩; refine ⟨_, rfl, ?_⟩; have HO427 := Aside0.mk (Kd.R_lower (Kd.R_new' (Kd.R_new' (Kd.R_new' ho0 (Kd.R_lt (rr HO_385000.out))) (Kd.R_lt (rr HO_393000.out))) (Kd.R_lt (rr HO_401000.out))) (below_size (bs3 HB GE384 GE392 GE400))); replace HO_385000 := Aside0.mk (Kd.R_elder' (rr HO_385000.out) (Kd.R_base ho0) hb); replace HO_393000 := Aside0.mk (Kd.R_elder' (rr HO_393000.out) (Kd.R_base ho0) hb); replace HO_401000 := Aside0.mk (Kd.R_elder' (rr HO_401000.out) (Kd.R_base ho0) hb); replace BK384 := nb BK384 hb; replace BK392 := nb BK392 hb; replace BK400 := nb BK400 hb; replace HB := Aside0.mk (below_step (bs3 HB GE384 GE392 GE400) hb); (try clear hb); (try clear hb2); (try clear hk); (try clear hi); (try clear ho0)) | ((with_reducible refine gate_dst (N := 17) rfl ?_); (try (refine gate_guard (by rfl) ?_; dsimp only)); refine box_event ?hg (N := 17) ?hd (cs := #[.slice none 0 0, .int .i64 0, .int .i64 0, .int .i64 0]) (t := 36) ?hr ?_; (case hd => rfl); (case hg => rfl); (case hr => first | (go_simp; done) | (go_simp; rfl)); intro gb432 hg w156 hbox hb; replace HO_385000 := nr HO_385000 hb; replace HO_393000 := nr HO_393000 hb; replace HO_401000 := nr HO_401000 hb; replace HO427 := nr HO427 hb; have BK432 := Aside0.mk (hbox); have GW432 := Aside0.mk ((by rw [hg]; exact (below_size (bs3 HB GE384 GE392 GE400)) : w.heap.size ≤ gb432)); have GE432 := Aside0.mk ((by rw [hg]; exact (below_size (bs3 HB GE384 GE392 GE400)) : w.heap.size ≤ gb432)); replace HB := Aside0.mk (below_step (bs3 HB GE384 GE392 GE400) hb); have NB384_432 := Aside0.mk ((bn BK384 hg : gb384 ≠ gb432)); have NB432_384 := Aside0.mk ((bm BK384 hg : gb432 ≠ gb384)); replace BK384 := nb BK384 hb; have NB392_432 := Aside0.mk ((bn BK392 hg : gb392 ≠ gb432)); have NB432_392 := Aside0.mk ((bm BK392 hg : gb432 ≠ gb392)); replace BK392 := nb BK392 hb; have NB400_432 := Aside0.mk ((bn BK400 hg : gb400 ≠ gb432)); have NB432_400 := Aside0.mk ((bm BK400 hg : gb432 ≠ gb400)); replace BK400 := nb BK400 hb; clear hb hbox hg; obtain ⟨Ao157, co157, eo157⟩ := Kd.R_slice HO427.out; subst eo157; have hnb158 := NB432_384.out; have hnc158 := NB384_432.out; have hnb159 := NB432_392.out; have hnc159 := NB392_432.out; have hnb160 := NB432_400.out; have hnc160 := NB400_432.out; obtain ⟨hcz161_0, hcz161_1, hcz161_2, hcz161_3⟩ := cz4 BK432; obtain ⟨hfz161_0, hfz161_1, hfz161_2, hfz161_3⟩ := fz4 BK432) | ((with_reducible refine gate_callee (f := 39) rfl ?_); refine gL (some 126) rfl rfl Tryd.func39 (by kernel_rfl) rfl #[.agg #[.slice Ao157 t425.length co157, .int .i64 t428, .int .i64 t429, .int .i64 t430], .int .i64 t431] rfl ?_; (with_reducible refine (impl_PushTail.calls kj39 _ _ t425 t428 t429 t430 t431 t433 t436 t437 t438 t439 _ ?sideT ?side1 ?side2 A152.out).mono ?_); (case sideT => refine ⟨Ito.tabB hTab_.out ?_⟩; first | exact bs HB | exact st_below | (repeat (first | (with_reducible first | exact HB.out | apply below_alloc | apply pw_below_drewN | apply below_drew1 | refine below_set ?_ (Aside0.out (by assumption))) | exact HB.out))); (case side1 => exact rc HO427 BK432); (case side2 => exact (Kd.R_reads' HO427.out).2.1); rintro e w162 ⟨v434, rfl, ho0, hb⟩; refine ⟨_, rfl, ?_⟩; have HO435 := Aside0.mk (Kd.R_lower (Kd.R_new' (Kd.R_new' (Kd.R_new' (Kd.R_new' ho0 (Kd.R_lt (rf HO_385000 BK432))) (Kd.R_lt (rf HO_393000 BK432))) (Kd.R_lt (rf HO_401000 BK432))) (Kd.R_lt (rf HO427 BK432))) (below_size (bs4 HB GE384 GE392 GE400 GE432))); replace HO_385000 := Aside0.mk (Kd.R_elder' (rf HO_385000 BK432) (Kd.R_base ho0) hb); replace HO_393000 := Aside0.mk (Kd.R_elder' (rf HO_393000 BK432) (Kd.R_base ho0) hb); replace HO_401000 := Aside0.mk (Kd.R_elder' (rf HO_401000 BK432) (Kd.R_base ho0) hb); replace HO427 := Aside0.mk (Kd.R_elder' (rf HO427 BK432) (Kd.R_base ho0) hb); replace BK384 := Aside0.mk (blk_below (bf BK384 NB384_432) hb); replace BK392 := Aside0.mk (blk_below (bf BK392 NB392_432) hb); replace BK400 := Aside0.mk (blk_below (bf BK400 NB400_432) hb); replace BK432 := Aside0.mk (blk_below (g := gb432) (o := .cells #[.slice Ao157 t425.length co157, .int .i64 t428, .int .i64 t429, .int .i64 t430] 36 (0, 0)) (by (with_reducible repeat (first | refine blk_drewN ?_ _ | refine blk_drew ?_ | refine blk_alloc ?_ _)); refine blk_put (cs := #[.slice Ao157 t425.length co157, .int .i64 t428, .int .i64 t429, .int .i64 0]) ?_ 3 _ rfl; (with_reducible repeat (first | refine blk_drewN ?_ _ | refine blk_drew ?_ | refine blk_alloc ?_ _)); refine blk_put (cs := #[.slice Ao157 t425.length co157, .int .i64 t428, .int .i64 0, .int .i64 0]) ?_ 2 _ rfl; (with_reducible repeat (first | refine blk_drewN ?_ _ | refine blk_drew ?_ | refine blk_alloc ?_ _)); refine blk_put (cs := #[.slice Ao157 t425.length co157, .int .i64 0, .int .i64 0, .int .i64 0]) ?_ 1 _ rfl; (with_reducible repeat (first | refine blk_drewN ?_ _ | refine blk_drew ?_ | refine blk_alloc ?_ _)); refine blk_put (cs := #[.slice none 0 0, .int .i64 0, .int .i64 0, .int .i64 0]) ?_ 0 _ rfl; (with_reducible repeat (first | refine blk_drewN ?_ _ | refine blk_drew ?_ | refine blk_alloc ?_ _)); exact BK432.out) hb); replace HB := Aside0.mk (below_step (bs4 HB GE384 GE392 GE400 GE432) hb); (try clear hb); (try clear hb2); (try clear hk); (try clear hi); (try clear ho0)) | ((with_reducible refine gate_dst (N := 19) rfl ?_); (try (refine gate_guard (by rfl) ?_; dsimp only)); refine box_event ?hg (N := 19) ?hd (cs := #[.slice none 0 0, .int .i64 0, .int .i64 0, .int .i64 0]) (t := 36) ?hr ?_; (case hd => rfl); (case hg => rfl); (case hr => first | (go_simp; done) | (go_simp; rfl)); intro gb440 hg w163 hbox hb; replace HO_385000 := nr HO_385000 hb; replace HO_393000 := nr HO_393000 hb; replace HO_401000 := nr HO_401000 hb; replace HO427 := nr HO427 hb; replace HO435 := nr HO435 hb; have BK440 := Aside0.mk (hbox); have GW440 := Aside0.mk ((by rw [hg]; exact (below_size (bs4 HB GE384 GE392 GE400 GE432)) : w.heap.size ≤ gb440)); have GE440 := Aside0.mk ((by rw [hg]; exact (below_size (bs4 HB GE384 GE392 GE400 GE432)) : w.heap.size ≤ gb440)); replace HB := Aside0.mk (below_step (bs4 HB GE384 GE392 GE400 GE432) hb); have NB384_440 := Aside0.mk ((bn BK384 hg : gb384 ≠ gb440)); have NB440_384 := Aside0.mk ((bm BK384 hg : gb440 ≠ gb384)); replace BK384 := nb BK384 hb; have NB392_440 := Aside0.mk ((bn BK392 hg : gb392 ≠ gb440)); have NB440_392 := Aside0.mk ((bm BK392 hg : gb440 ≠ gb392)); replace BK392 := nb BK392 hb; have NB400_440 := Aside0.mk ((bn BK400 hg : gb400 ≠ gb440)); have NB440_400 := Aside0.mk ((bm BK400 hg : gb440 ≠ gb400)); replace BK400 := nb BK400 hb; have NB432_440 := Aside0.mk ((bn BK432 hg : gb432 ≠ gb440)); have NB440_432 := Aside0.mk ((bm BK432 hg : gb440 ≠ gb432)); replace BK432 := nb BK432 hb; clear hb hbox hg; obtain ⟨Ao164, co164, eo164⟩ := Kd.R_slice HO435.out; subst eo164; have hnb165 := NB440_384.out; have hnc165 := NB384_440.out; have hnb166 := NB440_392.out; have hnc166 := NB392_440.out; have hnb167 := NB440_400.out; have hnc167 := NB400_440.out; have hnb168 := NB440_432.out; have hnc168 := NB432_440.out; obtain ⟨hcz169_0, hcz169_1, hcz169_2, hcz169_3⟩ := cz4 BK440; obtain ⟨hfz169_0, hfz169_1, hfz169_2, hfz169_3⟩ := fz4 BK440; obtain ⟨hcz170_0, hcz170_1, hcz170_2, hcz170_3⟩ := cz4 BK432; obtain ⟨hfz170_0, hfz170_1, hfz170_2, hfz170_3⟩ := fz4 BK432) | ((with_reducible refine gate_callee (f := 40) rfl ?_); refine gL (some 132) rfl rfl Tryd.func40 (by kernel_rfl) rfl #[.agg #[.slice Ao157 t425.length co157, .int .i64 t428, .int .i64 t429, .int .i64 t430], .int .i64 t431] rfl ?_; (with_reducible refine (spec_PushTail.calls kj39 _ _ t425 t428 t429 t430 t431 t441 t444 t445 t446 t447 _ ?side1 ?side2 A153.out).mono ?_); (case side1 => exact rc HO427 BK440); (case side2 => exact (Kd.R_reads' HO427.out).2.1); rintro e w171 ⟨v442, rfl, ho0, hb⟩; refine ⟨_, rfl, ?_⟩; have HO443 := Aside0.mk (Kd.R_lower (Kd.R_new' (Kd.R_new' (Kd.R_new' (Kd.R_new' (Kd.R_new' ho0 (Kd.R_lt (rf HO_385000 BK440))) (Kd.R_lt (rf HO_393000 BK440))) (Kd.R_lt (rf HO_401000 BK440))) (Kd.R_lt (rf HO427 BK440))) (Kd.R_lt (rf HO435 BK440))) (below_size (bs5 HB GE384 GE392 GE400 GE432 GE440))); replace HO_385000 := Aside0.mk (Kd.R_elder' (rf HO_385000 BK440) (Kd.R_base ho0) hb); replace HO_393000 := Aside0.mk (Kd.R_elder' (rf HO_393000 BK440) (Kd.R_base ho0) hb); replace HO_401000 := Aside0.mk (Kd.R_elder' (rf HO_401000 BK440) (Kd.R_base ho0) hb); replace HO427 := Aside0.mk (Kd.R_elder' (rf HO427 BK440) (Kd.R_base ho0) hb); replace HO435 := Aside0.mk (Kd.R_elder' (rf HO435 BK440) (Kd.R_base ho0) hb); replace BK384 := Aside0.mk (blk_below (bf BK384 NB384_440) hb); replace BK392 := Aside0.mk (blk_below (bf BK392 NB392_440) hb); replace BK400 := Aside0.mk (blk_below (bf BK400 NB400_440) hb); replace BK432 := Aside0.mk (blk_below (bf BK432 NB432_440) hb); replace BK440 := Aside0.mk (blk_below (g := gb440) (o := .cells #[.slice Ao164 t433.length co164, .int .i64 t436, .int .i64 t437, .int .i64 t438] 36 (0, 0)) (by (with_reducible repeat (first | refine blk_drewN ?_ _ | refine blk_drew ?_ | refine blk_alloc ?_ _)); refine blk_put (cs := #[.slice Ao164 t433.length co164, .int .i64 t436, .int .i64 t437, .int .i64 0]) ?_ 3 _ rfl; (with_reducible repeat (first | refine blk_drewN ?_ _ | refine blk_drew ?_ | refine blk_alloc ?_ _)); refine blk_put (cs := #[.slice Ao164 t433.length co164, .int .i64 t436, .int .i64 0, .int .i64 0]) ?_ 2 _ rfl; (with_reducible repeat (first | refine blk_drewN ?_ _ | refine blk_drew ?_ | refine blk_alloc ?_ _)); refine blk_put (cs := #[.slice Ao164 t433.length co164, .int .i64 0, .int .i64 0, .int .i64 0]) ?_ 1 _ rfl; (with_reducible repeat (first | refine blk_drewN ?_ _ | refine blk_drew ?_ | refine blk_alloc ?_ _)); refine blk_put (cs := #[.slice none 0 0, .int .i64 0, .int .i64 0, .int .i64 0]) ?_ 0 _ rfl; (with_reducible repeat (first | refine blk_drewN ?_ _ | refine blk_drew ?_ | refine blk_alloc ?_ _)); exact BK440.out) hb); replace HB := Aside0.mk (below_step (bs5 HB GE384 GE392 GE400 GE432 GE440) hb); (try clear hb); (try clear hb2); (try clear hk); (try clear hi); (try clear ho0)) | ((with_reducible refine gate_dst (N := 21) rfl ?_); (try (refine gate_guard (by rfl) ?_; dsimp only)); refine box_event ?hg (N := 21) ?hd (cs := #[.slice none 0 0, .int .i64 0, .int .i64 0, .int .i64 0]) (t := 36) ?hr ?_; (case hd => rfl); (case hg => rfl); (case hr => first | (go_simp; done) | (go_simp; rfl)); intro gb448 hg w172 hbox hb; replace HO_385000 := nr HO_385000 hb; replace HO_393000 := nr HO_393000 hb; replace HO_401000 := nr HO_401000 hb; replace HO427 := nr HO427 hb; replace HO435 := nr HO435 hb; replace HO443 := nr HO443 hb; have BK448 := Aside0.mk (hbox); have GW448 := Aside0.mk ((by rw [hg]; exact (below_size (bs5 HB GE384 GE392 GE400 GE432 GE440)) : w.heap.size ≤ gb448)); have GE448 := Aside0.mk ((by rw [hg]; exact (below_size (bs5 HB GE384 GE392 GE400 GE432 GE440)) : w.heap.size ≤ gb448)); replace HB := Aside0.mk (below_step (bs5 HB GE384 GE392 GE400 GE432 GE440) hb); have NB384_448 := Aside0.mk ((bn BK384 hg : gb384 ≠ gb448)); have NB448_384 := Aside0.mk ((bm BK384 hg : gb448 ≠ gb384)); replace BK384 := nb BK384 hb; have NB392_448 := Aside0.mk ((bn BK392 hg : gb392 ≠ gb448)); have NB448_392 := Aside0.mk ((bm BK392 hg : gb448 ≠ gb392)); replace BK392 := nb BK392 hb; have NB400_448 := Aside0.mk ((bn BK400 hg : gb400 ≠ gb448)); have NB448_400 := Aside0.mk ((bm BK400 hg : gb448 ≠ gb400)); replace BK400 := nb BK400 hb; have NB432_448 := Aside0.mk ((bn BK432 hg : gb432 ≠ gb448)); have NB448_432 := Aside0.mk ((bm BK432 hg : gb448 ≠ gb432)); replace BK432 := nb BK432 hb; have NB440_448 := Aside0.mk ((bn BK440 hg : gb440 ≠ gb448)); have NB448_440 := Aside0.mk ((bm BK440 hg : gb448 ≠ gb440)); replace BK440 := nb BK440 hb; clear hb hbox hg; obtain ⟨Ao173, co173, eo173⟩ := Kd.R_slice HO443.out; subst eo173; have hnb174 := NB448_384.out; have hnc174 := NB384_448.out; have hnb175 := NB448_392.out; have hnc175 := NB392_448.out; have hnb176 := NB448_400.out; have hnc176 := NB400_448.out; have hnb177 := NB448_432.out; have hnc177 := NB432_448.out; have hnb178 := NB448_440.out; have hnc178 := NB440_448.out; obtain ⟨hcz179_0, hcz179_1, hcz179_2, hcz179_3⟩ := cz4 BK448; obtain ⟨hfz179_0, hfz179_1, hfz179_2, hfz179_3⟩ := fz4 BK448))
       (try simp only [Act.put, List.setIfInBounds_toArray, List.set_cons_zero, List.set_cons_succ])
       go_cut [143] (fun v143 wc => ∃ (kq : Nat) (x143_153 : Bool), v143 = .bool x143_153 ∧ Aside0 (laws_FnRing.j2 kq t431 t439 x143_153 t425 t428 t429 t430 t433 t436 t437 t438 = some r) ∧ Aside0 (kq ≤ kj39) ∧ Aside0 (Kd.R k26 26 wc w.heap.size (fun k_ => some k_ ≠ ((.slice Ao14 t385.length co14) : Value).ownBlock ∧ some k_ ≠ ((.slice Ao20 t393.length co20) : Value).ownBlock ∧ some k_ ≠ ((.slice Ao157 t425.length co157) : Value).ownBlock ∧ some k_ ≠ ((.slice Ao164 t433.length co164) : Value).ownBlock ∧ some k_ ≠ ((.slice Ao173 t441.length co173) : Value).ownBlock) (.slice Ao10 t377.length co10) t377) ∧ Aside0 (Kd.R k26 26 wc w.heap.size (fun k_ => some k_ ≠ ((.slice Ao10 t377.length co10) : Value).ownBlock ∧ some k_ ≠ ((.slice Ao20 t393.length co20) : Value).ownBlock ∧ some k_ ≠ ((.slice Ao157 t425.length co157) : Value).ownBlock ∧ some k_ ≠ ((.slice Ao164 t433.length co164) : Value).ownBlock ∧ some k_ ≠ ((.slice Ao173 t441.length co173) : Value).ownBlock) (.slice Ao14 t385.length co14) t385) ∧ Aside0 (Kd.R k26 26 wc w.heap.size (fun k_ => some k_ ≠ ((.slice Ao10 t377.length co10) : Value).ownBlock ∧ some k_ ≠ ((.slice Ao14 t385.length co14) : Value).ownBlock ∧ some k_ ≠ ((.slice Ao157 t425.length co157) : Value).ownBlock ∧ some k_ ≠ ((.slice Ao164 t433.length co164) : Value).ownBlock ∧ some k_ ≠ ((.slice Ao173 t441.length co173) : Value).ownBlock) (.slice Ao20 t393.length co20) t393) ∧ Aside0 (Kd.R k26 26 wc w.heap.size (fun k_ => some k_ ≠ ((.slice Ao10 t377.length co10) : Value).ownBlock ∧ some k_ ≠ ((.slice Ao14 t385.length co14) : Value).ownBlock ∧ some k_ ≠ ((.slice Ao20 t393.length co20) : Value).ownBlock ∧ some k_ ≠ ((.slice Ao164 t433.length co164) : Value).ownBlock ∧ some k_ ≠ ((.slice Ao173 t441.length co173) : Value).ownBlock) (.slice Ao157 t425.length co157) t425) ∧ Aside0 (Kd.R k26 26 wc w.heap.size (fun k_ => some k_ ≠ ((.slice Ao10 t377.length co10) : Value).ownBlock ∧ some k_ ≠ ((.slice Ao14 t385.length co14) : Value).ownBlock ∧ some k_ ≠ ((.slice Ao20 t393.length co20) : Value).ownBlock ∧ some k_ ≠ ((.slice Ao157 t425.length co157) : Value).ownBlock ∧ some k_ ≠ ((.slice Ao173 t441.length co173) : Value).ownBlock) (.slice Ao164 t433.length co164) t433) ∧ Aside0 (Kd.R k26 26 wc w.heap.size (fun k_ => some k_ ≠ ((.slice Ao10 t377.length co10) : Value).ownBlock ∧ some k_ ≠ ((.slice Ao14 t385.length co14) : Value).ownBlock ∧ some k_ ≠ ((.slice Ao20 t393.length co20) : Value).ownBlock ∧ some k_ ≠ ((.slice Ao157 t425.length co157) : Value).ownBlock ∧ some k_ ≠ ((.slice Ao164 t433.length co164) : Value).ownBlock) (.slice Ao173 t441.length co173) t441) ∧ Aside0 (wc.heap[gb384]? = some (.cells #[(.slice Ao10 t377.length co10), .int .i64 t380, .int .i64 t381, .int .i64 t382] 36 (0, 0))) ∧ Aside0 (wc.heap[gb392]? = some (.cells #[(.slice Ao14 t385.length co14), .int .i64 t388, .int .i64 t389, .int .i64 t390] 36 (0, 0))) ∧ Aside0 (wc.heap[gb400]? = some (.cells #[(.slice Ao20 t393.length co20), .int .i64 t396, .int .i64 t397, .int .i64 t398] 36 (0, 0))) ∧ Aside0 (wc.heap[gb432]? = some (.cells #[(.slice Ao157 t425.length co157), .int .i64 t428, .int .i64 t429, .int .i64 t430] 36 (0, 0))) ∧ Aside0 (wc.heap[gb440]? = some (.cells #[(.slice Ao164 t433.length co164), .int .i64 t436, .int .i64 t437, .int .i64 t438] 36 (0, 0))) ∧ Aside0 (wc.heap[gb448]? = some (.cells #[(.slice Ao173 t441.length co173), .int .i64 t444, .int .i64 t445, .int .i64 t446] 36 (0, 0))) ∧ Aside0 (Below w.heap.size w wc))
       case first =>
        have H := HC154.out
        clear HC154
        by_cases c180 : (t439 != t447) = true
        ·
         rw [if_pos c180] at H
         have c180b0 : (t439 != t447) = true := c180
         (try (have c180b1 : decide (t439 = t447) = false := by simpa using c180))
         (try (have c180b2 : (t439 == t447) = false := by simpa using c180))
         (try (have c180b3 : ¬ (t439 = t447) := by simpa using c180))
         clear c180
         (first | rw [c180b0] | (simp only [i64_w, i32_w]; rw [c180b0]) | (simp only [c180b2, Bool.not_false, Bool.not_true]) | skip)
         have H' := Aside0.mk H
         clear H
         go_wp2
         go_meet
         case rel => exact ⟨_, (true), (by first | rfl | (simp; done) | (simp [*]; done)), H', ⟨by have := HJ6.out; have := HJ39.out; first | omega | exact Nat.le_refl _⟩, ⟨by (with_reducible repeat (first | apply Kd.R_alloc | apply Kd.R_drewN | apply Kd.R_drew)); exact Kd.R_mono (Kd.R_far (p := ⟨gb448, 3, none⟩) (Kd.R_far (p := ⟨gb448, 2, none⟩) (Kd.R_far (p := ⟨gb448, 1, none⟩) (Kd.R_far (p := ⟨gb448, 0, none⟩) (Kd.R_types HO_385000.out BK448.out (by decide)) (fun _ hk => hk.2) (.slice Ao173 t441.length co173)) (fun _ hk => hk.2) (.int .i64 t444)) (fun _ hk => hk.2) (.int .i64 t445)) (fun _ hk => hk.2) (.int .i64 t446)) (fun _ hk => ⟨hk.1.1.1.1.1, ⟨hk.1.1.1.1.2, ⟨hk.1.1.1.2, ⟨hk.1.1.2, hk.1.2⟩⟩⟩⟩)⟩, ⟨by (with_reducible repeat (first | apply Kd.R_alloc | apply Kd.R_drewN | apply Kd.R_drew)); exact Kd.R_mono (Kd.R_far (p := ⟨gb448, 3, none⟩) (Kd.R_far (p := ⟨gb448, 2, none⟩) (Kd.R_far (p := ⟨gb448, 1, none⟩) (Kd.R_far (p := ⟨gb448, 0, none⟩) (Kd.R_types HO_393000.out BK448.out (by decide)) (fun _ hk => hk.2) (.slice Ao173 t441.length co173)) (fun _ hk => hk.2) (.int .i64 t444)) (fun _ hk => hk.2) (.int .i64 t445)) (fun _ hk => hk.2) (.int .i64 t446)) (fun _ hk => ⟨hk.1.1.1.1.1, ⟨hk.1.1.1.1.2, ⟨hk.1.1.1.2, ⟨hk.1.1.2, hk.1.2⟩⟩⟩⟩)⟩, ⟨by (with_reducible repeat (first | apply Kd.R_alloc | apply Kd.R_drewN | apply Kd.R_drew)); exact Kd.R_mono (Kd.R_far (p := ⟨gb448, 3, none⟩) (Kd.R_far (p := ⟨gb448, 2, none⟩) (Kd.R_far (p := ⟨gb448, 1, none⟩) (Kd.R_far (p := ⟨gb448, 0, none⟩) (Kd.R_types HO_401000.out BK448.out (by decide)) (fun _ hk => hk.2) (.slice Ao173 t441.length co173)) (fun _ hk => hk.2) (.int .i64 t444)) (fun _ hk => hk.2) (.int .i64 t445)) (fun _ hk => hk.2) (.int .i64 t446)) (fun _ hk => ⟨hk.1.1.1.1.1, ⟨hk.1.1.1.1.2, ⟨hk.1.1.1.2, ⟨hk.1.1.2, hk.1.2⟩⟩⟩⟩)⟩, ⟨by (with_reducible repeat (first | apply Kd.R_alloc | apply Kd.R_drewN | apply Kd.R_drew)); exact Kd.R_mono (Kd.R_far (p := ⟨gb448, 3, none⟩) (Kd.R_far (p := ⟨gb448, 2, none⟩) (Kd.R_far (p := ⟨gb448, 1, none⟩) (Kd.R_far (p := ⟨gb448, 0, none⟩) (Kd.R_types HO427.out BK448.out (by decide)) (fun _ hk => hk.2) (.slice Ao173 t441.length co173)) (fun _ hk => hk.2) (.int .i64 t444)) (fun _ hk => hk.2) (.int .i64 t445)) (fun _ hk => hk.2) (.int .i64 t446)) (fun _ hk => ⟨hk.1.1.1.1.1.2, ⟨hk.1.1.1.1.2, ⟨hk.1.1.1.2, ⟨hk.1.1.2, hk.1.2⟩⟩⟩⟩)⟩, ⟨by (with_reducible repeat (first | apply Kd.R_alloc | apply Kd.R_drewN | apply Kd.R_drew)); exact Kd.R_mono (Kd.R_far (p := ⟨gb448, 3, none⟩) (Kd.R_far (p := ⟨gb448, 2, none⟩) (Kd.R_far (p := ⟨gb448, 1, none⟩) (Kd.R_far (p := ⟨gb448, 0, none⟩) (Kd.R_types HO435.out BK448.out (by decide)) (fun _ hk => hk.2) (.slice Ao173 t441.length co173)) (fun _ hk => hk.2) (.int .i64 t444)) (fun _ hk => hk.2) (.int .i64 t445)) (fun _ hk => hk.2) (.int .i64 t446)) (fun _ hk => ⟨hk.1.1.1.1.1.2, ⟨hk.1.1.1.1.2, ⟨hk.1.1.1.2, ⟨hk.1.1.2, hk.1.2⟩⟩⟩⟩)⟩, ⟨by (with_reducible repeat (first | apply Kd.R_alloc | apply Kd.R_drewN | apply Kd.R_drew)); exact Kd.R_mono (Kd.R_far (p := ⟨gb448, 3, none⟩) (Kd.R_far (p := ⟨gb448, 2, none⟩) (Kd.R_far (p := ⟨gb448, 1, none⟩) (Kd.R_far (p := ⟨gb448, 0, none⟩) (Kd.R_types HO443.out BK448.out (by decide)) (fun _ hk => hk.2) (.slice Ao173 t441.length co173)) (fun _ hk => hk.2) (.int .i64 t444)) (fun _ hk => hk.2) (.int .i64 t445)) (fun _ hk => hk.2) (.int .i64 t446)) (fun _ hk => ⟨hk.1.1.1.1.1.2, ⟨hk.1.1.1.1.2, ⟨hk.1.1.1.2, ⟨hk.1.1.2, hk.1.2⟩⟩⟩⟩)⟩, ⟨bf BK384 NB384_448⟩, ⟨bf BK392 NB392_448⟩, ⟨bf BK400 NB400_448⟩, ⟨bf BK432 NB432_448⟩, ⟨bf BK440 NB440_448⟩, ⟨by (with_reducible repeat (first | refine blk_drewN ?_ _ | refine blk_drew ?_ | refine blk_alloc ?_ _)); refine blk_put (cs := #[.slice Ao173 t441.length co173, .int .i64 t444, .int .i64 t445, .int .i64 0]) ?_ 3 _ rfl; (with_reducible repeat (first | refine blk_drewN ?_ _ | refine blk_drew ?_ | refine blk_alloc ?_ _)); refine blk_put (cs := #[.slice Ao173 t441.length co173, .int .i64 t444, .int .i64 0, .int .i64 0]) ?_ 2 _ rfl; (with_reducible repeat (first | refine blk_drewN ?_ _ | refine blk_drew ?_ | refine blk_alloc ?_ _)); refine blk_put (cs := #[.slice Ao173 t441.length co173, .int .i64 0, .int .i64 0, .int .i64 0]) ?_ 1 _ rfl; (with_reducible repeat (first | refine blk_drewN ?_ _ | refine blk_drew ?_ | refine blk_alloc ?_ _)); refine blk_put (cs := #[.slice none 0 0, .int .i64 0, .int .i64 0, .int .i64 0]) ?_ 0 _ rfl; (with_reducible repeat (first | refine blk_drewN ?_ _ | refine blk_drew ?_ | refine blk_alloc ?_ _)); exact BK448.out⟩, ⟨bs6 HB GE384 GE392 GE400 GE432 GE440 GE448⟩⟩
        ·
         rw [if_neg c180] at H
         have c180b0 : (t439 != t447) = false := by simpa using c180
         (try (have c180b1 : decide (t439 = t447) = true := by simpa using c180))
         (try (have c180b2 : (t439 == t447) = true := by simpa using c180))
         clear c180
         (first | rw [c180b0] | (simp only [i64_w, i32_w]; rw [c180b0]) | (simp only [c180b2, Bool.not_false, Bool.not_true]) | skip)
         replace H := Option.bind_eq_some_iff.mp H
         obtain ⟨t449, A1810, H⟩ := H
         replace H : (laws_FnRing.j2 kj39 t431 t439 (!t449) t425 t428 t429 t430 t433 t436 t437 t438) = some r := H
         have A181 := Aside0.mk A1810
         clear A1810
         have H' := Aside0.mk H
         clear H
         have hnb182 := NB440_384.out
         have hnc182 := NB384_440.out
         have hnb183 := NB440_392.out
         have hnc183 := NB392_440.out
         have hnb184 := NB440_400.out
         have hnc184 := NB400_440.out
         have hnb185 := NB440_432.out
         have hnc185 := NB432_440.out
         have hnb186 := NB440_448.out
         have hnc186 := NB448_440.out
         obtain ⟨hcz187_0, hcz187_1, hcz187_2, hcz187_3⟩ := cz4 BK440
         obtain ⟨hfz187_0, hfz187_1, hfz187_2, hfz187_3⟩ := fz4 BK440
         have hnb188 := NB448_384.out
         have hnc188 := NB384_448.out
         have hnb189 := NB448_392.out
         have hnc189 := NB392_448.out
         have hnb190 := NB448_400.out
         have hnc190 := NB400_448.out
         have hnb191 := NB448_432.out
         have hnc191 := NB432_448.out
         obtain ⟨hcz192_0, hcz192_1, hcz192_2, hcz192_3⟩ := cz4 BK448
         obtain ⟨hfz192_0, hfz192_1, hfz192_2, hfz192_3⟩ := fz4 BK448
         go_wp2_with (first | (go_at_call 36; (with_reducible refine (laws_sameRings.calls kj39 _ _ t433 t436 t437 t438 _ _ t441 t444 t445 t446 t449 _ ?side1 ?side2 ?side3 ?side4 A181.out).mono ?_); (case side1 => exact rc HO435 BK448); (case side2 => exact (Kd.R_reads' HO435.out).2.1); (case side3 => exact rc HO443 BK448); (case side4 => exact (Kd.R_reads' HO443.out).2.1); rintro e w193 ⟨rfl, hb⟩; replace HO_385000 := nf HO_385000 BK448 hb; replace HO_393000 := nf HO_393000 BK448 hb; replace HO_401000 := nf HO_401000 BK448 hb; replace HO427 := nf HO427 BK448 hb; replace HO435 := nf HO435 BK448 hb; replace HO443 := nf HO443 BK448 hb; replace BK384 := Aside0.mk (blk_below (bf BK384 NB384_448) hb); replace BK392 := Aside0.mk (blk_below (bf BK392 NB392_448) hb); replace BK400 := Aside0.mk (blk_below (bf BK400 NB400_448) hb); replace BK432 := Aside0.mk (blk_below (bf BK432 NB432_448) hb); replace BK440 := Aside0.mk (blk_below (bf BK440 NB440_448) hb); replace BK448 := Aside0.mk (blk_below (g := gb448) (o := .cells #[.slice Ao173 t441.length co173, .int .i64 t444, .int .i64 t445, .int .i64 t446] 36 (0, 0)) (by (with_reducible repeat (first | refine blk_drewN ?_ _ | refine blk_drew ?_ | refine blk_alloc ?_ _)); refine blk_put (cs := #[.slice Ao173 t441.length co173, .int .i64 t444, .int .i64 t445, .int .i64 0]) ?_ 3 _ rfl; (with_reducible repeat (first | refine blk_drewN ?_ _ | refine blk_drew ?_ | refine blk_alloc ?_ _)); refine blk_put (cs := #[.slice Ao173 t441.length co173, .int .i64 t444, .int .i64 0, .int .i64 0]) ?_ 2 _ rfl; (with_reducible repeat (first | refine blk_drewN ?_ _ | refine blk_drew ?_ | refine blk_alloc ?_ _)); refine blk_put (cs := #[.slice Ao173 t441.length co173, .int .i64 0, .int .i64 0, .int .i64 0]) ?_ 1 _ rfl; (with_reducible repeat (first | refine blk_drewN ?_ _ | refine blk_drew ?_ | refine blk_alloc ?_ _)); refine blk_put (cs := #[.slice none 0 0, .int .i64 0, .int .i64 0, .int .i64 0]) ?_ 0 _ rfl; (with_reducible repeat (first | refine blk_drewN ?_ _ | refine blk_drew ?_ | refine blk_alloc ?_ _)); exact BK448.out) hb); replace HB := Aside0.mk (below_step (bs6 HB GE384 GE392 GE400 GE432 GE440 GE448) hb); (try clear hb); (try clear hb2); (try clear hk); (try clear hi)))
         go_meet
         case rel => exact ⟨_, (!t449), (by first | rfl | (simp; done) | (simp [*]; done)), H', ⟨by have := HJ6.out; have := HJ39.out; first | omega | exact Nat.le_refl _⟩, rm HO_385000 (fun _ hk => ⟨hk.1.1.1.1, ⟨hk.1.1.1.2, ⟨hk.1.1.2, ⟨hk.1.2, hk.2⟩⟩⟩⟩), rm HO_393000 (fun _ hk => ⟨hk.1.1.1.1, ⟨hk.1.1.1.2, ⟨hk.1.1.2, ⟨hk.1.2, hk.2⟩⟩⟩⟩), rm HO_401000 (fun _ hk => ⟨hk.1.1.1.1, ⟨hk.1.1.1.2, ⟨hk.1.1.2, ⟨hk.1.2, hk.2⟩⟩⟩⟩), rm HO427 (fun _ hk => ⟨hk.1.1.1.1.2, ⟨hk.1.1.1.2, ⟨hk.1.1.2, ⟨hk.1.2, hk.2⟩⟩⟩⟩), rm HO435 (fun _ hk => ⟨hk.1.1.1.1.2, ⟨hk.1.1.1.2, ⟨hk.1.1.2, ⟨hk.1.2, hk.2⟩⟩⟩⟩), rm HO443 (fun _ hk => ⟨hk.1.1.1.1.2, ⟨hk.1.1.1.2, ⟨hk.1.1.2, ⟨hk.1.2, hk.2⟩⟩⟩⟩), ⟨bk BK384⟩, ⟨bk BK392⟩, ⟨bk BK400⟩, ⟨bk BK432⟩, ⟨bk BK440⟩, ⟨bk BK448⟩, ⟨bs6 HB GE384 GE392 GE400 GE432 GE440 GE448⟩⟩
       case rest =>
        clear HC154
        try clear c1
        try clear c2
        try clear p2
        try clear c3
        try clear c4
        try clear c5
        try clear p6
        try clear c7
        try clear c9
        try clear c10
        try clear c11
        try clear c12
        try clear c13
        try clear c14
        try clear c15
        try clear c16
        try clear c17
        try clear c18
        try clear c19
        try clear c20
        try clear c24
        try clear c24b0
        try clear c24b1
        try clear c24b2
        try clear c27
        try clear c28
        try clear c29
        try clear c36
        try clear c38
        try clear c39
        try clear c40
        try clear c41
        try clear c45
        try clear c46
        try clear c47
        try clear c48
        try clear c49
        try clear c51
        try clear c52
        try clear c52b0
        try clear c52b1
        try clear c54
        try clear c55
        try clear c56
        try clear c59
        try clear p64
        try clear c73
        try clear c74
        try clear c77
        try clear c91
        try clear c92
        try clear c95
        try clear c108
        try clear c109
        try clear c112
        try clear c124
        try clear c125
        try clear c128
        try clear c133
        try clear c134
        try clear c137
        try clear c142
        try clear c143
        try clear c146
        try clear c158
        try clear c159
        try clear c160
        try clear c165
        try clear c166
        try clear c167
        try clear c168
        try clear c174
        try clear c175
        try clear c176
        try clear c177
        try clear c178
        try clear c180
        try clear c180b0
        try clear c180b1
        try clear c180b2
        try clear c182
        try clear c183
        try clear c184
        try clear c185
        try clear c186
        try clear c188
        try clear c189
        try clear c190
        try clear c191
        try clear hcz107_0 hcz107_1 hcz107_2 hcz107_3
        try clear hcz110_0 hcz110_1 hcz110_2 hcz110_3
        try clear hcz113_0 hcz113_1 hcz113_2 hcz113_3
        try clear hcz115_0 hcz115_1 hcz115_2 hcz115_3
        try clear hcz126_0 hcz126_1 hcz126_2 hcz126_3
        try clear hcz129_0 hcz129_1 hcz129_2 hcz129_3
        try clear hcz131_0 hcz131_1 hcz131_2 hcz131_3
        try clear hcz135_0 hcz135_1 hcz135_2 hcz135_3
        try clear hcz138_0 hcz138_1 hcz138_2 hcz138_3
        try clear hcz140_0 hcz140_1 hcz140_2 hcz140_3
        try clear hcz144_0 hcz144_1 hcz144_2 hcz144_3
        try clear hcz147_0 hcz147_1 hcz147_2 hcz147_3
        try clear hcz149_0 hcz149_1 hcz149_2 hcz149_3
        try clear hcz161_0 hcz161_1 hcz161_2 hcz161_3
        try clear hcz169_0 hcz169_1 hcz169_2 hcz169_3
        try clear hcz170_0 hcz170_1 hcz170_2 hcz170_3
        try clear hcz179_0 hcz179_1 hcz179_2 hcz179_3
        try clear hcz187_0 hcz187_1 hcz187_2 hcz187_3
        try clear hcz192_0 hcz192_1 hcz192_2 hcz192_3
        try clear hcz57_0 hcz57_1 hcz57_2 hcz57_3
        try clear hcz60_0 hcz60_1 hcz60_2 hcz60_3
        try clear hcz62_0 hcz62_1 hcz62_2 hcz62_3
        try clear hcz71_0 hcz71_1 hcz71_2 hcz71_3
        try clear hcz75_0 hcz75_1 hcz75_2 hcz75_3
        try clear hcz78_0 hcz78_1 hcz78_2 hcz78_3
        try clear hcz80_0 hcz80_1 hcz80_2 hcz80_3
        try clear hcz89_0 hcz89_1 hcz89_2 hcz89_3
        try clear hcz93_0 hcz93_1 hcz93_2 hcz93_3
        try clear hcz96_0 hcz96_1 hcz96_2 hcz96_3
        try clear hcz98_0 hcz98_1 hcz98_2 hcz98_3
        try clear hfz107_0 hfz107_1 hfz107_2 hfz107_3
        try clear hfz110_0 hfz110_1 hfz110_2 hfz110_3
        try clear hfz113_0 hfz113_1 hfz113_2 hfz113_3
        try clear hfz115_0 hfz115_1 hfz115_2 hfz115_3
        try clear hfz126_0 hfz126_1 hfz126_2 hfz126_3
        try clear hfz129_0 hfz129_1 hfz129_2 hfz129_3
        try clear hfz131_0 hfz131_1 hfz131_2 hfz131_3
        try clear hfz135_0 hfz135_1 hfz135_2 hfz135_3
        try clear hfz138_0 hfz138_1 hfz138_2 hfz138_3
        try clear hfz140_0 hfz140_1 hfz140_2 hfz140_3
        try clear hfz144_0 hfz144_1 hfz144_2 hfz144_3
        try clear hfz147_0 hfz147_1 hfz147_2 hfz147_3
        try clear hfz149_0 hfz149_1 hfz149_2 hfz149_3
        try clear hfz161_0 hfz161_1 hfz161_2 hfz161_3
        try clear hfz169_0 hfz169_1 hfz169_2 hfz169_3
        try clear hfz170_0 hfz170_1 hfz170_2 hfz170_3
        try clear hfz179_0 hfz179_1 hfz179_2 hfz179_3
        try clear hfz187_0 hfz187_1 hfz187_2 hfz187_3
        try clear hfz192_0 hfz192_1 hfz192_2 hfz192_3
        try clear hfz57_0 hfz57_1 hfz57_2 hfz57_3
        try clear hfz60_0 hfz60_1 hfz60_2 hfz60_3
        try clear hfz62_0 hfz62_1 hfz62_2 hfz62_3
        try clear hfz71_0 hfz71_1 hfz71_2 hfz71_3
        try clear hfz75_0 hfz75_1 hfz75_2 hfz75_3
        try clear hfz78_0 hfz78_1 hfz78_2 hfz78_3
        try clear hfz80_0 hfz80_1 hfz80_2 hfz80_3
        try clear hfz89_0 hfz89_1 hfz89_2 hfz89_3
        try clear hfz93_0 hfz93_1 hfz93_2 hfz93_3
        try clear hfz96_0 hfz96_1 hfz96_2 hfz96_3
        try clear hfz98_0 hfz98_1 hfz98_2 hfz98_3
        try clear p2
        try clear p6
        try clear p64
        obtain ⟨kq, x143_153, rfl, HA, HJ153, HO_385000, HO_393000, HO_401000, HO_433000, HO_441000, HO_449000, BK384, BK392, BK400, BK432, BK440, BK448, HB⟩ := hcut
        cases kq with
        | zero => exact absurd HA.out (by simp [laws_FnRing.j2])
        | succ kj153 =>
         have H := HA.out
         clear HA
         simp only [laws_FnRing.j2] at H
         by_cases c194 : x143_153 = true
         ·
          subst c194
          rw [if_pos rfl] at H
          obtain rfl := Option.some.inj H
          go_wp2
          go_ret
          exact ⟨by first | rfl | (simp [errW_none, errW_some] <;> rfl) | (simp [*, errW_none, errW_some] <;> rfl), bs6 HB GE384 GE392 GE400 GE432 GE440 GE448⟩
         ·
          replace c194 := Bool.eq_false_iff.mpr c194
          subst c194
          rw [if_neg (show ¬ (false = true) by decide)] at H
          by_cases c195 : t439 = true
          ·
           subst c195
           rw [if_pos rfl] at H
           replace H := Option.bind_eq_some_iff.mp H
           obtain ⟨⟨t450, t453⟩, A1960, H⟩ := H
           replace H : ((impl_RecordsOf.f kj153 t433 t436 t437 t438).bind fun bt454 => (if t453 = true then (if bt454.2 = true then (if 0 ≤ t431 then (if t431 ≤ (t450.length : Int) then ((laws_sameTexts.f kj153 bt454.1 (t450.drop (t431 : Int).toNat)).bind fun t462 => (if t462 = true then ((impl_GoodRing.f kj153 t433 t436 t437 t438).bind fun t463 => (some t463)) else (some false))) else (none)) else (none)) else (some false)) else (some false))) = some r := H
           have A196 := Aside0.mk A1960
           clear A1960
           replace H := Option.bind_eq_some_iff.mp H
           obtain ⟨⟨t454, t457⟩, A1970, H⟩ := H
           replace H : (if t453 = true then (if t457 = true then (if 0 ≤ t431 then (if t431 ≤ (t450.length : Int) then ((laws_sameTexts.f kj153 t454 (t450.drop (t431 : Int).toNat)).bind fun t462 => (if t462 = true then ((impl_GoodRing.f kj153 t433 t436 t437 t438).bind fun t463 => (some t463)) else (some false))) else (none)) else (none)) else (some false)) else (some false)) = some r := H
           have A197 := Aside0.mk A1970
           clear A1970
           by_cases c198 : t453 = true
           ·
            subst c198
            rw [if_pos rfl] at H
            by_cases c199 : t457 = true
            ·
             subst c199
             rw [if_pos rfl] at H
             by_cases c200 : 0 ≤ t431
             ·
              rw [if_pos c200] at H
              have c200b0 := eq_true c200
              have c200b1 : decide (0 ≤ t431) = true := decide_eq_true c200
              clear c200
              by_cases c201 : t431 ≤ (t450.length : Int)
              ·
               rw [if_pos c201] at H
               have c201b0 := eq_true c201
               have c201b1 : decide (t431 ≤ (t450.length : Int)) = true := decide_eq_true c201
               clear c201
               obtain ⟨y458, hy458⟩ : ∃ y_ : List ByteArray, y_ = (t450.drop (t431 : Int).toNat) := ⟨_, rfl⟩
               replace H : ((laws_sameTexts.f kj153 t454 y458).bind fun t462 => (if t462 = true then ((impl_GoodRing.f kj153 t433 t436 t437 t438).bind fun t463 => (some t463)) else (some false))) = some r := by first | (rw [hy458]; with_reducible exact H) | (have H2_ := (Option.bind_some _ _).symm.trans H; rw [hy458]; with_reducible exact H2_) | (have H2_ := (Option.bind_some _ _).symm.trans H; with_reducible exact H2_) | with_reducible exact H | (rw [hy458]; exact H) | exact H
               have Ny458 := Aside0.mk hy458
               clear hy458
               replace H := Option.bind_eq_some_iff.mp H
               obtain ⟨t462, A2020, H⟩ := H
               replace H : (if t462 = true then ((impl_GoodRing.f kj153 t433 t436 t437 t438).bind fun t463 => (some t463)) else (some false)) = some r := H
               have A202 := Aside0.mk A2020
               clear A2020
               by_cases c203 : t462 = true
               ·
                subst c203
                rw [if_pos rfl] at H
                replace H := Option.bind_eq_some_iff.mp H
                obtain ⟨t463, A2040, H⟩ := H
                replace H : (some t463) = some r := H
                have A204 := Aside0.mk A2040
                clear A2040
                obtain rfl := Option.some.inj H
                have hnb205 := NB432_384.out
                have hnc205 := NB384_432.out
                have hnb206 := NB432_392.out
                have hnc206 := NB392_432.out
                have hnb207 := NB432_400.out
                have hnc207 := NB400_432.out
                have hnb208 := NB432_440.out
                have hnc208 := NB440_432.out
                have hnb209 := NB432_448.out
                have hnc209 := NB448_432.out
                obtain ⟨hcz210_0, hcz210_1, hcz210_2, hcz210_3⟩ := cz4 BK432
                obtain ⟨hfz210_0, hfz210_1, hfz210_2, hfz210_3⟩ := fz4 BK432
                go_wp2_with (first | ((with_reducible refine gate_callee (f := 29) rfl ?_); refine gL (some 152) rfl rfl Tryd.func29 (by kernel_rfl) rfl #[.agg #[.slice Ao157 t425.length co157, .int .i64 t428, .int .i64 t429, .int .i64 t430]] rfl ?_; (with_reducible refine (impl_RecordsOf.calls kj153 _ _ t425 t428 t429 t430 t450 true _ ?sideT ?side1 ?side2 A196.out).mono ?_); (case sideT => refine ⟨Ito.tabB hTab_.out ?_⟩; first | exact bs HB | exact st_below | (repeat (first | (with_reducible first | exact HB.out | apply below_alloc | apply pw_below_drewN | apply below_drew1 | refine below_set ?_ (Aside0.out (by assumption))) | exact HB.out))); (case side1 => exact rc0 HO_433000); (case side2 => exact (Kd.R_reads' HO_433000.out).2.1); rintro e w211 ⟨v451, rfl, ho0, hb⟩; refine ⟨_, rfl, ?_⟩; replace HO_385000 := nr HO_385000 hb; replace HO_393000 := nr HO_393000 hb; replace HO_401000 := nr HO_401000 hb; replace HO_433000 := nr HO_433000 hb; replace HO_441000 := nr HO_441000 hb; replace HO_449000 := nr HO_449000 hb; have HO452 := Aside0.mk (Kd.R_lower ho0 (below_size (bs6 HB GE384 GE392 GE400 GE432 GE440 GE448))); replace BK384 := nb BK384 hb; replace BK392 := nb BK392 hb; replace BK400 := nb BK400 hb; replace BK432 := nb BK432 hb; replace BK440 := nb BK440 hb; replace BK448 := nb BK448 hb; replace HB := Aside0.mk (below_step (bs6 HB GE384 GE392 GE400 GE432 GE440 GE448) hb); (try clear hb); (try clear hb2); (try clear hk); (try clear hi); (try clear ho0); have hnb212 := NB440_384.out; have hnc212 := NB384_440.out; have hnb213 := NB440_392.out; have hnc213 := NB392_440.out; have hnb214 := NB440_400.out; have hnc214 := NB400_440.out; have hnb215 := NB440_448.out; have hnc215 := NB448_440.out; obtain ⟨hcz216_0, hcz216_1, hcz216_2, hcz216_3⟩ := cz4 BK440; obtain ⟨hfz216_0, hfz216_1, hfz216_2, hfz216_3⟩ := fz4 BK440) | ((with_reducible refine gate_callee (f := 29) rfl ?_); refine gL (some 157) rfl rfl Tryd.func29 (by kernel_rfl) rfl #[.agg #[.slice Ao164 t433.length co164, .int .i64 t436, .int .i64 t437, .int .i64 t438]] rfl ?_; (with_reducible refine (impl_RecordsOf.calls kj153 _ _ t433 t436 t437 t438 t454 true _ ?sideT ?side1 ?side2 A197.out).mono ?_); (case sideT => refine ⟨Ito.tabB hTab_.out ?_⟩; first | exact bs HB | exact st_below | (repeat (first | (with_reducible first | exact HB.out | apply below_alloc | apply pw_below_drewN | apply below_drew1 | refine below_set ?_ (Aside0.out (by assumption))) | exact HB.out))); (case side1 => exact rc0 HO_441000); (case side2 => exact (Kd.R_reads' HO_441000.out).2.1); rintro e w217 ⟨v455, rfl, ho0, hb⟩; refine ⟨_, rfl, ?_⟩; replace HO_385000 := nr HO_385000 hb; replace HO_393000 := nr HO_393000 hb; replace HO_401000 := nr HO_401000 hb; replace HO_433000 := nr HO_433000 hb; replace HO_441000 := nr HO_441000 hb; replace HO_449000 := nr HO_449000 hb; have HO456 := Aside0.mk (Kd.R_lower (Kd.R_new' ho0 (Kd.R_lt (rr HO452.out))) (below_size (bs6 HB GE384 GE392 GE400 GE432 GE440 GE448))); replace HO452 := Aside0.mk (Kd.R_elder' (rr HO452.out) (Kd.R_base ho0) hb); replace BK384 := nb BK384 hb; replace BK392 := nb BK392 hb; replace BK400 := nb BK400 hb; replace BK432 := nb BK432 hb; replace BK440 := nb BK440 hb; replace BK448 := nb BK448 hb; replace HB := Aside0.mk (below_step (bs6 HB GE384 GE392 GE400 GE432 GE440 GE448) hb); (try clear hb); (try clear hb2); (try clear hk); (try clear hi); (try clear ho0); obtain ⟨Ao219, co219, eo219⟩ := Kd.R_slice HO452.out; subst eo219; have q218 : (t431 : Int) ≤ ((t450.length : Int) : Int) := of_decide_eq_true (by first | (with_reducible assumption) | assumption); obtain ⟨i0218, hi0218, _, hsz218, _⟩ := info_parts info9; have hroom218 : t450.length ≤ co219 := (Kd.R_reads' HO452.out).2.1; have hC218 : Kd.C Kd.string _ Ao219 t450.length t450 := (Kd.R_reads' HO452.out).2.2; have q0218 : (0 : Int) ≤ (t431 : Int) := of_decide_eq_true (by first | (with_reducible assumption) | assumption); have hcut218 := cut_from (P := Tryd.prog) 46 9 .i64 Tryd.underlying46 hi0218 1 hsz218 Ao219 t450.length co219 t431 q0218 q218; have hr218 := Kd.C_drop (m := (t431 : Int).toNat) (c := co219) hC218 (by omega) hroom218; obtain ⟨A218, hA218⟩ : ∃ A1, A1 = (if co219 = (t431 : Int).toNat then Ao219 else (Ao219 : Option Addr).map (·.add ((t431 : Int).toNat * 1))) := ⟨_, rfl⟩; obtain ⟨c218, hc218⟩ : ∃ c1, c1 = co219 - (t431 : Int).toNat := ⟨_, rfl⟩; have hy218 : y458.length = t450.length - (t431 : Int).toNat := (by rw [Ny458.out, List.length_drop] <;> omega); rw [show (t450).drop (t431 : Int).toNat = y458 from Ny458.out.symm] at hr218; replace hr218 : Kd.C Kd.string _ A218 y458.length y458 := (by rw [hA218]; exact hr218); rw [← hy218, ← hA218, ← hc218] at hcut218; have HR461 := Aside0.mk hr218; have HC461 := Aside0.mk (show y458.length ≤ c218 from by rw [hy218, hc218]; exact Nat.sub_le_sub_right hroom218 _); clear hr218 hC218 hroom218 hi0218 hsz218 hc218; have KY218 := Aside0.mk hy218; have KA218 := Aside0.mk hA218; clear hy218 hA218; have KL218 := Aside0.mk (show (t431 : Int).toNat ≤ t450.length from by omega); replace q218 := eq_true q218; obtain ⟨Ao220, co220, eo220⟩ := Kd.R_slice HO456.out; subst eo220) | (go_at_call 37; (with_reducible refine (laws_sameTexts.calls kj153 _ _ t454 _ _ y458 true _ ?side1 ?side2 ?side3 ?side4 A202.out).mono ?_); (case side1 => exact rc0 HO456); (case side2 => exact (Kd.R_reads' HO456.out).2.1); (case side3 => repeat (first | exact (by repeat (first | (with_reducible exact HR461.out) | (with_reducible refine Kd.C_alloc ?_ _) | (with_reducible refine Kd.C_drewN ?_ _) | (with_reducible refine Kd.C_drew ?_) | exact HR461.out)) | (with_reducible refine Kd.C_alloc ?_ _) | (with_reducible refine Kd.C_drewN ?_ _) | (with_reducible refine Kd.C_drew ?_))); (case side4 => exact HC461.out); rintro e w' ⟨rfl, ⟨nd, rfl⟩⟩; obtain ⟨hcz221_0, hcz221_1, hcz221_2, hcz221_3⟩ := cz4 BK440; obtain ⟨hfz221_0, hfz221_1, hfz221_2, hfz221_3⟩ := fz4 BK440) | (go_at_call 20; (with_reducible refine (impl_GoodRing.calls kj153 _ _ t433 t436 t437 t438 t463 _ ?sideT ?side1 ?side2 A204.out).mono ?_); (case sideT => refine ⟨Ito.tabB hTab_.out ?_⟩; first | exact bs HB | exact st_below | (repeat (first | (with_reducible first | exact HB.out | apply below_alloc | apply pw_below_drewN | apply below_drew1 | refine below_set ?_ (Aside0.out (by assumption))) | exact HB.out))); (case side1 => exact rc0 HO_441000); (case side2 => exact (Kd.R_reads' HO_441000.out).2.1); rintro e w222 ⟨rfl, hb⟩; replace HO_385000 := nr HO_385000 hb; replace HO_393000 := nr HO_393000 hb; replace HO_401000 := nr HO_401000 hb; replace HO_433000 := nr HO_433000 hb; replace HO_441000 := nr HO_441000 hb; replace HO_449000 := nr HO_449000 hb; replace HO452 := nr HO452 hb; replace HO456 := nr HO456 hb; replace BK384 := nb BK384 hb; replace BK392 := nb BK392 hb; replace BK400 := nb BK400 hb; replace BK432 := nb BK432 hb; replace BK440 := nb BK440 hb; replace BK448 := nb BK448 hb; replace HR461 := Aside0.mk (Kd.C_below (by repeat (first | (with_reducible exact HR461.out) | (with_reducible refine Kd.C_alloc ?_ _) | (with_reducible refine Kd.C_drewN ?_ _) | (with_reducible refine Kd.C_drew ?_) | exact HR461.out)) hb); replace HB := Aside0.mk (below_step (bs6 HB GE384 GE392 GE400 GE432 GE440 GE448) hb); (try clear hb); (try clear hb2); (try clear hk); (try clear hi)))
                go_ret
                exact ⟨by first | rfl | (simp [errW_none, errW_some] <;> rfl) | (simp [*, errW_none, errW_some] <;> rfl), bs6 HB GE384 GE392 GE400 GE432 GE440 GE448⟩
               ·
                replace c203 := Bool.eq_false_iff.mpr c203
                subst c203
                rw [if_neg (show ¬ (false = true) by decide)] at H
                obtain rfl := Option.some.inj H
                have hnb223 := NB432_384.out
                have hnc223 := NB384_432.out
                have hnb224 := NB432_392.out
                have hnc224 := NB392_432.out
                have hnb225 := NB432_400.out
                have hnc225 := NB400_432.out
                have hnb226 := NB432_440.out
                have hnc226 := NB440_432.out
                have hnb227 := NB432_448.out
                have hnc227 := NB448_432.out
                obtain ⟨hcz228_0, hcz228_1, hcz228_2, hcz228_3⟩ := cz4 BK432
                obtain ⟨hfz228_0, hfz228_1, hfz228_2, hfz228_3⟩ := fz4 BK432
                go_wp2_with (first | ((with_reducible refine gate_callee (f := 29) rfl ?_); refine gL (some 152) rfl rfl Tryd.func29 (by kernel_rfl) rfl #[.agg #[.slice Ao157 t425.length co157, .int .i64 t428, .int .i64 t429, .int .i64 t430]] rfl ?_; (with_reducible refine (impl_RecordsOf.calls kj153 _ _ t425 t428 t429 t430 t450 true _ ?sideT ?side1 ?side2 A196.out).mono ?_); (case sideT => refine ⟨Ito.tabB hTab_.out ?_⟩; first | exact bs HB | exact st_below | (repeat (first | (with_reducible first | exact HB.out | apply below_alloc | apply pw_below_drewN | apply below_drew1 | refine below_set ?_ (Aside0.out (by assumption))) | exact HB.out))); (case side1 => exact rc0 HO_433000); (case side2 => exact (Kd.R_reads' HO_433000.out).2.1); rintro e w229 ⟨v451, rfl, ho0, hb⟩; refine ⟨_, rfl, ?_⟩; replace HO_385000 := nr HO_385000 hb; replace HO_393000 := nr HO_393000 hb; replace HO_401000 := nr HO_401000 hb; replace HO_433000 := nr HO_433000 hb; replace HO_441000 := nr HO_441000 hb; replace HO_449000 := nr HO_449000 hb; have HO452 := Aside0.mk (Kd.R_lower ho0 (below_size (bs6 HB GE384 GE392 GE400 GE432 GE440 GE448))); replace BK384 := nb BK384 hb; replace BK392 := nb BK392 hb; replace BK400 := nb BK400 hb; replace BK432 := nb BK432 hb; replace BK440 := nb BK440 hb; replace BK448 := nb BK448 hb; replace HB := Aside0.mk (below_step (bs6 HB GE384 GE392 GE400 GE432 GE440 GE448) hb); (try clear hb); (try clear hb2); (try clear hk); (try clear hi); (try clear ho0); have hnb230 := NB440_384.out; have hnc230 := NB384_440.out; have hnb231 := NB440_392.out; have hnc231 := NB392_440.out; have hnb232 := NB440_400.out; have hnc232 := NB400_440.out; have hnb233 := NB440_448.out; have hnc233 := NB448_440.out; obtain ⟨hcz234_0, hcz234_1, hcz234_2, hcz234_3⟩ := cz4 BK440; obtain ⟨hfz234_0, hfz234_1, hfz234_2, hfz234_3⟩ := fz4 BK440) | ((with_reducible refine gate_callee (f := 29) rfl ?_); refine gL (some 157) rfl rfl Tryd.func29 (by kernel_rfl) rfl #[.agg #[.slice Ao164 t433.length co164, .int .i64 t436, .int .i64 t437, .int .i64 t438]] rfl ?_; (with_reducible refine (impl_RecordsOf.calls kj153 _ _ t433 t436 t437 t438 t454 true _ ?sideT ?side1 ?side2 A197.out).mono ?_); (case sideT => refine ⟨Ito.tabB hTab_.out ?_⟩; first | exact bs HB | exact st_below | (repeat (first | (with_reducible first | exact HB.out | apply below_alloc | apply pw_below_drewN | apply below_drew1 | refine below_set ?_ (Aside0.out (by assumption))) | exact HB.out))); (case side1 => exact rc0 HO_441000); (case side2 => exact (Kd.R_reads' HO_441000.out).2.1); rintro e w235 ⟨v455, rfl, ho0, hb⟩; refine ⟨_, rfl, ?_⟩; replace HO_385000 := nr HO_385000 hb; replace HO_393000 := nr HO_393000 hb; replace HO_401000 := nr HO_401000 hb; replace HO_433000 := nr HO_433000 hb; replace HO_441000 := nr HO_441000 hb; replace HO_449000 := nr HO_449000 hb; have HO456 := Aside0.mk (Kd.R_lower (Kd.R_new' ho0 (Kd.R_lt (rr HO452.out))) (below_size (bs6 HB GE384 GE392 GE400 GE432 GE440 GE448))); replace HO452 := Aside0.mk (Kd.R_elder' (rr HO452.out) (Kd.R_base ho0) hb); replace BK384 := nb BK384 hb; replace BK392 := nb BK392 hb; replace BK400 := nb BK400 hb; replace BK432 := nb BK432 hb; replace BK440 := nb BK440 hb; replace BK448 := nb BK448 hb; replace HB := Aside0.mk (below_step (bs6 HB GE384 GE392 GE400 GE432 GE440 GE448) hb); (try clear hb); (try clear hb2); (try clear hk); (try clear hi); (try clear ho0); obtain ⟨Ao237, co237, eo237⟩ := Kd.R_slice HO452.out; subst eo237; have q236 : (t431 : Int) ≤ ((t450.length : Int) : Int) := of_decide_eq_true (by first | (with_reducible assumption) | assumption); obtain ⟨i0236, hi0236, _, hsz236, _⟩ := info_parts info9; have hroom236 : t450.length ≤ co237 := (Kd.R_reads' HO452.out).2.1; have hC236 : Kd.C Kd.string _ Ao237 t450.length t450 := (Kd.R_reads' HO452.out).2.2; have q0236 : (0 : Int) ≤ (t431 : Int) := of_decide_eq_true (by first | (with_reducible assumption) | assumption); have hcut236 := cut_from (P := Tryd.prog) 46 9 .i64 Tryd.underlying46 hi0236 1 hsz236 Ao237 t450.length co237 t431 q0236 q236; have hr236 := Kd.C_drop (m := (t431 : Int).toNat) (c := co237) hC236 (by omega) hroom236; obtain ⟨A236, hA236⟩ : ∃ A1, A1 = (if co237 = (t431 : Int).toNat then Ao237 else (Ao237 : Option Addr).map (·.add ((t431 : Int).toNat * 1))) := ⟨_, rfl⟩; obtain ⟨c236, hc236⟩ : ∃ c1, c1 = co237 - (t431 : Int).toNat := ⟨_, rfl⟩; have hy236 : y458.length = t450.length - (t431 : Int).toNat := (by rw [Ny458.out, List.length_drop] <;> omega); rw [show (t450).drop (t431 : Int).toNat = y458 from Ny458.out.symm] at hr236; replace hr236 : Kd.C Kd.string _ A236 y458.length y458 := (by rw [hA236]; exact hr236); rw [← hy236, ← hA236, ← hc236] at hcut236; have HR461 := Aside0.mk hr236; have HC461 := Aside0.mk (show y458.length ≤ c236 from by rw [hy236, hc236]; exact Nat.sub_le_sub_right hroom236 _); clear hr236 hC236 hroom236 hi0236 hsz236 hc236; have KY236 := Aside0.mk hy236; have KA236 := Aside0.mk hA236; clear hy236 hA236; have KL236 := Aside0.mk (show (t431 : Int).toNat ≤ t450.length from by omega); replace q236 := eq_true q236; obtain ⟨Ao238, co238, eo238⟩ := Kd.R_slice HO456.out; subst eo238) | (go_at_call 37; (with_reducible refine (laws_sameTexts.calls kj153 _ _ t454 _ _ y458 false _ ?side1 ?side2 ?side3 ?side4 A202.out).mono ?_); (case side1 => exact rc0 HO456); (case side2 => exact (Kd.R_reads' HO456.out).2.1); (case side3 => repeat (first | exact (by repeat (first | (with_reducible exact HR461.out) | (with_reducible refine Kd.C_alloc ?_ _) | (with_reducible refine Kd.C_drewN ?_ _) | (with_reducible refine Kd.C_drew ?_) | exact HR461.out)) | (with_reducible refine Kd.C_alloc ?_ _) | (with_reducible refine Kd.C_drewN ?_ _) | (with_reducible refine Kd.C_drew ?_))); (case side4 => exact HC461.out); rintro e w' ⟨rfl, ⟨nd, rfl⟩⟩))
                go_ret
                exact ⟨by first | rfl | (simp [errW_none, errW_some] <;> rfl) | (simp [*, errW_none, errW_some] <;> rfl), bs6 HB GE384 GE392 GE400 GE432 GE440 GE448⟩
              ·
               rw [if_neg c201] at H
               exact absurd H (by simp)
             ·
              rw [if_neg c200] at H
              exact absurd H (by simp)
            ·
             replace c199 := Bool.eq_false_iff.mpr c199
             subst c199
             rw [if_neg (show ¬ (false = true) by decide)] at H
             obtain rfl := Option.some.inj H
             have hnb239 := NB432_384.out
             have hnc239 := NB384_432.out
             have hnb240 := NB432_392.out
             have hnc240 := NB392_432.out
             have hnb241 := NB432_400.out
             have hnc241 := NB400_432.out
             have hnb242 := NB432_440.out
             have hnc242 := NB440_432.out
             have hnb243 := NB432_448.out
             have hnc243 := NB448_432.out
             obtain ⟨hcz244_0, hcz244_1, hcz244_2, hcz244_3⟩ := cz4 BK432
             obtain ⟨hfz244_0, hfz244_1, hfz244_2, hfz244_3⟩ := fz4 BK432
             go_wp2_with (first | ((with_reducible refine gate_callee (f := 29) rfl ?_); refine gL (some 152) rfl rfl Tryd.func29 (by kernel_rfl) rfl #[.agg #[.slice Ao157 t425.length co157, .int .i64 t428, .int .i64 t429, .int .i64 t430]] rfl ?_; (with_reducible refine (impl_RecordsOf.calls kj153 _ _ t425 t428 t429 t430 t450 true _ ?sideT ?side1 ?side2 A196.out).mono ?_); (case sideT => refine ⟨Ito.tabB hTab_.out ?_⟩; first | exact bs HB | exact st_below | (repeat (first | (with_reducible first | exact HB.out | apply below_alloc | apply pw_below_drewN | apply below_drew1 | refine below_set ?_ (Aside0.out (by assumption))) | exact HB.out))); (case side1 => exact rc0 HO_433000); (case side2 => exact (Kd.R_reads' HO_433000.out).2.1); rintro e w245 ⟨v451, rfl, ho0, hb⟩; refine ⟨_, rfl, ?_⟩; replace HO_385000 := nr HO_385000 hb; replace HO_393000 := nr HO_393000 hb; replace HO_401000 := nr HO_401000 hb; replace HO_433000 := nr HO_433000 hb; replace HO_441000 := nr HO_441000 hb; replace HO_449000 := nr HO_449000 hb; have HO452 := Aside0.mk (Kd.R_lower ho0 (below_size (bs6 HB GE384 GE392 GE400 GE432 GE440 GE448))); replace BK384 := nb BK384 hb; replace BK392 := nb BK392 hb; replace BK400 := nb BK400 hb; replace BK432 := nb BK432 hb; replace BK440 := nb BK440 hb; replace BK448 := nb BK448 hb; replace HB := Aside0.mk (below_step (bs6 HB GE384 GE392 GE400 GE432 GE440 GE448) hb); (try clear hb); (try clear hb2); (try clear hk); (try clear hi); (try clear ho0); have hnb246 := NB440_384.out; have hnc246 := NB384_440.out; have hnb247 := NB440_392.out; have hnc247 := NB392_440.out; have hnb248 := NB440_400.out; have hnc248 := NB400_440.out; have hnb249 := NB440_448.out; have hnc249 := NB448_440.out; obtain ⟨hcz250_0, hcz250_1, hcz250_2, hcz250_3⟩ := cz4 BK440; obtain ⟨hfz250_0, hfz250_1, hfz250_2, hfz250_3⟩ := fz4 BK440) | ((with_reducible refine gate_callee (f := 29) rfl ?_); refine gL (some 157) rfl rfl Tryd.func29 (by kernel_rfl) rfl #[.agg #[.slice Ao164 t433.length co164, .int .i64 t436, .int .i64 t437, .int .i64 t438]] rfl ?_; (with_reducible refine (impl_RecordsOf.calls kj153 _ _ t433 t436 t437 t438 t454 false _ ?sideT ?side1 ?side2 A197.out).mono ?_); (case sideT => refine ⟨Ito.tabB hTab_.out ?_⟩; first | exact bs HB | exact st_below | (repeat (first | (with_reducible first | exact HB.out | apply below_alloc | apply pw_below_drewN | apply below_drew1 | refine below_set ?_ (Aside0.out (by assumption))) | exact HB.out))); (case side1 => exact rc0 HO_441000); (case side2 => exact (Kd.R_reads' HO_441000.out).2.1); rintro e w251 ⟨v455, rfl, ho0, hb⟩; refine ⟨_, rfl, ?_⟩; replace HO_385000 := nr HO_385000 hb; replace HO_393000 := nr HO_393000 hb; replace HO_401000 := nr HO_401000 hb; replace HO_433000 := nr HO_433000 hb; replace HO_441000 := nr HO_441000 hb; replace HO_449000 := nr HO_449000 hb; have HO456 := Aside0.mk (Kd.R_lower (Kd.R_new' ho0 (Kd.R_lt (rr HO452.out))) (below_size (bs6 HB GE384 GE392 GE400 GE432 GE440 GE448))); replace HO452 := Aside0.mk (Kd.R_elder' (rr HO452.out) (Kd.R_base ho0) hb); replace BK384 := nb BK384 hb; replace BK392 := nb BK392 hb; replace BK400 := nb BK400 hb; replace BK432 := nb BK432 hb; replace BK440 := nb BK440 hb; replace BK448 := nb BK448 hb; replace HB := Aside0.mk (below_step (bs6 HB GE384 GE392 GE400 GE432 GE440 GE448) hb); (try clear hb); (try clear hb2); (try clear hk); (try clear hi); (try clear ho0)))
             go_ret
             exact ⟨by first | rfl | (simp [errW_none, errW_some] <;> rfl) | (simp [*, errW_none, errW_some] <;> rfl), bs6 HB GE384 GE392 GE400 GE432 GE440 GE448⟩
           ·
            replace c198 := Bool.eq_false_iff.mpr c198
            subst c198
            rw [if_neg (show ¬ (false = true) by decide)] at H
            obtain rfl := Option.some.inj H
            have hnb252 := NB432_384.out
            have hnc252 := NB384_432.out
            have hnb253 := NB432_392.out
            have hnc253 := NB392_432.out
            have hnb254 := NB432_400.out
            have hnc254 := NB400_432.out
            have hnb255 := NB432_440.out
            have hnc255 := NB440_432.out
            have hnb256 := NB432_448.out
            have hnc256 := NB448_432.out
            obtain ⟨hcz257_0, hcz257_1, hcz257_2, hcz257_3⟩ := cz4 BK432
            obtain ⟨hfz257_0, hfz257_1, hfz257_2, hfz257_3⟩ := fz4 BK432
            go_wp2_with (first | ((with_reducible refine gate_callee (f := 29) rfl ?_); refine gL (some 152) rfl rfl Tryd.func29 (by kernel_rfl) rfl #[.agg #[.slice Ao157 t425.length co157, .int .i64 t428, .int .i64 t429, .int .i64 t430]] rfl ?_; (with_reducible refine (impl_RecordsOf.calls kj153 _ _ t425 t428 t429 t430 t450 false _ ?sideT ?side1 ?side2 A196.out).mono ?_); (case sideT => refine ⟨Ito.tabB hTab_.out ?_⟩; first | exact bs HB | exact st_below | (repeat (first | (with_reducible first | exact HB.out | apply below_alloc | apply pw_below_drewN | apply below_drew1 | refine below_set ?_ (Aside0.out (by assumption))) | exact HB.out))); (case side1 => exact rc0 HO_433000); (case side2 => exact (Kd.R_reads' HO_433000.out).2.1); rintro e w258 ⟨v451, rfl, ho0, hb⟩; refine ⟨_, rfl, ?_⟩; replace HO_385000 := nr HO_385000 hb; replace HO_393000 := nr HO_393000 hb; replace HO_401000 := nr HO_401000 hb; replace HO_433000 := nr HO_433000 hb; replace HO_441000 := nr HO_441000 hb; replace HO_449000 := nr HO_449000 hb; have HO452 := Aside0.mk (Kd.R_lower ho0 (below_size (bs6 HB GE384 GE392 GE400 GE432 GE440 GE448))); replace BK384 := nb BK384 hb; replace BK392 := nb BK392 hb; replace BK400 := nb BK400 hb; replace BK432 := nb BK432 hb; replace BK440 := nb BK440 hb; replace BK448 := nb BK448 hb; replace HB := Aside0.mk (below_step (bs6 HB GE384 GE392 GE400 GE432 GE440 GE448) hb); (try clear hb); (try clear hb2); (try clear hk); (try clear hi); (try clear ho0); have hnb259 := NB440_384.out; have hnc259 := NB384_440.out; have hnb260 := NB440_392.out; have hnc260 := NB392_440.out; have hnb261 := NB440_400.out; have hnc261 := NB400_440.out; have hnb262 := NB440_448.out; have hnc262 := NB448_440.out; obtain ⟨hcz263_0, hcz263_1, hcz263_2, hcz263_3⟩ := cz4 BK440; obtain ⟨hfz263_0, hfz263_1, hfz263_2, hfz263_3⟩ := fz4 BK440) | ((with_reducible refine gate_callee (f := 29) rfl ?_); refine gL (some 157) rfl rfl Tryd.func29 (by kernel_rfl) rfl #[.agg #[.slice Ao164 t433.length co164, .int .i64 t436, .int .i64 t437, .int .i64 t438]] rfl ?_; (with_reducible refine (impl_RecordsOf.calls kj153 _ _ t433 t436 t437 t438 t454 t457 _ ?sideT ?side1 ?side2 A197.out).mono ?_); (case sideT => refine ⟨Ito.tabB hTab_.out ?_⟩; first | exact bs HB | exact st_below | (repeat (first | (with_reducible first | exact HB.out | apply below_alloc | apply pw_below_drewN | apply below_drew1 | refine below_set ?_ (Aside0.out (by assumption))) | exact HB.out))); (case side1 => exact rc0 HO_441000); (case side2 => exact (Kd.R_reads' HO_441000.out).2.1); rintro e w264 ⟨v455, rfl, ho0, hb⟩; refine ⟨_, rfl, ?_⟩; replace HO_385000 := nr HO_385000 hb; replace HO_393000 := nr HO_393000 hb; replace HO_401000 := nr HO_401000 hb; replace HO_433000 := nr HO_433000 hb; replace HO_441000 := nr HO_441000 hb; replace HO_449000 := nr HO_449000 hb; have HO456 := Aside0.mk (Kd.R_lower (Kd.R_new' ho0 (Kd.R_lt (rr HO452.out))) (below_size (bs6 HB GE384 GE392 GE400 GE432 GE440 GE448))); replace HO452 := Aside0.mk (Kd.R_elder' (rr HO452.out) (Kd.R_base ho0) hb); replace BK384 := nb BK384 hb; replace BK392 := nb BK392 hb; replace BK400 := nb BK400 hb; replace BK432 := nb BK432 hb; replace BK440 := nb BK440 hb; replace BK448 := nb BK448 hb; replace HB := Aside0.mk (below_step (bs6 HB GE384 GE392 GE400 GE432 GE440 GE448) hb); (try clear hb); (try clear hb2); (try clear hk); (try clear hi); (try clear ho0)))
            go_ret
            exact ⟨by first | rfl | (simp [errW_none, errW_some] <;> rfl) | (simp [*, errW_none, errW_some] <;> rfl), bs6 HB GE384 GE392 GE400 GE432 GE440 GE448⟩
          ·
           replace c195 := Bool.eq_false_iff.mpr c195
           subst c195
           rw [if_neg (show ¬ (false = true) by decide)] at H
           obtain rfl := Option.some.inj H
           have hnb265 := NB440_384.out
           have hnc265 := NB384_440.out
           have hnb266 := NB440_392.out
           have hnc266 := NB392_440.out
           have hnb267 := NB440_400.out
           have hnc267 := NB400_440.out
           have hnb268 := NB440_432.out
           have hnc268 := NB432_440.out
           have hnb269 := NB440_448.out
           have hnc269 := NB448_440.out
           obtain ⟨hcz270_0, hcz270_1, hcz270_2, hcz270_3⟩ := cz4 BK440
           obtain ⟨hfz270_0, hfz270_1, hfz270_2, hfz270_3⟩ := fz4 BK440
           go_wp2
           go_ret
           exact ⟨by first | rfl | (simp [errW_none, errW_some] <;> rfl) | (simp [*, errW_none, errW_some] <;> rfl), bs6 HB GE384 GE392 GE400 GE432 GE440 GE448⟩

/-- THE ONE PURE STATEMENT of laws_FnRing. -/
def laws_FnRing.Pure : Prop := ∀ (l0 : List Int) (l1 : List Int), (l0.length ≤ maxLen ∧ ∀ y0 ∈ l0, (Lit.int .u8 y0).wf = true) → (l1.length ≤ maxLen ∧ ∀ y0 ∈ l1, (Lit.int .u8 y0).wf = true) → ∃ k, laws_FnRing.f k l0 l1 = some true

end Go.Proofs.YthlifcbkpafofaaDoor.G
